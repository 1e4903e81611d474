/- What the functions that this law reaches return: part 0. No condition. -/
import Derived.Test.YtfghooojingdhaaDoorE05
set_option linter.all false
namespace Go.Proofs.YtfghooojingdhaaDoor
open Go Go.QL
def bytesAV (l : List Int) : AV := .x (.d (.s 1 (l.map fun n => [.v (.int .u8 n)])))
end Go.Proofs.YtfghooojingdhaaDoor
namespace Go.Proofs.YtfghooojingdhaaDoor
open Go Go.QL
set_option maxHeartbeats 1600000
def runS (step : StepT) : Int × Int → List Int → Int × Int
  | p, [] => p
  | p, x :: r => runS step (step p x).1 r
def quiet (step : StepT) : Int × Int → List Int → Prop
  | _, [] => True
  | p, x :: r => (step p x).2 = false ∧ quiet step (step p x).1 r
theorem runS_app (step : StepT) : ∀ (l m : List Int) (p : Int × Int), runS step p (l ++ m) = runS step (runS step p l) m
  | [], _, _ => rfl
  | x :: r, m, p => runS_app step r m (step p x).1
theorem quiet_app (step : StepT) : ∀ (l m : List Int) (p : Int × Int), quiet step p (l ++ m) ↔ quiet step p l ∧ quiet step (runS step p l) m
  | [], _, _ => by simp [quiet, runS]
  | x :: r, m, p => by simp only [List.cons_append, quiet, runS, quiet_app step r m, and_assoc]
structure BInv (step : StepT) (N : Nat) (E : List Ent) (i x : Nat) : Prop where
  s : SInv N E
  run : ∀ e ∈ E, runS step (0, 0) e.path = e.p ∧ quiet step (0, 0) e.path
  srt : ∀ (j k : Nat) (a b : Ent), E[j]? = some a → E[k]? = some b → j ≤ k → a.path.length ≤ b.path.length
  top : ∀ (k : Nat) (a b : Ent), E[i]? = some a → E[k]? = some b → b.path.length ≤ a.path.length + 1
  cls : ∀ (j : Nat) (a : Ent) (y : Nat), E[j]? = some a → y < N → (j < i ∨ j = i ∧ y < x) → (step a.p y).2 = false ∧ ∃ e ∈ E, e.p = (step a.p y).1 ∧ e.path.length ≤ a.path.length + 1
theorem BInv.init (step : StepT) (N : Nat) : BInv step N [ent0] 0 0 where
  s := SInv.init N
  run := fun e he => by rw [List.mem_singleton] at he; subst he; exact ⟨rfl, trivial⟩
  srt := fun j k a b h1 h2 _ => by
    have := List.mem_singleton.1 (List.mem_of_getElem? h1)
    have := List.mem_singleton.1 (List.mem_of_getElem? h2)
    subst_vars; exact Nat.le_refl _
  top := fun k a b h1 h2 => by
    have := List.mem_singleton.1 (List.mem_of_getElem? h1)
    have := List.mem_singleton.1 (List.mem_of_getElem? h2)
    subst_vars; exact Nat.le_succ _
  cls := fun j a y _ _ h => by omega
theorem BInv.near {step : StepT} {N : Nat} {E : List Ent} {i x : Nat} (h : BInv step N E i x) : ∀ (n : Nat) (m : List Int), m.length = n → (∀ y ∈ m, 0 ≤ y ∧ y < (N : Int)) →
    (i < E.length → ∀ a, E[i]? = some a → n ≤ a.path.length) → (i < E.length ∨ E.length ≤ i) → quiet step (0, 0) m ∧ ∃ e ∈ E, e.p = runS step (0, 0) m ∧ e.path.length ≤ n
  | 0, m, hm, _, _, _ => by
    rw [List.length_eq_zero_iff.1 hm]
    exact ⟨trivial, ent0, List.mem_of_getElem? h.s.h0, rfl, Nat.le_refl _⟩
  | n + 1, m, hm, hy, hl, hi => by
    have hne : m ≠ [] := by intro h; rw [h] at hm; simp at hm
    obtain ⟨m', y, rfl⟩ : ∃ m' y, m = m' ++ [y] := ⟨m.dropLast, m.getLast hne, (List.dropLast_concat_getLast hne).symm⟩
    have hm' : m'.length = n := by simpa using hm
    obtain ⟨hq, e, he, hep, hel⟩ := BInv.near h n m' hm' (fun z hz => hy z (by simp [hz])) (fun h1 a ha => by have := hl h1 a ha; omega) hi
    obtain ⟨hy0, hyN⟩ := hy y (by simp)
    obtain ⟨k, hk, rfl⟩ := List.getElem_of_mem he
    have hk? : E[k]? = some E[k] := List.getElem?_eq_getElem hk
    have hki : k < i := by
      rcases hi with hi | hi
      · have ha := List.getElem?_eq_getElem hi
        have h1 := hl hi _ ha
        rcases Nat.lt_or_ge k i with h | hge
        · exact h
        · have := h.srt i k _ _ ha hk? hge
          omega
      · omega
    obtain ⟨c1, e2, he2, hp2, hl2⟩ := h.cls k E[k] y.toNat hk? (by omega) (.inl hki)
    rw [hep, show ((y.toNat : Nat) : Int) = y by omega] at c1 hp2
    refine ⟨(quiet_app _ _ _ _).2 ⟨hq, c1, trivial⟩, e2, he2, ?_, by omega⟩
    rw [hp2, runS_app]; rfl
def Found (step : StepT) (N : Nat) : Option (List Int) → Prop
  | some l => ∃ (m : List Int) (x : Int), l = m ++ [x] ∧ (∀ y ∈ l, 0 ≤ y ∧ y < (N : Int)) ∧ quiet step (0, 0) m ∧ (step (runS step (0, 0) m) x).2 = true ∧
      ∀ o : List Int, o.length < l.length → (∀ y ∈ o, 0 ≤ y ∧ y < (N : Int)) → quiet step (0, 0) o
  | none => ∀ o : List Int, (∀ y ∈ o, 0 ≤ y ∧ y < (N : Int)) → quiet step (0, 0) o
theorem bfs_found {step : StepT} (hst : ∀ p x, InR (step p x).1) {N : Nat} (hN : N ≤ 64) : ∀ (f : Nat) (E : List Ent) (i x : Nat), BInv step N E i x → i ≤ E.length → x ≤ N → bound i x < f → Found step N (bfs step N f E i x)
  | 0, _, _, _, _, _, _, h => by omega
  | f + 1, E, i, x, hE, hiE, hxN, hf => by
    have hle := hE.s.le
    unfold bfs
    by_cases hi : i < E.length
    · rw [if_pos hi]
      have he? : E[i]? = some (E.getD i ent0) := by rw [List.getD_eq_getElem?_getD, List.getElem?_eq_getElem hi]; rfl
      generalize E.getD i ent0 = e at he?
      have hem : e ∈ E := List.mem_of_getElem? he?
      obtain ⟨hr, hq⟩ := hE.run e hem
      by_cases hx : x < N
      · rw [if_pos hx]
        by_cases hd : (step e.p x).2 = true
        · rw [if_pos hd]
          refine ⟨e.path, x, rfl, ?_, hq, by rw [hr]; exact hd, ?_⟩
          · intro y hy
            rw [List.mem_append, List.mem_singleton] at hy
            rcases hy with hy | rfl
            · exact (hE.s.pth i e he?).2 y hy
            · omega
          · intro o ho hoy
            rw [List.length_append, List.length_singleton] at ho
            exact (hE.near o.length o rfl hoy (fun _ a ha => by rw [he?] at ha; cases ha; omega) (.inl hi)).1
        · rw [if_neg hd]
          have hd' : (step e.p x).2 = false := by simpa using hd
          by_cases hs : seenE E (step e.p x).1 = true
          · rw [if_pos hs]
            refine bfs_found hst hN f E i (x + 1) ⟨hE.s, hE.run, hE.srt, hE.top, ?_⟩ hiE hx (by unfold bound at *; omega)
            intro j a y ha hy hj
            by_cases hn : j = i ∧ y = x
            · obtain ⟨rfl, rfl⟩ := hn
              rw [he?] at ha; cases ha
              obtain ⟨k, b, hb, hbp⟩ := seen_yes hs
              exact ⟨hd', b, List.mem_of_getElem? hb, hbp, hE.top k e b he? hb⟩
            · exact hE.cls j a y ha hy (by omega)
          · rw [if_neg hs]
            have hs' : seenE E (step e.p x).1 = false := by simpa using hs
            have hget : ∀ (j : Nat) (a : Ent), (E ++ [⟨(step e.p x).1, e.p, x, e.path ++ [(x : Int)]⟩])[j]? = some a → (E[j]? = some a ∧ j < E.length) ∨ (j = E.length ∧ a = ⟨(step e.p x).1, e.p, x, e.path ++ [(x : Int)]⟩) := by
              intro j a ha
              by_cases hj : j < E.length
              · rw [List.getElem?_append_left hj] at ha; exact .inl ⟨ha, hj⟩
              · rw [List.getElem?_append_right (by omega)] at ha
                have := (List.getElem?_eq_some_iff.1 ha).1
                have hj0 : j - E.length = 0 := by simpa using this
                rw [hj0] at ha; cases ha
                exact .inr ⟨by omega, rfl⟩
            refine bfs_found hst hN f _ i (x + 1) ⟨hE.s.step he? hx (hst _ _) hs', ?_, ?_, ?_, ?_⟩ (by rw [List.length_append]; omega) hx (by unfold bound at *; omega)
            · intro a ha
              rw [List.mem_append, List.mem_singleton] at ha
              rcases ha with ha | rfl
              · exact hE.run a ha
              · refine ⟨?_, (quiet_app _ _ _ _).2 ⟨hq, by rw [hr]; exact hd', trivial⟩⟩
                rw [runS_app, hr]; rfl
            · intro j k a b ha hb hjk
              rcases hget j a ha with ⟨ha, la⟩ | ⟨ha, rfl⟩ <;> rcases hget k b hb with ⟨hb, lb⟩ | ⟨hb, rfl⟩
              · exact hE.srt j k a b ha hb hjk
              · have := hE.top j e a he? ha
                simp only [List.length_append, List.length_singleton]; exact this
              · omega
              · exact Nat.le_refl _
            · intro k a b ha hb
              rcases hget i a ha with ⟨ha, _⟩ | ⟨ha, _⟩
              · rw [he?] at ha; cases ha
                rcases hget k b hb with ⟨hb, _⟩ | ⟨_, rfl⟩
                · exact hE.top k e b he? hb
                · simp
              · omega
            · intro j a y ha hy hj
              rcases hget j a ha with ⟨ha', la⟩ | ⟨ha', _⟩
              · by_cases hn : j = i ∧ y = x
                · obtain ⟨rfl, rfl⟩ := hn
                  rw [he?] at ha'; cases ha'
                  exact ⟨hd', _, List.mem_append_right _ (List.mem_singleton.2 rfl), rfl, by simp⟩
                · obtain ⟨c1, b, hb, c2, c3⟩ := hE.cls j a y ha' hy (by omega)
                  exact ⟨c1, b, List.mem_append_left _ hb, c2, c3⟩
              · omega
      · rw [if_neg hx]
        have hxe : x = N := by omega
        subst hxe
        refine bfs_found hst hN f E (i + 1) 0 ⟨hE.s, hE.run, hE.srt, ?_, ?_⟩ hi (Nat.zero_le _) (by unfold bound at *; omega)
        · intro k a b ha hb
          have h1 := hE.top k e b he? hb
          have h2 := hE.srt i (i + 1) e a he? ha (by omega)
          omega
        · intro j a y ha hy hj
          exact hE.cls j a y ha hy (by omega)
    · rw [if_neg hi]
      intro o ho
      exact (hE.near o.length o rfl ho (fun h => absurd h hi) (.inr (by omega))).1
theorem srch_found {step : StepT} (hst : ∀ p x, InR (step p x).1) {N : Nat} (hN : N ≤ 64) : Found step N (srch step N) :=
  bfs_found hst hN fuel0 [ent0] 0 0 (BInv.init step N) (Nat.zero_le _) (Nat.zero_le _) (by decide)
theorem run_pair (a b : NetT) (f g : FaultT) (l : List Int) : ∀ t, t ≤ l.length → runS (stepS a f b g) (0, 0) (l.take t) = (stR a f l t, stR b g l t)
  | 0, _ => by simp [runS, stR]
  | t + 1, h => by
    rw [List.take_add_one, List.getElem?_eq_getElem (show t < l.length by omega), runS_app, run_pair a b f g l t (by omega)]
    simp only [Option.toList, runS, stepS, stR, getDI (show t < l.length by omega)]
theorem quiet_pair (a b : NetT) (f g : FaultT) (l : List Int) : ∀ t, t ≤ l.length → (quiet (stepS a f b g) (0, 0) (l.take t) ↔ outsR a f l t = outsR b g l t)
  | 0, _ => by simp [quiet, outsR]
  | t + 1, h => by
    rw [List.take_add_one, List.getElem?_eq_getElem (show t < l.length by omega), quiet_app, run_pair a b f g l t (by omega), quiet_pair a b f g l t (by omega), outsR_succ, outsR_succ]
    have hl : (outsR a f l t).length = (outsR b g l t).length := by rw [outsR_len, outsR_len]
    simp only [Option.toList, quiet, stepS, and_true, getDI (show t < l.length by omega)]
    constructor
    · rintro ⟨h1, h2⟩
      rw [h1]; congr 2; simpa using h2
    · intro h1
      obtain ⟨h2, h3⟩ := List.append_inj h1 hl
      exact ⟨h2, by simpa using h3⟩
theorem quiet_all (a b : NetT) (f g : FaultT) (l : List Int) : quiet (stepS a f b g) (0, 0) l ↔ outsR a f l l.length = outsR b g l l.length := by
  have := quiet_pair a b f g l l.length (Nat.le_refl _)
  rw [List.take_of_length_le (Nat.le_refl _)] at this
  exact this
end Go.Proofs.YtfghooojingdhaaDoor
namespace Go.Proofs.YtfghooojingdhaaDoor
open Go Go.QL
set_option maxHeartbeats 3200000
attribute [local irreducible] ACall FnC YC
def addI (a b : Int) (i : Nat) : List Int := (List.range i).map fun (j : Nat) => a / 2 ^ j % 2 + 2 * (b / 2 ^ j % 2)
def addO (a b : Int) (i : Nat) : List Int := (List.range i).map fun (j : Nat) => (a + b) / 2 ^ j % 2
theorem addI_len (a b : Int) (i : Nat) : (addI a b i).length = i := by simp [addI]
theorem addO_len (a b : Int) (i : Nat) : (addO a b i).length = i := by simp [addO]
theorem addI_succ (a b : Int) (i : Nat) : addI a b (i + 1) = addI a b i ++ [a / 2 ^ i % 2 + 2 * (b / 2 ^ i % 2)] := by simp [addI, List.range_succ]
theorem addO_succ (a b : Int) (i : Nat) : addO a b (i + 1) = addO a b i ++ [(a + b) / 2 ^ i % 2] := by simp [addO, List.range_succ]
theorem addI_get (a b : Int) {i m : Nat} (h : i < m) : (addI a b m).getD i 0 = a / 2 ^ i % 2 + 2 * (b / 2 ^ i % 2) := by
  simp [addI, List.getD_eq_getElem?_getD, h]
theorem add_beat {c x y : Int} (hc : c = 0 ∨ c = 1) (hx : x = 0 ∨ x = 1) (hy : y = 0 ∨ y = 1) : beatR adder fine c (x + 2 * y) = ((x + y + c) / 2, (x + y + c) % 2) := by
  rcases hc with rfl | rfl <;> rcases hx with rfl | rfl <;> rcases hy with rfl | rfl <;> kernel_rfl
theorem half (a : Int) (u : Nat) : a / 2 ^ (u + 1) = a / 2 ^ u / 2 := by
  rw [Int.pow_succ, Int.ediv_ediv_of_nonneg (Int.le_of_lt (Int.pow_pos (by decide)))]
theorem add_state (a b : Int) (m : Nat) : ∀ u, u ≤ m → stR adder fine (addI a b m) u = (a + b) / 2 ^ u - a / 2 ^ u - b / 2 ^ u ∧
    ((a + b) / 2 ^ u - a / 2 ^ u - b / 2 ^ u = 0 ∨ (a + b) / 2 ^ u - a / 2 ^ u - b / 2 ^ u = 1)
  | 0, _ => by simp [stR]; omega
  | u + 1, h => by
    obtain ⟨h1, h2⟩ := add_state a b m u (by omega)
    have hb := add_beat (c := (a + b) / 2 ^ u - a / 2 ^ u - b / 2 ^ u) (x := a / 2 ^ u % 2) (y := b / 2 ^ u % 2) h2 (by omega) (by omega)
    have hs : stR adder fine (addI a b m) (u + 1) = (a / 2 ^ u % 2 + b / 2 ^ u % 2 + ((a + b) / 2 ^ u - a / 2 ^ u - b / 2 ^ u)) / 2 := by
      simp only [stR]
      rw [h1, addI_get a b (by omega), hb]
    rw [hs, half, half, half]
    constructor <;> omega
theorem add_outs (a b : Int) (m : Nat) : outsR adder fine (addI a b m) m = addO a b m := by
  unfold outsR addO
  apply List.map_congr_left
  intro u hu
  have hu := List.mem_range.1 hu
  obtain ⟨h1, h2⟩ := add_state a b m u (by omega)
  rw [h1, addI_get a b hu, add_beat h2 (by omega) (by omega)]
  dsimp only
  omega
theorem firstOut_ok (last : Int) : ∀ (l : List Int) (k : Nat), (∀ i (h : i < l.length), inB l[i] 0 last = true) → firstOut last l k = none
  | [], _, _ => rfl
  | x :: r, k, h => by
    have h0 : inB x 0 last = true := h 0 (by simp)
    have ih := firstOut_ok last r (k + 1) fun i hi => h (i + 1) (by simpa using hi)
    simp only [firstOut, h0]
    exact ih
theorem insErr_zero {n : NetT} {xs : List Int} (hl : xs.length ≤ 32) (h : InsOK n xs) : insErr n xs = 0 := by
  unfold insErr
  rw [if_neg (by omega)]
  unfold firstBad
  rw [firstOut_ok _ _ _ fun i hi => inB_iff.2 (h i hi)]
  rfl
theorem add_run (a b : Int) (m : Nat) (hm : m ≤ 32) : runR adder (addI a b m) = (addO a b m, 0) := by
  have hi : insErr adder (addI a b m) = 0 := by
    refine insErr_zero (by rw [addI_len]; omega) fun i h => ?_
    rw [addI_len] at h
    have e : (addI a b m)[i]'(by rw [addI_len]; exact h) = a / 2 ^ i % 2 + 2 * (b / 2 ^ i % 2) := by
      rw [← addI_get a b h, getDI]
    rw [e]
    have : topIn adder = 3 := by kernel_rfl
    omega
  unfold runR
  rw [if_pos ex_chk, if_pos hi, addI_len, add_outs]
end Go.Proofs.YtfghooojingdhaaDoor
namespace Go.Proofs.YtfghooojingdhaaDoor
open Go Go.QL
set_option maxHeartbeats 1600000
theorem gateErr_ne (inn : Int) (len i : Nat) (g : GateT) : gateErr inn len i g ≠ 9 := by
  unfold gateErr
  split
  · decide
  · dsimp only
    repeat' split
    all_goals decide
theorem firstGate_ne (inn : Int) (len : Nat) : ∀ (l : List GateT) (i j : Nat) (e : Int), firstGate inn len l i = some (j, e) → e ≠ 9 ∧ e ≠ 0
  | [], _, _, _, h => by cases h
  | g :: r, i, j, e, h => by
    simp only [firstGate] at h
    split at h
    · exact firstGate_ne inn len r (i + 1) j e h
    · rename_i h0
      cases h
      exact ⟨gateErr_ne _ _ _ _, h0⟩
theorem check_ne (n : NetT) : (checkR n).2.2 ≠ 9 := by
  unfold checkR
  split
  · decide
  · split
    · decide
    · split
      · rename_i h; exact (firstGate_ne _ _ _ _ _ _ h).1
      · split
        · decide
        · split
          · exact (by decide : (4 : Int) ≠ 9)
          · decide
theorem fault_ne (n : NetT) (f : FaultT) : faultErr n f ≠ 9 := by
  unfold faultErr
  repeat' split
  all_goals decide
theorem ins_low {n : NetT} {N : Nat} (hN : (2 : Int) ^ n.inn.toNat = N) {l : List Int} (h : ∀ y ∈ l, 0 ≤ y ∧ y < (N : Int)) : InsOK n l := fun i hi => by
  have := h _ (List.getElem_mem hi)
  unfold topIn
  omega
theorem getD_snoc (l : List Int) (y : Int) {k : Nat} (h : l.length = k) : (l ++ [y]).getD k 0 = y := by
  subst h; simp [List.getD_eq_getElem?_getD]
theorem show_says (n : NetT) (f : FaultT) : (∃ e, e ≠ 0 ∧ e ≠ 9 ∧ showR n f = ([], e)) ∨
    ((checkR n).2.2 = 0 ∧ faultErr n f = 0 ∧ ∃ N : Nat, (2 : Int) ^ n.inn.toNat = N ∧ 0 < N ∧
      ((∃ l, showR n f = (l, 0) ∧ 0 < l.length ∧ l.length ≤ 1024 ∧ (∀ y ∈ l, 0 ≤ y ∧ y < (N : Int)) ∧
          (outsR n fine l l.length).getD (l.length - 1) 0 ≠ (outsR n f l l.length).getD (l.length - 1) 0 ∧
          (outsR n fine l l.length).take (l.length - 1) = (outsR n f l l.length).take (l.length - 1) ∧
          ∀ o : List Int, o.length < l.length → (∀ y ∈ o, 0 ≤ y ∧ y < (N : Int)) → outsR n fine o o.length = outsR n f o o.length) ∨
       (showR n f = ([], 9) ∧ ∀ o : List Int, (∀ y ∈ o, 0 ≤ y ∧ y < (N : Int)) → outsR n fine o o.length = outsR n f o o.length))) := by
  by_cases hc : (checkR n).2.2 = 0
  · by_cases hf : faultErr n f = 0
    · refine .inr ⟨hc, hf, 2 ^ n.inn.toNat, by simp, Nat.pow_pos (by decide), ?_⟩
      have ok := NetOK.of hc
      have hN : 2 ^ n.inn.toNat ≤ 64 := by
        have := Nat.pow_le_pow_right (n := 2) (by decide) (show n.inn.toNat ≤ 6 by have := ok.h6; omega)
        exact this
      have hst : ∀ p x, InR (stepS n fine n f p x).1 := fun p x => stepS_in ok ok fine_ok (faultErr_flt hf) p x
      have hfd := srch_found hst hN
      have hin := fun l (h : srch (stepS n fine n f) (2 ^ n.inn.toNat) = some l) => bfs_ins hst _ _ _ _ (SInv.init _) l h
      unfold showR
      rw [if_pos hc, if_pos hf]
      cases hr : srch (stepS n fine n f) (2 ^ n.inn.toNat) with
      | none =>
        rw [hr] at hfd
        exact .inr ⟨rfl, fun o ho => (quiet_all _ _ _ _ o).1 (hfd o ho)⟩
      | some l =>
        rw [hr] at hfd
        obtain ⟨h1, h2, h3⟩ := hin l hr
        obtain ⟨m, x, rfl, hy, hq, hd, hmin⟩ := hfd
        have hlen : (m ++ [x]).length = m.length + 1 := by simp
        have htk : (m ++ [x]).take m.length = m := by rw [List.take_left']; rfl
        have hrp := run_pair n n fine f (m ++ [x]) m.length (by omega)
        have hqp := quiet_pair n n fine f (m ++ [x]) m.length (by omega)
        rw [htk] at hrp hqp
        rw [hrp] at hd
        have hgx : (m ++ [x]).getD m.length 0 = x := by simp [List.getD_eq_getElem?_getD]
        refine .inl ⟨_, rfl, h1, h2, hy, ?_, ?_, fun o ho hoy => (quiet_all _ _ _ _ o).1 (hmin o ho hoy)⟩
        · rw [hlen, Nat.add_sub_cancel, outsR_succ, outsR_succ, getD_snoc _ _ (outsR_len _ _ _ _), getD_snoc _ _ (outsR_len _ _ _ _), hgx]
          simpa [stepS] using hd
        · rw [hlen, Nat.add_sub_cancel, outsR_succ, outsR_succ, List.take_left' (outsR_len _ _ _ _), List.take_left' (outsR_len _ _ _ _)]
          exact hqp.1 hq
    · exact .inl ⟨_, hf, fault_ne n f, by unfold showR; rw [if_pos hc, if_neg hf]⟩
  · exact .inl ⟨_, hc, check_ne n, by unfold showR; rw [if_neg hc]⟩
def othR (bs : List Int) (N : Nat) (i : Nat) : List Int := (List.range i).map fun j => bs.getD j 0 % (N : Int)
theorem othR_len (bs : List Int) (N i : Nat) : (othR bs N i).length = i := by simp [othR]
theorem othR_succ (bs : List Int) (N i : Nat) : othR bs N (i + 1) = othR bs N i ++ [bs.getD i 0 % (N : Int)] := by simp [othR, List.range_succ]
theorem othR_low (bs : List Int) {N : Nat} (hN : 0 < N) (i : Nat) : ∀ y ∈ othR bs N i, 0 ≤ y ∧ y < (N : Int) := by
  intro y hy
  unfold othR at hy
  rw [List.mem_map] at hy
  obtain ⟨j, _, rfl⟩ := hy
  exact ⟨Int.emod_nonneg _ (by omega), Int.emod_lt_of_pos _ (by omega)⟩
theorem oth_run {n : NetT} (hc : (checkR n).2.2 = 0) {N : Nat} (hN : (2 : Int) ^ n.inn.toNat = N) {l : List Int} (hl : l.length ≤ 32) (h : ∀ y ∈ l, 0 ≤ y ∧ y < (N : Int)) : runR n l = (outsR n fine l l.length, 0) := by
  unfold runR
  rw [if_pos hc, if_pos (insErr_zero hl (ins_low hN h))]
theorem oth_stuck {n : NetT} (hc : (checkR n).2.2 = 0) {f : FaultT} (hf : faultErr n f = 0) {N : Nat} (hN : (2 : Int) ^ n.inn.toNat = N) {l : List Int} (hl : l.length ≤ 32) (h : ∀ y ∈ l, 0 ≤ y ∧ y < (N : Int)) : stuckR n f l = (outsR n f l l.length, 0) := by
  unfold stuckR
  rw [if_pos hc, if_pos hf, if_pos (insErr_zero hl (ins_low hN h))]
theorem two_innN {n : NetT} (h6 : n.inn ≤ 6) {N : Nat} (hN : (2 : Int) ^ n.inn.toNat = N) (h1 : 1 ≤ n.inn) : FnC Tryd.prog 31 [iv .i64 n.inn] (iv .i64 N) := by
  have := two_small n.inn.toNat (by omega)
  rw [hN, show ((n.inn.toNat : Nat) : Int) = n.inn by omega] at this
  exact this
end Go.Proofs.YtfghooojingdhaaDoor
namespace Go.Proofs.YtfghooojingdhaaDoor
open Go Go.QL
set_option maxHeartbeats 1600000
def swp (p : Int × Int) : Int × Int := (p.2, p.1)
def swE (e : Ent) : Ent := ⟨swp e.p, swp e.bef, e.inp, e.path⟩
theorem step_swap (a b : NetT) (f g : FaultT) (p : Int × Int) (x : Int) : stepS b g a f (swp p) x = (swp (stepS a f b g p x).1, (stepS a f b g p x).2) := by
  unfold stepS swp
  dsimp only
  rw [bne_comm]
theorem sw_get (E : List Ent) (i : Nat) : (E.map swE).getD i ent0 = swE (E.getD i ent0) := by
  rw [List.getD_eq_getElem?_getD, List.getD_eq_getElem?_getD, List.getElem?_map]
  cases E[i]? <;> rfl
theorem swp_inj {p q : Int × Int} : (swp p == swp q) = (p == q) := by
  obtain ⟨a, b⟩ := p
  obtain ⟨c, d⟩ := q
  rw [Bool.eq_iff_iff]
  simp only [swp, beq_iff_eq, Prod.mk.injEq]
  exact And.comm
theorem seen_swap (q : Int × Int) : ∀ E : List Ent, seenE (E.map swE) (swp q) = seenE E q
  | [] => rfl
  | e :: r => by
    have ih := seen_swap q r
    unfold seenE at *
    rw [List.map_cons, List.any_cons, List.any_cons, ih]
    show ((swp e.p == swp q) || _) = _
    rw [swp_inj]
theorem bfs_swap (a b : NetT) (f g : FaultT) (N : Nat) : ∀ (k : Nat) (E : List Ent) (i x : Nat), bfs (stepS b g a f) N k (E.map swE) i x = bfs (stepS a f b g) N k E i x
  | 0, _, _, _ => rfl
  | k + 1, E, i, x => by
    have hs : ∀ q, stepS b g a f (swE q).p x = (swp (stepS a f b g q.p x).1, (stepS a f b g q.p x).2) := fun q => step_swap a b f g q.p x
    unfold bfs
    rw [List.length_map, sw_get, hs]
    dsimp only
    rw [seen_swap]
    have hp : (swE (E.getD i ent0)).path = (E.getD i ent0).path := rfl
    have he : (E.map swE) ++ [⟨swp (stepS a f b g (E.getD i ent0).p x).1, (swE (E.getD i ent0)).p, (x : Int), (E.getD i ent0).path ++ [(x : Int)]⟩] =
        (E ++ [(⟨(stepS a f b g (E.getD i ent0).p x).1, (E.getD i ent0).p, (x : Int), (E.getD i ent0).path ++ [(x : Int)]⟩ : Ent)]).map swE := by
      rw [List.map_append]; rfl
    rw [hp, he, bfs_swap a b f g N k, bfs_swap a b f g N k, bfs_swap a b f g N k]
theorem srch_swap (a b : NetT) (f g : FaultT) (N : Nat) : srch (stepS b g a f) N = srch (stepS a f b g) N := bfs_swap a b f g N fuel0 [ent0] 0 0
theorem differ_says (a b : NetT) : (∃ e e', e ≠ 0 ∧ e ≠ 9 ∧ e' ≠ 0 ∧ e' ≠ 9 ∧ diffR a b = ([], e) ∧ diffR b a = ([], e')) ∨
    ((checkR a).2.2 = 0 ∧ (checkR b).2.2 = 0 ∧ a.inn = b.inn ∧ ∃ N : Nat, (2 : Int) ^ a.inn.toNat = N ∧ 0 < N ∧
      ((∃ l, diffR a b = (l, 0) ∧ diffR b a = (l, 0) ∧ 0 < l.length ∧ l.length ≤ 1024 ∧ (∀ y ∈ l, 0 ≤ y ∧ y < (N : Int)) ∧
          (outsR a fine l l.length).getD (l.length - 1) 0 ≠ (outsR b fine l l.length).getD (l.length - 1) 0 ∧
          (outsR a fine l l.length).take (l.length - 1) = (outsR b fine l l.length).take (l.length - 1)) ∨
       (diffR a b = ([], 9) ∧ diffR b a = ([], 9) ∧ ∀ o : List Int, (∀ y ∈ o, 0 ≤ y ∧ y < (N : Int)) → outsR a fine o o.length = outsR b fine o o.length))) := by
  by_cases ha : (checkR a).2.2 = 0
  · by_cases hb : (checkR b).2.2 = 0
    · by_cases hs : a.inn = b.inn ∧ a.out.length = b.out.length
      · refine .inr ⟨ha, hb, hs.1, 2 ^ a.inn.toNat, by simp, Nat.pow_pos (by decide), ?_⟩
        have oka := NetOK.of ha
        have okb := NetOK.of hb
        have hN : 2 ^ a.inn.toNat ≤ 64 := by
          have := Nat.pow_le_pow_right (n := 2) (by decide) (show a.inn.toNat ≤ 6 by have := oka.h6; omega)
          exact this
        have hst : ∀ p x, InR (stepS a fine b fine p x).1 := fun p x => stepS_in oka okb fine_ok fine_ok p x
        have hfd := srch_found hst hN
        have hin := fun l (h : srch (stepS a fine b fine) (2 ^ a.inn.toNat) = some l) => bfs_ins hst _ _ _ _ (SInv.init _) l h
        have e1 : diffR a b = srchP (srch (stepS a fine b fine) (2 ^ a.inn.toNat)) := by unfold diffR; rw [if_pos ha, if_pos hb, if_pos hs]
        have e2 : diffR b a = srchP (srch (stepS a fine b fine) (2 ^ a.inn.toNat)) := by
          unfold diffR
          rw [if_pos hb, if_pos ha, if_pos ⟨hs.1.symm, hs.2.symm⟩, srch_swap, hs.1]
        rw [e1, e2]
        cases hr : srch (stepS a fine b fine) (2 ^ a.inn.toNat) with
        | none =>
          rw [hr] at hfd
          exact .inr ⟨rfl, rfl, fun o ho => (quiet_all _ _ _ _ o).1 (hfd o ho)⟩
        | some l =>
          rw [hr] at hfd
          obtain ⟨h1, h2, h3⟩ := hin l hr
          obtain ⟨m, x, rfl, hy, hq, hd, hmin⟩ := hfd
          have hlen : (m ++ [x]).length = m.length + 1 := by simp
          have htk : (m ++ [x]).take m.length = m := by rw [List.take_left']; rfl
          have hrp := run_pair a b fine fine (m ++ [x]) m.length (by omega)
          have hqp := quiet_pair a b fine fine (m ++ [x]) m.length (by omega)
          rw [htk] at hrp hqp
          rw [hrp] at hd
          have hgx : (m ++ [x]).getD m.length 0 = x := by simp [List.getD_eq_getElem?_getD]
          refine .inl ⟨_, rfl, rfl, h1, h2, hy, ?_, ?_⟩
          · rw [hlen, Nat.add_sub_cancel, outsR_succ, outsR_succ, getD_snoc _ _ (outsR_len _ _ _ _), getD_snoc _ _ (outsR_len _ _ _ _), hgx]
            simpa [stepS] using hd
          · rw [hlen, Nat.add_sub_cancel, outsR_succ, outsR_succ, List.take_left' (outsR_len _ _ _ _), List.take_left' (outsR_len _ _ _ _)]
            exact hqp.1 hq
      · have hs' : ¬ (b.inn = a.inn ∧ b.out.length = a.out.length) := fun h => hs ⟨h.1.symm, h.2.symm⟩
        exact .inl ⟨2, 2, by decide, by decide, by decide, by decide, by unfold diffR; rw [if_pos ha, if_pos hb, if_neg hs], by unfold diffR; rw [if_pos hb, if_pos ha, if_neg hs']⟩
    · exact .inl ⟨_, _, hb, check_ne b, hb, check_ne b, by unfold diffR; rw [if_pos ha, if_neg hb], by unfold diffR; rw [if_neg hb]⟩
  · by_cases hb : (checkR b).2.2 = 0
    · exact .inl ⟨_, _, ha, check_ne a, ha, check_ne a, by unfold diffR; rw [if_neg ha], by unfold diffR; rw [if_pos hb, if_neg ha]⟩
    · exact .inl ⟨_, _, ha, check_ne a, hb, check_ne b, by unfold diffR; rw [if_neg ha], by unfold diffR; rw [if_neg hb]⟩
end Go.Proofs.YtfghooojingdhaaDoor
namespace Go.Proofs.YtfghooojingdhaaDoor
open Go Go.QL
set_option maxHeartbeats 3200000
attribute [local irreducible] ACall FnC YC
def lastR (n : NetT) (f : FaultT) (xs : List Int) : Int × Int × Bool :=
  ((outsR n fine xs xs.length).getD (xs.length - 1) 0, (outsR n f xs xs.length).getD (xs.length - 1) 0, sameInts ((outsR n fine xs xs.length).take (xs.length - 1)) ((outsR n f xs xs.length).take (xs.length - 1)))
theorem cut_form (l : List Int) (k : Nat) : ((l.map fun n => [PV.v (.int .i64 n)]).take ((k : Int)).toNat).drop (0 : Int).toNat = (l.take k).map fun n => [PV.v (.int .i64 n)] := by
  rw [Int.toNat_natCast, Int.toNat_zero, List.drop_zero, List.map_take]
theorem cut_ints (A B : List Int) (k : Nat) : FnC Tryd.prog 25 [.x (.d (.s 1 (((A.map fun n => [PV.v (.int .i64 n)]).take ((k : Int)).toNat).drop (0 : Int).toNat))), .x (.d (.s 1 (((B.map fun n => [PV.v (.int .i64 n)]).take ((k : Int)).toNat).drop (0 : Int).toNat)))] (bv (sameInts (A.take k) (B.take k))) := by
  rw [cut_form, cut_form]; exact ints_fn _ _
theorem last_get {l : List Int} {k : Nat} (h : k < l.length) : (l.map fun n => [PV.v (.int .i64 n)])[((k : Int)).toNat]? = some [PV.v (.int .i64 (l.getD k 0))] := by
  rw [getDI h]
  exact map_some (List.getElem?_eq_getElem h)
theorem last_fn {n : NetT} (ok : NetOK n) {f : FaultT} (hf : FltOK f) {xs : List Int} (hx : InsOK n xs) (hl : xs.length ≤ 4096) (hne : 0 < xs.length) :
    FnC Tryd.prog 46 [netAV n, faultAV f, sl xs] (.t [iv .i64 (lastR n f xs).1, iv .i64 (lastR n f xs).2.1, bv (lastR n f xs).2.2]) := by
  unfold lastR
  have h1 := out_ref n ok fine fine_ok xs hx hl
  have h2 := out_ref n ok f hf xs hx hl
  have l1 := outsR_len n fine xs xs.length
  have l2 := outsR_len n f xs xs.length
  generalize outsR n fine xs xs.length = A at *
  generalize outsR n f xs xs.length = B at *
  obtain ⟨k, hk⟩ : ∃ k, xs.length = k + 1 := ⟨xs.length - 1, by omega⟩
  rw [show xs.length - 1 = k by omega]
  have hlm : ((xs.map fun n => [PV.v (.int .i64 n)]).length : Int) = xs.length := by simp
  have hw : IntKind.i64.wrap (((xs.map fun n => [PV.v (.int .i64 n)]).length : Int) - 1) = (k : Int) := by
    rw [hlm]
    have : (xs.length : Int) - 1 = k := by omega
    rw [this]; exact wrap_of ⟨by omega, by omega⟩
  have ga := last_get (l := A) (k := k) (by omega)
  have gb := last_get (l := B) (k := k) (by omega)
  have hc := cut_ints A B k
  have la : (A.map fun n => [PV.v (.int .i64 n)]).length = k + 1 := by rw [List.length_map]; omega
  have lb' : (B.map fun n => [PV.v (.int .i64 n)]).length = k + 1 := by rw [List.length_map]; omega
  generalize sameInts (A.take k) (B.take k) = S at hc
  obtain ⟨fs, fa⟩ := f
  refine FnC_of_AW hTt Tryd.func46 rfl (by kernel_rfl) (res := [.tmp 6, .tmp 7, .tmp 8]) rfl Tryd.ntmps46 (by simp) fun w0 K0 => ?_
  dsimp only [entry]
  repeat' first | with_reducible refine AW_seq ?_ | with_reducible refine AW_block ?_ | with_reducible refine AW_scope ?_ | ((first | with_reducible refine AW_skip ?_ | with_reducible refine AW_label ?_ | with_reducible refine AW_exit ?_ | with_reducible refine AW_ret ?_ | with_reducible refine AW_region hTt ?_ | refine AW_draw hTt hMix (id := 1) 7 false [0, 0, 0, 7, 0, 0, 0, 127, 255, 511] (by kernel_rfl) rfl rfl (by kernel_rfl) ?_ | refine AW_draw hTt hMix (id := 3) 16 false [0, 0, 3, 7, 0, 0, 48, 112, 0, 0, 768, 0, 0, 6144, 16128, 32527, 65535, 131071] (by kernel_rfl) rfl rfl (by kernel_rfl) ?_ | refine LateGo.mk ⟨_, rfl, ?_⟩ | refine LateGo.mk ⟨.x .j, rfl, ?_⟩ | ((refine ⟨_, (fine_fn).call rfl rfl, ?_⟩); (rintro _ _ ⟨rfl, rfl⟩)) | refine ⟨_, fun _ => (fine_fn).call rfl rfl, ?_⟩ | refine ⟨_, fun _ _ => (fine_fn).call rfl rfl, ?_⟩ | ((refine ⟨_, (h1).call rfl rfl, ?_⟩); (rintro _ _ ⟨rfl, rfl⟩)) | refine ⟨_, fun _ => (h1).call rfl rfl, ?_⟩ | refine ⟨_, fun _ _ => (h1).call rfl rfl, ?_⟩ | ((refine ⟨_, (h2).call rfl rfl, ?_⟩); (rintro _ _ ⟨rfl, rfl⟩)) | refine ⟨_, fun _ => (h2).call rfl rfl, ?_⟩ | refine ⟨_, fun _ _ => (h2).call rfl rfl, ?_⟩ | refine ⟨_, hw, ?_⟩ | with_reducible refine Exists.intro _ (And.intro (gd_any (And.intro (by omega) ga)) ?_) | with_reducible refine Exists.intro _ (And.intro (gd_any (And.intro (by omega) gb)) ?_) | refine And.intro (gd_any (by omega)) ?_ | ((refine ⟨_, (hc).call rfl rfl, ?_⟩); (rintro _ _ ⟨rfl, rfl⟩)) | refine ⟨_, fun _ => (hc).call rfl rfl, ?_⟩ | refine ⟨_, fun _ _ => (hc).call rfl rfl, ?_⟩ | fail); conv => whnf) | (refine AW_cond rfl (fun _ => ?_) (fun hb => absurd hb (by decide))) | (refine AW_cond rfl (fun hb => absurd hb (by decide)) (fun _ => ?_)) | (refine AW_cond rfl (fun hb => ?_) (fun hb => ?_) <;> first | (replace hb := of_decide_eq_true hb; try simp only [List.length_map] at hb) | (replace hb := of_decide_eq_false hb; try simp only [List.length_map] at hb) | (simp only [List.length_map, bne_iff_ne, ne_eq, beq_iff_eq, bne_eq_false_iff_eq, beq_eq_false_iff_ne, decide_eq_true_eq, decide_eq_false_iff_not, Bool.not_eq_true', Bool.not_eq_false', Int.natCast_inj] at hb) | skip) | ((first | refine ⟨_, wrap_of (by first | omega | (simp only [List.length_map]; omega)), ?_⟩ | refine ⟨IntKind.wrap _ _, rfl, ?_⟩ | fail); conv => whnf) | ((refine And.intro (by first | exact trivial | rfl | exact gd_self | exact gd_any (by omega) | exact fun h => h | decide | (constructor <;> simp [chunk, maxLen]; done) | (intro h; simpa using h)) ?_); conv => whnf) | ((first | with_reducible refine Exists.intro _ (And.intro (gd_any (And.intro (by omega) (map_get (by omega)))) ?_) | with_reducible refine And.intro (gd_any (And.intro (by omega) (And.intro (by first | omega | (simp only [List.length_map]; omega)) (by first | omega | (simp only [List.length_map]; omega) | (simp only [List.length_set, List.length_map]; omega))))) ?_ | with_reducible refine Exists.intro _ (And.intro (gd_any (map_get' (by omega) (by omega))) (And.intro (And.intro (Nat.le_of_ble_eq_true rfl) rfl) ?_)) | with_reducible refine Exists.intro _ (And.intro (gd_any (And.intro (by omega) (map_get' (by omega) (by omega)))) ?_) | with_reducible refine And.intro (And.intro (by omega) (And.intro (by first | omega | (simp only [List.length_map]; omega)) (by first | omega | (simp only [List.length_map, List.length_set]; omega)))) ?_ | with_reducible refine Exists.intro _ (And.intro (map_get' (by omega) (by omega)) (And.intro (Nat.le_of_ble_eq_true rfl) ?_)) | fail); conv => whnf) | ((refine And.intro (by refine ⟨?_, ?_, ?_⟩ <;> simp [chunk, maxLen] <;> omega) ?_); conv => whnf) | (refine fun hln => ?_; (try rw [List.length_map] at hln); unfold maxLen at hln; conv => whnf) | fail
  rfl
end Go.Proofs.YtfghooojingdhaaDoor
namespace Go.Proofs.YtfghooojingdhaaDoor
open Go Go.QL
set_option maxHeartbeats 3200000
attribute [local irreducible] ACall FnC YC
theorem gsame_fn (a b : NetT) (ha : i64 a.inn) (hbi : i64 b.inn) (bs : List Int) (hbs : ∀ x ∈ bs, 0 ≤ x ∧ x < 256) : FnC Tryd.prog 7 [netAV a, netAV b, bytesAV bs] (bv true) := by
  have hd := pdiffer_fn a b ha hbi
  have hd' := pdiffer_fn b a hbi ha
  rcases differ_says a b with ⟨e, e', h1, h2, h3, h4, hre, hre'⟩ | ⟨hca, hcb, hinn, N, hN, hN0, hcase⟩
  · rw [hre] at hd
    rw [hre'] at hd'
    refine FnC_of_AW hTt Tryd.func7 rfl (by kernel_rfl) (res := [.tmp 6]) rfl Tryd.ntmps7 (by simp) fun w0 K0 => ?_
    dsimp only [entry]
    repeat' first | with_reducible refine AW_seq ?_ | with_reducible refine AW_block ?_ | with_reducible refine AW_scope ?_ | ((first | with_reducible refine AW_skip ?_ | with_reducible refine AW_label ?_ | with_reducible refine AW_exit ?_ | with_reducible refine AW_ret ?_ | with_reducible refine AW_region hTt ?_ | refine AW_draw hTt hMix (id := 13) 13 false [0, 0, 3, 7, 15, 31, 63, 63, 255, 511, 63, 1087, 3135, 8191, 16383] (by kernel_rfl) rfl rfl (by kernel_rfl) ?_ | refine AW_draw hTt hMix (id := 15) 7 false [0, 0, 0, 7, 0, 15, 0, 127, 255, 511] (by kernel_rfl) rfl rfl (by kernel_rfl) ?_ | refine AW_draw hTt hMix (id := 17) 16 false [0, 0, 3, 7, 0, 0, 48, 112, 255, 511, 1023, 1023, 4095, 1023, 1023, 25599, 65535, 131071, 262143, 524287, 1048575, 2097151] (by kernel_rfl) rfl rfl (by kernel_rfl) ?_ | refine AW_draw hTt hMix (id := 22) 11 true [0, 0, 0, 6, 14, 30, 0, 64, 192, 510, 1022, 2047, 4095] (by kernel_rfl) rfl rfl (by kernel_rfl) ?_ | refine LateGo.mk ⟨_, rfl, ?_⟩ | refine LateGo.mk ⟨.x .j, rfl, ?_⟩ | fail); conv => whnf) | (exfalso; simp [h1, h2] at hb; done) | ((first | ((refine ⟨_, (hd).call rfl rfl, ?_⟩); (rintro _ _ ⟨rfl, rfl⟩)) | refine ⟨_, fun _ => (hd).call rfl rfl, ?_⟩ | refine ⟨_, fun _ _ => (hd).call rfl rfl, ?_⟩ | ((refine ⟨_, (hd').call rfl rfl, ?_⟩); (rintro _ _ ⟨rfl, rfl⟩)) | refine ⟨_, fun _ => (hd').call rfl rfl, ?_⟩ | refine ⟨_, fun _ _ => (hd').call rfl rfl, ?_⟩ | ((refine ⟨_, (awake_fn).call rfl rfl, ?_⟩); (rintro _ _ ⟨rfl, rfl⟩)) | refine ⟨_, fun _ => (awake_fn).call rfl rfl, ?_⟩ | refine ⟨_, fun _ _ => (awake_fn).call rfl rfl, ?_⟩ | fail); conv => whnf) | (refine AW_cond rfl (fun _ => ?_) (fun hb => absurd hb (by decide))) | (refine AW_cond rfl (fun hb => absurd hb (by decide)) (fun _ => ?_)) | (refine AW_cond rfl (fun hb => ?_) (fun hb => ?_) <;> first | (replace hb := of_decide_eq_true hb; try simp only [List.length_map] at hb) | (replace hb := of_decide_eq_false hb; try simp only [List.length_map] at hb) | (simp only [List.length_map, bne_iff_ne, ne_eq, beq_iff_eq, bne_eq_false_iff_eq, beq_eq_false_iff_ne, decide_eq_true_eq, decide_eq_false_iff_not, Bool.not_eq_true', Bool.not_eq_false', Int.natCast_inj] at hb) | skip) | ((first | refine ⟨_, wrap_of (by first | omega | (simp only [List.length_map]; omega)), ?_⟩ | refine ⟨IntKind.wrap _ _, rfl, ?_⟩ | fail); conv => whnf) | ((refine And.intro (by first | exact trivial | rfl | exact gd_self | exact gd_any (by omega) | exact fun h => h | decide | (constructor <;> simp [chunk, maxLen]; done) | (intro h; simpa using h)) ?_); conv => whnf) | ((first | with_reducible refine Exists.intro _ (And.intro (gd_any (And.intro (by omega) (map_get (by omega)))) ?_) | with_reducible refine And.intro (gd_any (And.intro (by omega) (And.intro (by first | omega | (simp only [List.length_map]; omega)) (by first | omega | (simp only [List.length_map]; omega) | (simp only [List.length_set, List.length_map]; omega))))) ?_ | with_reducible refine Exists.intro _ (And.intro (gd_any (map_get' (by omega) (by omega))) (And.intro (And.intro (Nat.le_of_ble_eq_true rfl) rfl) ?_)) | with_reducible refine Exists.intro _ (And.intro (gd_any (And.intro (by omega) (map_get' (by omega) (by omega)))) ?_) | with_reducible refine And.intro (And.intro (by omega) (And.intro (by first | omega | (simp only [List.length_map]; omega)) (by first | omega | (simp only [List.length_map, List.length_set]; omega)))) ?_ | with_reducible refine Exists.intro _ (And.intro (map_get' (by omega) (by omega)) (And.intro (Nat.le_of_ble_eq_true rfl) ?_)) | fail); conv => whnf) | ((refine And.intro (by refine ⟨?_, ?_, ?_⟩ <;> simp [chunk, maxLen] <;> omega) ?_); conv => whnf) | (refine fun hln => ?_; (try rw [List.length_map] at hln); unfold maxLen at hln; conv => whnf) | fail
    exact (show ∀ b, b = true → some (bv b) = some (bv true) from fun b h => by rw [h]) _ (by simp [h3, h4])
  · have oka := NetOK.of hca
    have okb := NetOK.of hcb
    have hva := valid_fn a
    rw [decide_eq_true hca] at hva
    have hvb := valid_fn b
    rw [decide_eq_true hcb] at hvb
    have htwo := two_innN oka.h6 hN oka.h1
    have hNb : (2 : Int) ^ b.inn.toNat = N := by rw [← hinn]; exact hN
    rcases hcase with ⟨l, hre, hre', hpos, h1024, hlow, hne, hsm⟩ | ⟨hre, hre', hall⟩
    · rw [hre] at hd
      rw [hre'] at hd'
      have hil := ints_fn l l
      rw [show sameInts l l = true from decide_eq_true rfl] at hil
      have hoa := out_ref a oka fine fine_ok l (ins_low hN hlow) (by omega)
      have hob := out_ref b okb fine fine_ok l (ins_low hNb hlow) (by omega)
      have la := outsR_len a fine l l.length
      have lb' := outsR_len b fine l l.length
      generalize outsR a fine l l.length = A at *
      generalize outsR b fine l l.length = B at *
      obtain ⟨k, hk⟩ : ∃ k, l.length = k + 1 := ⟨l.length - 1, by omega⟩
      rw [show l.length - 1 = k by omega] at hne hsm
      have hll : (l.map fun n => [PV.v (.int .i64 n)]).length = l.length := List.length_map _
      have hw : IntKind.i64.wrap (((l.map fun n => [PV.v (.int .i64 n)]).length : Int) - 1) = (k : Int) := by
        rw [hll]
        have : (l.length : Int) - 1 = k := by omega
        rw [this]; exact wrap_of ⟨by omega, by omega⟩
      have ga := last_get (l := A) (k := k) (by omega)
      have gb := last_get (l := B) (k := k) (by omega)
      have hc := cut_ints A B k
      rw [show sameInts (A.take k) (B.take k) = true from decide_eq_true hsm] at hc
      have lA : (A.map fun n => [PV.v (.int .i64 n)]).length = k + 1 := by rw [List.length_map]; omega
      have lB : (B.map fun n => [PV.v (.int .i64 n)]).length = k + 1 := by rw [List.length_map]; omega
      clear hsm
      generalize A.getD k 0 = x at *
      generalize B.getD k 0 = y at *
      refine FnC_of_AW hTt Tryd.func7 rfl (by kernel_rfl) (res := [.tmp 6]) rfl Tryd.ntmps7 (by simp) fun w0 K0 => ?_
      dsimp only [entry]
      repeat' first | with_reducible refine AW_seq ?_ | with_reducible refine AW_block ?_ | with_reducible refine AW_scope ?_ | ((first | with_reducible refine AW_skip ?_ | with_reducible refine AW_label ?_ | with_reducible refine AW_exit ?_ | with_reducible refine AW_ret ?_ | with_reducible refine AW_region hTt ?_ | refine AW_draw hTt hMix (id := 13) 13 false [0, 0, 3, 7, 15, 31, 63, 63, 255, 511, 63, 1087, 3135, 8191, 16383] (by kernel_rfl) rfl rfl (by kernel_rfl) ?_ | refine AW_draw hTt hMix (id := 15) 7 false [0, 0, 0, 7, 0, 15, 0, 127, 255, 511] (by kernel_rfl) rfl rfl (by kernel_rfl) ?_ | refine AW_draw hTt hMix (id := 17) 16 false [0, 0, 3, 7, 0, 0, 48, 112, 255, 511, 1023, 1023, 4095, 1023, 1023, 25599, 65535, 131071, 262143, 524287, 1048575, 2097151] (by kernel_rfl) rfl rfl (by kernel_rfl) ?_ | refine AW_draw hTt hMix (id := 22) 11 true [0, 0, 0, 6, 14, 30, 0, 64, 192, 510, 1022, 2047, 4095] (by kernel_rfl) rfl rfl (by kernel_rfl) ?_ | refine LateGo.mk ⟨_, rfl, ?_⟩ | refine LateGo.mk ⟨.x .j, rfl, ?_⟩ | fail); conv => whnf) | (exact absurd trivial hb) | (exact absurd rfl hb) | (exact absurd hinn hb) | (exact absurd hb (by omega)) | (exfalso; simp at hb; done) | (exfalso; simp [hinn] at hb; done) | ((first | ((refine ⟨_, (hd).call rfl rfl, ?_⟩); (rintro _ _ ⟨rfl, rfl⟩)) | refine ⟨_, fun _ => (hd).call rfl rfl, ?_⟩ | refine ⟨_, fun _ _ => (hd).call rfl rfl, ?_⟩ | ((refine ⟨_, (hd').call rfl rfl, ?_⟩); (rintro _ _ ⟨rfl, rfl⟩)) | refine ⟨_, fun _ => (hd').call rfl rfl, ?_⟩ | refine ⟨_, fun _ _ => (hd').call rfl rfl, ?_⟩ | ((refine ⟨_, (hil).call rfl rfl, ?_⟩); (rintro _ _ ⟨rfl, rfl⟩)) | refine ⟨_, fun _ => (hil).call rfl rfl, ?_⟩ | refine ⟨_, fun _ _ => (hil).call rfl rfl, ?_⟩ | ((refine ⟨_, (hva).call rfl rfl, ?_⟩); (rintro _ _ ⟨rfl, rfl⟩)) | refine ⟨_, fun _ => (hva).call rfl rfl, ?_⟩ | refine ⟨_, fun _ _ => (hva).call rfl rfl, ?_⟩ | ((refine ⟨_, (hvb).call rfl rfl, ?_⟩); (rintro _ _ ⟨rfl, rfl⟩)) | refine ⟨_, fun _ => (hvb).call rfl rfl, ?_⟩ | refine ⟨_, fun _ _ => (hvb).call rfl rfl, ?_⟩ | fail); conv => whnf) | (refine AW_cond rfl (fun _ => ?_) (fun hb => absurd hb (by decide))) | (refine AW_cond rfl (fun hb => absurd hb (by decide)) (fun _ => ?_)) | (refine AW_cond rfl (fun hb => ?_) (fun hb => ?_) <;> first | (replace hb := of_decide_eq_true hb; try simp only [List.length_map] at hb) | (replace hb := of_decide_eq_false hb; try simp only [List.length_map] at hb) | (simp only [List.length_map, bne_iff_ne, ne_eq, beq_iff_eq, bne_eq_false_iff_eq, beq_eq_false_iff_ne, decide_eq_true_eq, decide_eq_false_iff_not, Bool.not_eq_true', Bool.not_eq_false', Int.natCast_inj] at hb) | skip) | ((first | refine ⟨_, wrap_of (by first | omega | (simp only [List.length_map]; omega)), ?_⟩ | refine ⟨IntKind.wrap _ _, rfl, ?_⟩ | fail); conv => whnf) | ((refine And.intro (by first | exact trivial | rfl | exact gd_self | exact gd_any (by omega) | exact fun h => h | decide | (constructor <;> simp [chunk, maxLen]; done) | (intro h; simpa using h)) ?_); conv => whnf) | ((first | with_reducible refine Exists.intro _ (And.intro (gd_any (And.intro (by omega) (map_get (by omega)))) ?_) | with_reducible refine And.intro (gd_any (And.intro (by omega) (And.intro (by first | omega | (simp only [List.length_map]; omega)) (by first | omega | (simp only [List.length_map]; omega) | (simp only [List.length_set, List.length_map]; omega))))) ?_ | with_reducible refine Exists.intro _ (And.intro (gd_any (map_get' (by omega) (by omega))) (And.intro (And.intro (Nat.le_of_ble_eq_true rfl) rfl) ?_)) | with_reducible refine Exists.intro _ (And.intro (gd_any (And.intro (by omega) (map_get' (by omega) (by omega)))) ?_) | with_reducible refine And.intro (And.intro (by omega) (And.intro (by first | omega | (simp only [List.length_map]; omega)) (by first | omega | (simp only [List.length_map, List.length_set]; omega)))) ?_ | with_reducible refine Exists.intro _ (And.intro (map_get' (by omega) (by omega)) (And.intro (Nat.le_of_ble_eq_true rfl) ?_)) | fail); conv => whnf) | ((refine And.intro (by refine ⟨?_, ?_, ?_⟩ <;> simp [chunk, maxLen] <;> omega) ?_); conv => whnf) | (refine fun hln => ?_; (try rw [List.length_map] at hln); unfold maxLen at hln; conv => whnf) | fail
      refine AW_loop (fun i : Nat => [(11, iv .i64 i), (7, sl l), (3, .x (.b 3 0)), (4, .x (.b 4 0)), (2, bytesAV bs)]) (fun _ => [(3, netCells a), (4, netCells b)]) (fun i => i ≤ l.length) (fun i => l.length - i) 0 (Nat.zero_le _) (Imp.forget (by repeat' (first | exact trivial | refine And.intro ?_ ?_ | rfl | exact ivE (by first | omega | (simp only [List.length_map, List.length_append, List.length_singleton] <;> omega)) | exact oE (by first | omega | (simp only [List.length_map, List.length_append, List.length_singleton] <;> omega)))) (by repeat' (first | exact trivial | refine And.intro ?_ ?_ | rfl | exact ivE (by first | omega | (simp only [List.length_map, List.length_append, List.length_singleton] <;> omega)) | exact oE (by first | omega | (simp only [List.length_map, List.length_append, List.length_singleton] <;> omega)))) (by kernel_rfl) (by kernel_rfl) (by kernel_rfl)) ?_
      intro i hil'
      rcases Nat.lt_or_ge i l.length with hil | hil
      · obtain ⟨z, hz⟩ : ∃ z, l[i]? = some z := ⟨_, List.getElem?_eq_getElem hil⟩
        have hzl := hlow z (List.mem_of_getElem? hz)
        clear hc hoa hob ga gb hd hd'
        repeat' first | with_reducible refine AW_seq ?_ | with_reducible refine AW_block ?_ | with_reducible refine AW_scope ?_ | ((first | with_reducible refine AW_skip ?_ | with_reducible refine AW_label ?_ | with_reducible refine AW_exit ?_ | with_reducible refine AW_ret ?_ | with_reducible refine AW_region hTt ?_ | refine AW_draw hTt hMix (id := 13) 13 false [0, 0, 3, 7, 15, 31, 63, 63, 255, 511, 63, 1087, 3135, 8191, 16383] (by kernel_rfl) rfl rfl (by kernel_rfl) ?_ | refine AW_draw hTt hMix (id := 15) 7 false [0, 0, 0, 7, 0, 15, 0, 127, 255, 511] (by kernel_rfl) rfl rfl (by kernel_rfl) ?_ | refine AW_draw hTt hMix (id := 17) 16 false [0, 0, 3, 7, 0, 0, 48, 112, 255, 511, 1023, 1023, 4095, 1023, 1023, 25599, 65535, 131071, 262143, 524287, 1048575, 2097151] (by kernel_rfl) rfl rfl (by kernel_rfl) ?_ | refine AW_draw hTt hMix (id := 22) 11 true [0, 0, 0, 6, 14, 30, 0, 64, 192, 510, 1022, 2047, 4095] (by kernel_rfl) rfl rfl (by kernel_rfl) ?_ | refine LateGo.mk ⟨_, rfl, ?_⟩ | refine LateGo.mk ⟨.x .j, rfl, ?_⟩ | fail); conv => whnf) | (exact absurd hb (by omega)) | (exfalso; simp at hb; omega) | ((first | with_reducible refine Exists.intro _ (And.intro (gd_any (And.intro (by omega) (map_some hz))) ?_) | ((refine ⟨_, (htwo).call rfl rfl, ?_⟩); (rintro _ _ ⟨rfl, rfl⟩)) | refine ⟨_, fun _ => (htwo).call rfl rfl, ?_⟩ | refine ⟨_, fun _ _ => (htwo).call rfl rfl, ?_⟩ | fail); conv => whnf) | (refine AW_cond rfl (fun _ => ?_) (fun hb => absurd hb (by decide))) | (refine AW_cond rfl (fun hb => absurd hb (by decide)) (fun _ => ?_)) | (refine AW_cond rfl (fun hb => ?_) (fun hb => ?_) <;> first | (replace hb := of_decide_eq_true hb; try simp only [List.length_map] at hb) | (replace hb := of_decide_eq_false hb; try simp only [List.length_map] at hb) | (simp only [List.length_map, bne_iff_ne, ne_eq, beq_iff_eq, bne_eq_false_iff_eq, beq_eq_false_iff_ne, decide_eq_true_eq, decide_eq_false_iff_not, Bool.not_eq_true', Bool.not_eq_false', Int.natCast_inj] at hb) | skip) | ((first | refine ⟨_, wrap_of (by first | omega | (simp only [List.length_map]; omega)), ?_⟩ | refine ⟨IntKind.wrap _ _, rfl, ?_⟩ | fail); conv => whnf) | ((refine And.intro (by first | exact trivial | rfl | exact gd_self | exact gd_any (by omega) | exact fun h => h | decide | (constructor <;> simp [chunk, maxLen]; done) | (intro h; simpa using h)) ?_); conv => whnf) | ((first | with_reducible refine Exists.intro _ (And.intro (gd_any (And.intro (by omega) (map_get (by omega)))) ?_) | with_reducible refine And.intro (gd_any (And.intro (by omega) (And.intro (by first | omega | (simp only [List.length_map]; omega)) (by first | omega | (simp only [List.length_map]; omega) | (simp only [List.length_set, List.length_map]; omega))))) ?_ | with_reducible refine Exists.intro _ (And.intro (gd_any (map_get' (by omega) (by omega))) (And.intro (And.intro (Nat.le_of_ble_eq_true rfl) rfl) ?_)) | with_reducible refine Exists.intro _ (And.intro (gd_any (And.intro (by omega) (map_get' (by omega) (by omega)))) ?_) | with_reducible refine And.intro (And.intro (by omega) (And.intro (by first | omega | (simp only [List.length_map]; omega)) (by first | omega | (simp only [List.length_map, List.length_set]; omega)))) ?_ | with_reducible refine Exists.intro _ (And.intro (map_get' (by omega) (by omega)) (And.intro (Nat.le_of_ble_eq_true rfl) ?_)) | fail); conv => whnf) | ((refine And.intro (by refine ⟨?_, ?_, ?_⟩ <;> simp [chunk, maxLen] <;> omega) ?_); conv => whnf) | (refine fun hln => ?_; (try rw [List.length_map] at hln); unfold maxLen at hln; conv => whnf) | fail
        exact ⟨i + 1, hil, by omega, (Imp.forget (by repeat' (first | exact trivial | refine And.intro ?_ ?_ | rfl | exact ivE (by first | omega | (simp only [List.length_map, List.length_append, List.length_singleton] <;> omega)) | exact oE (by first | omega | (simp only [List.length_map, List.length_append, List.length_singleton] <;> omega)))) (by repeat' (first | exact trivial | refine And.intro ?_ ?_ | rfl | exact ivE (by first | omega | (simp only [List.length_map, List.length_append, List.length_singleton] <;> omega)) | exact oE (by first | omega | (simp only [List.length_map, List.length_append, List.length_singleton] <;> omega)))) (by kernel_rfl) (by kernel_rfl) (by kernel_rfl))⟩
      have hie : i = l.length := by omega
      subst hie
      repeat' first | with_reducible refine AW_seq ?_ | with_reducible refine AW_block ?_ | with_reducible refine AW_scope ?_ | ((first | with_reducible refine AW_skip ?_ | with_reducible refine AW_label ?_ | with_reducible refine AW_exit ?_ | with_reducible refine AW_ret ?_ | with_reducible refine AW_region hTt ?_ | refine AW_draw hTt hMix (id := 13) 13 false [0, 0, 3, 7, 15, 31, 63, 63, 255, 511, 63, 1087, 3135, 8191, 16383] (by kernel_rfl) rfl rfl (by kernel_rfl) ?_ | refine AW_draw hTt hMix (id := 15) 7 false [0, 0, 0, 7, 0, 15, 0, 127, 255, 511] (by kernel_rfl) rfl rfl (by kernel_rfl) ?_ | refine AW_draw hTt hMix (id := 17) 16 false [0, 0, 3, 7, 0, 0, 48, 112, 255, 511, 1023, 1023, 4095, 1023, 1023, 25599, 65535, 131071, 262143, 524287, 1048575, 2097151] (by kernel_rfl) rfl rfl (by kernel_rfl) ?_ | refine AW_draw hTt hMix (id := 22) 11 true [0, 0, 0, 6, 14, 30, 0, 64, 192, 510, 1022, 2047, 4095] (by kernel_rfl) rfl rfl (by kernel_rfl) ?_ | refine LateGo.mk ⟨_, rfl, ?_⟩ | refine LateGo.mk ⟨.x .j, rfl, ?_⟩ | fail); conv => whnf) | (exact absurd hb (by omega)) | ((first | ((refine ⟨_, (fine_fn).call rfl rfl, ?_⟩); (rintro _ _ ⟨rfl, rfl⟩)) | refine ⟨_, fun _ => (fine_fn).call rfl rfl, ?_⟩ | refine ⟨_, fun _ _ => (fine_fn).call rfl rfl, ?_⟩ | ((refine ⟨_, (hoa).call rfl rfl, ?_⟩); (rintro _ _ ⟨rfl, rfl⟩)) | refine ⟨_, fun _ => (hoa).call rfl rfl, ?_⟩ | refine ⟨_, fun _ _ => (hoa).call rfl rfl, ?_⟩ | ((refine ⟨_, (hob).call rfl rfl, ?_⟩); (rintro _ _ ⟨rfl, rfl⟩)) | refine ⟨_, fun _ => (hob).call rfl rfl, ?_⟩ | refine ⟨_, fun _ _ => (hob).call rfl rfl, ?_⟩ | refine ⟨_, hw, ?_⟩ | with_reducible refine Exists.intro _ (And.intro (gd_any (And.intro (by omega) ga)) ?_) | with_reducible refine Exists.intro _ (And.intro (gd_any (And.intro (by omega) gb)) ?_) | refine And.intro (gd_any (by omega)) ?_ | ((refine ⟨_, (hc).call rfl rfl, ?_⟩); (rintro _ _ ⟨rfl, rfl⟩)) | refine ⟨_, fun _ => (hc).call rfl rfl, ?_⟩ | refine ⟨_, fun _ _ => (hc).call rfl rfl, ?_⟩ | ((refine ⟨_, (awake_fn).call rfl rfl, ?_⟩); (rintro _ _ ⟨rfl, rfl⟩)) | refine ⟨_, fun _ => (awake_fn).call rfl rfl, ?_⟩ | refine ⟨_, fun _ _ => (awake_fn).call rfl rfl, ?_⟩ | fail); conv => whnf) | (refine AW_cond rfl (fun _ => ?_) (fun hb => absurd hb (by decide))) | (refine AW_cond rfl (fun hb => absurd hb (by decide)) (fun _ => ?_)) | (refine AW_cond rfl (fun hb => ?_) (fun hb => ?_) <;> first | (replace hb := of_decide_eq_true hb; try simp only [List.length_map] at hb) | (replace hb := of_decide_eq_false hb; try simp only [List.length_map] at hb) | (simp only [List.length_map, bne_iff_ne, ne_eq, beq_iff_eq, bne_eq_false_iff_eq, beq_eq_false_iff_ne, decide_eq_true_eq, decide_eq_false_iff_not, Bool.not_eq_true', Bool.not_eq_false', Int.natCast_inj] at hb) | skip) | ((first | refine ⟨_, wrap_of (by first | omega | (simp only [List.length_map]; omega)), ?_⟩ | refine ⟨IntKind.wrap _ _, rfl, ?_⟩ | fail); conv => whnf) | ((refine And.intro (by first | exact trivial | rfl | exact gd_self | exact gd_any (by omega) | exact fun h => h | decide | (constructor <;> simp [chunk, maxLen]; done) | (intro h; simpa using h)) ?_); conv => whnf) | ((first | with_reducible refine Exists.intro _ (And.intro (gd_any (And.intro (by omega) (map_get (by omega)))) ?_) | with_reducible refine And.intro (gd_any (And.intro (by omega) (And.intro (by first | omega | (simp only [List.length_map]; omega)) (by first | omega | (simp only [List.length_map]; omega) | (simp only [List.length_set, List.length_map]; omega))))) ?_ | with_reducible refine Exists.intro _ (And.intro (gd_any (map_get' (by omega) (by omega))) (And.intro (And.intro (Nat.le_of_ble_eq_true rfl) rfl) ?_)) | with_reducible refine Exists.intro _ (And.intro (gd_any (And.intro (by omega) (map_get' (by omega) (by omega)))) ?_) | with_reducible refine And.intro (And.intro (by omega) (And.intro (by first | omega | (simp only [List.length_map]; omega)) (by first | omega | (simp only [List.length_map, List.length_set]; omega)))) ?_ | with_reducible refine Exists.intro _ (And.intro (map_get' (by omega) (by omega)) (And.intro (Nat.le_of_ble_eq_true rfl) ?_)) | fail); conv => whnf) | ((refine And.intro (by refine ⟨?_, ?_, ?_⟩ <;> simp [chunk, maxLen] <;> omega) ?_); conv => whnf) | (refine fun hln => ?_; (try rw [List.length_map] at hln); unfold maxLen at hln; conv => whnf) | fail
      exact (show ∀ b, b = true → some (bv b) = some (bv true) from fun b h => by rw [h]) _ (by simp [hne])
    · rw [hre] at hd
      rw [hre'] at hd'
      obtain ⟨lim, hlim⟩ : ∃ lim, lim = min bs.length 32 := ⟨_, rfl⟩
      have heq := hall (othR bs N lim) (othR_low bs hN0 _)
      have hrunO := prun_fn a ha (othR bs N lim)
      rw [oth_run hca hN (by rw [othR_len]; omega) (othR_low bs hN0 _)] at hrunO
      have hrunP := prun_fn b hbi (othR bs N lim)
      rw [oth_run hcb hNb (by rw [othR_len]; omega) (othR_low bs hN0 _), ← heq] at hrunP
      have hcmp := ints_fn (outsR a fine (othR bs N lim) (othR bs N lim).length) (outsR a fine (othR bs N lim) (othR bs N lim).length)
      rw [show sameInts (outsR a fine (othR bs N lim) (othR bs N lim).length) (outsR a fine (othR bs N lim) (othR bs N lim).length) = true from decide_eq_true rfl] at hcmp
      have hil := ints_fn [] []
      rw [show sameInts [] [] = true from decide_eq_true rfl] at hil
      clear heq hall
      generalize outsR a fine (othR bs N lim) (othR bs N lim).length = O at hrunO hrunP hcmp
      have hlb : (bs.map fun n => [PV.v (.int .u8 n)]).length = bs.length := List.length_map _
      refine FnC_of_AW hTt Tryd.func7 rfl (by kernel_rfl) (res := [.tmp 6]) rfl Tryd.ntmps7 (by simp) fun w0 K0 => ?_
      dsimp only [entry]
      repeat' first | with_reducible refine AW_seq ?_ | with_reducible refine AW_block ?_ | with_reducible refine AW_scope ?_ | ((first | with_reducible refine AW_skip ?_ | with_reducible refine AW_label ?_ | with_reducible refine AW_exit ?_ | with_reducible refine AW_ret ?_ | with_reducible refine AW_region hTt ?_ | refine AW_draw hTt hMix (id := 13) 13 false [0, 0, 3, 7, 15, 31, 63, 63, 255, 511, 63, 1087, 3135, 8191, 16383] (by kernel_rfl) rfl rfl (by kernel_rfl) ?_ | refine AW_draw hTt hMix (id := 15) 7 false [0, 0, 0, 7, 0, 15, 0, 127, 255, 511] (by kernel_rfl) rfl rfl (by kernel_rfl) ?_ | refine AW_draw hTt hMix (id := 17) 16 false [0, 0, 3, 7, 0, 0, 48, 112, 255, 511, 1023, 1023, 4095, 1023, 1023, 25599, 65535, 131071, 262143, 524287, 1048575, 2097151] (by kernel_rfl) rfl rfl (by kernel_rfl) ?_ | refine AW_draw hTt hMix (id := 22) 11 true [0, 0, 0, 6, 14, 30, 0, 64, 192, 510, 1022, 2047, 4095] (by kernel_rfl) rfl rfl (by kernel_rfl) ?_ | refine LateGo.mk ⟨_, rfl, ?_⟩ | refine LateGo.mk ⟨.x .j, rfl, ?_⟩ | fail); conv => whnf) | (exact absurd trivial hb) | (exact absurd rfl hb) | (exact absurd hinn hb) | (exact absurd hb (by decide)) | (exfalso; simp at hb; done) | (exfalso; simp [hinn] at hb; done) | ((first | ((refine ⟨_, (hd).call rfl rfl, ?_⟩); (rintro _ _ ⟨rfl, rfl⟩)) | refine ⟨_, fun _ => (hd).call rfl rfl, ?_⟩ | refine ⟨_, fun _ _ => (hd).call rfl rfl, ?_⟩ | ((refine ⟨_, (hd').call rfl rfl, ?_⟩); (rintro _ _ ⟨rfl, rfl⟩)) | refine ⟨_, fun _ => (hd').call rfl rfl, ?_⟩ | refine ⟨_, fun _ _ => (hd').call rfl rfl, ?_⟩ | ((refine ⟨_, (hil).call rfl rfl, ?_⟩); (rintro _ _ ⟨rfl, rfl⟩)) | refine ⟨_, fun _ => (hil).call rfl rfl, ?_⟩ | refine ⟨_, fun _ _ => (hil).call rfl rfl, ?_⟩ | ((refine ⟨_, (hva).call rfl rfl, ?_⟩); (rintro _ _ ⟨rfl, rfl⟩)) | refine ⟨_, fun _ => (hva).call rfl rfl, ?_⟩ | refine ⟨_, fun _ _ => (hva).call rfl rfl, ?_⟩ | ((refine ⟨_, (hvb).call rfl rfl, ?_⟩); (rintro _ _ ⟨rfl, rfl⟩)) | refine ⟨_, fun _ => (hvb).call rfl rfl, ?_⟩ | refine ⟨_, fun _ _ => (hvb).call rfl rfl, ?_⟩ | fail); conv => whnf) | (refine AW_cond rfl (fun _ => ?_) (fun hb => absurd hb (by decide))) | (refine AW_cond rfl (fun hb => absurd hb (by decide)) (fun _ => ?_)) | (refine AW_cond rfl (fun hb => ?_) (fun hb => ?_) <;> first | (replace hb := of_decide_eq_true hb; try simp only [List.length_map] at hb) | (replace hb := of_decide_eq_false hb; try simp only [List.length_map] at hb) | (simp only [List.length_map, bne_iff_ne, ne_eq, beq_iff_eq, bne_eq_false_iff_eq, beq_eq_false_iff_ne, decide_eq_true_eq, decide_eq_false_iff_not, Bool.not_eq_true', Bool.not_eq_false', Int.natCast_inj] at hb) | skip) | ((first | refine ⟨_, wrap_of (by first | omega | (simp only [List.length_map]; omega)), ?_⟩ | refine ⟨IntKind.wrap _ _, rfl, ?_⟩ | fail); conv => whnf) | ((refine And.intro (by first | exact trivial | rfl | exact gd_self | exact gd_any (by omega) | exact fun h => h | decide | (constructor <;> simp [chunk, maxLen]; done) | (intro h; simpa using h)) ?_); conv => whnf) | ((first | with_reducible refine Exists.intro _ (And.intro (gd_any (And.intro (by omega) (map_get (by omega)))) ?_) | with_reducible refine And.intro (gd_any (And.intro (by omega) (And.intro (by first | omega | (simp only [List.length_map]; omega)) (by first | omega | (simp only [List.length_map]; omega) | (simp only [List.length_set, List.length_map]; omega))))) ?_ | with_reducible refine Exists.intro _ (And.intro (gd_any (map_get' (by omega) (by omega))) (And.intro (And.intro (Nat.le_of_ble_eq_true rfl) rfl) ?_)) | with_reducible refine Exists.intro _ (And.intro (gd_any (And.intro (by omega) (map_get' (by omega) (by omega)))) ?_) | with_reducible refine And.intro (And.intro (by omega) (And.intro (by first | omega | (simp only [List.length_map]; omega)) (by first | omega | (simp only [List.length_map, List.length_set]; omega)))) ?_ | with_reducible refine Exists.intro _ (And.intro (map_get' (by omega) (by omega)) (And.intro (Nat.le_of_ble_eq_true rfl) ?_)) | fail); conv => whnf) | ((refine And.intro (by refine ⟨?_, ?_, ?_⟩ <;> simp [chunk, maxLen] <;> omega) ?_); conv => whnf) | (refine fun hln => ?_; (try rw [List.length_map] at hln); unfold maxLen at hln; conv => whnf) | fail
      refine AW_imp (Imp.nil 15 3 1 (fr' := [(16, iv .i64 0), (15, .x (.o 15 0 0)), (2, bytesAV bs), (3, .x (.b 3 0)), (4, .x (.b 4 0))]) (σ' := [(3, netCells a), (4, netCells b)]) rfl ?_ ?_ rfl rfl) ?_
      · exact ⟨⟨_, rfl, .inl rfl⟩, ⟨_, rfl, .inr ⟨rfl, rfl⟩⟩, ⟨_, rfl, .inl rfl⟩, ⟨_, rfl, .inl rfl⟩, ⟨_, rfl, .inl rfl⟩, trivial⟩
      · exact ⟨⟨_, rfl, .inl rfl⟩, ⟨_, rfl, .inl rfl⟩, trivial⟩
      refine AW_loop (fun i : Nat => [(16, iv .i64 i), (15, .x (.o 15 i i)), (2, bytesAV bs), (3, .x (.b 3 0)), (4, .x (.b 4 0))])
        (fun i => [(15, .chain 3 1 i ((othR bs N i).map iPV)), (3, netCells a), (4, netCells b)]) (fun i => i ≤ lim) (fun i => lim - i) 0 (Nat.zero_le _) (Imp.forget (by repeat' (first | exact trivial | refine And.intro ?_ ?_ | rfl | exact ivE (by first | omega | (simp only [List.length_map, List.length_append, List.length_singleton] <;> omega)) | exact oE (by first | omega | (simp only [List.length_map, List.length_append, List.length_singleton] <;> omega)))) (by repeat' (first | exact trivial | refine And.intro ?_ ?_ | rfl | exact ivE (by first | omega | (simp only [List.length_map, List.length_append, List.length_singleton] <;> omega)) | exact oE (by first | omega | (simp only [List.length_map, List.length_append, List.length_singleton] <;> omega)))) (by kernel_rfl) (by kernel_rfl) (by kernel_rfl)) ?_
      intro i hil'
      rcases Nat.lt_or_ge i lim with hil2 | hil2
      · obtain ⟨x, hx⟩ : ∃ x, bs[i]? = some x := ⟨_, List.getElem?_eq_getElem (by omega)⟩
        have hx0 := hbs x (List.mem_of_getElem? hx)
        have hrem : x.tmod (N : Int) = x % (N : Int) := Int.tmod_eq_emod_of_nonneg hx0.1
        have l1 := othR_len bs N i
        have hxg : bs.getD i 0 = x := by rw [List.getD_eq_getElem?_getD, hx]; rfl
        have e1 : ((othR bs N i).map iPV).take i ++ [[PV.v (.int .i64 (x % (N : Int)))]] = (othR bs N (i + 1)).map iPV := by
          rw [othR_succ, List.map_append, List.take_of_length_le (by simp [l1]), hxg]; rfl
        clear hrunO hrunP hcmp hd hd'
        repeat' first | with_reducible refine AW_seq ?_ | with_reducible refine AW_block ?_ | with_reducible refine AW_scope ?_ | ((first | with_reducible refine AW_skip ?_ | with_reducible refine AW_label ?_ | with_reducible refine AW_exit ?_ | with_reducible refine AW_ret ?_ | with_reducible refine AW_region hTt ?_ | refine AW_draw hTt hMix (id := 13) 13 false [0, 0, 3, 7, 15, 31, 63, 63, 255, 511, 63, 1087, 3135, 8191, 16383] (by kernel_rfl) rfl rfl (by kernel_rfl) ?_ | refine AW_draw hTt hMix (id := 15) 7 false [0, 0, 0, 7, 0, 15, 0, 127, 255, 511] (by kernel_rfl) rfl rfl (by kernel_rfl) ?_ | refine AW_draw hTt hMix (id := 17) 16 false [0, 0, 3, 7, 0, 0, 48, 112, 255, 511, 1023, 1023, 4095, 1023, 1023, 25599, 65535, 131071, 262143, 524287, 1048575, 2097151] (by kernel_rfl) rfl rfl (by kernel_rfl) ?_ | refine AW_draw hTt hMix (id := 22) 11 true [0, 0, 0, 6, 14, 30, 0, 64, 192, 510, 1022, 2047, 4095] (by kernel_rfl) rfl rfl (by kernel_rfl) ?_ | refine LateGo.mk ⟨_, rfl, ?_⟩ | refine LateGo.mk ⟨.x .j, rfl, ?_⟩ | fail); conv => whnf) | (exact absurd hb (by omega)) | (exfalso; simp at hb; omega) | ((first | with_reducible refine Exists.intro _ (And.intro (gd_any (And.intro (by omega) (map_some hx))) ?_) | ((refine ⟨_, (htwo).call rfl rfl, ?_⟩); (rintro _ _ ⟨rfl, rfl⟩)) | refine ⟨_, fun _ => (htwo).call rfl rfl, ?_⟩ | refine ⟨_, fun _ _ => (htwo).call rfl rfl, ?_⟩ | refine And.intro (gd_none (by omega)) ?_ | refine ⟨_, hrem, ?_⟩ | fail); conv => whnf) | ((refine And.intro (by refine ⟨?_, ?_, ?_⟩ <;> simp [chunk, maxLen] <;> omega) ?_); conv => whnf) | (refine AW_cond rfl (fun _ => ?_) (fun hb => absurd hb (by decide))) | (refine AW_cond rfl (fun hb => absurd hb (by decide)) (fun _ => ?_)) | (refine AW_cond rfl (fun hb => ?_) (fun hb => ?_) <;> first | (replace hb := of_decide_eq_true hb; try simp only [List.length_map] at hb) | (replace hb := of_decide_eq_false hb; try simp only [List.length_map] at hb) | (simp only [List.length_map, bne_iff_ne, ne_eq, beq_iff_eq, bne_eq_false_iff_eq, beq_eq_false_iff_ne, decide_eq_true_eq, decide_eq_false_iff_not, Bool.not_eq_true', Bool.not_eq_false', Int.natCast_inj] at hb) | skip) | ((first | refine ⟨_, wrap_of (by first | omega | (simp only [List.length_map]; omega)), ?_⟩ | refine ⟨IntKind.wrap _ _, rfl, ?_⟩ | fail); conv => whnf) | ((refine And.intro (by first | exact trivial | rfl | exact gd_self | exact gd_any (by omega) | exact fun h => h | decide | (constructor <;> simp [chunk, maxLen]; done) | (intro h; simpa using h)) ?_); conv => whnf) | ((first | with_reducible refine Exists.intro _ (And.intro (gd_any (And.intro (by omega) (map_get (by omega)))) ?_) | with_reducible refine And.intro (gd_any (And.intro (by omega) (And.intro (by first | omega | (simp only [List.length_map]; omega)) (by first | omega | (simp only [List.length_map]; omega) | (simp only [List.length_set, List.length_map]; omega))))) ?_ | with_reducible refine Exists.intro _ (And.intro (gd_any (map_get' (by omega) (by omega))) (And.intro (And.intro (Nat.le_of_ble_eq_true rfl) rfl) ?_)) | with_reducible refine Exists.intro _ (And.intro (gd_any (And.intro (by omega) (map_get' (by omega) (by omega)))) ?_) | with_reducible refine And.intro (And.intro (by omega) (And.intro (by first | omega | (simp only [List.length_map]; omega)) (by first | omega | (simp only [List.length_map, List.length_set]; omega)))) ?_ | with_reducible refine Exists.intro _ (And.intro (map_get' (by omega) (by omega)) (And.intro (Nat.le_of_ble_eq_true rfl) ?_)) | fail); conv => whnf) | ((refine And.intro (by refine ⟨?_, ?_, ?_⟩ <;> simp [chunk, maxLen] <;> omega) ?_); conv => whnf) | (refine fun hln => ?_; (try rw [List.length_map] at hln); unfold maxLen at hln; conv => whnf) | fail
        exact ⟨i + 1, hil2, by omega, (Imp.forget (by repeat' (first | exact trivial | refine And.intro ?_ ?_ | exact chE e1 | rfl | exact ivE (by first | omega | (simp only [List.length_map, List.length_append, List.length_singleton] <;> omega)) | exact oE (by first | omega | (simp only [List.length_map, List.length_append, List.length_singleton] <;> omega)))) (by repeat' (first | exact trivial | refine And.intro ?_ ?_ | exact chE e1 | rfl | exact ivE (by first | omega | (simp only [List.length_map, List.length_append, List.length_singleton] <;> omega)) | exact oE (by first | omega | (simp only [List.length_map, List.length_append, List.length_singleton] <;> omega)))) (by kernel_rfl) (by kernel_rfl) (by kernel_rfl))⟩
      have hie : i = lim := by omega
      subst hie
      have l1 := othR_len bs N i
      have f1 : PV.s 1 (((othR bs N i).map iPV).take i) = intsPV (othR bs N i) := by rw [List.take_of_length_le (by simp [l1])]; rfl
      refine AW_imp (Imp.freeze 15 (fr' := [(16, iv .i64 i), (15, sl (othR bs N i)), (2, bytesAV bs), (3, .x (.b 3 0)), (4, .x (.b 4 0))]) (σ' := [(3, netCells a), (4, netCells b)]) rfl
        ⟨⟨_, rfl, .inl rfl⟩, ⟨_, rfl, .inr ⟨i, rfl, by simp [l1], congrArg (fun x => AV.x (.d x)) f1.symm⟩⟩, ⟨_, rfl, .inl rfl⟩, ⟨_, rfl, .inl rfl⟩, ⟨_, rfl, .inl rfl⟩, trivial⟩ ⟨rfl, rfl, trivial⟩ rfl rfl) ?_
      repeat' first | with_reducible refine AW_seq ?_ | with_reducible refine AW_block ?_ | with_reducible refine AW_scope ?_ | ((first | with_reducible refine AW_skip ?_ | with_reducible refine AW_label ?_ | with_reducible refine AW_exit ?_ | with_reducible refine AW_ret ?_ | with_reducible refine AW_region hTt ?_ | refine AW_draw hTt hMix (id := 13) 13 false [0, 0, 3, 7, 15, 31, 63, 63, 255, 511, 63, 1087, 3135, 8191, 16383] (by kernel_rfl) rfl rfl (by kernel_rfl) ?_ | refine AW_draw hTt hMix (id := 15) 7 false [0, 0, 0, 7, 0, 15, 0, 127, 255, 511] (by kernel_rfl) rfl rfl (by kernel_rfl) ?_ | refine AW_draw hTt hMix (id := 17) 16 false [0, 0, 3, 7, 0, 0, 48, 112, 255, 511, 1023, 1023, 4095, 1023, 1023, 25599, 65535, 131071, 262143, 524287, 1048575, 2097151] (by kernel_rfl) rfl rfl (by kernel_rfl) ?_ | refine AW_draw hTt hMix (id := 22) 11 true [0, 0, 0, 6, 14, 30, 0, 64, 192, 510, 1022, 2047, 4095] (by kernel_rfl) rfl rfl (by kernel_rfl) ?_ | refine LateGo.mk ⟨_, rfl, ?_⟩ | refine LateGo.mk ⟨.x .j, rfl, ?_⟩ | fail); conv => whnf) | (exact absurd hb (by omega)) | (exfalso; simp at hb; omega) | ((first | ((refine ⟨_, (hrunO).call rfl rfl, ?_⟩); (rintro _ _ ⟨rfl, rfl⟩)) | refine ⟨_, fun _ => (hrunO).call rfl rfl, ?_⟩ | refine ⟨_, fun _ _ => (hrunO).call rfl rfl, ?_⟩ | ((refine ⟨_, (hrunP).call rfl rfl, ?_⟩); (rintro _ _ ⟨rfl, rfl⟩)) | refine ⟨_, fun _ => (hrunP).call rfl rfl, ?_⟩ | refine ⟨_, fun _ _ => (hrunP).call rfl rfl, ?_⟩ | ((refine ⟨_, (hcmp).call rfl rfl, ?_⟩); (rintro _ _ ⟨rfl, rfl⟩)) | refine ⟨_, fun _ => (hcmp).call rfl rfl, ?_⟩ | refine ⟨_, fun _ _ => (hcmp).call rfl rfl, ?_⟩ | ((refine ⟨_, (awake_fn).call rfl rfl, ?_⟩); (rintro _ _ ⟨rfl, rfl⟩)) | refine ⟨_, fun _ => (awake_fn).call rfl rfl, ?_⟩ | refine ⟨_, fun _ _ => (awake_fn).call rfl rfl, ?_⟩ | fail); conv => whnf) | (refine AW_cond rfl (fun _ => ?_) (fun hb => absurd hb (by decide))) | (refine AW_cond rfl (fun hb => absurd hb (by decide)) (fun _ => ?_)) | (refine AW_cond rfl (fun hb => ?_) (fun hb => ?_) <;> first | (replace hb := of_decide_eq_true hb; try simp only [List.length_map] at hb) | (replace hb := of_decide_eq_false hb; try simp only [List.length_map] at hb) | (simp only [List.length_map, bne_iff_ne, ne_eq, beq_iff_eq, bne_eq_false_iff_eq, beq_eq_false_iff_ne, decide_eq_true_eq, decide_eq_false_iff_not, Bool.not_eq_true', Bool.not_eq_false', Int.natCast_inj] at hb) | skip) | ((first | refine ⟨_, wrap_of (by first | omega | (simp only [List.length_map]; omega)), ?_⟩ | refine ⟨IntKind.wrap _ _, rfl, ?_⟩ | fail); conv => whnf) | ((refine And.intro (by first | exact trivial | rfl | exact gd_self | exact gd_any (by omega) | exact fun h => h | decide | (constructor <;> simp [chunk, maxLen]; done) | (intro h; simpa using h)) ?_); conv => whnf) | ((first | with_reducible refine Exists.intro _ (And.intro (gd_any (And.intro (by omega) (map_get (by omega)))) ?_) | with_reducible refine And.intro (gd_any (And.intro (by omega) (And.intro (by first | omega | (simp only [List.length_map]; omega)) (by first | omega | (simp only [List.length_map]; omega) | (simp only [List.length_set, List.length_map]; omega))))) ?_ | with_reducible refine Exists.intro _ (And.intro (gd_any (map_get' (by omega) (by omega))) (And.intro (And.intro (Nat.le_of_ble_eq_true rfl) rfl) ?_)) | with_reducible refine Exists.intro _ (And.intro (gd_any (And.intro (by omega) (map_get' (by omega) (by omega)))) ?_) | with_reducible refine And.intro (And.intro (by omega) (And.intro (by first | omega | (simp only [List.length_map]; omega)) (by first | omega | (simp only [List.length_map, List.length_set]; omega)))) ?_ | with_reducible refine Exists.intro _ (And.intro (map_get' (by omega) (by omega)) (And.intro (Nat.le_of_ble_eq_true rfl) ?_)) | fail); conv => whnf) | ((refine And.intro (by refine ⟨?_, ?_, ?_⟩ <;> simp [chunk, maxLen] <;> omega) ?_); conv => whnf) | (refine fun hln => ?_; (try rw [List.length_map] at hln); unfold maxLen at hln; conv => whnf) | fail
      exact (show ∀ b, b = true → some (bv b) = some (bv true) from fun b h => by rw [h]) _ (by simp)
end Go.Proofs.YtfghooojingdhaaDoor
