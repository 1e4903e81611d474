/- What the functions that this law reaches return: part 0. No condition. -/
import Derived.Test.YtfghooojingdhaaDoorM05
set_option linter.all false
namespace Go.Proofs.YtfghooojingdhaaDoor
open Go Go.QL
set_option maxHeartbeats 1600000
def runS (step : StepT) : Int × Int → List Int → Int × Int
  | p, [] => p
  | p, x :: r => runS step (step p x).1 r
def quiet (step : StepT) : Int × Int → List Int → Prop
  | _, [] => True
  | p, x :: r => (step p x).2 = false ∧ quiet step (step p x).1 r
theorem runS_app (step : StepT) : ∀ (l m : List Int) (p : Int × Int), runS step p (l ++ m) = runS step (runS step p l) m
  | [], _, _ => rfl
  | x :: r, m, p => runS_app step r m (step p x).1
theorem quiet_app (step : StepT) : ∀ (l m : List Int) (p : Int × Int), quiet step p (l ++ m) ↔ quiet step p l ∧ quiet step (runS step p l) m
  | [], _, _ => by simp [quiet, runS]
  | x :: r, m, p => by simp only [List.cons_append, quiet, runS, quiet_app step r m, and_assoc]
structure BInv (step : StepT) (N : Nat) (E : List Ent) (i x : Nat) : Prop where
  s : SInv N E
  run : ∀ e ∈ E, runS step (0, 0) e.path = e.p ∧ quiet step (0, 0) e.path
  srt : ∀ (j k : Nat) (a b : Ent), E[j]? = some a → E[k]? = some b → j ≤ k → a.path.length ≤ b.path.length
  top : ∀ (k : Nat) (a b : Ent), E[i]? = some a → E[k]? = some b → b.path.length ≤ a.path.length + 1
  cls : ∀ (j : Nat) (a : Ent) (y : Nat), E[j]? = some a → y < N → (j < i ∨ j = i ∧ y < x) → (step a.p y).2 = false ∧ ∃ e ∈ E, e.p = (step a.p y).1 ∧ e.path.length ≤ a.path.length + 1
theorem BInv.init (step : StepT) (N : Nat) : BInv step N [ent0] 0 0 where
  s := SInv.init N
  run := fun e he => by rw [List.mem_singleton] at he; subst he; exact ⟨rfl, trivial⟩
  srt := fun j k a b h1 h2 _ => by
    have := List.mem_singleton.1 (List.mem_of_getElem? h1)
    have := List.mem_singleton.1 (List.mem_of_getElem? h2)
    subst_vars; exact Nat.le_refl _
  top := fun k a b h1 h2 => by
    have := List.mem_singleton.1 (List.mem_of_getElem? h1)
    have := List.mem_singleton.1 (List.mem_of_getElem? h2)
    subst_vars; exact Nat.le_succ _
  cls := fun j a y _ _ h => by omega
theorem BInv.near {step : StepT} {N : Nat} {E : List Ent} {i x : Nat} (h : BInv step N E i x) : ∀ (n : Nat) (m : List Int), m.length = n → (∀ y ∈ m, 0 ≤ y ∧ y < (N : Int)) →
    (i < E.length → ∀ a, E[i]? = some a → n ≤ a.path.length) → (i < E.length ∨ E.length ≤ i) → quiet step (0, 0) m ∧ ∃ e ∈ E, e.p = runS step (0, 0) m ∧ e.path.length ≤ n
  | 0, m, hm, _, _, _ => by
    rw [List.length_eq_zero_iff.1 hm]
    exact ⟨trivial, ent0, List.mem_of_getElem? h.s.h0, rfl, Nat.le_refl _⟩
  | n + 1, m, hm, hy, hl, hi => by
    have hne : m ≠ [] := by intro h; rw [h] at hm; simp at hm
    obtain ⟨m', y, rfl⟩ : ∃ m' y, m = m' ++ [y] := ⟨m.dropLast, m.getLast hne, (List.dropLast_concat_getLast hne).symm⟩
    have hm' : m'.length = n := by simpa using hm
    obtain ⟨hq, e, he, hep, hel⟩ := BInv.near h n m' hm' (fun z hz => hy z (by simp [hz])) (fun h1 a ha => by have := hl h1 a ha; omega) hi
    obtain ⟨hy0, hyN⟩ := hy y (by simp)
    obtain ⟨k, hk, rfl⟩ := List.getElem_of_mem he
    have hk? : E[k]? = some E[k] := List.getElem?_eq_getElem hk
    have hki : k < i := by
      rcases hi with hi | hi
      · have ha := List.getElem?_eq_getElem hi
        have h1 := hl hi _ ha
        rcases Nat.lt_or_ge k i with h | hge
        · exact h
        · have := h.srt i k _ _ ha hk? hge
          omega
      · omega
    obtain ⟨c1, e2, he2, hp2, hl2⟩ := h.cls k E[k] y.toNat hk? (by omega) (.inl hki)
    rw [hep, show ((y.toNat : Nat) : Int) = y by omega] at c1 hp2
    refine ⟨(quiet_app _ _ _ _).2 ⟨hq, c1, trivial⟩, e2, he2, ?_, by omega⟩
    rw [hp2, runS_app]; rfl
def Found (step : StepT) (N : Nat) : Option (List Int) → Prop
  | some l => ∃ (m : List Int) (x : Int), l = m ++ [x] ∧ (∀ y ∈ l, 0 ≤ y ∧ y < (N : Int)) ∧ quiet step (0, 0) m ∧ (step (runS step (0, 0) m) x).2 = true ∧
      ∀ o : List Int, o.length < l.length → (∀ y ∈ o, 0 ≤ y ∧ y < (N : Int)) → quiet step (0, 0) o
  | none => ∀ o : List Int, (∀ y ∈ o, 0 ≤ y ∧ y < (N : Int)) → quiet step (0, 0) o
theorem bfs_found {step : StepT} (hst : ∀ p x, InR (step p x).1) {N : Nat} (hN : N ≤ 64) : ∀ (f : Nat) (E : List Ent) (i x : Nat), BInv step N E i x → i ≤ E.length → x ≤ N → bound i x < f → Found step N (bfs step N f E i x)
  | 0, _, _, _, _, _, _, h => by omega
  | f + 1, E, i, x, hE, hiE, hxN, hf => by
    have hle := hE.s.le
    unfold bfs
    by_cases hi : i < E.length
    · rw [if_pos hi]
      have he? : E[i]? = some (E.getD i ent0) := by rw [List.getD_eq_getElem?_getD, List.getElem?_eq_getElem hi]; rfl
      generalize E.getD i ent0 = e at he?
      have hem : e ∈ E := List.mem_of_getElem? he?
      obtain ⟨hr, hq⟩ := hE.run e hem
      by_cases hx : x < N
      · rw [if_pos hx]
        by_cases hd : (step e.p x).2 = true
        · rw [if_pos hd]
          refine ⟨e.path, x, rfl, ?_, hq, by rw [hr]; exact hd, ?_⟩
          · intro y hy
            rw [List.mem_append, List.mem_singleton] at hy
            rcases hy with hy | rfl
            · exact (hE.s.pth i e he?).2 y hy
            · omega
          · intro o ho hoy
            rw [List.length_append, List.length_singleton] at ho
            exact (hE.near o.length o rfl hoy (fun _ a ha => by rw [he?] at ha; cases ha; omega) (.inl hi)).1
        · rw [if_neg hd]
          have hd' : (step e.p x).2 = false := by simpa using hd
          by_cases hs : seenE E (step e.p x).1 = true
          · rw [if_pos hs]
            refine bfs_found hst hN f E i (x + 1) ⟨hE.s, hE.run, hE.srt, hE.top, ?_⟩ hiE hx (by unfold bound at *; omega)
            intro j a y ha hy hj
            by_cases hn : j = i ∧ y = x
            · obtain ⟨rfl, rfl⟩ := hn
              rw [he?] at ha; cases ha
              obtain ⟨k, b, hb, hbp⟩ := seen_yes hs
              exact ⟨hd', b, List.mem_of_getElem? hb, hbp, hE.top k e b he? hb⟩
            · exact hE.cls j a y ha hy (by omega)
          · rw [if_neg hs]
            have hs' : seenE E (step e.p x).1 = false := by simpa using hs
            have hget : ∀ (j : Nat) (a : Ent), (E ++ [⟨(step e.p x).1, e.p, x, e.path ++ [(x : Int)]⟩])[j]? = some a → (E[j]? = some a ∧ j < E.length) ∨ (j = E.length ∧ a = ⟨(step e.p x).1, e.p, x, e.path ++ [(x : Int)]⟩) := by
              intro j a ha
              by_cases hj : j < E.length
              · rw [List.getElem?_append_left hj] at ha; exact .inl ⟨ha, hj⟩
              · rw [List.getElem?_append_right (by omega)] at ha
                have := (List.getElem?_eq_some_iff.1 ha).1
                have hj0 : j - E.length = 0 := by simpa using this
                rw [hj0] at ha; cases ha
                exact .inr ⟨by omega, rfl⟩
            refine bfs_found hst hN f _ i (x + 1) ⟨hE.s.step he? hx (hst _ _) hs', ?_, ?_, ?_, ?_⟩ (by rw [List.length_append]; omega) hx (by unfold bound at *; omega)
            · intro a ha
              rw [List.mem_append, List.mem_singleton] at ha
              rcases ha with ha | rfl
              · exact hE.run a ha
              · refine ⟨?_, (quiet_app _ _ _ _).2 ⟨hq, by rw [hr]; exact hd', trivial⟩⟩
                rw [runS_app, hr]; rfl
            · intro j k a b ha hb hjk
              rcases hget j a ha with ⟨ha, la⟩ | ⟨ha, rfl⟩ <;> rcases hget k b hb with ⟨hb, lb⟩ | ⟨hb, rfl⟩
              · exact hE.srt j k a b ha hb hjk
              · have := hE.top j e a he? ha
                simp only [List.length_append, List.length_singleton]; exact this
              · omega
              · exact Nat.le_refl _
            · intro k a b ha hb
              rcases hget i a ha with ⟨ha, _⟩ | ⟨ha, _⟩
              · rw [he?] at ha; cases ha
                rcases hget k b hb with ⟨hb, _⟩ | ⟨_, rfl⟩
                · exact hE.top k e b he? hb
                · simp
              · omega
            · intro j a y ha hy hj
              rcases hget j a ha with ⟨ha', la⟩ | ⟨ha', _⟩
              · by_cases hn : j = i ∧ y = x
                · obtain ⟨rfl, rfl⟩ := hn
                  rw [he?] at ha'; cases ha'
                  exact ⟨hd', _, List.mem_append_right _ (List.mem_singleton.2 rfl), rfl, by simp⟩
                · obtain ⟨c1, b, hb, c2, c3⟩ := hE.cls j a y ha' hy (by omega)
                  exact ⟨c1, b, List.mem_append_left _ hb, c2, c3⟩
              · omega
      · rw [if_neg hx]
        have hxe : x = N := by omega
        subst hxe
        refine bfs_found hst hN f E (i + 1) 0 ⟨hE.s, hE.run, hE.srt, ?_, ?_⟩ hi (Nat.zero_le _) (by unfold bound at *; omega)
        · intro k a b ha hb
          have h1 := hE.top k e b he? hb
          have h2 := hE.srt i (i + 1) e a he? ha (by omega)
          omega
        · intro j a y ha hy hj
          exact hE.cls j a y ha hy (by omega)
    · rw [if_neg hi]
      intro o ho
      exact (hE.near o.length o rfl ho (fun h => absurd h hi) (.inr (by omega))).1
theorem srch_found {step : StepT} (hst : ∀ p x, InR (step p x).1) {N : Nat} (hN : N ≤ 64) : Found step N (srch step N) :=
  bfs_found hst hN fuel0 [ent0] 0 0 (BInv.init step N) (Nat.zero_le _) (Nat.zero_le _) (by decide)
theorem run_pair (a b : NetT) (f g : FaultT) (l : List Int) : ∀ t, t ≤ l.length → runS (stepS a f b g) (0, 0) (l.take t) = (stR a f l t, stR b g l t)
  | 0, _ => by simp [runS, stR]
  | t + 1, h => by
    rw [List.take_add_one, List.getElem?_eq_getElem (show t < l.length by omega), runS_app, run_pair a b f g l t (by omega)]
    simp only [Option.toList, runS, stepS, stR, getDI (show t < l.length by omega)]
theorem quiet_pair (a b : NetT) (f g : FaultT) (l : List Int) : ∀ t, t ≤ l.length → (quiet (stepS a f b g) (0, 0) (l.take t) ↔ outsR a f l t = outsR b g l t)
  | 0, _ => by simp [quiet, outsR]
  | t + 1, h => by
    rw [List.take_add_one, List.getElem?_eq_getElem (show t < l.length by omega), quiet_app, run_pair a b f g l t (by omega), quiet_pair a b f g l t (by omega), outsR_succ, outsR_succ]
    have hl : (outsR a f l t).length = (outsR b g l t).length := by rw [outsR_len, outsR_len]
    simp only [Option.toList, quiet, stepS, and_true, getDI (show t < l.length by omega)]
    constructor
    · rintro ⟨h1, h2⟩
      rw [h1]; congr 2; simpa using h2
    · intro h1
      obtain ⟨h2, h3⟩ := List.append_inj h1 hl
      exact ⟨h2, by simpa using h3⟩
theorem quiet_all (a b : NetT) (f g : FaultT) (l : List Int) : quiet (stepS a f b g) (0, 0) l ↔ outsR a f l l.length = outsR b g l l.length := by
  have := quiet_pair a b f g l l.length (Nat.le_refl _)
  rw [List.take_of_length_le (Nat.le_refl _)] at this
  exact this
end Go.Proofs.YtfghooojingdhaaDoor
namespace Go.Proofs.YtfghooojingdhaaDoor
open Go Go.QL
set_option maxHeartbeats 1600000
def moreN (n : NetT) (g : GateT) : NetT := ⟨n.inn, n.gates ++ [g], n.out⟩
theorem delays_app : ∀ (a b : List GateT), delays (a ++ b) = delays a + delays b
  | [], b => by simp [delays]
  | x :: r, b => by
    have ih := delays_app r b
    simp only [List.cons_append, delays]
    split <;> omega
theorem delays_take_lt {l : List GateT} {i : Nat} (h : i < l.length) (hk : (l.getD i gate0).kind = 5) : delays (l.take i) < delays l := by
  have e : l = l.take i ++ (l.getD i gate0 :: l.drop (i + 1)) := by
    rw [List.getD_eq_getElem?_getD, List.getElem?_eq_getElem h, Option.getD_some, ← List.drop_eq_getElem_cons h, List.take_append_drop]
  have h2 : delays l = delays (l.take i) + delays (l.getD i gate0 :: l.drop (i + 1)) := by rw [← delays_app, ← e]
  have h3 : ∀ (x : GateT) (r : List GateT), x.kind = 5 → delays (x :: r) = delays r + 1 := fun x r hx => by simp only [delays]; rw [if_pos hx, Nat.add_comm]
  have h4 := h3 _ (l.drop (i + 1)) hk
  omega
theorem more_get (n : NetT) (g : GateT) {i : Nat} (h : i < n.gates.length) : (moreN n g).gates.getD i gate0 = n.gates.getD i gate0 := by
  unfold moreN
  rw [List.getD_eq_getElem?_getD, List.getD_eq_getElem?_getD, List.getElem?_append_left h]
theorem more_take (n : NetT) (g : GateT) {i : Nat} (h : i ≤ n.gates.length) : (moreN n g).gates.take i = n.gates.take i := by
  unfold moreN
  rw [List.take_append_of_le_length h]
theorem bit_mod {a b : Int} {j d : Nat} (h : b % 2 ^ d = a) (hj : j < d) : b / 2 ^ j % 2 = a / 2 ^ j % 2 := by
  obtain ⟨k, rfl⟩ : ∃ k, d = j + 1 + k := ⟨d - (j + 1), by omega⟩
  have hp : (0 : Int) < 2 ^ j := Int.pow_pos (by decide)
  have e : (2 : Int) ^ (j + 1 + k) = 2 ^ j * (2 * 2 ^ k) := by rw [Int.pow_add, Int.pow_succ, Int.mul_assoc]
  have hb : b = a + 2 ^ j * (2 * (2 ^ k * (b / 2 ^ (j + 1 + k)))) := by
    have := Int.emod_add_mul_ediv b (2 ^ (j + 1 + k))
    rw [h] at this
    rw [← Int.mul_assoc 2, ← Int.mul_assoc, ← e]
    exact this.symm
  generalize 2 ^ k * (b / 2 ^ (j + 1 + k)) = q at hb
  rw [hb, Int.add_mul_ediv_left _ _ (Int.ne_of_gt hp)]
  omega
theorem more_sig (n : NetT) (g : GateT) (f : FaultT) {st st' : Int} (h : st' % 2 ^ delays n.gates = st) (x : Int) : ∀ i, i ≤ n.gates.length → sigR (moreN n g) f st' x i = sigR n f st x i
  | 0, _ => rfl
  | i + 1, hi => by
    simp only [sigR]
    rw [more_sig n g f h x i (by omega), more_get n g (by omega), more_take n g (by omega)]
    congr 2
    show sgn f (n.inn + i) _ = sgn f (n.inn + i) _
    congr 1
    by_cases hk : (n.gates.getD i gate0).kind = 5
    · rw [bit_mod h (delays_take_lt (by omega) hk)]
    · unfold gateR
      simp only [hk, if_false]
theorem more_beat {n : NetT} (ok : NetOK n) (hdl : ∀ j (h : j < n.gates.length), n.gates[j].kind = 5 → n.gates[j].a < n.inn + n.gates.length) (g : GateT) {st st' : Int} (h : st' % 2 ^ delays n.gates = st) (x : Int) :
    (beatR (moreN n g) fine st' x).1 % 2 ^ delays n.gates = (beatR n fine st x).1 ∧ (beatR (moreN n g) fine st' x).2 = (beatR n fine st x).2 := by
  have h1 := ok.h1
  have hs : sigR (moreN n g) fine st' x (moreN n g).gates.length = sigR n fine st x n.gates.length ++ [(sigR (moreN n g) fine st' x (moreN n g).gates.length).getD (n.inn.toNat + n.gates.length) 0] := by
    have hl : (moreN n g).gates.length = n.gates.length + 1 := by simp [moreN]
    rw [hl]
    have hlen := sigR_len n fine st x n.gates.length
    simp only [sigR]
    rw [more_sig n g fine h x n.gates.length (Nat.le_refl _)]
    congr 2
    rw [getD_app, if_neg (by omega), if_pos (by omega)]
  generalize (sigR (moreN n g) fine st' x (moreN n g).gates.length).getD (n.inn.toNat + n.gates.length) 0 = v at hs
  have hlen := sigR_len n fine st x n.gates.length
  have hb := beatR_st ok fine_ok st x
  unfold beatR at hb ⊢
  rw [hs]
  dsimp only at hb ⊢
  generalize sigR n fine st x n.gates.length = s at hlen hb ⊢
  have hget : ∀ k : Nat, k < n.inn.toNat + n.gates.length → (s ++ [v]).getD k 0 = s.getD k 0 := fun k hk => by rw [getD_app, if_pos (by omega)]
  have hnext : ∀ i, i ≤ n.gates.length → nextR (moreN n g) (s ++ [v]) i = nextR n s i := by
    intro i
    induction i with
    | zero => intro _; rfl
    | succ i ih =>
      intro hi
      simp only [nextR]
      rw [ih (by omega), more_get n g (by omega), more_take n g (by omega)]
      by_cases hk : (n.gates.getD i gate0).kind = 5
      · have hgi : n.gates.getD i gate0 = n.gates[i] := by rw [List.getD_eq_getElem?_getD, List.getElem?_eq_getElem (by omega)]; rfl
        have ha := ok.ha i (by omega)
        have hd := hdl i (by omega) (by rw [← hgi]; exact hk)
        rw [hgi] at hk ⊢
        rw [hget _ (by omega)]
      · rw [if_neg hk, if_neg hk]
  have hout : ∀ i, i ≤ n.out.length → outR (moreN n g) (s ++ [v]) i = outR n s i := by
    intro i
    induction i with
    | zero => intro _; rfl
    | succ i ih =>
      intro hi
      have ho := ok.ho i (by omega)
      have hgo : n.out.getD i 0 = n.out[i] := getDI (by omega)
      simp only [outR]
      rw [ih (by omega)]
      show _ + (s ++ [v]).getD (n.out.getD i 0).toNat 0 * _ = _
      rw [hget _ (by rw [hgo]; omega)]
  refine ⟨?_, hout _ (Nat.le_refl _)⟩
  have hl : (moreN n g).gates.length = n.gates.length + 1 := by simp [moreN]
  rw [hl]
  simp only [nextR]
  rw [hnext _ (Nat.le_refl _), more_take n g (Nat.le_refl _), List.take_of_length_le (Nat.le_refl _)]
  split
  · rw [Int.add_mul_emod_self_right]; exact Int.emod_eq_of_lt hb.1 hb.2
  · rw [Int.add_zero]; exact Int.emod_eq_of_lt hb.1 hb.2
theorem more_st {n : NetT} (ok : NetOK n) (hdl : ∀ j (h : j < n.gates.length), n.gates[j].kind = 5 → n.gates[j].a < n.inn + n.gates.length) (g : GateT) (xs : List Int) : ∀ t, stR (moreN n g) fine xs t % 2 ^ delays n.gates = stR n fine xs t
  | 0 => by simp [stR]
  | t + 1 => by
    simp only [stR]
    exact (more_beat ok hdl g (more_st ok hdl g xs t) _).1
theorem more_outs {n : NetT} (ok : NetOK n) (hdl : ∀ j (h : j < n.gates.length), n.gates[j].kind = 5 → n.gates[j].a < n.inn + n.gates.length) (g : GateT) (xs : List Int) (t : Nat) : outsR (moreN n g) fine xs t = outsR n fine xs t := by
  unfold outsR
  apply List.map_congr_left
  intro u _
  exact (more_beat ok hdl g (more_st ok hdl g xs u) _).2
theorem more_run {n : NetT} (hc : (checkR n).2.2 = 0) {g : GateT} (hm : (checkR (moreN n g)).2.2 = 0) (xs : List Int) (hdl : ∀ j (h : j < n.gates.length), n.gates[j].kind = 5 → n.gates[j].a < n.inn + n.gates.length) : runR (moreN n g) xs = runR n xs := by
  unfold runR
  rw [if_pos hc, if_pos hm, more_outs (NetOK.of hc) hdl]
  rfl
theorem more_diff {n : NetT} (hc : (checkR n).2.2 = 0) {g : GateT} (hm : (checkR (moreN n g)).2.2 = 0) (hdl : ∀ j (h : j < n.gates.length), n.gates[j].kind = 5 → n.gates[j].a < n.inn + n.gates.length) : diffR n (moreN n g) = ([], 9) := by
  have ok := NetOK.of hc
  have okm := NetOK.of hm
  have hN : 2 ^ n.inn.toNat ≤ 64 := by
    have := Nat.pow_le_pow_right (n := 2) (by decide) (show n.inn.toNat ≤ 6 by have := ok.h6; omega)
    exact this
  have hfd := srch_found (fun p x => stepS_in ok okm fine_ok fine_ok p x) hN
  unfold diffR
  rw [if_pos hc, if_pos hm, if_pos ⟨rfl, rfl⟩]
  cases hr : srch (stepS n fine (moreN n g) fine) (2 ^ n.inn.toNat) with
  | none => rfl
  | some l =>
    exfalso
    rw [hr] at hfd
    obtain ⟨m, x, rfl, _, hq, hd, _⟩ := hfd
    have h1 := (quiet_all n (moreN n g) fine fine (m ++ [x])).2 (more_outs ok hdl g _ _).symm
    have h2 := ((quiet_app _ _ _ _).1 h1).2.1
    rw [hd] at h2
    cases h2
end Go.Proofs.YtfghooojingdhaaDoor
namespace Go.Proofs.YtfghooojingdhaaDoor
open Go Go.QL
set_option maxHeartbeats 3200000
attribute [local irreducible] ACall FnC YC
theorem gmore_fn (n : NetT) (hi : i64 n.inn) (g : GateT) (xs : List Int) (hl : n.gates.length ≤ 1048576) : FnC Tryd.prog 8 [netAV n, gateAV g, sl xs] (bv true) := by
  have hv1 := valid_fn n
  have hv2 := valid_fn (moreN n g)
  have hd := pdiffer_fn n (moreN n g) hi hi
  have hr1 := prun_fn n hi xs
  have hr2 := prun_fn (moreN n g) hi xs
  have hgl : (n.gates.map gPV).length = n.gates.length := List.length_map _
  have hel : List.take (n.gates.map gPV).length (n.gates.map gPV) ++ [[PV.v (.int .i64 g.kind), PV.v (.int .i64 g.a), PV.v (.int .i64 g.b)]] = (n.gates ++ [g]).map gPV := by
    rw [List.take_length, List.map_append]; rfl
  have hfz : gatesPV (n.gates ++ [g]) = PV.s 3 ((List.take (n.gates.map gPV).length (n.gates.map gPV) ++ [[PV.v (.int .i64 g.kind), PV.v (.int .i64 g.a), PV.v (.int .i64 g.b)]]).take ((n.gates.map gPV).length + 1)) := by
    rw [hel, List.take_of_length_le (by simp)]; rfl
  have hle : (n.gates.map gPV).length + 1 ≤ (List.take (n.gates.map gPV).length (n.gates.map gPV) ++ [[PV.v (.int .i64 g.kind), PV.v (.int .i64 g.a), PV.v (.int .i64 g.b)]]).length := by rw [hel]; simp
  clear hel
  have his := ints_fn (runR n xs).1 (runR n xs).1
  rw [show sameInts (runR n xs).1 (runR n xs).1 = true from decide_eq_true rfl] at his
  by_cases hc : (checkR n).2.2 = 0 ∧ (checkR (moreN n g)).2.2 = 0
  · obtain ⟨h1, h2⟩ := hc
    have hdl : ∀ j (h : j < n.gates.length), n.gates[j].kind = 5 → n.gates[j].a < n.inn + n.gates.length := fun j h _ => ((NetOK.of h1).ha j h).2.1
    rw [more_diff h1 h2 hdl] at hd
    rw [more_run h1 h2 xs hdl] at hr2
    rw [decide_eq_true h1] at hv1
    rw [decide_eq_true h2] at hv2
    generalize runR n xs = R at *
    clear h1 h2 hdl
    rcases Nat.eq_zero_or_pos n.gates.length with hg0 | hg0
    · clear hgl hfz hle hl
      obtain ⟨inn, gs, out⟩ := n
      have hg0 : gs = [] := List.eq_nil_of_length_eq_zero hg0
      subst hg0
      refine FnC_of_AW hTt Tryd.func8 rfl (by kernel_rfl) (res := [.tmp 6]) rfl Tryd.ntmps8 (by simp) fun w0 K0 => ?_
      dsimp only [entry]
      repeat' first | with_reducible refine AW_seq ?_ | with_reducible refine AW_block ?_ | with_reducible refine AW_scope ?_ | ((first | with_reducible refine AW_skip ?_ | with_reducible refine AW_label ?_ | with_reducible refine AW_exit ?_ | with_reducible refine AW_ret ?_ | with_reducible refine AW_region hTt ?_ | refine AW_draw hTt hMix (id := 2) 6 true [0, 0, 2, 7, 0, 16, 63, 127, 255] (by kernel_rfl) rfl rfl (by kernel_rfl) ?_ | refine LateGo.mk ⟨_, rfl, ?_⟩ | refine LateGo.mk ⟨.x .j, rfl, ?_⟩ | ((refine ⟨_, (hv1).call rfl rfl, ?_⟩); (rintro _ _ ⟨rfl, rfl⟩)) | refine ⟨_, fun _ => (hv1).call rfl rfl, ?_⟩ | refine ⟨_, fun _ _ => (hv1).call rfl rfl, ?_⟩ | ((refine ⟨_, (hv2).call rfl rfl, ?_⟩); (rintro _ _ ⟨rfl, rfl⟩)) | refine ⟨_, fun _ => (hv2).call rfl rfl, ?_⟩ | refine ⟨_, fun _ _ => (hv2).call rfl rfl, ?_⟩ | ((refine ⟨_, (hd).call rfl rfl, ?_⟩); (rintro _ _ ⟨rfl, rfl⟩)) | refine ⟨_, fun _ => (hd).call rfl rfl, ?_⟩ | refine ⟨_, fun _ _ => (hd).call rfl rfl, ?_⟩ | ((refine ⟨_, (hr1).call rfl rfl, ?_⟩); (rintro _ _ ⟨rfl, rfl⟩)) | refine ⟨_, fun _ => (hr1).call rfl rfl, ?_⟩ | refine ⟨_, fun _ _ => (hr1).call rfl rfl, ?_⟩ | ((refine ⟨_, (hr2).call rfl rfl, ?_⟩); (rintro _ _ ⟨rfl, rfl⟩)) | refine ⟨_, fun _ => (hr2).call rfl rfl, ?_⟩ | refine ⟨_, fun _ _ => (hr2).call rfl rfl, ?_⟩ | ((refine ⟨_, (his).call rfl rfl, ?_⟩); (rintro _ _ ⟨rfl, rfl⟩)) | refine ⟨_, fun _ => (his).call rfl rfl, ?_⟩ | refine ⟨_, fun _ _ => (his).call rfl rfl, ?_⟩ | ((refine ⟨_, (awake_fn).call rfl rfl, ?_⟩); (rintro _ _ ⟨rfl, rfl⟩)) | refine ⟨_, fun _ => (awake_fn).call rfl rfl, ?_⟩ | refine ⟨_, fun _ _ => (awake_fn).call rfl rfl, ?_⟩ | refine Or.inl (And.intro rfl ?_) | fail); conv => whnf) | ((refine And.intro (by refine ⟨?_, ?_, ?_⟩ <;> simp [chunk, maxLen] <;> omega) ?_); conv => whnf) | (refine AW_cond rfl (fun _ => ?_) (fun hb => absurd hb (by decide))) | (refine AW_cond rfl (fun hb => absurd hb (by decide)) (fun _ => ?_)) | (refine AW_cond rfl (fun hb => ?_) (fun hb => ?_) <;> first | (replace hb := of_decide_eq_true hb; try simp only [List.length_map] at hb) | (replace hb := of_decide_eq_false hb; try simp only [List.length_map] at hb) | (simp only [List.length_map, bne_iff_ne, ne_eq, beq_iff_eq, bne_eq_false_iff_eq, beq_eq_false_iff_ne, decide_eq_true_eq, decide_eq_false_iff_not, Bool.not_eq_true', Bool.not_eq_false', Int.natCast_inj] at hb) | skip) | ((first | refine ⟨_, wrap_of (by first | omega | (simp only [List.length_map]; omega)), ?_⟩ | refine ⟨IntKind.wrap _ _, rfl, ?_⟩ | refine andA ?_ | with_reducible refine Exists.intro _ (And.intro (gd_any (And.intro (by omega) (map_get (by omega)))) ?_) | with_reducible refine And.intro (gd_any (And.intro (by omega) (And.intro (by first | omega | (simp only [List.length_map]; omega)) (by first | omega | (simp only [List.length_map]; omega) | (simp only [List.length_set, List.length_map]; omega))))) ?_ | with_reducible refine Exists.intro _ (And.intro (gd_any (map_get' (by omega) (by omega))) (And.intro (And.intro (Nat.le_of_ble_eq_true rfl) rfl) ?_)) | with_reducible refine Exists.intro _ (And.intro (gd_any (And.intro (by omega) (map_get' (by omega) (by omega)))) ?_) | with_reducible refine And.intro (And.intro (by omega) (And.intro (by first | omega | (simp only [List.length_map]; omega)) (by first | omega | (simp only [List.length_map, List.length_set]; omega)))) ?_ | with_reducible refine Exists.intro _ (And.intro (map_get' (by omega) (by omega)) (And.intro (Nat.le_of_ble_eq_true rfl) ?_)) | fail); conv => whnf) | ((refine And.intro (by refine ⟨?_, ?_, ?_⟩ <;> simp [chunk, maxLen] <;> omega) ?_); conv => whnf) | (refine fun hln => ?_; (try rw [List.length_map] at hln); unfold maxLen at hln; conv => whnf) | fail
      exact (show ∀ b, b = true → some (bv b) = some (bv true) from fun b h => by rw [h]) _ (by simp)
    · have hg1 : 0 < (n.gates.map gPV).length := by omega
      have hb1 : (n.gates.map gPV).length ≤ maxLen ∧ (n.gates.map gPV).length * 24 ≤ 140737488355328 := by rw [hgl]; simp only [maxLen]; omega
      refine FnC_of_AW hTt Tryd.func8 rfl (by kernel_rfl) (res := [.tmp 6]) rfl Tryd.ntmps8 (by simp) fun w0 K0 => ?_
      dsimp only [entry]
      repeat' first | ((refine AW_imp (Imp.freezeB 18 (fr' := [(3, .x (.b 3 0)), (7, .x (.b 7 0)), (2, sl xs)]) (σ' := [(7, .box [.d (.v (.int .i64 n.inn)), .d (gatesPV (n.gates ++ [g])), .d (intsPV n.out)]), (3, .box [.d (.v (.int .i64 n.inn)), .d (gatesPV n.gates), .d (intsPV n.out)])]) rfl ⟨⟨_, rfl, .inl rfl⟩, ⟨_, rfl, .inl rfl⟩, ⟨_, rfl, .inl rfl⟩, trivial⟩ ⟨⟨_, rfl, .inr ⟨_, _, rfl, rfl, ⟨.inl rfl, .inr ⟨_, rfl, hle, congrArg SV.d hfz⟩, .inl rfl, trivial⟩⟩⟩, ⟨_, rfl, .inl rfl⟩, trivial⟩ rfl rfl) (AW_region (id := 3) hTt ?_)); conv => whnf) | with_reducible refine AW_seq ?_ | with_reducible refine AW_block ?_ | with_reducible refine AW_scope ?_ | ((first | with_reducible refine AW_skip ?_ | with_reducible refine AW_label ?_ | with_reducible refine AW_exit ?_ | with_reducible refine AW_ret ?_ | with_reducible refine AW_region hTt ?_ | refine AW_draw hTt hMix (id := 2) 6 true [0, 0, 2, 7, 0, 16, 63, 127, 255] (by kernel_rfl) rfl rfl (by kernel_rfl) ?_ | refine LateGo.mk ⟨_, rfl, ?_⟩ | refine LateGo.mk ⟨.x .j, rfl, ?_⟩ | ((refine ⟨_, (hv1).call rfl rfl, ?_⟩); (rintro _ _ ⟨rfl, rfl⟩)) | refine ⟨_, fun _ => (hv1).call rfl rfl, ?_⟩ | refine ⟨_, fun _ _ => (hv1).call rfl rfl, ?_⟩ | ((refine ⟨_, (hv2).call rfl rfl, ?_⟩); (rintro _ _ ⟨rfl, rfl⟩)) | refine ⟨_, fun _ => (hv2).call rfl rfl, ?_⟩ | refine ⟨_, fun _ _ => (hv2).call rfl rfl, ?_⟩ | ((refine ⟨_, (hd).call rfl rfl, ?_⟩); (rintro _ _ ⟨rfl, rfl⟩)) | refine ⟨_, fun _ => (hd).call rfl rfl, ?_⟩ | refine ⟨_, fun _ _ => (hd).call rfl rfl, ?_⟩ | ((refine ⟨_, (hr1).call rfl rfl, ?_⟩); (rintro _ _ ⟨rfl, rfl⟩)) | refine ⟨_, fun _ => (hr1).call rfl rfl, ?_⟩ | refine ⟨_, fun _ _ => (hr1).call rfl rfl, ?_⟩ | ((refine ⟨_, (hr2).call rfl rfl, ?_⟩); (rintro _ _ ⟨rfl, rfl⟩)) | refine ⟨_, fun _ => (hr2).call rfl rfl, ?_⟩ | refine ⟨_, fun _ _ => (hr2).call rfl rfl, ?_⟩ | ((refine ⟨_, (his).call rfl rfl, ?_⟩); (rintro _ _ ⟨rfl, rfl⟩)) | refine ⟨_, fun _ => (his).call rfl rfl, ?_⟩ | refine ⟨_, fun _ _ => (his).call rfl rfl, ?_⟩ | ((refine ⟨_, (awake_fn).call rfl rfl, ?_⟩); (rintro _ _ ⟨rfl, rfl⟩)) | refine ⟨_, fun _ => (awake_fn).call rfl rfl, ?_⟩ | refine ⟨_, fun _ _ => (awake_fn).call rfl rfl, ?_⟩ | refine Or.inr (And.intro hg1 (And.intro hb1 ?_)) | fail); conv => whnf) | ((refine And.intro (by refine ⟨?_, ?_, ?_⟩ <;> simp [chunk, maxLen] <;> omega) ?_); conv => whnf) | (refine AW_cond rfl (fun _ => ?_) (fun hb => absurd hb (by decide))) | (refine AW_cond rfl (fun hb => absurd hb (by decide)) (fun _ => ?_)) | (refine AW_cond rfl (fun hb => ?_) (fun hb => ?_) <;> first | (replace hb := of_decide_eq_true hb; try simp only [List.length_map] at hb) | (replace hb := of_decide_eq_false hb; try simp only [List.length_map] at hb) | (simp only [List.length_map, bne_iff_ne, ne_eq, beq_iff_eq, bne_eq_false_iff_eq, beq_eq_false_iff_ne, decide_eq_true_eq, decide_eq_false_iff_not, Bool.not_eq_true', Bool.not_eq_false', Int.natCast_inj] at hb) | skip) | ((first | refine ⟨_, wrap_of (by first | omega | (simp only [List.length_map]; omega)), ?_⟩ | refine ⟨IntKind.wrap _ _, rfl, ?_⟩ | refine andA ?_ | with_reducible refine Exists.intro _ (And.intro (gd_any (And.intro (by omega) (map_get (by omega)))) ?_) | with_reducible refine And.intro (gd_any (And.intro (by omega) (And.intro (by first | omega | (simp only [List.length_map]; omega)) (by first | omega | (simp only [List.length_map]; omega) | (simp only [List.length_set, List.length_map]; omega))))) ?_ | with_reducible refine Exists.intro _ (And.intro (gd_any (map_get' (by omega) (by omega))) (And.intro (And.intro (Nat.le_of_ble_eq_true rfl) rfl) ?_)) | with_reducible refine Exists.intro _ (And.intro (gd_any (And.intro (by omega) (map_get' (by omega) (by omega)))) ?_) | with_reducible refine And.intro (And.intro (by omega) (And.intro (by first | omega | (simp only [List.length_map]; omega)) (by first | omega | (simp only [List.length_map, List.length_set]; omega)))) ?_ | with_reducible refine Exists.intro _ (And.intro (map_get' (by omega) (by omega)) (And.intro (Nat.le_of_ble_eq_true rfl) ?_)) | fail); conv => whnf) | ((refine And.intro (by refine ⟨?_, ?_, ?_⟩ <;> simp [chunk, maxLen] <;> omega) ?_); conv => whnf) | (refine fun hln => ?_; (try rw [List.length_map] at hln); unfold maxLen at hln; conv => whnf) | fail
      exact (show ∀ b, b = true → some (bv b) = some (bv true) from fun b h => by rw [h]) _ (by simp)
  · have hc : decide ((checkR n).2.2 = 0) = false ∨ decide ((checkR (moreN n g)).2.2 = 0) = false := by
      by_cases h1 : (checkR n).2.2 = 0
      · right; exact decide_eq_false fun h2 => hc ⟨h1, h2⟩
      · left; exact decide_eq_false h1
    generalize decide ((checkR n).2.2 = 0) = b1 at *
    generalize decide ((checkR (moreN n g)).2.2 = 0) = b2 at *
    clear hr1 hr2 hd his
    rcases Nat.eq_zero_or_pos n.gates.length with hg0 | hg0
    · clear hgl hfz hle hl
      obtain ⟨inn, gs, out⟩ := n
      have hg0 : gs = [] := List.eq_nil_of_length_eq_zero hg0
      subst hg0
      refine FnC_of_AW hTt Tryd.func8 rfl (by kernel_rfl) (res := [.tmp 6]) rfl Tryd.ntmps8 (by simp) fun w0 K0 => ?_
      dsimp only [entry]
      repeat' first | with_reducible refine AW_seq ?_ | with_reducible refine AW_block ?_ | with_reducible refine AW_scope ?_ | ((first | with_reducible refine AW_skip ?_ | with_reducible refine AW_label ?_ | with_reducible refine AW_exit ?_ | with_reducible refine AW_ret ?_ | with_reducible refine AW_region hTt ?_ | refine AW_draw hTt hMix (id := 2) 6 true [0, 0, 2, 7, 0, 16, 63, 127, 255] (by kernel_rfl) rfl rfl (by kernel_rfl) ?_ | refine LateGo.mk ⟨_, rfl, ?_⟩ | refine LateGo.mk ⟨.x .j, rfl, ?_⟩ | ((refine ⟨_, (hv1).call rfl rfl, ?_⟩); (rintro _ _ ⟨rfl, rfl⟩)) | refine ⟨_, fun _ => (hv1).call rfl rfl, ?_⟩ | refine ⟨_, fun _ _ => (hv1).call rfl rfl, ?_⟩ | ((refine ⟨_, (hv2).call rfl rfl, ?_⟩); (rintro _ _ ⟨rfl, rfl⟩)) | refine ⟨_, fun _ => (hv2).call rfl rfl, ?_⟩ | refine ⟨_, fun _ _ => (hv2).call rfl rfl, ?_⟩ | ((refine ⟨_, (awake_fn).call rfl rfl, ?_⟩); (rintro _ _ ⟨rfl, rfl⟩)) | refine ⟨_, fun _ => (awake_fn).call rfl rfl, ?_⟩ | refine ⟨_, fun _ _ => (awake_fn).call rfl rfl, ?_⟩ | fail); conv => whnf) | (exfalso; simp at hb; done) | (exfalso; simp_all; done) | ((refine Or.inl (And.intro rfl ?_)); conv => whnf) | ((refine And.intro (by refine ⟨?_, ?_, ?_⟩ <;> simp [chunk, maxLen] <;> omega) ?_); conv => whnf) | (refine AW_cond rfl (fun _ => ?_) (fun hb => absurd hb (by decide))) | (refine AW_cond rfl (fun hb => absurd hb (by decide)) (fun _ => ?_)) | (refine AW_cond rfl (fun hb => ?_) (fun hb => ?_) <;> first | (replace hb := of_decide_eq_true hb; try simp only [List.length_map] at hb) | (replace hb := of_decide_eq_false hb; try simp only [List.length_map] at hb) | (simp only [List.length_map, bne_iff_ne, ne_eq, beq_iff_eq, bne_eq_false_iff_eq, beq_eq_false_iff_ne, decide_eq_true_eq, decide_eq_false_iff_not, Bool.not_eq_true', Bool.not_eq_false', Int.natCast_inj] at hb) | skip) | ((first | refine ⟨_, wrap_of (by first | omega | (simp only [List.length_map]; omega)), ?_⟩ | refine ⟨IntKind.wrap _ _, rfl, ?_⟩ | refine andA ?_ | with_reducible refine Exists.intro _ (And.intro (gd_any (And.intro (by omega) (map_get (by omega)))) ?_) | with_reducible refine And.intro (gd_any (And.intro (by omega) (And.intro (by first | omega | (simp only [List.length_map]; omega)) (by first | omega | (simp only [List.length_map]; omega) | (simp only [List.length_set, List.length_map]; omega))))) ?_ | with_reducible refine Exists.intro _ (And.intro (gd_any (map_get' (by omega) (by omega))) (And.intro (And.intro (Nat.le_of_ble_eq_true rfl) rfl) ?_)) | with_reducible refine Exists.intro _ (And.intro (gd_any (And.intro (by omega) (map_get' (by omega) (by omega)))) ?_) | with_reducible refine And.intro (And.intro (by omega) (And.intro (by first | omega | (simp only [List.length_map]; omega)) (by first | omega | (simp only [List.length_map, List.length_set]; omega)))) ?_ | with_reducible refine Exists.intro _ (And.intro (map_get' (by omega) (by omega)) (And.intro (Nat.le_of_ble_eq_true rfl) ?_)) | fail); conv => whnf) | ((refine And.intro (by refine ⟨?_, ?_, ?_⟩ <;> simp [chunk, maxLen] <;> omega) ?_); conv => whnf) | (refine fun hln => ?_; (try rw [List.length_map] at hln); unfold maxLen at hln; conv => whnf) | fail
      exact (show ∀ b, b = true → some (bv b) = some (bv true) from fun b h => by rw [h]) _ (by simp)
    · have hg1 : 0 < (n.gates.map gPV).length := by omega
      have hb1 : (n.gates.map gPV).length ≤ maxLen ∧ (n.gates.map gPV).length * 24 ≤ 140737488355328 := by rw [hgl]; simp only [maxLen]; omega
      refine FnC_of_AW hTt Tryd.func8 rfl (by kernel_rfl) (res := [.tmp 6]) rfl Tryd.ntmps8 (by simp) fun w0 K0 => ?_
      dsimp only [entry]
      repeat' first | ((refine AW_imp (Imp.freezeB 18 (fr' := [(3, .x (.b 3 0)), (7, .x (.b 7 0)), (2, sl xs)]) (σ' := [(7, .box [.d (.v (.int .i64 n.inn)), .d (gatesPV (n.gates ++ [g])), .d (intsPV n.out)]), (3, .box [.d (.v (.int .i64 n.inn)), .d (gatesPV n.gates), .d (intsPV n.out)])]) rfl ⟨⟨_, rfl, .inl rfl⟩, ⟨_, rfl, .inl rfl⟩, ⟨_, rfl, .inl rfl⟩, trivial⟩ ⟨⟨_, rfl, .inr ⟨_, _, rfl, rfl, ⟨.inl rfl, .inr ⟨_, rfl, hle, congrArg SV.d hfz⟩, .inl rfl, trivial⟩⟩⟩, ⟨_, rfl, .inl rfl⟩, trivial⟩ rfl rfl) (AW_region (id := 3) hTt ?_)); conv => whnf) | with_reducible refine AW_seq ?_ | with_reducible refine AW_block ?_ | with_reducible refine AW_scope ?_ | ((first | with_reducible refine AW_skip ?_ | with_reducible refine AW_label ?_ | with_reducible refine AW_exit ?_ | with_reducible refine AW_ret ?_ | with_reducible refine AW_region hTt ?_ | refine AW_draw hTt hMix (id := 2) 6 true [0, 0, 2, 7, 0, 16, 63, 127, 255] (by kernel_rfl) rfl rfl (by kernel_rfl) ?_ | refine LateGo.mk ⟨_, rfl, ?_⟩ | refine LateGo.mk ⟨.x .j, rfl, ?_⟩ | ((refine ⟨_, (hv1).call rfl rfl, ?_⟩); (rintro _ _ ⟨rfl, rfl⟩)) | refine ⟨_, fun _ => (hv1).call rfl rfl, ?_⟩ | refine ⟨_, fun _ _ => (hv1).call rfl rfl, ?_⟩ | ((refine ⟨_, (hv2).call rfl rfl, ?_⟩); (rintro _ _ ⟨rfl, rfl⟩)) | refine ⟨_, fun _ => (hv2).call rfl rfl, ?_⟩ | refine ⟨_, fun _ _ => (hv2).call rfl rfl, ?_⟩ | ((refine ⟨_, (awake_fn).call rfl rfl, ?_⟩); (rintro _ _ ⟨rfl, rfl⟩)) | refine ⟨_, fun _ => (awake_fn).call rfl rfl, ?_⟩ | refine ⟨_, fun _ _ => (awake_fn).call rfl rfl, ?_⟩ | fail); conv => whnf) | (exfalso; simp at hb; done) | (exfalso; simp_all; done) | ((refine Or.inr (And.intro hg1 (And.intro hb1 ?_))); conv => whnf) | ((refine And.intro (by refine ⟨?_, ?_, ?_⟩ <;> simp [chunk, maxLen] <;> omega) ?_); conv => whnf) | (refine AW_cond rfl (fun _ => ?_) (fun hb => absurd hb (by decide))) | (refine AW_cond rfl (fun hb => absurd hb (by decide)) (fun _ => ?_)) | (refine AW_cond rfl (fun hb => ?_) (fun hb => ?_) <;> first | (replace hb := of_decide_eq_true hb; try simp only [List.length_map] at hb) | (replace hb := of_decide_eq_false hb; try simp only [List.length_map] at hb) | (simp only [List.length_map, bne_iff_ne, ne_eq, beq_iff_eq, bne_eq_false_iff_eq, beq_eq_false_iff_ne, decide_eq_true_eq, decide_eq_false_iff_not, Bool.not_eq_true', Bool.not_eq_false', Int.natCast_inj] at hb) | skip) | ((first | refine ⟨_, wrap_of (by first | omega | (simp only [List.length_map]; omega)), ?_⟩ | refine ⟨IntKind.wrap _ _, rfl, ?_⟩ | refine andA ?_ | with_reducible refine Exists.intro _ (And.intro (gd_any (And.intro (by omega) (map_get (by omega)))) ?_) | with_reducible refine And.intro (gd_any (And.intro (by omega) (And.intro (by first | omega | (simp only [List.length_map]; omega)) (by first | omega | (simp only [List.length_map]; omega) | (simp only [List.length_set, List.length_map]; omega))))) ?_ | with_reducible refine Exists.intro _ (And.intro (gd_any (map_get' (by omega) (by omega))) (And.intro (And.intro (Nat.le_of_ble_eq_true rfl) rfl) ?_)) | with_reducible refine Exists.intro _ (And.intro (gd_any (And.intro (by omega) (map_get' (by omega) (by omega)))) ?_) | with_reducible refine And.intro (And.intro (by omega) (And.intro (by first | omega | (simp only [List.length_map]; omega)) (by first | omega | (simp only [List.length_map, List.length_set]; omega)))) ?_ | with_reducible refine Exists.intro _ (And.intro (map_get' (by omega) (by omega)) (And.intro (Nat.le_of_ble_eq_true rfl) ?_)) | fail); conv => whnf) | ((refine And.intro (by refine ⟨?_, ?_, ?_⟩ <;> simp [chunk, maxLen] <;> omega) ?_); conv => whnf) | (refine fun hln => ?_; (try rw [List.length_map] at hln); unfold maxLen at hln; conv => whnf) | fail
      exact (show ∀ b, b = true → some (bv b) = some (bv true) from fun b h => by rw [h]) _ (by simp)
end Go.Proofs.YtfghooojingdhaaDoor
