/- The logic of walks, and what the functions of the program return: part 5. No condition. -/
import Derived.Test.YtfghooojingdhaaDoorE04
set_option linter.all false
namespace Go.Proofs.YtfghooojingdhaaDoor
open Go Go.QL
set_option maxHeartbeats 3200000
attribute [local irreducible] ACall FnC
theorem tab_some {L : List (List Bool)} {i : Nat} {r : List Bool} (h : L[i]? = some r) : (L.map fun r => [boolsPV r])[((i : Int)).toNat]? = some [boolsPV r] := by simp [h]
theorem bool_some {L : List Bool} {i : Nat} {b : Bool} (h : L[i]? = some b) : (L.map bPV)[((i : Int)).toNat]? = some [.v (.bool b)] := by
  rw [Int.toNat_natCast, List.getElem?_map, h]; rfl
theorem tables_ref (a b : List (List Bool)) : FnC Tryd.prog 36 [tableAV a, tableAV b] (bv (decide (a = b))) := by
  refine FnC_of_AW hTt Tryd.func36 rfl (by kernel_rfl) (res := [.tmp 4]) rfl Tryd.ntmps36 (by simp) fun w0 K0 => ?_
  dsimp only [entry]
  by_cases hl : a.length = b.length
  · repeat' first | with_reducible refine AW_seq ?_ | with_reducible refine AW_block ?_ | ((first | with_reducible refine AW_skip ?_ | with_reducible refine AW_ret ?_ | with_reducible refine AW_region hTt ?_ | fail); conv => whnf) | (exact absurd hb (by omega)) | (refine AW_cond rfl (fun hb => ?_) (fun hb => ?_) <;> first | (replace hb := of_decide_eq_true hb; try simp only [List.length_map] at hb) | (replace hb := of_decide_eq_false hb; try simp only [List.length_map] at hb) | (simp only [List.length_map, bne_iff_ne, ne_eq, beq_iff_eq, bne_eq_false_iff_eq, beq_eq_false_iff_ne, decide_eq_true_eq, decide_eq_false_iff_not, Bool.not_eq_true', Bool.not_eq_false', Int.natCast_inj] at hb) | skip) | (refine fun hln => ?_; (try rw [List.length_map] at hln); unfold maxLen at hln; conv => whnf) | fail
    refine AW_loop (fun i : Nat => [(5, iv .i64 i), (0, tableAV a), (1, tableAV b)]) (fun _ => []) (fun i => i ≤ a.length ∧ a.take i = b.take i) (fun i => a.length - i) 0 (by simp) (Imp.forget (by repeat' (first | exact trivial | refine And.intro ?_ ?_ | rfl | exact ivE (by first | omega | (simp only [List.length_map, List.length_append, List.length_singleton] <;> omega)) | exact oE (by first | omega | (simp only [List.length_map, List.length_append, List.length_singleton] <;> omega)))) (by repeat' (first | exact trivial | refine And.intro ?_ ?_ | rfl | exact ivE (by first | omega | (simp only [List.length_map, List.length_append, List.length_singleton] <;> omega)) | exact oE (by first | omega | (simp only [List.length_map, List.length_append, List.length_singleton] <;> omega)))) (by kernel_rfl) (by kernel_rfl) (by kernel_rfl)) ?_
    rintro i ⟨hi, htk⟩
    rcases Nat.lt_or_ge i a.length with hil | hil
    · obtain ⟨x, hx⟩ : ∃ x, a[i]? = some x := ⟨_, List.getElem?_eq_getElem hil⟩
      obtain ⟨y, hy⟩ : ∃ y, b[i]? = some y := ⟨_, List.getElem?_eq_getElem (by omega)⟩
      have hfin : x ≠ y → decide (a = b) = false := fun hxy => decide_eq_false fun h => hxy (by rw [h, hy] at hx; exact (Option.some.inj hx).symm)
      have hst : x = y → a.take (i + 1) = b.take (i + 1) := fun h => by rw [List.take_add_one, List.take_add_one, htk, hx, hy, h]
      clear htk
      by_cases hxl : x.length = y.length
      · repeat' first | with_reducible refine AW_seq ?_ | with_reducible refine AW_block ?_ | ((first | with_reducible refine AW_skip ?_ | with_reducible refine AW_exit ?_ | with_reducible refine AW_ret ?_ | with_reducible refine AW_region hTt ?_ | refine AW_draw hTt hMix (id := 6) 10 false [0, 0, 3, 7, 15, 0, 0, 96, 224, 480, 1023] (by kernel_rfl) rfl rfl (by kernel_rfl) ?_ | fail); conv => whnf) | (exact absurd hb (by omega)) | ((first | with_reducible refine Exists.intro _ (And.intro (gd_any (And.intro (by omega) (tab_some hx))) ?_) | with_reducible refine Exists.intro _ (And.intro (gd_any (And.intro (by omega) (tab_some hy))) ?_) | fail); conv => whnf) | (refine AW_cond rfl (fun hb => ?_) (fun hb => ?_) <;> first | (replace hb := of_decide_eq_true hb; try simp only [List.length_map] at hb) | (replace hb := of_decide_eq_false hb; try simp only [List.length_map] at hb) | (simp only [List.length_map, bne_iff_ne, ne_eq, beq_iff_eq, bne_eq_false_iff_eq, beq_eq_false_iff_ne, decide_eq_true_eq, decide_eq_false_iff_not, Bool.not_eq_true', Bool.not_eq_false', Int.natCast_inj] at hb) | skip) | ((refine And.intro (by first | exact trivial | rfl | exact gd_self | exact gd_any (by omega) | exact fun h => h | decide | (constructor <;> simp [chunk, maxLen]; done) | (intro h; simpa using h)) ?_); conv => whnf) | (refine fun hln => ?_; (try rw [List.length_map] at hln); unfold maxLen at hln; conv => whnf) | fail
        refine AW_loop (fun k : Nat => [(6, iv .i64 k), (5, iv .i64 i), (0, tableAV a), (1, tableAV b)]) (fun _ => []) (fun k => k ≤ x.length ∧ x.take k = y.take k) (fun k => x.length - k) 0 (by simp) (Imp.forget (by repeat' (first | exact trivial | refine And.intro ?_ ?_ | rfl | exact ivE (by first | omega | (simp only [List.length_map, List.length_append, List.length_singleton] <;> omega)) | exact oE (by first | omega | (simp only [List.length_map, List.length_append, List.length_singleton] <;> omega)))) (by repeat' (first | exact trivial | refine And.intro ?_ ?_ | rfl | exact ivE (by first | omega | (simp only [List.length_map, List.length_append, List.length_singleton] <;> omega)) | exact oE (by first | omega | (simp only [List.length_map, List.length_append, List.length_singleton] <;> omega)))) (by kernel_rfl) (by kernel_rfl) (by kernel_rfl)) ?_
        rintro k ⟨hk, hkt⟩
        rcases Nat.lt_or_ge k x.length with hkl | hkl
        · obtain ⟨p, hp⟩ : ∃ p, x[k]? = some p := ⟨_, List.getElem?_eq_getElem hkl⟩
          obtain ⟨q, hq⟩ : ∃ q, y[k]? = some q := ⟨_, List.getElem?_eq_getElem (by omega)⟩
          have hpf : p ≠ q → decide (a = b) = false := fun hpq => hfin fun h => hpq (by rw [h, hq] at hp; exact (Option.some.inj hp).symm)
          have hks : p = q → x.take (k + 1) = y.take (k + 1) := fun h => by rw [List.take_add_one, List.take_add_one, hkt, hp, hq, h]
          clear hkt hst hfin
          by_cases hpq : p = q
          · subst hpq
            repeat' first | with_reducible refine AW_seq ?_ | with_reducible refine AW_block ?_ | ((first | with_reducible refine AW_skip ?_ | with_reducible refine AW_exit ?_ | with_reducible refine AW_ret ?_ | with_reducible refine AW_region hTt ?_ | refine AW_draw hTt hMix (id := 11) 14 false [0, 0, 3, 7, 0, 31, 63, 0, 0, 384, 896, 0, 3968, 8064, 16383] (by kernel_rfl) rfl rfl (by kernel_rfl) ?_ | fail); conv => whnf) | (exact absurd hb (by omega)) | (exfalso; simp at hb; done) | ((first | with_reducible refine Exists.intro _ (And.intro (gd_any (And.intro (by omega) (tab_some hx))) ?_) | with_reducible refine Exists.intro _ (And.intro (gd_any (And.intro (by omega) (tab_some hy))) ?_) | with_reducible refine Exists.intro _ (And.intro (gd_any (And.intro (by omega) (bool_some hp))) ?_) | with_reducible refine Exists.intro _ (And.intro (gd_any (And.intro (by omega) (bool_some hq))) ?_) | fail); conv => whnf) | (refine AW_cond rfl (fun hb => ?_) (fun hb => ?_) <;> first | (replace hb := of_decide_eq_true hb; try simp only [List.length_map] at hb) | (replace hb := of_decide_eq_false hb; try simp only [List.length_map] at hb) | (simp only [List.length_map, bne_iff_ne, ne_eq, beq_iff_eq, bne_eq_false_iff_eq, beq_eq_false_iff_ne, decide_eq_true_eq, decide_eq_false_iff_not, Bool.not_eq_true', Bool.not_eq_false', Int.natCast_inj] at hb) | skip) | ((refine ⟨_, wrap_of (by first | omega | (simp only [List.length_map]; omega)), ?_⟩); conv => whnf) | ((refine And.intro (by first | exact trivial | rfl | exact gd_self | exact gd_any (by omega) | exact fun h => h | decide | (constructor <;> simp [chunk, maxLen]; done) | (intro h; simpa using h)) ?_); conv => whnf) | (refine fun hln => ?_; (try rw [List.length_map] at hln); unfold maxLen at hln; conv => whnf) | fail
            exact ⟨k + 1, ⟨hkl, hks rfl⟩, by omega, (Imp.forget (by repeat' (first | exact trivial | refine And.intro ?_ ?_ | rfl | exact ivE (by first | omega | (simp only [List.length_map, List.length_append, List.length_singleton] <;> omega)) | exact oE (by first | omega | (simp only [List.length_map, List.length_append, List.length_singleton] <;> omega)))) (by repeat' (first | exact trivial | refine And.intro ?_ ?_ | rfl | exact ivE (by first | omega | (simp only [List.length_map, List.length_append, List.length_singleton] <;> omega)) | exact oE (by first | omega | (simp only [List.length_map, List.length_append, List.length_singleton] <;> omega)))) (by kernel_rfl) (by kernel_rfl) (by kernel_rfl))⟩
          · rw [hpf hpq]
            repeat' first | with_reducible refine AW_seq ?_ | with_reducible refine AW_block ?_ | ((first | with_reducible refine AW_skip ?_ | with_reducible refine AW_exit ?_ | with_reducible refine AW_ret ?_ | with_reducible refine AW_region hTt ?_ | refine AW_draw hTt hMix (id := 11) 14 false [0, 0, 3, 7, 0, 31, 63, 0, 0, 384, 896, 0, 3968, 8064, 16383] (by kernel_rfl) rfl rfl (by kernel_rfl) ?_ | fail); conv => whnf) | (exact absurd hb (by omega)) | ((first | with_reducible refine Exists.intro _ (And.intro (gd_any (And.intro (by omega) (tab_some hx))) ?_) | with_reducible refine Exists.intro _ (And.intro (gd_any (And.intro (by omega) (tab_some hy))) ?_) | with_reducible refine Exists.intro _ (And.intro (gd_any (And.intro (by omega) (bool_some hp))) ?_) | with_reducible refine Exists.intro _ (And.intro (gd_any (And.intro (by omega) (bool_some hq))) ?_) | fail); conv => whnf) | (refine AW_cond rfl (fun hb => ?_) (fun hb => ?_) <;> first | (replace hb := of_decide_eq_true hb; try simp only [List.length_map] at hb) | (replace hb := of_decide_eq_false hb; try simp only [List.length_map] at hb) | (simp only [List.length_map, bne_iff_ne, ne_eq, beq_iff_eq, bne_eq_false_iff_eq, beq_eq_false_iff_ne, decide_eq_true_eq, decide_eq_false_iff_not, Bool.not_eq_true', Bool.not_eq_false', Int.natCast_inj] at hb) | skip) | ((refine And.intro (by first | exact trivial | rfl | exact gd_self | exact gd_any (by omega) | exact fun h => h | decide | (constructor <;> simp [chunk, maxLen]; done) | (intro h; simpa using h)) ?_); conv => whnf) | (refine fun hln => ?_; (try rw [List.length_map] at hln); unfold maxLen at hln; conv => whnf) | fail
            rfl
        · have hxy : x = y := by
            have h1 := List.take_of_length_le (l := x) (i := k) (by omega)
            have h2 := List.take_of_length_le (l := y) (i := k) (by omega)
            rw [← h1, ← h2, hkt]
          repeat' first | with_reducible refine AW_seq ?_ | with_reducible refine AW_block ?_ | ((first | with_reducible refine AW_skip ?_ | with_reducible refine AW_exit ?_ | with_reducible refine AW_region hTt ?_ | refine AW_draw hTt hMix (id := 11) 14 false [0, 0, 3, 7, 0, 31, 63, 0, 0, 384, 896, 0, 3968, 8064, 16383] (by kernel_rfl) rfl rfl (by kernel_rfl) ?_ | fail); conv => whnf) | (exact absurd hb (by omega)) | ((with_reducible refine Exists.intro _ (And.intro (gd_any (And.intro (by omega) (tab_some hx))) ?_)); conv => whnf) | (refine AW_cond rfl (fun hb => ?_) (fun hb => ?_) <;> first | (replace hb := of_decide_eq_true hb; try simp only [List.length_map] at hb) | (replace hb := of_decide_eq_false hb; try simp only [List.length_map] at hb) | (simp only [List.length_map, bne_iff_ne, ne_eq, beq_iff_eq, bne_eq_false_iff_eq, beq_eq_false_iff_ne, decide_eq_true_eq, decide_eq_false_iff_not, Bool.not_eq_true', Bool.not_eq_false', Int.natCast_inj] at hb) | skip) | ((refine ⟨_, wrap_of (by first | omega | (simp only [List.length_map]; omega)), ?_⟩); conv => whnf) | ((refine And.intro (by first | exact trivial | rfl | exact gd_self | exact gd_any (by omega) | exact fun h => h | decide | (constructor <;> simp [chunk, maxLen]; done) | (intro h; simpa using h)) ?_); conv => whnf) | (refine fun hln => ?_; (try rw [List.length_map] at hln); unfold maxLen at hln; conv => whnf) | fail
          exact ⟨i + 1, ⟨hil, hst hxy⟩, by omega, (Imp.forget (by repeat' (first | exact trivial | refine And.intro ?_ ?_ | rfl | exact ivE (by first | omega | (simp only [List.length_map, List.length_append, List.length_singleton] <;> omega)) | exact oE (by first | omega | (simp only [List.length_map, List.length_append, List.length_singleton] <;> omega)))) (by repeat' (first | exact trivial | refine And.intro ?_ ?_ | rfl | exact ivE (by first | omega | (simp only [List.length_map, List.length_append, List.length_singleton] <;> omega)) | exact oE (by first | omega | (simp only [List.length_map, List.length_append, List.length_singleton] <;> omega)))) (by kernel_rfl) (by kernel_rfl) (by kernel_rfl))⟩
      · rw [hfin fun h => hxl (by rw [h])]
        repeat' first | with_reducible refine AW_seq ?_ | with_reducible refine AW_block ?_ | ((first | with_reducible refine AW_skip ?_ | with_reducible refine AW_exit ?_ | with_reducible refine AW_ret ?_ | with_reducible refine AW_region hTt ?_ | refine AW_draw hTt hMix (id := 6) 10 false [0, 0, 3, 7, 15, 0, 0, 96, 224, 480, 1023] (by kernel_rfl) rfl rfl (by kernel_rfl) ?_ | fail); conv => whnf) | (exact absurd hb (by omega)) | ((first | with_reducible refine Exists.intro _ (And.intro (gd_any (And.intro (by omega) (tab_some hx))) ?_) | with_reducible refine Exists.intro _ (And.intro (gd_any (And.intro (by omega) (tab_some hy))) ?_) | fail); conv => whnf) | (refine AW_cond rfl (fun hb => ?_) (fun hb => ?_) <;> first | (replace hb := of_decide_eq_true hb; try simp only [List.length_map] at hb) | (replace hb := of_decide_eq_false hb; try simp only [List.length_map] at hb) | (simp only [List.length_map, bne_iff_ne, ne_eq, beq_iff_eq, bne_eq_false_iff_eq, beq_eq_false_iff_ne, decide_eq_true_eq, decide_eq_false_iff_not, Bool.not_eq_true', Bool.not_eq_false', Int.natCast_inj] at hb) | skip) | ((refine And.intro (by first | exact trivial | rfl | exact gd_self | exact gd_any (by omega) | exact fun h => h | decide | (constructor <;> simp [chunk, maxLen]; done) | (intro h; simpa using h)) ?_); conv => whnf) | (refine fun hln => ?_; (try rw [List.length_map] at hln); unfold maxLen at hln; conv => whnf) | fail
        rfl
    · repeat' first | with_reducible refine AW_seq ?_ | with_reducible refine AW_block ?_ | ((first | with_reducible refine AW_skip ?_ | with_reducible refine AW_exit ?_ | with_reducible refine AW_ret ?_ | with_reducible refine AW_region hTt ?_ | refine AW_draw hTt hMix (id := 6) 10 false [0, 0, 3, 7, 15, 0, 0, 96, 224, 480, 1023] (by kernel_rfl) rfl rfl (by kernel_rfl) ?_ | fail); conv => whnf) | (exact absurd hb (by omega)) | (refine AW_cond rfl (fun hb => ?_) (fun hb => ?_) <;> first | (replace hb := of_decide_eq_true hb; try simp only [List.length_map] at hb) | (replace hb := of_decide_eq_false hb; try simp only [List.length_map] at hb) | (simp only [List.length_map, bne_iff_ne, ne_eq, beq_iff_eq, bne_eq_false_iff_eq, beq_eq_false_iff_ne, decide_eq_true_eq, decide_eq_false_iff_not, Bool.not_eq_true', Bool.not_eq_false', Int.natCast_inj] at hb) | skip) | (refine fun hln => ?_; (try rw [List.length_map] at hln); unfold maxLen at hln; conv => whnf) | fail
      rw [show decide (a = b) = true from decide_eq_true (by
        have h1 := List.take_of_length_le (l := a) (i := i) (by omega)
        have h2 := List.take_of_length_le (l := b) (i := i) (by omega)
        rw [← h1, ← h2, htk])]
      rfl
  · rw [show decide (a = b) = false from decide_eq_false fun h => hl (by rw [h])]
    repeat' first | with_reducible refine AW_seq ?_ | with_reducible refine AW_block ?_ | ((first | with_reducible refine AW_skip ?_ | with_reducible refine AW_ret ?_ | with_reducible refine AW_region hTt ?_ | fail); conv => whnf) | (exact absurd hb (by omega)) | (refine AW_cond rfl (fun hb => ?_) (fun hb => ?_) <;> first | (replace hb := of_decide_eq_true hb; try simp only [List.length_map] at hb) | (replace hb := of_decide_eq_false hb; try simp only [List.length_map] at hb) | (simp only [List.length_map, bne_iff_ne, ne_eq, beq_iff_eq, bne_eq_false_iff_eq, beq_eq_false_iff_ne, decide_eq_true_eq, decide_eq_false_iff_not, Bool.not_eq_true', Bool.not_eq_false', Int.natCast_inj] at hb) | skip) | (refine fun hln => ?_; (try rw [List.length_map] at hln); unfold maxLen at hln; conv => whnf) | fail
    rfl
end Go.Proofs.YtfghooojingdhaaDoor
namespace Go.Proofs.YtfghooojingdhaaDoor
open Go Go.QL
set_option maxHeartbeats 1600000
attribute [local irreducible] ACall FnC
structure Ent where
  p : Int × Int
  bef : Int × Int
  inp : Int
  path : List Int
def ent0 : Ent := ⟨(0, 0), (0, 0), 0, []⟩
abbrev StepT := Int × Int → Int → (Int × Int) × Bool
def seenE (E : List Ent) (q : Int × Int) : Bool := E.any fun e => e.p == q
def bfs (step : StepT) (N : Nat) : Nat → List Ent → Nat → Nat → Option (List Int)
  | 0, _, _, _ => none
  | f + 1, E, i, x =>
    if i < E.length then
      if x < N then
        if (step (E.getD i ent0).p x).2 = true then some ((E.getD i ent0).path ++ [(x : Int)])
        else if seenE E (step (E.getD i ent0).p x).1 = true then bfs step N f E i (x + 1)
        else bfs step N f (E ++ [⟨(step (E.getD i ent0).p x).1, (E.getD i ent0).p, x, (E.getD i ent0).path ++ [(x : Int)]⟩]) i (x + 1)
      else bfs step N f E (i + 1) 0
    else none
def fuel0 : Nat := 67000
def bound (i x : Nat) : Nat := (1025 - i) * 65 - x
def srch (step : StepT) (N : Nat) : Option (List Int) := bfs step N fuel0 [ent0] 0 0
def code (p : Int × Int) : Nat := p.1.toNat * 32 + p.2.toNat
def InR (p : Int × Int) : Prop := (0 ≤ p.1 ∧ p.1 < 32) ∧ (0 ≤ p.2 ∧ p.2 < 32)
theorem code_lt {p : Int × Int} (h : InR p) : code p < 1024 := by
  obtain ⟨⟨a, b⟩, c, d⟩ := h
  unfold code; omega
theorem code_inj {p q : Int × Int} (h : InR p) (k : InR q) (e : code p = code q) : p = q := by
  obtain ⟨⟨a, b⟩, c, d⟩ := h
  obtain ⟨⟨a', b'⟩, c', d'⟩ := k
  unfold code at e
  obtain ⟨x, y⟩ := p
  obtain ⟨x', y'⟩ := q
  dsimp only at *
  have : x = x' := by omega
  have : y = y' := by omega
  subst_vars; rfl
theorem left_all (m : Nat) : left [] m = m := by
  induction m with
  | zero => rfl
  | succ m ih => unfold left; rw [ih]; simp
structure SInv (N : Nat) (E : List Ent) : Prop where
  h0 : E[0]? = some ent0
  inj : ∀ (i j : Nat) (a b : Ent), E[i]? = some a → E[j]? = some b → a.p = b.p → i = j
  rng : ∀ e ∈ E, InR e.p
  par : ∀ (j : Nat) (e : Ent), 0 < j → E[j]? = some e → ∃ (j' : Nat) (e' : Ent), j' < j ∧ E[j']? = some e' ∧ e.bef = e'.p ∧ e.path = e'.path ++ [e.inp]
  len : E.length + left (E.map fun e => code e.p) 1024 ≤ 1024
  pth : ∀ (j : Nat) (e : Ent), E[j]? = some e → e.path.length ≤ j ∧ ∀ y ∈ e.path, 0 ≤ y ∧ y < N
theorem SInv.pos {N : Nat} {E : List Ent} (h : SInv N E) : 0 < E.length := (List.getElem?_eq_some_iff.1 h.h0).1
theorem SInv.le {N : Nat} {E : List Ent} (h : SInv N E) : E.length ≤ 1024 := by have := h.len; omega
theorem SInv.init (N : Nat) : SInv N [ent0] where
  h0 := rfl
  inj := fun i j a b h1 h2 _ => by
    have := (List.getElem?_eq_some_iff.1 h1).1
    have := (List.getElem?_eq_some_iff.1 h2).1
    simp at *; omega
  rng := fun e he => by
    rw [List.mem_singleton] at he; subst he
    exact ⟨⟨by decide, by decide⟩, by decide, by decide⟩
  par := fun j e hj h => by
    have := (List.getElem?_eq_some_iff.1 h).1
    simp at this; omega
  len := by
    have := left_lt [] (code ent0.p) 1024 (by decide) (by simp)
    rw [left_all] at this
    simp only [List.nil_append] at this
    simp only [List.map_cons, List.map_nil, List.length_singleton]
    omega
  pth := fun j e h => by
    have := (List.getElem?_eq_some_iff.1 h).1
    have hj : j = 0 := by simpa using this
    subst hj; cases h
    exact ⟨Nat.le_refl _, fun y hy => by cases hy⟩
theorem seen_no {E : List Ent} {q : Int × Int} (h : seenE E q = false) : ∀ e ∈ E, e.p ≠ q := by
  intro e he hq
  unfold seenE at h
  rw [List.any_eq_false] at h
  exact h e he (by simp [hq])
theorem seen_yes {E : List Ent} {q : Int × Int} (h : seenE E q = true) : ∃ (i : Nat) (e : Ent), E[i]? = some e ∧ e.p = q := by
  unfold seenE at h
  rw [List.any_eq_true] at h
  obtain ⟨e, he, hq⟩ := h
  obtain ⟨i, hi, rfl⟩ := List.getElem_of_mem he
  exact ⟨i, _, List.getElem?_eq_getElem hi, by simpa using hq⟩
theorem SInv.step {N : Nat} {E : List Ent} (h : SInv N E) {i x : Nat} {e : Ent} (hi : E[i]? = some e) (hx : x < N) {q : Int × Int} (hq : InR q) (hs : seenE E q = false) :
    SInv N (E ++ [⟨q, e.p, x, e.path ++ [(x : Int)]⟩]) := by
  have hil := (List.getElem?_eq_some_iff.1 hi).1
  have hne := seen_no hs
  have get : ∀ (j : Nat) (a : Ent), (E ++ [⟨q, e.p, x, e.path ++ [(x : Int)]⟩])[j]? = some a → (E[j]? = some a ∧ j < E.length) ∨ (j = E.length ∧ a = ⟨q, e.p, x, e.path ++ [(x : Int)]⟩) := by
    intro j a ha
    by_cases hj : j < E.length
    · rw [List.getElem?_append_left hj] at ha; exact .inl ⟨ha, hj⟩
    · rw [List.getElem?_append_right (by omega)] at ha
      have := (List.getElem?_eq_some_iff.1 ha).1
      have hj0 : j - E.length = 0 := by simpa using this
      rw [hj0] at ha; cases ha
      exact .inr ⟨by omega, rfl⟩
  refine ⟨?_, ?_, ?_, ?_, ?_, ?_⟩
  · rw [List.getElem?_append_left h.pos]; exact h.h0
  · intro a b ea eb ha hb hp
    rcases get a ea ha with ⟨ha, la⟩ | ⟨ha, rfl⟩ <;> rcases get b eb hb with ⟨hb, lb⟩ | ⟨hb, rfl⟩
    · exact h.inj a b ea eb ha hb hp
    · exact absurd hp (hne ea (List.mem_of_getElem? ha))
    · exact absurd hp.symm (hne eb (List.mem_of_getElem? hb))
    · omega
  · intro a ha
    rw [List.mem_append, List.mem_singleton] at ha
    rcases ha with ha | rfl
    · exact h.rng a ha
    · exact hq
  · intro j a hj ha
    rcases get j a ha with ⟨ha, la⟩ | ⟨rfl, rfl⟩
    · obtain ⟨j', e', h1, h2, h3⟩ := h.par j a hj ha
      exact ⟨j', e', h1, by rw [List.getElem?_append_left (by omega)]; exact h2, h3⟩
    · exact ⟨i, e, hil, by rw [List.getElem?_append_left hil]; exact hi, rfl, rfl⟩
  · have hc : code q ∉ E.map fun e => code e.p := by
      intro hm
      rw [List.mem_map] at hm
      obtain ⟨a, ha, hc⟩ := hm
      exact hne a ha (code_inj (h.rng a ha) hq hc)
    have hl := h.len
    have e2 : (E ++ [(⟨q, e.p, x, e.path ++ [(x : Int)]⟩ : Ent)]).map (fun e : Ent => code e.p) = E.map (fun e : Ent => code e.p) ++ [code q] := by rw [List.map_append]; rfl
    rw [e2, List.length_append, List.length_singleton]
    generalize E.map (fun e : Ent => code e.p) = S at hc hl ⊢
    have h2 := code_lt hq
    generalize code q = c at hc h2 ⊢
    have := left_lt S c 1024 h2 hc
    omega
  · intro j a ha
    rcases get j a ha with ⟨ha, la⟩ | ⟨rfl, rfl⟩
    · exact h.pth j a ha
    · obtain ⟨hl, hy⟩ := h.pth i e hi
      refine ⟨by simp; omega, fun y hm => ?_⟩
      simp only [List.mem_append, List.mem_singleton] at hm
      rcases hm with hm | rfl
      · exact hy y hm
      · omega
theorem bfs_ins {step : StepT} (hst : ∀ p x, InR (step p x).1) {N : Nat} : ∀ (f : Nat) (E : List Ent) (i x : Nat), SInv N E → ∀ l, bfs step N f E i x = some l → 0 < l.length ∧ l.length ≤ 1024 ∧ ∀ y ∈ l, 0 ≤ y ∧ y < N := by
  intro f
  induction f with
  | zero => intro E i x _ l h; cases h
  | succ f ih =>
    intro E i x hE l h
    unfold bfs at h
    split at h
    · rename_i hi
      split at h
      · rename_i hx
        have he? : E[i]? = some (E.getD i ent0) := by rw [List.getD_eq_getElem?_getD, List.getElem?_eq_getElem hi]; rfl
        split at h
        · cases h
          obtain ⟨h1, h2⟩ := hE.pth i _ he?
          have := hE.le
          refine ⟨by simp, by rw [List.length_append, List.length_singleton]; omega, fun y hy => ?_⟩
          simp only [List.mem_append, List.mem_singleton] at hy
          rcases hy with hy | rfl
          · exact h2 y hy
          · omega
        · split at h
          · exact ih _ _ _ hE l h
          · rename_i hs
            exact ih _ _ _ (hE.step he? hx (hst _ _) (by simpa using hs)) l h
      · exact ih _ _ _ hE l h
    · cases h
def stepS (a : NetT) (f : FaultT) (b : NetT) (g : FaultT) : StepT := fun p x =>
  (((beatR a f p.1 x).1, (beatR b g p.2 x).1), (beatR a f p.1 x).2 != (beatR b g p.2 x).2)
theorem stepS_in {a b : NetT} (oka : NetOK a) (okb : NetOK b) {f g : FaultT} (hf : FltOK f) (hg : FltOK g) (p : Int × Int) (x : Int) : InR (stepS a f b g p x).1 := by
  have h1 := beatR_st oka hf p.1 x
  have h2 := beatR_st okb hg p.2 x
  have p1 := pow32 oka.hd
  have p2 := pow32 okb.hd
  exact ⟨⟨h1.1, by show (beatR a f p.1 x).1 < 32; omega⟩, h2.1, by show (beatR b g p.2 x).1 < 32; omega⟩
def srchE (r : Option (List Int)) : AV := match r with
  | some l => outE (l, 0)
  | none => outE ([], 9)
end Go.Proofs.YtfghooojingdhaaDoor
namespace Go.Proofs.YtfghooojingdhaaDoor
open Go Go.QL
set_option maxHeartbeats 1600000
attribute [local irreducible] ACall FnC
structure SSt (Q : Type) where
  E : List Ent
  i : Nat
  x : Nat
  st : Nat
  f : Nat
  lv : (Int × Int) × Int
  q : Q
def pV (p : Int × Int) : Value := .agg #[.int .i64 p.1, .int .i64 p.2]
def fromAV (p : Int × Int) (x : Int) : AV := .a [.d (.v (.int .i64 p.1)), .d (.v (.int .i64 p.2)), .d (.v (.int .i64 x))]
def kvE (E : List Ent) : List (Value × AV) := E.map fun e => (pV e.p, fromAV e.bef e.inp)
def ePV (e : Ent) : List PV := [.v (.int .i64 e.p.1), .v (.int .i64 e.p.2)]
abbrev mapE (E : List Ent) : Ob := .x (.map (.st [.int .i64, .int .i64]) (kvE E))
theorem kvE_get {E : List Ent} {i : Nat} {e : Ent} (h : E[i]? = some e) : (kvE E)[i]? = some (pV e.p, fromAV e.bef e.inp) := by
  unfold kvE; rw [List.getElem?_map, h]; rfl
theorem kvE_app (E : List Ent) (e : Ent) : kvE (E ++ [e]) = kvE E ++ [(pV e.p, fromAV e.bef e.inp)] := by unfold kvE; rw [List.map_append]; rfl
theorem pV_inj {p q : Int × Int} (h : pV p = pV q) : p = q := by
  unfold pV at h
  injection h with h
  have h1 := congrArg Array.toList h
  simp at h1
  exact Prod.ext h1.1 h1.2
theorem kvE_no {E : List Ent} {q : Int × Int} (h : seenE E q = false) (i : Nat) (y : AV) : (kvE E)[i]? ≠ some (pV q, y) := by
  intro hc
  unfold kvE at hc
  rw [List.getElem?_map] at hc
  cases he : E[i]? with
  | none => rw [he] at hc; cases hc
  | some e =>
    rw [he] at hc
    have h1 : pV e.p = pV q := by injection hc with hc; injection hc
    exact seen_no h e (List.mem_of_getElem? he) (pV_inj h1)
theorem e_some {E : List Ent} {i : Nat} {e : Ent} (h : E[i]? = some e) : (E.map ePV)[((i : Int)).toNat]? = some [.v (.int .i64 e.p.1), .v (.int .i64 e.p.2)] := by simp [h, ePV]
theorem e_some0 {E : List Ent} {e : Ent} (h : E[0]? = some e) : (E.map ePV)[(0 : Int).toNat]? = some [.v (.int .i64 e.p.1), .v (.int .i64 e.p.2)] := by simp [h, ePV]
theorem shl_N (k : Int) (h0 : 0 ≤ k) (h1 : k ≤ 32) : IntKind.i64.wrap (1 * 2 ^ (min k.toNat IntKind.i64.bits)) = ((2 ^ k.toNat : Nat) : Int) := by
  rw [shl_one k h0 h1]; exact (Int.natCast_pow 2 _).symm
theorem N_le {n : NetT} (h6 : n.inn ≤ 6) : 2 ^ n.inn.toNat ≤ 64 := by
  have : n.inn.toNat ≤ 6 := by omega
  exact Nat.pow_le_pow_right (n := 2) (by decide) this
theorem ne_eqL {p : Int × Int} (h : p ≠ (0, 0)) : (!eqL [.int .i64 p.1, .int .i64 p.2] [.int .i64 0, .int .i64 0]) = true := by
  obtain ⟨a, b⟩ := p
  simp only [eqL, eqV, Bool.and_true, Bool.not_eq_true', Bool.and_eq_false_iff]
  by_cases ha : a = 0
  · right
    have : b ≠ 0 := fun hb => h (by rw [ha, hb])
    simpa using this
  · left; simpa using ha
theorem mpE {E E' : List Ent} (h : E = E') : some (mapE E) = some (mapE E') := by rw [h]
abbrev BQ := Nat × Nat × List W16
abbrev sgS (n : NetT) (s1 : Nat) (sk : List (W16 × W16)) (s2 : Nat) (q : BQ) : Sg := (910, .box [.b 900 0]) :: sB n s1 sk s2 (dl0 n) q.1 q.2.1 q.2.2
theorem show_cl {n : NetT} (ok : NetOK n) {s1 : Nat} {sk : List (W16 × W16)} (hsk : sk.length = n.inn.toNat + n.gates.length) {s2 : Nat} {f : FaultT} (h0 : SkLane sk 0 fine) (h1 : SkLane sk 1 f) (hf : FltOK f) (q : BQ) (p : Int × Int) (x : Int) :
    ACall Tryd.prog 69 [pairAV p, iv .i64 x, .x (.b 910 0)] (sgS n s1 sk s2 q)
      (fun r σ' => ∃ q' : BQ, r = .t [pairAV (stepS n fine n f p x).1, bv (stepS n fine n f p x).2] ∧ σ' = sgS n s1 sk s2 q') := by
  refine (showc_fn ok hsk (s1 := s1) (s2 := s2) (s3 := q.1) (k := q.2.1) (nw := q.2.2) p x).mono ?_
  rintro r σ' ⟨s3', rfl, rfl⟩
  refine ⟨(s3', _, _), ?_, rfl⟩
  have a := lane_beat ok hsk h0 fine_ok (by decide) [p.1, p.2] (by simp) (by simp) x
  have b := lane_beat ok hsk h1 hf (by decide) [p.1, p.2] (by simp) (by simp) x
  have e : showS n sk p x = stepS n fine n f p x := by
    unfold showS stepS sigS
    rw [a.1, a.2, b.1, b.2]; rfl
  rw [e]
abbrev BQ2 := Nat × Nat × List W16 × Nat × Nat × List W16
abbrev sgD (a b : NetT) (s2 t2 : Nat) (q : BQ2) : Sg := sAB a b s2 q.1 q.2.1 q.2.2.1 t2 q.2.2.2.1 q.2.2.2.2.1 q.2.2.2.2.2
theorem diff_cl {a b : NetT} (oka : NetOK a) (okb : NetOK b) {s2 t2 : Nat} (q : BQ2) (p : Int × Int) (x : Int) :
    ACall Tryd.prog 65 [pairAV p, iv .i64 x, .x (.b 910 0), .x (.b 911 0)] (sgD a b s2 t2 q)
      (fun r σ' => ∃ q' : BQ2, r = .t [pairAV (stepS a fine b fine p x).1, bv (stepS a fine b fine p x).2] ∧ σ' = sgD a b s2 t2 q') := by
  refine (diffc_fn oka okb (s2 := s2) (s3 := q.1) (k := q.2.1) (nw := q.2.2.1) (t2 := t2) (t3 := q.2.2.2.1) (l := q.2.2.2.2.1) (mw := q.2.2.2.2.2) p x).mono ?_
  rintro r σ' ⟨s3', t3', rfl, rfl⟩
  refine ⟨(s3', _, _, t3', _, _), ?_, rfl⟩
  have h := lane_beat oka (sk0_len a) (sk0_lane a 0) fine_ok (by decide) [p.1] (by simp) (by simp) x
  have k := lane_beat okb (sk0_len b) (sk0_lane b 0) fine_ok (by decide) [p.2] (by simp) (by simp) x
  have e : diffS a b p x = stepS a fine b fine p x := by
    unfold diffS stepS sig0
    rw [h.1, h.2, k.1, k.2]; rfl
  rw [e]
end Go.Proofs.YtfghooojingdhaaDoor
namespace Go.Proofs.YtfghooojingdhaaDoor
open Go Go.QL
set_option maxHeartbeats 3200000
attribute [local irreducible] ACall FnC
theorem search_show0 {n : NetT} (ok : NetOK n) {s1 : Nat} {sk : List (W16 × W16)} (hsk : sk.length = n.inn.toNat + n.gates.length) {s2 : Nat} {f : FaultT} (h0 : SkLane sk 0 fine) (h1 : SkLane sk 1 f) (hf : FltOK f) (q0 : BQ) :
    ACall Tryd.prog 64 [iv .i64 n.inn, .x (.f (.func 69) [] [.b 910 0])] (sgS n s1 sk s2 (q0))
      (fun r σ' => ∃ q : BQ, LeAV r (srchE (srch (stepS n fine n f) (2 ^ n.inn.toNat))) ∧ σ' = sgS n s1 sk s2 (q)) := by
  have hn1 := ok.h1; have hn6 := ok.h6
  have hN6 := N_le hn6
  obtain ⟨N, hN⟩ : ∃ N : Nat, (2 ^ n.inn.toNat) = N := ⟨_, rfl⟩
  have hshl := shl_N n.inn (by omega) (by omega)
  rw [hN] at hN6 hshl ⊢
  refine ACall_of_AWD hTt Tryd.func64 rfl (by kernel_rfl) (res := [.tmp 4, .tmp 5]) rfl Tryd.ntmps64 (by simp) fun w0 K0 B => ?_
  dsimp only [entry]
  repeat' first | with_reducible refine AW_seq ?_ | with_reducible refine AW_block ?_ | with_reducible refine AW_scope ?_ | ((first | with_reducible refine AW_label ?_ | with_reducible refine AW_region hTt ?_ | refine ⟨kvE [ent0], .inr ⟨fun i y => by simp, rfl⟩, ?_⟩ | fail); conv => whnf) | ((refine And.intro (by first | exact trivial | rfl | exact gd_self | exact gd_any (by omega) | exact fun h => h | decide | (constructor <;> simp [chunk, maxLen]; done) | (intro h; simpa using h)) ?_); conv => whnf) | fail
  refine AW_loop (fun s : SSt BQ => [(10, iv .i64 s.i), (9, bv false), (8, .x (.b 8 0)), (7, .x (.o 23 s.st s.E.length)), (6, .x (.h 18)), (0, iv .i64 n.inn), (1, .x (.f (.func 69) [] [.b 910 0]))])
    (fun s => (8, .box [.d (.v (.int .i64 s.lv.1.1)), .d (.v (.int .i64 s.lv.1.2)), .d (.v (.int .i64 s.lv.2))]) :: (23, .chain 100 2 s.st (s.E.map ePV)) :: (18, mapE s.E) :: sgS n s1 sk s2 (s.q))
    (fun s => s.x = 0 ∧ s.i ≤ s.E.length ∧ SInv N s.E ∧ bound s.i 0 ≤ s.f ∧ srch (stepS n fine n f) N = bfs (stepS n fine n f) N s.f s.E s.i 0) (fun s => 1025 - s.i) ⟨[ent0], 0, 0, 0, fuel0, ((0, 0), 0), q0⟩
    ⟨rfl, Nat.zero_le _, SInv.init _, by show bound 0 0 ≤ fuel0; decide, rfl⟩ (Imp.forget (by repeat' (first | exact trivial | refine And.intro ?_ ?_ | rfl | exact ivE (by first | omega | (simp only [List.length_map, List.length_append, List.length_singleton] <;> omega)) | exact oE (by first | omega | (simp only [List.length_map, List.length_append, List.length_singleton] <;> omega)))) (by repeat' (first | exact trivial | refine And.intro ?_ ?_ | rfl | exact ivE (by first | omega | (simp only [List.length_map, List.length_append, List.length_singleton] <;> omega)) | exact oE (by first | omega | (simp only [List.length_map, List.length_append, List.length_singleton] <;> omega)))) (by kernel_rfl) (by kernel_rfl) (by kernel_rfl)) ?_
  rintro ⟨E, i, x, st, f0, lv, q⟩ ⟨hx0, hi, hE, hbd, hsr⟩
  dsimp only at hx0 hi hE hbd hsr ⊢
  subst hx0
  have hle := hE.le
  rcases Nat.lt_or_ge i E.length with hil | hil
  · repeat' first | with_reducible refine AW_seq ?_ | with_reducible refine AW_block ?_ | ((first | with_reducible refine AW_skip ?_ | with_reducible refine AW_exit ?_ | with_reducible refine AW_region hTt ?_ | fail); conv => whnf) | (exact absurd hb (by omega)) | ((refine ⟨_, hshl, ?_⟩); conv => whnf) | (refine AW_cond rfl (fun hb => ?_) (fun hb => ?_) <;> first | (replace hb := of_decide_eq_true hb; try simp only [List.length_map] at hb) | (replace hb := of_decide_eq_false hb; try simp only [List.length_map] at hb) | (simp only [List.length_map, bne_iff_ne, ne_eq, beq_iff_eq, bne_eq_false_iff_eq, beq_eq_false_iff_ne, decide_eq_true_eq, decide_eq_false_iff_not, Bool.not_eq_true', Bool.not_eq_false', Int.natCast_inj] at hb) | skip) | ((refine And.intro (by first | exact trivial | rfl | exact gd_self | exact gd_any (by omega) | exact fun h => h | decide | (constructor <;> simp [chunk, maxLen]; done) | (intro h; simpa using h)) ?_); conv => whnf) | (refine fun hln => ?_; (try rw [List.length_map] at hln); unfold maxLen at hln; conv => whnf) | fail
    refine AW_loop (fun s : SSt BQ => [(32, iv .i64 s.x), (31, iv .i64 N), (10, iv .i64 i), (9, bv false), (8, .x (.b 8 0)), (7, .x (.o 23 s.st s.E.length)), (6, .x (.h 18)), (0, iv .i64 n.inn), (1, .x (.f (.func 69) [] [.b 910 0]))])
      (fun s => (8, .box [.d (.v (.int .i64 s.lv.1.1)), .d (.v (.int .i64 s.lv.1.2)), .d (.v (.int .i64 s.lv.2))]) :: (23, .chain 100 2 s.st (s.E.map ePV)) :: (18, mapE s.E) :: sgS n s1 sk s2 (s.q))
      (fun s => s.i = i ∧ i < s.E.length ∧ s.x ≤ N ∧ SInv N s.E ∧ bound i s.x ≤ s.f ∧ srch (stepS n fine n f) N = bfs (stepS n fine n f) N s.f s.E i s.x) (fun s => N - s.x) ⟨E, i, 0, st, f0, lv, q⟩
      ⟨rfl, hil, Nat.zero_le _, hE, hbd, hsr⟩ (Imp.forget (by repeat' (first | exact trivial | refine And.intro ?_ ?_ | rfl | exact ivE (by first | omega | (simp only [List.length_map, List.length_append, List.length_singleton] <;> omega)) | exact oE (by first | omega | (simp only [List.length_map, List.length_append, List.length_singleton] <;> omega)))) (by repeat' (first | exact trivial | refine And.intro ?_ ?_ | rfl | exact ivE (by first | omega | (simp only [List.length_map, List.length_append, List.length_singleton] <;> omega)) | exact oE (by first | omega | (simp only [List.length_map, List.length_append, List.length_singleton] <;> omega)))) (by kernel_rfl) (by kernel_rfl) (by kernel_rfl)) ?_
    clear hsr hbd hE hle hi hil
    rintro ⟨E, i', x, st, f0, lv, q⟩ ⟨hii, hil, hx, hE, hbd, hsr⟩
    dsimp only at hii hil hx hE hbd hsr ⊢
    subst hii
    have hle := hE.le
    obtain ⟨f1, rfl⟩ : ∃ f1, f0 = f1 + 1 := ⟨f0 - 1, by unfold bound at hbd; omega⟩
    rcases Nat.lt_or_ge x N with hxN | hxN
    · obtain ⟨e, he⟩ : ∃ e, E[i']? = some e := ⟨_, List.getElem?_eq_getElem hil⟩
      have heD : E.getD i' ent0 = e := by rw [List.getD_eq_getElem?_getD, he]; rfl
      rw [bfs, if_pos hil, if_pos hxN, heD] at hsr
      have hcl := show_cl ok hsk (s1 := s1) (s2 := s2) h0 h1 hf q e.p x
      have hin := stepS_in ok ok fine_ok hf e.p x
      generalize hst : stepS n fine n f e.p x = sx at hsr hcl hin
      obtain ⟨nx, df⟩ := sx
      dsimp only at hsr hcl hin
      cases df with
      | true =>
        rw [if_pos rfl] at hsr
        rw [hsr]
        repeat' first | with_reducible refine AW_seq ?_ | with_reducible refine AW_block ?_ | ((first | with_reducible refine AW_skip ?_ | with_reducible refine AW_exit ?_ | with_reducible refine AW_region hTt ?_ | fail); conv => whnf) | (exact absurd hb (by omega)) | ((first | refine ⟨_, gd_any (e_some he), ⟨Nat.le_of_ble_eq_true rfl, rfl⟩, ?_⟩ | ((refine ⟨_, (hcl).frame (asc []) (by repeat (first | exact trivial | refine ⟨rfl, ?_⟩)) rfl (by rintro _ _ ⟨_, rfl, rfl⟩; rfl), ?_⟩); (rintro _ _ ⟨_, _, ⟨_, rfl, rfl⟩, rfl, rfl⟩)) | fail); conv => whnf) | (refine AW_cond rfl (fun _ => ?_) (fun hb => absurd hb (by decide))) | (refine AW_cond rfl (fun hb => absurd hb (by decide)) (fun _ => ?_)) | (refine AW_cond rfl (fun hb => ?_) (fun hb => ?_) <;> first | (replace hb := of_decide_eq_true hb; try simp only [List.length_map] at hb) | (replace hb := of_decide_eq_false hb; try simp only [List.length_map] at hb) | (simp only [List.length_map, bne_iff_ne, ne_eq, beq_iff_eq, bne_eq_false_iff_eq, beq_eq_false_iff_ne, decide_eq_true_eq, decide_eq_false_iff_not, Bool.not_eq_true', Bool.not_eq_false', Int.natCast_inj] at hb) | skip) | ((refine And.intro (by first | exact trivial | rfl | exact gd_self | exact gd_any (by omega) | exact fun h => h | decide | (constructor <;> simp [chunk, maxLen]; done) | (intro h; simpa using h)) ?_); conv => whnf) | ((with_reducible refine And.intro (gd_any (And.intro (by omega) (And.intro (by first | omega | (simp only [List.length_map]; omega)) (by first | omega | (simp only [List.length_map]; omega) | (simp only [List.length_set, List.length_map]; omega))))) ?_); conv => whnf) | fail
        rename_i q' _ _
        have hpl := hE.pth i' e he
        refine AW_loop (fun s : Ent × Nat × List Int × Nat => [(16, .x (.o 72 s.2.2.2 s.2.2.1.length)), (6, .x (.h 18)), (17, .x (.b 17 0)), (7, .x (.o 23 st E.length))])
          (fun s => (72, .chain 3 1 s.2.2.2 (s.2.2.1.map iPV)) :: (17, .box [.d (.v (.int .i64 s.1.p.1)), .d (.v (.int .i64 s.1.p.2))]) :: (23, .chain 100 2 st (E.map ePV)) :: (18, mapE E) :: sgS n s1 sk s2 (q'))
          (fun s => E[s.2.1]? = some s.1 ∧ s.2.2.1 ++ s.1.path.reverse = (e.path ++ [(x : Int)]).reverse) (fun s => s.2.1) (e, i', [(x : Int)], 0) ⟨he, by simp⟩ (Imp.forget (by repeat' (first | exact trivial | refine And.intro ?_ ?_ | rfl | exact ivE (by first | omega | (simp only [List.length_map, List.length_append, List.length_singleton] <;> omega)) | exact oE (by first | omega | (simp only [List.length_map, List.length_append, List.length_singleton] <;> omega)))) (by repeat' (first | exact trivial | refine And.intro ?_ ?_ | rfl | exact ivE (by first | omega | (simp only [List.length_map, List.length_append, List.length_singleton] <;> omega)) | exact oE (by first | omega | (simp only [List.length_map, List.length_append, List.length_singleton] <;> omega)))) (by kernel_rfl) (by kernel_rfl) (by kernel_rfl)) ?_
        rintro ⟨⟨c, cb, ci, cp⟩, j, l, sl'⟩ ⟨hj, hl⟩
        dsimp only at hj hl ⊢
        have hcp := (hE.pth j _ hj).1
        have hll : l.length ≤ 1025 := by
          have := congrArg List.length hl
          simp only [List.length_append, List.length_reverse, List.length_singleton] at this
          omega
        rcases Nat.eq_zero_or_pos j with hj0 | hj0
        · subst hj0
          have hc0 := hE.h0
          rw [hj] at hc0
          injection hc0 with hc0
          have e1 : c = (0, 0) := congrArg Ent.p hc0
          have e2 : cp = [] := congrArg Ent.path hc0
          subst e1; subst e2
          clear hc0
          dsimp only
          repeat' first | with_reducible refine AW_seq ?_ | ((first | with_reducible refine AW_exit ?_ | with_reducible refine AW_region hTt ?_ | refine AW_draw hTt hMix (id := 24) 4 false [0, 0, 2, 6, 15] (by kernel_rfl) rfl rfl (by kernel_rfl) ?_ | refine ⟨_, gd_none (e_some0 hE.h0), ⟨Nat.le_of_ble_eq_true rfl, rfl⟩, ?_⟩ | fail); conv => whnf) | (refine AW_cond rfl (fun hb => absurd hb (by decide)) (fun _ => ?_)) | ((refine And.intro (by first | exact trivial | rfl | exact gd_self | exact gd_any (by omega) | exact fun h => h | decide | (constructor <;> simp [chunk, maxLen]; done) | (intro h; simpa using h)) ?_); conv => whnf) | ((with_reducible refine And.intro (gd_any (And.intro (by omega) (And.intro (by first | omega | (simp only [List.length_map]; omega)) (by first | omega | (simp only [List.length_map]; omega) | (simp only [List.length_set, List.length_map]; omega))))) ?_); conv => whnf) | fail
          have e3 : l = (e.path ++ [(x : Int)]).reverse := by simpa using hl
          have hrev := reverse_fn l sl' (by omega)
          repeat' first | with_reducible refine AW_seq ?_ | ((first | with_reducible refine AW_ret ?_ | with_reducible refine AW_region hTt ?_ | ((refine ⟨_, (hrev).frame (asc [(700, 72)]) (by repeat (first | exact trivial | refine ⟨rfl, ?_⟩)) rfl (by rintro _ _ ⟨rfl, rfl⟩; rfl), ?_⟩); (rintro _ _ ⟨_, _, ⟨rfl, rfl⟩, rfl, rfl⟩)) | fail); conv => whnf) | fail
          have e4 : l.reverse = e.path ++ [(x : Int)] := by rw [e3, List.reverse_reverse]
          refine ⟨_, sgS n s1 sk s2 (q'), ⟨rfl, rfl, rfl, rfl, rfl, trivial⟩, rfl, (?_ : _ = some (AV.t [sl (e.path ++ [(x : Int)]), iv .i64 0])), q', ?_, rfl⟩
          · rw [← e4]
            exact outKeep2 (x := .x (.o 72 sl' _)) (y := iv .i64 0) rfl (keepO (xs := l.reverse.map iPV) rfl rfl (by simp)) rfl
          · exact LeAV.refl _
        · have hne : c ≠ (0, 0) := by
            intro h0
            have := hE.inj j 0 _ ent0 hj hE.h0 h0
            omega
          have hnq := ne_eqL hne
          obtain ⟨j', e', hjj, hj', hb1, hb2⟩ := hE.par j _ hj0 hj
          dsimp only at hb1 hb2
          repeat' first | ((refine AW_imp (fr' := [(16, .x (.o 72 (sl' + 1) (l.length + 1))), (6, .x (.h 18)), (7, .x (.o 23 st E.length)), (91, .a [.d (.v (.int .i64 c.1)), .d (.v (.int .i64 c.2))])]) (σ' := (72, .chain 3 1 (sl' + 1) ((l ++ [ci]).map iPV)) :: (23, .chain 100 2 st (E.map ePV)) :: (18, mapE E) :: sgS n s1 sk s2 (q')) (Imp.forget (by repeat' (first | exact trivial | refine And.intro ?_ ?_ | exact chE (by rw [List.take_of_length_le (by simp), List.map_append]; try rfl) | rfl | exact ivE (by first | omega | (simp only [List.length_map, List.length_append, List.length_singleton] <;> omega)) | exact oE (by first | omega | (simp only [List.length_map, List.length_append, List.length_singleton] <;> omega)))) (by repeat' (first | exact trivial | refine And.intro ?_ ?_ | exact chE (by rw [List.take_of_length_le (by simp), List.map_append]; try rfl) | rfl | exact ivE (by first | omega | (simp only [List.length_map, List.length_append, List.length_singleton] <;> omega)) | exact oE (by first | omega | (simp only [List.length_map, List.length_append, List.length_singleton] <;> omega)))) (by kernel_rfl) (by kernel_rfl) (by kernel_rfl)) (AW_region (id := 28) hTt ?_)); conv => whnf) | with_reducible refine AW_seq ?_ | with_reducible refine AW_block ?_ | ((first | with_reducible refine AW_skip ?_ | with_reducible refine AW_region hTt ?_ | refine AW_draw hTt hMix (id := 24) 4 false [0, 0, 2, 6, 15] (by kernel_rfl) rfl rfl (by kernel_rfl) ?_ | refine ⟨_, gd_none (e_some0 hE.h0), ⟨Nat.le_of_ble_eq_true rfl, rfl⟩, ?_⟩ | fail); conv => whnf) | (refine AW_cond (b := true) (congrArg (fun z => some (none, bv z)) hnq) (fun _ => ?_) (fun hb => absurd hb (by decide))) | ((refine ⟨fromAV cb ci, true, .inl ⟨rfl, j, kvE_get hj⟩, rfl, ?_⟩); conv => whnf) | ((refine And.intro (by first | exact trivial | rfl | exact gd_self | exact gd_any (by omega) | exact fun h => h | decide | (constructor <;> simp [chunk, maxLen]; done) | (intro h; simpa using h)) ?_); conv => whnf) | ((with_reducible refine And.intro (gd_any (And.intro (by omega) (And.intro (by first | omega | (simp only [List.length_map]; omega)) (by first | omega | (simp only [List.length_map]; omega) | (simp only [List.length_set, List.length_map]; omega))))) ?_); conv => whnf) | ((refine And.intro (by refine ⟨?_, ?_, ?_⟩ <;> simp [chunk, maxLen] <;> omega) ?_); conv => whnf) | fail
          subst hb1; subst hb2
          refine ⟨(e', j', l ++ [ci], sl' + 1), ⟨hj', ?_⟩, hjj, (Imp.forget (by repeat' (first | exact trivial | refine And.intro ?_ ?_ | rfl | exact ivE (by first | omega | (simp only [List.length_map, List.length_append, List.length_singleton] <;> omega)) | exact oE (by first | omega | (simp only [List.length_map, List.length_append, List.length_singleton] <;> omega)))) (by repeat' (first | exact trivial | refine And.intro ?_ ?_ | rfl | exact ivE (by first | omega | (simp only [List.length_map, List.length_append, List.length_singleton] <;> omega)) | exact oE (by first | omega | (simp only [List.length_map, List.length_append, List.length_singleton] <;> omega)))) (by kernel_rfl) (by kernel_rfl) (by kernel_rfl))⟩
          rw [← hl]
          simp
      | false =>
        rw [if_neg (by decide)] at hsr
        by_cases hs : seenE E nx = true
        · rw [if_pos hs] at hsr
          obtain ⟨k, ek, hk, hkp⟩ := seen_yes hs
          subst hkp
          repeat' first | with_reducible refine AW_seq ?_ | with_reducible refine AW_block ?_ | ((first | with_reducible refine AW_skip ?_ | with_reducible refine AW_exit ?_ | with_reducible refine AW_region hTt ?_ | fail); conv => whnf) | (exact absurd hb (by omega)) | ((first | refine ⟨_, gd_any (e_some he), ⟨Nat.le_of_ble_eq_true rfl, rfl⟩, ?_⟩ | ((refine ⟨_, (hcl).frame (asc []) (by repeat (first | exact trivial | refine ⟨rfl, ?_⟩)) rfl (by rintro _ _ ⟨_, rfl, rfl⟩; rfl), ?_⟩); (rintro _ _ ⟨_, _, ⟨_, rfl, rfl⟩, rfl, rfl⟩)) | refine ⟨fromAV ek.bef ek.inp, true, .inl ⟨rfl, k, kvE_get hk⟩, rfl, ?_⟩ | fail); conv => whnf) | (refine AW_cond rfl (fun hb => absurd hb (by decide)) (fun _ => ?_)) | (refine AW_cond rfl (fun hb => ?_) (fun hb => ?_) <;> first | (replace hb := of_decide_eq_true hb; try simp only [List.length_map] at hb) | (replace hb := of_decide_eq_false hb; try simp only [List.length_map] at hb) | (simp only [List.length_map, bne_iff_ne, ne_eq, beq_iff_eq, bne_eq_false_iff_eq, beq_eq_false_iff_ne, decide_eq_true_eq, decide_eq_false_iff_not, Bool.not_eq_true', Bool.not_eq_false', Int.natCast_inj] at hb) | skip) | ((refine ⟨_, wrap_of (by first | omega | (simp only [List.length_map]; omega)), ?_⟩); conv => whnf) | ((refine And.intro (by first | exact trivial | rfl | exact gd_self | exact gd_any (by omega) | exact fun h => h | decide | (constructor <;> simp [chunk, maxLen]; done) | (intro h; simpa using h)) ?_); conv => whnf) | ((with_reducible refine And.intro (gd_any (And.intro (by omega) (And.intro (by first | omega | (simp only [List.length_map]; omega)) (by first | omega | (simp only [List.length_map]; omega) | (simp only [List.length_set, List.length_map]; omega))))) ?_); conv => whnf) | fail
          rename_i q' _ _
          exact ⟨⟨E, i', x + 1, st, f1, (e.p, x), q'⟩, ⟨rfl, hil, hxN, hE, by show bound i' (x + 1) ≤ f1; unfold bound at hbd ⊢; omega, hsr⟩, by show N - (x + 1) < N - x; omega, (Imp.forget (by repeat' (first | exact trivial | refine And.intro ?_ ?_ | rfl | exact ivE (by first | omega | (simp only [List.length_map, List.length_append, List.length_singleton] <;> omega)) | exact oE (by first | omega | (simp only [List.length_map, List.length_append, List.length_singleton] <;> omega)))) (by repeat' (first | exact trivial | refine And.intro ?_ ?_ | rfl | exact ivE (by first | omega | (simp only [List.length_map, List.length_append, List.length_singleton] <;> omega)) | exact oE (by first | omega | (simp only [List.length_map, List.length_append, List.length_singleton] <;> omega)))) (by kernel_rfl) (by kernel_rfl) (by kernel_rfl))⟩
        · have hs' : seenE E nx = false := by simpa using hs
          rw [if_neg hs] at hsr
          have hE2 := hE.step he hxN hin hs'
          repeat' first | with_reducible refine AW_seq ?_ | with_reducible refine AW_block ?_ | ((first | with_reducible refine AW_skip ?_ | with_reducible refine AW_exit ?_ | with_reducible refine AW_region hTt ?_ | fail); conv => whnf) | (exact absurd hb (by omega)) | ((first | refine ⟨_, gd_any (e_some he), ⟨Nat.le_of_ble_eq_true rfl, rfl⟩, ?_⟩ | ((refine ⟨_, (hcl).frame (asc []) (by repeat (first | exact trivial | refine ⟨rfl, ?_⟩)) rfl (by rintro _ _ ⟨_, rfl, rfl⟩; rfl), ?_⟩); (rintro _ _ ⟨_, _, ⟨_, rfl, rfl⟩, rfl, rfl⟩)) | refine ⟨_, false, .inr ⟨rfl, rfl, kvE_no hs'⟩, rfl, ?_⟩ | refine ⟨kvE (E ++ [⟨nx, e.p, x, e.path ++ [(x : Int)]⟩]), .inr ⟨kvE_no hs', kvE_app _ _⟩, ?_⟩ | fail); conv => whnf) | (refine AW_cond rfl (fun _ => ?_) (fun hb => absurd hb (by decide))) | (refine AW_cond rfl (fun hb => absurd hb (by decide)) (fun _ => ?_)) | (refine AW_cond rfl (fun hb => ?_) (fun hb => ?_) <;> first | (replace hb := of_decide_eq_true hb; try simp only [List.length_map] at hb) | (replace hb := of_decide_eq_false hb; try simp only [List.length_map] at hb) | (simp only [List.length_map, bne_iff_ne, ne_eq, beq_iff_eq, bne_eq_false_iff_eq, beq_eq_false_iff_ne, decide_eq_true_eq, decide_eq_false_iff_not, Bool.not_eq_true', Bool.not_eq_false', Int.natCast_inj] at hb) | skip) | ((refine ⟨_, wrap_of (by first | omega | (simp only [List.length_map]; omega)), ?_⟩); conv => whnf) | ((refine And.intro (by first | exact trivial | rfl | exact gd_self | exact gd_any (by omega) | exact fun h => h | decide | (constructor <;> simp [chunk, maxLen]; done) | (intro h; simpa using h)) ?_); conv => whnf) | ((with_reducible refine And.intro (gd_any (And.intro (by omega) (And.intro (by first | omega | (simp only [List.length_map]; omega)) (by first | omega | (simp only [List.length_map]; omega) | (simp only [List.length_set, List.length_map]; omega))))) ?_); conv => whnf) | ((refine And.intro (by refine ⟨?_, ?_, ?_⟩ <;> simp [chunk, maxLen] <;> omega) ?_); conv => whnf) | fail
          rename_i q' _ _
          exact ⟨⟨E ++ [⟨nx, e.p, x, e.path ++ [(x : Int)]⟩], i', x + 1, st + 1, f1, (e.p, x), q'⟩, ⟨rfl, by show i' < (E ++ [_]).length; rw [List.length_append]; omega, hxN, hE2, by show bound i' (x + 1) ≤ f1; unfold bound at hbd ⊢; omega, hsr⟩, by show N - (x + 1) < N - x; omega,
            (Imp.forget (by repeat' (first | exact trivial | refine And.intro ?_ ?_ | exact chE (by rw [List.take_of_length_le (by simp), List.map_append]; try rfl) | exact oE (by rw [List.length_append]; rfl) | rfl | exact ivE (by first | omega | (simp only [List.length_map, List.length_append, List.length_singleton] <;> omega)) | exact oE (by first | omega | (simp only [List.length_map, List.length_append, List.length_singleton] <;> omega)))) (by repeat' (first | exact trivial | refine And.intro ?_ ?_ | exact chE (by rw [List.take_of_length_le (by simp), List.map_append]; try rfl) | exact oE (by rw [List.length_append]; rfl) | rfl | exact ivE (by first | omega | (simp only [List.length_map, List.length_append, List.length_singleton] <;> omega)) | exact oE (by first | omega | (simp only [List.length_map, List.length_append, List.length_singleton] <;> omega)))) (by kernel_rfl) (by kernel_rfl) (by kernel_rfl))⟩
    · have hxe : x = N := by omega
      subst hxe
      rw [bfs, if_pos hil, if_neg (by omega)] at hsr
      repeat' first | with_reducible refine AW_seq ?_ | with_reducible refine AW_block ?_ | ((first | with_reducible refine AW_skip ?_ | with_reducible refine AW_exit ?_ | with_reducible refine AW_region hTt ?_ | fail); conv => whnf) | (exact absurd hb (by omega)) | (refine AW_cond rfl (fun hb => ?_) (fun hb => ?_) <;> first | (replace hb := of_decide_eq_true hb; try simp only [List.length_map] at hb) | (replace hb := of_decide_eq_false hb; try simp only [List.length_map] at hb) | (simp only [List.length_map, bne_iff_ne, ne_eq, beq_iff_eq, bne_eq_false_iff_eq, beq_eq_false_iff_ne, decide_eq_true_eq, decide_eq_false_iff_not, Bool.not_eq_true', Bool.not_eq_false', Int.natCast_inj] at hb) | skip) | ((refine ⟨_, wrap_of (by first | omega | (simp only [List.length_map]; omega)), ?_⟩); conv => whnf) | fail
      exact ⟨⟨E, i' + 1, 0, st, f1, lv, q⟩, ⟨rfl, hil, hE, by show bound (i' + 1) 0 ≤ f1; unfold bound at hbd ⊢; omega, hsr⟩, by show 1025 - (i' + 1) < 1025 - i'; omega, (Imp.forget (by repeat' (first | exact trivial | refine And.intro ?_ ?_ | rfl | exact ivE (by first | omega | (simp only [List.length_map, List.length_append, List.length_singleton] <;> omega)) | exact oE (by first | omega | (simp only [List.length_map, List.length_append, List.length_singleton] <;> omega)))) (by repeat' (first | exact trivial | refine And.intro ?_ ?_ | rfl | exact ivE (by first | omega | (simp only [List.length_map, List.length_append, List.length_singleton] <;> omega)) | exact oE (by first | omega | (simp only [List.length_map, List.length_append, List.length_singleton] <;> omega)))) (by kernel_rfl) (by kernel_rfl) (by kernel_rfl))⟩
  · obtain ⟨f1, rfl⟩ : ∃ f1, f0 = f1 + 1 := ⟨f0 - 1, by unfold bound at hbd; omega⟩
    rw [bfs, if_neg (by omega)] at hsr
    rw [hsr]
    repeat' first | with_reducible refine AW_seq ?_ | with_reducible refine AW_block ?_ | ((first | with_reducible refine AW_skip ?_ | with_reducible refine AW_exit ?_ | with_reducible refine AW_ret ?_ | with_reducible refine AW_region hTt ?_ | fail); conv => whnf) | (exact absurd hb (by omega)) | (refine AW_cond rfl (fun _ => ?_) (fun hb => absurd hb (by decide))) | (refine AW_cond rfl (fun hb => ?_) (fun hb => ?_) <;> first | (replace hb := of_decide_eq_true hb; try simp only [List.length_map] at hb) | (replace hb := of_decide_eq_false hb; try simp only [List.length_map] at hb) | (simp only [List.length_map, bne_iff_ne, ne_eq, beq_iff_eq, bne_eq_false_iff_eq, beq_eq_false_iff_ne, decide_eq_true_eq, decide_eq_false_iff_not, Bool.not_eq_true', Bool.not_eq_false', Int.natCast_inj] at hb) | skip) | ((refine And.intro (by first | exact trivial | rfl | exact gd_self | exact gd_any (by omega) | exact fun h => h | decide | (constructor <;> simp [chunk, maxLen]; done) | (intro h; simpa using h)) ?_); conv => whnf) | (refine fun hln => ?_; (try rw [List.length_map] at hln); unfold maxLen at hln; conv => whnf) | fail
    exact ⟨_, sgS n s1 sk s2 (q), ⟨rfl, rfl, rfl, rfl, rfl, trivial⟩, rfl, rfl, q, ⟨_, rfl, LeAV1.nil 1, LeAV1.refl _, trivial⟩, rfl⟩
theorem search_show {n : NetT} (ok : NetOK n) {s1 : Nat} {sk : List (W16 × W16)} (hsk : sk.length = n.inn.toNat + n.gates.length) {s2 : Nat} {f : FaultT} (h0 : SkLane sk 0 fine) (h1 : SkLane sk 1 f) (hf : FltOK f) (q0 : BQ) :
    ACall Tryd.prog 64 [iv .i64 n.inn, .x (.f (.func 69) [] [.b 910 0])] (sgS n s1 sk s2 (q0))
      (fun r σ' => ∃ q : BQ, r = srchE (srch (stepS n fine n f) (2 ^ n.inn.toNat)) ∧ σ' = sgS n s1 sk s2 (q)) :=
  (search_show0 ok hsk h0 h1 hf q0).le fun r σ' ⟨q, h, e⟩ => ⟨_, h, q, rfl, e⟩
end Go.Proofs.YtfghooojingdhaaDoor
namespace Go.Proofs.YtfghooojingdhaaDoor
open Go Go.QL
set_option maxHeartbeats 3200000
attribute [local irreducible] ACall FnC
theorem search_diff0 {a b : NetT} (oka : NetOK a) (okb : NetOK b) {s2 t2 : Nat} (q0 : BQ2) :
    ACall Tryd.prog 64 [iv .i64 a.inn, .x (.f (.func 65) [] [.b 910 0, .b 911 0])] (sgD a b s2 t2 (q0))
      (fun r σ' => ∃ q : BQ2, LeAV r (srchE (srch (stepS a fine b fine) (2 ^ a.inn.toNat))) ∧ σ' = sgD a b s2 t2 (q)) := by
  have hn1 := oka.h1; have hn6 := oka.h6
  have hN6 := N_le hn6
  obtain ⟨N, hN⟩ : ∃ N : Nat, (2 ^ a.inn.toNat) = N := ⟨_, rfl⟩
  have hshl := shl_N a.inn (by omega) (by omega)
  rw [hN] at hN6 hshl ⊢
  refine ACall_of_AWD hTt Tryd.func64 rfl (by kernel_rfl) (res := [.tmp 4, .tmp 5]) rfl Tryd.ntmps64 (by simp) fun w0 K0 B => ?_
  dsimp only [entry]
  repeat' first | with_reducible refine AW_seq ?_ | with_reducible refine AW_block ?_ | with_reducible refine AW_scope ?_ | ((first | with_reducible refine AW_label ?_ | with_reducible refine AW_region hTt ?_ | refine ⟨kvE [ent0], .inr ⟨fun i y => by simp, rfl⟩, ?_⟩ | fail); conv => whnf) | ((refine And.intro (by first | exact trivial | rfl | exact gd_self | exact gd_any (by omega) | exact fun h => h | decide | (constructor <;> simp [chunk, maxLen]; done) | (intro h; simpa using h)) ?_); conv => whnf) | fail
  refine AW_loop (fun s : SSt BQ2 => [(10, iv .i64 s.i), (9, bv false), (8, .x (.b 8 0)), (7, .x (.o 23 s.st s.E.length)), (6, .x (.h 18)), (0, iv .i64 a.inn), (1, .x (.f (.func 65) [] [.b 910 0, .b 911 0]))])
    (fun s => (8, .box [.d (.v (.int .i64 s.lv.1.1)), .d (.v (.int .i64 s.lv.1.2)), .d (.v (.int .i64 s.lv.2))]) :: (23, .chain 100 2 s.st (s.E.map ePV)) :: (18, mapE s.E) :: sgD a b s2 t2 (s.q))
    (fun s => s.x = 0 ∧ s.i ≤ s.E.length ∧ SInv N s.E ∧ bound s.i 0 ≤ s.f ∧ srch (stepS a fine b fine) N = bfs (stepS a fine b fine) N s.f s.E s.i 0) (fun s => 1025 - s.i) ⟨[ent0], 0, 0, 0, fuel0, ((0, 0), 0), q0⟩
    ⟨rfl, Nat.zero_le _, SInv.init _, by show bound 0 0 ≤ fuel0; decide, rfl⟩ (Imp.forget (by repeat' (first | exact trivial | refine And.intro ?_ ?_ | rfl | exact ivE (by first | omega | (simp only [List.length_map, List.length_append, List.length_singleton] <;> omega)) | exact oE (by first | omega | (simp only [List.length_map, List.length_append, List.length_singleton] <;> omega)))) (by repeat' (first | exact trivial | refine And.intro ?_ ?_ | rfl | exact ivE (by first | omega | (simp only [List.length_map, List.length_append, List.length_singleton] <;> omega)) | exact oE (by first | omega | (simp only [List.length_map, List.length_append, List.length_singleton] <;> omega)))) (by kernel_rfl) (by kernel_rfl) (by kernel_rfl)) ?_
  rintro ⟨E, i, x, st, f0, lv, q⟩ ⟨hx0, hi, hE, hbd, hsr⟩
  dsimp only at hx0 hi hE hbd hsr ⊢
  subst hx0
  have hle := hE.le
  rcases Nat.lt_or_ge i E.length with hil | hil
  · repeat' first | with_reducible refine AW_seq ?_ | with_reducible refine AW_block ?_ | ((first | with_reducible refine AW_skip ?_ | with_reducible refine AW_exit ?_ | with_reducible refine AW_region hTt ?_ | fail); conv => whnf) | (exact absurd hb (by omega)) | ((refine ⟨_, hshl, ?_⟩); conv => whnf) | (refine AW_cond rfl (fun hb => ?_) (fun hb => ?_) <;> first | (replace hb := of_decide_eq_true hb; try simp only [List.length_map] at hb) | (replace hb := of_decide_eq_false hb; try simp only [List.length_map] at hb) | (simp only [List.length_map, bne_iff_ne, ne_eq, beq_iff_eq, bne_eq_false_iff_eq, beq_eq_false_iff_ne, decide_eq_true_eq, decide_eq_false_iff_not, Bool.not_eq_true', Bool.not_eq_false', Int.natCast_inj] at hb) | skip) | ((refine And.intro (by first | exact trivial | rfl | exact gd_self | exact gd_any (by omega) | exact fun h => h | decide | (constructor <;> simp [chunk, maxLen]; done) | (intro h; simpa using h)) ?_); conv => whnf) | (refine fun hln => ?_; (try rw [List.length_map] at hln); unfold maxLen at hln; conv => whnf) | fail
    refine AW_loop (fun s : SSt BQ2 => [(32, iv .i64 s.x), (31, iv .i64 N), (10, iv .i64 i), (9, bv false), (8, .x (.b 8 0)), (7, .x (.o 23 s.st s.E.length)), (6, .x (.h 18)), (0, iv .i64 a.inn), (1, .x (.f (.func 65) [] [.b 910 0, .b 911 0]))])
      (fun s => (8, .box [.d (.v (.int .i64 s.lv.1.1)), .d (.v (.int .i64 s.lv.1.2)), .d (.v (.int .i64 s.lv.2))]) :: (23, .chain 100 2 s.st (s.E.map ePV)) :: (18, mapE s.E) :: sgD a b s2 t2 (s.q))
      (fun s => s.i = i ∧ i < s.E.length ∧ s.x ≤ N ∧ SInv N s.E ∧ bound i s.x ≤ s.f ∧ srch (stepS a fine b fine) N = bfs (stepS a fine b fine) N s.f s.E i s.x) (fun s => N - s.x) ⟨E, i, 0, st, f0, lv, q⟩
      ⟨rfl, hil, Nat.zero_le _, hE, hbd, hsr⟩ (Imp.forget (by repeat' (first | exact trivial | refine And.intro ?_ ?_ | rfl | exact ivE (by first | omega | (simp only [List.length_map, List.length_append, List.length_singleton] <;> omega)) | exact oE (by first | omega | (simp only [List.length_map, List.length_append, List.length_singleton] <;> omega)))) (by repeat' (first | exact trivial | refine And.intro ?_ ?_ | rfl | exact ivE (by first | omega | (simp only [List.length_map, List.length_append, List.length_singleton] <;> omega)) | exact oE (by first | omega | (simp only [List.length_map, List.length_append, List.length_singleton] <;> omega)))) (by kernel_rfl) (by kernel_rfl) (by kernel_rfl)) ?_
    clear hsr hbd hE hle hi hil
    rintro ⟨E, i', x, st, f0, lv, q⟩ ⟨hii, hil, hx, hE, hbd, hsr⟩
    dsimp only at hii hil hx hE hbd hsr ⊢
    subst hii
    have hle := hE.le
    obtain ⟨f1, rfl⟩ : ∃ f1, f0 = f1 + 1 := ⟨f0 - 1, by unfold bound at hbd; omega⟩
    rcases Nat.lt_or_ge x N with hxN | hxN
    · obtain ⟨e, he⟩ : ∃ e, E[i']? = some e := ⟨_, List.getElem?_eq_getElem hil⟩
      have heD : E.getD i' ent0 = e := by rw [List.getD_eq_getElem?_getD, he]; rfl
      rw [bfs, if_pos hil, if_pos hxN, heD] at hsr
      have hcl := diff_cl oka okb (s2 := s2) (t2 := t2) q e.p x
      have hin := stepS_in oka okb fine_ok fine_ok e.p x
      generalize hst : stepS a fine b fine e.p x = sx at hsr hcl hin
      obtain ⟨nx, df⟩ := sx
      dsimp only at hsr hcl hin
      cases df with
      | true =>
        rw [if_pos rfl] at hsr
        rw [hsr]
        repeat' first | with_reducible refine AW_seq ?_ | with_reducible refine AW_block ?_ | ((first | with_reducible refine AW_skip ?_ | with_reducible refine AW_exit ?_ | with_reducible refine AW_region hTt ?_ | fail); conv => whnf) | (exact absurd hb (by omega)) | ((first | refine ⟨_, gd_any (e_some he), ⟨Nat.le_of_ble_eq_true rfl, rfl⟩, ?_⟩ | ((refine ⟨_, (hcl).frame (asc []) (by repeat (first | exact trivial | refine ⟨rfl, ?_⟩)) rfl (by rintro _ _ ⟨_, rfl, rfl⟩; rfl), ?_⟩); (rintro _ _ ⟨_, _, ⟨_, rfl, rfl⟩, rfl, rfl⟩)) | fail); conv => whnf) | (refine AW_cond rfl (fun _ => ?_) (fun hb => absurd hb (by decide))) | (refine AW_cond rfl (fun hb => absurd hb (by decide)) (fun _ => ?_)) | (refine AW_cond rfl (fun hb => ?_) (fun hb => ?_) <;> first | (replace hb := of_decide_eq_true hb; try simp only [List.length_map] at hb) | (replace hb := of_decide_eq_false hb; try simp only [List.length_map] at hb) | (simp only [List.length_map, bne_iff_ne, ne_eq, beq_iff_eq, bne_eq_false_iff_eq, beq_eq_false_iff_ne, decide_eq_true_eq, decide_eq_false_iff_not, Bool.not_eq_true', Bool.not_eq_false', Int.natCast_inj] at hb) | skip) | ((refine And.intro (by first | exact trivial | rfl | exact gd_self | exact gd_any (by omega) | exact fun h => h | decide | (constructor <;> simp [chunk, maxLen]; done) | (intro h; simpa using h)) ?_); conv => whnf) | ((with_reducible refine And.intro (gd_any (And.intro (by omega) (And.intro (by first | omega | (simp only [List.length_map]; omega)) (by first | omega | (simp only [List.length_map]; omega) | (simp only [List.length_set, List.length_map]; omega))))) ?_); conv => whnf) | fail
        rename_i q' _ _
        have hpl := hE.pth i' e he
        refine AW_loop (fun s : Ent × Nat × List Int × Nat => [(16, .x (.o 72 s.2.2.2 s.2.2.1.length)), (6, .x (.h 18)), (17, .x (.b 17 0)), (7, .x (.o 23 st E.length))])
          (fun s => (72, .chain 3 1 s.2.2.2 (s.2.2.1.map iPV)) :: (17, .box [.d (.v (.int .i64 s.1.p.1)), .d (.v (.int .i64 s.1.p.2))]) :: (23, .chain 100 2 st (E.map ePV)) :: (18, mapE E) :: sgD a b s2 t2 (q'))
          (fun s => E[s.2.1]? = some s.1 ∧ s.2.2.1 ++ s.1.path.reverse = (e.path ++ [(x : Int)]).reverse) (fun s => s.2.1) (e, i', [(x : Int)], 0) ⟨he, by simp⟩ (Imp.forget (by repeat' (first | exact trivial | refine And.intro ?_ ?_ | rfl | exact ivE (by first | omega | (simp only [List.length_map, List.length_append, List.length_singleton] <;> omega)) | exact oE (by first | omega | (simp only [List.length_map, List.length_append, List.length_singleton] <;> omega)))) (by repeat' (first | exact trivial | refine And.intro ?_ ?_ | rfl | exact ivE (by first | omega | (simp only [List.length_map, List.length_append, List.length_singleton] <;> omega)) | exact oE (by first | omega | (simp only [List.length_map, List.length_append, List.length_singleton] <;> omega)))) (by kernel_rfl) (by kernel_rfl) (by kernel_rfl)) ?_
        rintro ⟨⟨c, cb, ci, cp⟩, j, l, sl'⟩ ⟨hj, hl⟩
        dsimp only at hj hl ⊢
        have hcp := (hE.pth j _ hj).1
        have hll : l.length ≤ 1025 := by
          have := congrArg List.length hl
          simp only [List.length_append, List.length_reverse, List.length_singleton] at this
          omega
        rcases Nat.eq_zero_or_pos j with hj0 | hj0
        · subst hj0
          have hc0 := hE.h0
          rw [hj] at hc0
          injection hc0 with hc0
          have e1 : c = (0, 0) := congrArg Ent.p hc0
          have e2 : cp = [] := congrArg Ent.path hc0
          subst e1; subst e2
          clear hc0
          dsimp only
          repeat' first | with_reducible refine AW_seq ?_ | ((first | with_reducible refine AW_exit ?_ | with_reducible refine AW_region hTt ?_ | refine AW_draw hTt hMix (id := 24) 4 false [0, 0, 2, 6, 15] (by kernel_rfl) rfl rfl (by kernel_rfl) ?_ | refine ⟨_, gd_none (e_some0 hE.h0), ⟨Nat.le_of_ble_eq_true rfl, rfl⟩, ?_⟩ | fail); conv => whnf) | (refine AW_cond rfl (fun hb => absurd hb (by decide)) (fun _ => ?_)) | ((refine And.intro (by first | exact trivial | rfl | exact gd_self | exact gd_any (by omega) | exact fun h => h | decide | (constructor <;> simp [chunk, maxLen]; done) | (intro h; simpa using h)) ?_); conv => whnf) | ((with_reducible refine And.intro (gd_any (And.intro (by omega) (And.intro (by first | omega | (simp only [List.length_map]; omega)) (by first | omega | (simp only [List.length_map]; omega) | (simp only [List.length_set, List.length_map]; omega))))) ?_); conv => whnf) | fail
          have e3 : l = (e.path ++ [(x : Int)]).reverse := by simpa using hl
          have hrev := reverse_fn l sl' (by omega)
          repeat' first | with_reducible refine AW_seq ?_ | ((first | with_reducible refine AW_ret ?_ | with_reducible refine AW_region hTt ?_ | ((refine ⟨_, (hrev).frame (asc [(700, 72)]) (by repeat (first | exact trivial | refine ⟨rfl, ?_⟩)) rfl (by rintro _ _ ⟨rfl, rfl⟩; rfl), ?_⟩); (rintro _ _ ⟨_, _, ⟨rfl, rfl⟩, rfl, rfl⟩)) | fail); conv => whnf) | fail
          have e4 : l.reverse = e.path ++ [(x : Int)] := by rw [e3, List.reverse_reverse]
          refine ⟨_, sgD a b s2 t2 (q'), ⟨rfl, rfl, rfl, rfl, rfl, rfl, rfl, rfl, rfl, rfl, trivial⟩, rfl, (?_ : _ = some (AV.t [sl (e.path ++ [(x : Int)]), iv .i64 0])), q', ?_, rfl⟩
          · rw [← e4]
            exact outKeep2 (x := .x (.o 72 sl' _)) (y := iv .i64 0) rfl (keepO (xs := l.reverse.map iPV) rfl rfl (by simp)) rfl
          · exact LeAV.refl _
        · have hne : c ≠ (0, 0) := by
            intro h0
            have := hE.inj j 0 _ ent0 hj hE.h0 h0
            omega
          have hnq := ne_eqL hne
          obtain ⟨j', e', hjj, hj', hb1, hb2⟩ := hE.par j _ hj0 hj
          dsimp only at hb1 hb2
          repeat' first | ((refine AW_imp (fr' := [(16, .x (.o 72 (sl' + 1) (l.length + 1))), (6, .x (.h 18)), (7, .x (.o 23 st E.length)), (91, .a [.d (.v (.int .i64 c.1)), .d (.v (.int .i64 c.2))])]) (σ' := (72, .chain 3 1 (sl' + 1) ((l ++ [ci]).map iPV)) :: (23, .chain 100 2 st (E.map ePV)) :: (18, mapE E) :: sgD a b s2 t2 (q')) (Imp.forget (by repeat' (first | exact trivial | refine And.intro ?_ ?_ | exact chE (by rw [List.take_of_length_le (by simp), List.map_append]; try rfl) | rfl | exact ivE (by first | omega | (simp only [List.length_map, List.length_append, List.length_singleton] <;> omega)) | exact oE (by first | omega | (simp only [List.length_map, List.length_append, List.length_singleton] <;> omega)))) (by repeat' (first | exact trivial | refine And.intro ?_ ?_ | exact chE (by rw [List.take_of_length_le (by simp), List.map_append]; try rfl) | rfl | exact ivE (by first | omega | (simp only [List.length_map, List.length_append, List.length_singleton] <;> omega)) | exact oE (by first | omega | (simp only [List.length_map, List.length_append, List.length_singleton] <;> omega)))) (by kernel_rfl) (by kernel_rfl) (by kernel_rfl)) (AW_region (id := 28) hTt ?_)); conv => whnf) | with_reducible refine AW_seq ?_ | with_reducible refine AW_block ?_ | ((first | with_reducible refine AW_skip ?_ | with_reducible refine AW_region hTt ?_ | refine AW_draw hTt hMix (id := 24) 4 false [0, 0, 2, 6, 15] (by kernel_rfl) rfl rfl (by kernel_rfl) ?_ | refine ⟨_, gd_none (e_some0 hE.h0), ⟨Nat.le_of_ble_eq_true rfl, rfl⟩, ?_⟩ | fail); conv => whnf) | (refine AW_cond (b := true) (congrArg (fun z => some (none, bv z)) hnq) (fun _ => ?_) (fun hb => absurd hb (by decide))) | ((refine ⟨fromAV cb ci, true, .inl ⟨rfl, j, kvE_get hj⟩, rfl, ?_⟩); conv => whnf) | ((refine And.intro (by first | exact trivial | rfl | exact gd_self | exact gd_any (by omega) | exact fun h => h | decide | (constructor <;> simp [chunk, maxLen]; done) | (intro h; simpa using h)) ?_); conv => whnf) | ((with_reducible refine And.intro (gd_any (And.intro (by omega) (And.intro (by first | omega | (simp only [List.length_map]; omega)) (by first | omega | (simp only [List.length_map]; omega) | (simp only [List.length_set, List.length_map]; omega))))) ?_); conv => whnf) | ((refine And.intro (by refine ⟨?_, ?_, ?_⟩ <;> simp [chunk, maxLen] <;> omega) ?_); conv => whnf) | fail
          subst hb1; subst hb2
          refine ⟨(e', j', l ++ [ci], sl' + 1), ⟨hj', ?_⟩, hjj, (Imp.forget (by repeat' (first | exact trivial | refine And.intro ?_ ?_ | rfl | exact ivE (by first | omega | (simp only [List.length_map, List.length_append, List.length_singleton] <;> omega)) | exact oE (by first | omega | (simp only [List.length_map, List.length_append, List.length_singleton] <;> omega)))) (by repeat' (first | exact trivial | refine And.intro ?_ ?_ | rfl | exact ivE (by first | omega | (simp only [List.length_map, List.length_append, List.length_singleton] <;> omega)) | exact oE (by first | omega | (simp only [List.length_map, List.length_append, List.length_singleton] <;> omega)))) (by kernel_rfl) (by kernel_rfl) (by kernel_rfl))⟩
          rw [← hl]
          simp
      | false =>
        rw [if_neg (by decide)] at hsr
        by_cases hs : seenE E nx = true
        · rw [if_pos hs] at hsr
          obtain ⟨k, ek, hk, hkp⟩ := seen_yes hs
          subst hkp
          repeat' first | with_reducible refine AW_seq ?_ | with_reducible refine AW_block ?_ | ((first | with_reducible refine AW_skip ?_ | with_reducible refine AW_exit ?_ | with_reducible refine AW_region hTt ?_ | fail); conv => whnf) | (exact absurd hb (by omega)) | ((first | refine ⟨_, gd_any (e_some he), ⟨Nat.le_of_ble_eq_true rfl, rfl⟩, ?_⟩ | ((refine ⟨_, (hcl).frame (asc []) (by repeat (first | exact trivial | refine ⟨rfl, ?_⟩)) rfl (by rintro _ _ ⟨_, rfl, rfl⟩; rfl), ?_⟩); (rintro _ _ ⟨_, _, ⟨_, rfl, rfl⟩, rfl, rfl⟩)) | refine ⟨fromAV ek.bef ek.inp, true, .inl ⟨rfl, k, kvE_get hk⟩, rfl, ?_⟩ | fail); conv => whnf) | (refine AW_cond rfl (fun hb => absurd hb (by decide)) (fun _ => ?_)) | (refine AW_cond rfl (fun hb => ?_) (fun hb => ?_) <;> first | (replace hb := of_decide_eq_true hb; try simp only [List.length_map] at hb) | (replace hb := of_decide_eq_false hb; try simp only [List.length_map] at hb) | (simp only [List.length_map, bne_iff_ne, ne_eq, beq_iff_eq, bne_eq_false_iff_eq, beq_eq_false_iff_ne, decide_eq_true_eq, decide_eq_false_iff_not, Bool.not_eq_true', Bool.not_eq_false', Int.natCast_inj] at hb) | skip) | ((refine ⟨_, wrap_of (by first | omega | (simp only [List.length_map]; omega)), ?_⟩); conv => whnf) | ((refine And.intro (by first | exact trivial | rfl | exact gd_self | exact gd_any (by omega) | exact fun h => h | decide | (constructor <;> simp [chunk, maxLen]; done) | (intro h; simpa using h)) ?_); conv => whnf) | ((with_reducible refine And.intro (gd_any (And.intro (by omega) (And.intro (by first | omega | (simp only [List.length_map]; omega)) (by first | omega | (simp only [List.length_map]; omega) | (simp only [List.length_set, List.length_map]; omega))))) ?_); conv => whnf) | fail
          rename_i q' _ _
          exact ⟨⟨E, i', x + 1, st, f1, (e.p, x), q'⟩, ⟨rfl, hil, hxN, hE, by show bound i' (x + 1) ≤ f1; unfold bound at hbd ⊢; omega, hsr⟩, by show N - (x + 1) < N - x; omega, (Imp.forget (by repeat' (first | exact trivial | refine And.intro ?_ ?_ | rfl | exact ivE (by first | omega | (simp only [List.length_map, List.length_append, List.length_singleton] <;> omega)) | exact oE (by first | omega | (simp only [List.length_map, List.length_append, List.length_singleton] <;> omega)))) (by repeat' (first | exact trivial | refine And.intro ?_ ?_ | rfl | exact ivE (by first | omega | (simp only [List.length_map, List.length_append, List.length_singleton] <;> omega)) | exact oE (by first | omega | (simp only [List.length_map, List.length_append, List.length_singleton] <;> omega)))) (by kernel_rfl) (by kernel_rfl) (by kernel_rfl))⟩
        · have hs' : seenE E nx = false := by simpa using hs
          rw [if_neg hs] at hsr
          have hE2 := hE.step he hxN hin hs'
          repeat' first | with_reducible refine AW_seq ?_ | with_reducible refine AW_block ?_ | ((first | with_reducible refine AW_skip ?_ | with_reducible refine AW_exit ?_ | with_reducible refine AW_region hTt ?_ | fail); conv => whnf) | (exact absurd hb (by omega)) | ((first | refine ⟨_, gd_any (e_some he), ⟨Nat.le_of_ble_eq_true rfl, rfl⟩, ?_⟩ | ((refine ⟨_, (hcl).frame (asc []) (by repeat (first | exact trivial | refine ⟨rfl, ?_⟩)) rfl (by rintro _ _ ⟨_, rfl, rfl⟩; rfl), ?_⟩); (rintro _ _ ⟨_, _, ⟨_, rfl, rfl⟩, rfl, rfl⟩)) | refine ⟨_, false, .inr ⟨rfl, rfl, kvE_no hs'⟩, rfl, ?_⟩ | refine ⟨kvE (E ++ [⟨nx, e.p, x, e.path ++ [(x : Int)]⟩]), .inr ⟨kvE_no hs', kvE_app _ _⟩, ?_⟩ | fail); conv => whnf) | (refine AW_cond rfl (fun _ => ?_) (fun hb => absurd hb (by decide))) | (refine AW_cond rfl (fun hb => absurd hb (by decide)) (fun _ => ?_)) | (refine AW_cond rfl (fun hb => ?_) (fun hb => ?_) <;> first | (replace hb := of_decide_eq_true hb; try simp only [List.length_map] at hb) | (replace hb := of_decide_eq_false hb; try simp only [List.length_map] at hb) | (simp only [List.length_map, bne_iff_ne, ne_eq, beq_iff_eq, bne_eq_false_iff_eq, beq_eq_false_iff_ne, decide_eq_true_eq, decide_eq_false_iff_not, Bool.not_eq_true', Bool.not_eq_false', Int.natCast_inj] at hb) | skip) | ((refine ⟨_, wrap_of (by first | omega | (simp only [List.length_map]; omega)), ?_⟩); conv => whnf) | ((refine And.intro (by first | exact trivial | rfl | exact gd_self | exact gd_any (by omega) | exact fun h => h | decide | (constructor <;> simp [chunk, maxLen]; done) | (intro h; simpa using h)) ?_); conv => whnf) | ((with_reducible refine And.intro (gd_any (And.intro (by omega) (And.intro (by first | omega | (simp only [List.length_map]; omega)) (by first | omega | (simp only [List.length_map]; omega) | (simp only [List.length_set, List.length_map]; omega))))) ?_); conv => whnf) | ((refine And.intro (by refine ⟨?_, ?_, ?_⟩ <;> simp [chunk, maxLen] <;> omega) ?_); conv => whnf) | fail
          rename_i q' _ _
          exact ⟨⟨E ++ [⟨nx, e.p, x, e.path ++ [(x : Int)]⟩], i', x + 1, st + 1, f1, (e.p, x), q'⟩, ⟨rfl, by show i' < (E ++ [_]).length; rw [List.length_append]; omega, hxN, hE2, by show bound i' (x + 1) ≤ f1; unfold bound at hbd ⊢; omega, hsr⟩, by show N - (x + 1) < N - x; omega,
            (Imp.forget (by repeat' (first | exact trivial | refine And.intro ?_ ?_ | exact chE (by rw [List.take_of_length_le (by simp), List.map_append]; try rfl) | exact oE (by rw [List.length_append]; rfl) | rfl | exact ivE (by first | omega | (simp only [List.length_map, List.length_append, List.length_singleton] <;> omega)) | exact oE (by first | omega | (simp only [List.length_map, List.length_append, List.length_singleton] <;> omega)))) (by repeat' (first | exact trivial | refine And.intro ?_ ?_ | exact chE (by rw [List.take_of_length_le (by simp), List.map_append]; try rfl) | exact oE (by rw [List.length_append]; rfl) | rfl | exact ivE (by first | omega | (simp only [List.length_map, List.length_append, List.length_singleton] <;> omega)) | exact oE (by first | omega | (simp only [List.length_map, List.length_append, List.length_singleton] <;> omega)))) (by kernel_rfl) (by kernel_rfl) (by kernel_rfl))⟩
    · have hxe : x = N := by omega
      subst hxe
      rw [bfs, if_pos hil, if_neg (by omega)] at hsr
      repeat' first | with_reducible refine AW_seq ?_ | with_reducible refine AW_block ?_ | ((first | with_reducible refine AW_skip ?_ | with_reducible refine AW_exit ?_ | with_reducible refine AW_region hTt ?_ | fail); conv => whnf) | (exact absurd hb (by omega)) | (refine AW_cond rfl (fun hb => ?_) (fun hb => ?_) <;> first | (replace hb := of_decide_eq_true hb; try simp only [List.length_map] at hb) | (replace hb := of_decide_eq_false hb; try simp only [List.length_map] at hb) | (simp only [List.length_map, bne_iff_ne, ne_eq, beq_iff_eq, bne_eq_false_iff_eq, beq_eq_false_iff_ne, decide_eq_true_eq, decide_eq_false_iff_not, Bool.not_eq_true', Bool.not_eq_false', Int.natCast_inj] at hb) | skip) | ((refine ⟨_, wrap_of (by first | omega | (simp only [List.length_map]; omega)), ?_⟩); conv => whnf) | fail
      exact ⟨⟨E, i' + 1, 0, st, f1, lv, q⟩, ⟨rfl, hil, hE, by show bound (i' + 1) 0 ≤ f1; unfold bound at hbd ⊢; omega, hsr⟩, by show 1025 - (i' + 1) < 1025 - i'; omega, (Imp.forget (by repeat' (first | exact trivial | refine And.intro ?_ ?_ | rfl | exact ivE (by first | omega | (simp only [List.length_map, List.length_append, List.length_singleton] <;> omega)) | exact oE (by first | omega | (simp only [List.length_map, List.length_append, List.length_singleton] <;> omega)))) (by repeat' (first | exact trivial | refine And.intro ?_ ?_ | rfl | exact ivE (by first | omega | (simp only [List.length_map, List.length_append, List.length_singleton] <;> omega)) | exact oE (by first | omega | (simp only [List.length_map, List.length_append, List.length_singleton] <;> omega)))) (by kernel_rfl) (by kernel_rfl) (by kernel_rfl))⟩
  · obtain ⟨f1, rfl⟩ : ∃ f1, f0 = f1 + 1 := ⟨f0 - 1, by unfold bound at hbd; omega⟩
    rw [bfs, if_neg (by omega)] at hsr
    rw [hsr]
    repeat' first | with_reducible refine AW_seq ?_ | with_reducible refine AW_block ?_ | ((first | with_reducible refine AW_skip ?_ | with_reducible refine AW_exit ?_ | with_reducible refine AW_ret ?_ | with_reducible refine AW_region hTt ?_ | fail); conv => whnf) | (exact absurd hb (by omega)) | (refine AW_cond rfl (fun _ => ?_) (fun hb => absurd hb (by decide))) | (refine AW_cond rfl (fun hb => ?_) (fun hb => ?_) <;> first | (replace hb := of_decide_eq_true hb; try simp only [List.length_map] at hb) | (replace hb := of_decide_eq_false hb; try simp only [List.length_map] at hb) | (simp only [List.length_map, bne_iff_ne, ne_eq, beq_iff_eq, bne_eq_false_iff_eq, beq_eq_false_iff_ne, decide_eq_true_eq, decide_eq_false_iff_not, Bool.not_eq_true', Bool.not_eq_false', Int.natCast_inj] at hb) | skip) | ((refine And.intro (by first | exact trivial | rfl | exact gd_self | exact gd_any (by omega) | exact fun h => h | decide | (constructor <;> simp [chunk, maxLen]; done) | (intro h; simpa using h)) ?_); conv => whnf) | (refine fun hln => ?_; (try rw [List.length_map] at hln); unfold maxLen at hln; conv => whnf) | fail
    exact ⟨_, sgD a b s2 t2 (q), ⟨rfl, rfl, rfl, rfl, rfl, rfl, rfl, rfl, rfl, rfl, trivial⟩, rfl, rfl, q, ⟨_, rfl, LeAV1.nil 1, LeAV1.refl _, trivial⟩, rfl⟩
theorem search_diff {a b : NetT} (oka : NetOK a) (okb : NetOK b) {s2 t2 : Nat} (q0 : BQ2) :
    ACall Tryd.prog 64 [iv .i64 a.inn, .x (.f (.func 65) [] [.b 910 0, .b 911 0])] (sgD a b s2 t2 (q0))
      (fun r σ' => ∃ q : BQ2, r = srchE (srch (stepS a fine b fine) (2 ^ a.inn.toNat)) ∧ σ' = sgD a b s2 t2 (q)) :=
  (search_diff0 oka okb q0).le fun r σ' ⟨q, h, e⟩ => ⟨_, h, q, rfl, e⟩
end Go.Proofs.YtfghooojingdhaaDoor
namespace Go.Proofs.YtfghooojingdhaaDoor
open Go Go.QL
set_option maxHeartbeats 1600000
attribute [local irreducible] ACall FnC
theorem build_nil' (n : NetT) (h1 : 1 ≤ n.inn) (h6 : n.inn ≤ 6) (hl : n.gates.length ≤ 24) :
    ACall Tryd.prog 63 [netAV n, .x (.d (.v (.map none)))] []
      (fun r σ' => r = .x (.b 19 0) ∧ σ' = sB2 n 19 17 0 (sk0 n) (dl0 n).length (dl0 n)) := by
  refine ACall_of_AWD hTt Tryd.func63 rfl (by kernel_rfl) (res := [.tmp 4]) rfl Tryd.ntmps63 (by simp) fun w0 K0 B => ?_
  dsimp only [entry]
  repeat' first | with_reducible refine AW_seq ?_ | with_reducible refine AW_block ?_ | ((first | with_reducible refine AW_region hTt ?_ | refine AW_draw hTt hMix (id := 1) 8 true [0, 0, 2, 0, 8, 24, 62, 126, 255, 511, 1023] (by kernel_rfl) rfl rfl (by kernel_rfl) ?_ | refine ⟨_, wrap_of (by first | omega | (simp only [List.length_map]; omega)), ?_⟩ | fail); conv => whnf) | ((refine And.intro (by first | exact trivial | rfl | exact gd_self | exact gd_any (by omega) | exact fun h => h | decide | (constructor <;> simp [chunk, maxLen]; done) | (intro h; simpa using h)) ?_); conv => whnf) | ((with_reducible refine And.intro (And.intro (by omega) (And.intro (by first | omega | (simp only [List.length_map]; omega)) (by first | omega | (simp only [List.length_map, List.length_set]; omega)))) ?_); conv => whnf) | fail
  have eN : (n.inn + ((List.map gPV n.gates).length : Int)).toNat = (sk0 n).length := by
    unfold sk0; rw [List.length_map, List.length_replicate]; omega
  have eC : List.replicate (n.inn + ((List.map gPV n.gates).length : Int)).toNat [PV.v (.int .u16 0), PV.v (.int .u16 0)] = (sk0 n).map sPV := by
    rw [eN]; unfold sk0; rw [List.length_replicate, List.map_replicate]; rfl
  refine AW_loop (fun _ : Unit => [(21, .x (.h 21)), (2, .x (.b 2 0)), (5, .x (.b 19 0))])
    (fun _ => [(21, .x (.mapIter none 0 [] 0)), (2, .box [.d (.v (.int .i64 n.inn)), .d (gatesPV n.gates), .d (intsPV n.out)]), (19, .box [.d (.v (.int .i64 n.inn)), .d (gatesPV n.gates), .d (intsPV n.out), .o 17 0 (sk0 n).length, .d (.v (.slice none 0 0)), .d (.v (.slice none 0 0))]), (17, .chain 126 2 0 ((sk0 n).map sPV))])
    (fun _ => True) (fun _ => 0) () trivial
    (Imp.forget ⟨rfl, rfl, rfl, trivial⟩ ⟨rfl, rfl, congrArg (fun k => some (Ob.box [.d (.v (.int .i64 n.inn)), .d (gatesPV n.gates), .d (intsPV n.out), .o 17 0 k, .d (.v (.slice none 0 0)), .d (.v (.slice none 0 0))])) eN, congrArg (fun l => some (Ob.chain 126 2 0 l)) eC, trivial⟩ rfl) ?_
  rintro ⟨⟩ -
  repeat' first | with_reducible refine AW_seq ?_ | with_reducible refine AW_block ?_ | ((first | with_reducible refine AW_exit ?_ | with_reducible refine AW_region hTt ?_ | fail); conv => whnf) | (refine AW_cond rfl (fun hb => absurd hb (by decide)) (fun _ => ?_)) | ((refine And.intro (by first | exact trivial | rfl | exact gd_self | exact gd_any (by omega) | exact fun h => h | decide | (constructor <;> simp [chunk, maxLen]; done) | (intro h; simpa using h)) ?_); conv => whnf) | (refine fun hln => ?_; (try rw [List.length_map] at hln); unfold maxLen at hln; conv => whnf) | fail
  refine AW_imp (Imp.nil 902 3 1 (fr' := [(46, iv .i64 0), (45, iv .i64 n.gates.length), (44, .x (.d (gatesPV n.gates))), (2, .x (.b 2 0)), (5, .x (.b 19 0))])
    (σ' := [(2, .box [.d (.v (.int .i64 n.inn)), .d (gatesPV n.gates), .d (intsPV n.out)]), (19, .box [.d (.v (.int .i64 n.inn)), .d (gatesPV n.gates), .d (intsPV n.out), .o 17 0 (sk0 n).length, .o 902 0 0, .d (.v (.slice none 0 0))]), (17, .chain 126 2 0 ((sk0 n).map sPV))]) rfl ?_ ?_ rfl rfl) ?_
  · exact ⟨⟨_, rfl, .inl rfl⟩, ⟨_, congrArg (fun k : Nat => some (iv .i64 k)) (List.length_map _), .inl rfl⟩, ⟨_, rfl, .inl rfl⟩, ⟨_, rfl, .inl rfl⟩, ⟨_, rfl, .inl rfl⟩, trivial⟩
  · exact ⟨⟨_, rfl, .inl rfl⟩, ⟨_, rfl, .inr ⟨_, _, rfl, rfl, .inl rfl, .inl rfl, .inl rfl, .inl rfl, .inr ⟨rfl, rfl⟩, .inl rfl, trivial⟩⟩, ⟨_, rfl, .inl rfl⟩, trivial⟩
  refine AW_imp (Imp.nil 903 125 1 (fr' := [(46, iv .i64 0), (45, iv .i64 n.gates.length), (44, .x (.d (gatesPV n.gates))), (2, .x (.b 2 0)), (5, .x (.b 19 0))])
    (σ' := [(902, .chain 3 1 0 []), (2, .box [.d (.v (.int .i64 n.inn)), .d (gatesPV n.gates), .d (intsPV n.out)]), (19, .box [.d (.v (.int .i64 n.inn)), .d (gatesPV n.gates), .d (intsPV n.out), .o 17 0 (sk0 n).length, .o 902 0 0, .o 903 0 0]), (17, .chain 126 2 0 ((sk0 n).map sPV))]) rfl ?_ ?_ rfl rfl) ?_
  · exact ⟨⟨_, rfl, .inl rfl⟩, ⟨_, rfl, .inl rfl⟩, ⟨_, rfl, .inl rfl⟩, ⟨_, rfl, .inl rfl⟩, ⟨_, rfl, .inl rfl⟩, trivial⟩
  · exact ⟨⟨_, rfl, .inl rfl⟩, ⟨_, rfl, .inl rfl⟩, ⟨_, rfl, .inr ⟨_, _, rfl, rfl, .inl rfl, .inl rfl, .inl rfl, .inl rfl, .inl rfl, .inr ⟨rfl, rfl⟩, trivial⟩⟩, ⟨_, rfl, .inl rfl⟩, trivial⟩
  refine AW_loop (fun p : Nat × Nat => [(46, iv .i64 p.1), (45, iv .i64 n.gates.length), (44, .x (.d (gatesPV n.gates))), (2, .x (.b 2 0)), (5, .x (.b 19 0))])
    (fun p => (2, .box [.d (.v (.int .i64 n.inn)), .d (gatesPV n.gates), .d (intsPV n.out)]) :: sB2 n 19 17 0 (sk0 n) p.2 (dlS n p.1)) (fun p => p.1 ≤ n.gates.length ∧ p.2 = (dlS n p.1).length) (fun p => n.gates.length - p.1) (0, 0) ⟨Nat.zero_le _, rfl⟩
    (Imp.forget ⟨rfl, rfl, rfl, rfl, rfl, trivial⟩ ⟨rfl, rfl, rfl, rfl, rfl, trivial⟩ rfl) ?_
  rintro ⟨i, st⟩ ⟨hi, hst⟩
  dsimp only at hi hst ⊢
  have hdl := dlS_len n i hi
  have hdle := delays_le (n.gates.take i)
  rw [List.length_take] at hdle
  rcases Nat.lt_or_ge i n.gates.length with hil | hil
  · have hge : n.gates.getD i gate0 = n.gates[i] := by rw [List.getD_eq_getElem?_getD, List.getElem?_eq_getElem (by omega)]; rfl
    repeat' first | with_reducible refine AW_seq ?_ | with_reducible refine AW_block ?_ | ((first | with_reducible refine AW_skip ?_ | with_reducible refine AW_exit ?_ | with_reducible refine AW_ret ?_ | with_reducible refine AW_region hTt ?_ | refine AW_drawM hTt hMix (id := 10) 10 [0] true [0, 0, 2, 6, 14, 0, 32, 0, 224, 480, 1022, 2047, 4095, 8191] _ (by kernel_rfl) rfl rfl (by kernel_rfl) rfl (by kernel_rfl) (by kernel_rfl) ?_ | refine LateGo.mk ⟨_, rfl, ?_⟩ | fail); conv => whnf) | (exact absurd hb (by omega)) | (refine AW_cond rfl (fun hb => ?_) (fun hb => ?_) <;> first | (replace hb := of_decide_eq_true hb; try simp only [List.length_map] at hb) | (replace hb := of_decide_eq_false hb; try simp only [List.length_map] at hb) | (simp only [List.length_map, bne_iff_ne, ne_eq, beq_iff_eq, bne_eq_false_iff_eq, beq_eq_false_iff_ne, decide_eq_true_eq, decide_eq_false_iff_not, Bool.not_eq_true', Bool.not_eq_false', Int.natCast_inj] at hb) | skip) | ((refine ⟨_, wrap_of (by first | omega | (simp only [List.length_map]; omega)), ?_⟩); conv => whnf) | ((refine And.intro (by first | exact trivial | rfl | exact gd_self | exact gd_any (by omega) | exact fun h => h | decide | (constructor <;> simp [chunk, maxLen]; done) | (intro h; simpa using h)) ?_); conv => whnf) | ((with_reducible refine Exists.intro _ (And.intro (gd_any (And.intro (by omega) (map_get (by omega)))) ?_)); conv => whnf) | ((refine And.intro (by refine ⟨?_, ?_, ?_⟩ <;> simp [chunk, maxLen] <;> omega) ?_); conv => whnf) | fail
    iterate 1
      · have e := dlS_succ n i
        rw [hge, if_pos hb] at e
        have l1 : (dlS n i).length + 1 = (dlS n (i + 1)).length := by rw [e]; simp
        have e1 : ((dlS n i).map iPV).take (dlS n i).length ++ [[PV.v (.int .i64 (n.inn + i))]] = (dlS n (i + 1)).map iPV := by
          rw [e, List.take_of_length_le (by simp), List.map_append]; rfl
        exact ⟨(i + 1, st + 1), ⟨by show i + 1 ≤ n.gates.length; omega, by show st + 1 = (dlS n (i + 1)).length; omega⟩, by show n.gates.length - (i + 1) < n.gates.length - i; omega,
          Imp.forget ⟨rfl, rfl, rfl, rfl, rfl, trivial⟩ ⟨rfl, congrArg (fun k => some (Ob.box [.d (.v (.int .i64 n.inn)), .d (gatesPV n.gates), .d (intsPV n.out), .o 17 0 (sk0 n).length, .o 902 (st + 1) k, .o 903 0 0])) l1, rfl, congrArg (fun l => some (Ob.chain 3 1 (st + 1) l)) e1, rfl, trivial⟩ rfl⟩
    · have e := dlS_succ n i
      rw [hge, if_neg hb] at e
      refine ⟨(i + 1, st), ⟨by show i + 1 ≤ n.gates.length; omega, by show st = (dlS n (i + 1)).length; rw [e]; exact hst⟩, by show n.gates.length - (i + 1) < n.gates.length - i; omega, ?_⟩
      dsimp only
      rw [e]
      exact Imp.forget ⟨rfl, rfl, rfl, rfl, rfl, trivial⟩ ⟨rfl, rfl, rfl, rfl, rfl, trivial⟩ rfl
  · have hie : i = n.gates.length := by omega
    subst hie
    repeat' first | with_reducible refine AW_seq ?_ | with_reducible refine AW_block ?_ | ((first | with_reducible refine AW_skip ?_ | with_reducible refine AW_exit ?_ | with_reducible refine AW_ret ?_ | with_reducible refine AW_region hTt ?_ | fail); conv => whnf) | (exact absurd hb (by omega)) | (refine AW_cond rfl (fun hb => ?_) (fun hb => ?_) <;> first | (replace hb := of_decide_eq_true hb; try simp only [List.length_map] at hb) | (replace hb := of_decide_eq_false hb; try simp only [List.length_map] at hb) | (simp only [List.length_map, bne_iff_ne, ne_eq, beq_iff_eq, bne_eq_false_iff_eq, beq_eq_false_iff_ne, decide_eq_true_eq, decide_eq_false_iff_not, Bool.not_eq_true', Bool.not_eq_false', Int.natCast_inj] at hb) | skip) | fail
    subst hst
    exact ⟨_, sB2 n 19 17 0 (sk0 n) (dl0 n).length (dlS n n.gates.length), ⟨rfl, rfl, rfl, rfl, trivial⟩, rfl, rfl, rfl, rfl⟩
def srchP (r : Option (List Int)) : List Int × Int := match r with
  | some l => (l, 0)
  | none => ([], 9)
theorem srchE_eq (r : Option (List Int)) : srchE r = outE (srchP r) := by cases r <;> rfl
def showR (n : NetT) (f : FaultT) : List Int × Int :=
  if (checkR n).2.2 = 0 then (if faultErr n f = 0 then srchP (srch (stepS n fine n f) (2 ^ n.inn.toNat)) else ([], faultErr n f)) else ([], (checkR n).2.2)
def diffR (a b : NetT) : List Int × Int :=
  if (checkR a).2.2 = 0 then (if (checkR b).2.2 = 0 then (if a.inn = b.inn ∧ a.out.length = b.out.length then srchP (srch (stepS a fine b fine) (2 ^ a.inn.toNat)) else ([], 2)) else ([], (checkR b).2.2)) else ([], (checkR a).2.2)
theorem sk_lane1 (n : NetT) (f : FaultT) : SkLane (skF n [(1, f)] (List.range 1)) 0 fine ∧ SkLane (skF n [(1, f)] (List.range 1)) 1 f := by
  constructor
  · refine skF_lane n [(1, f)] 0 (by decide) fine (fun j l' f' h e => ?_) (.inr ⟨rfl, fun j f' h => ?_⟩)
    · cases j with
      | zero => cases h; cases e
      | succ j => simp at h
    · cases j with
      | zero => cases h
      | succ j => simp at h
  · refine skF_lane n [(1, f)] 1 (by decide) f (fun j l' f' h e => ?_) (.inl ⟨0, rfl⟩)
    cases j with
    | zero => cases h; rfl
    | succ j => simp at h
theorem pshow_fn (n : NetT) (hi : i64 n.inn) (f : FaultT) : FnC Tryd.prog 26 [netAV n, faultAV f] (outE (showR n f)) := by
  refine FnC_of_AWL hTt Tryd.func26 rfl (by kernel_rfl) (res := [.tmp 4, .tmp 5]) rfl Tryd.ntmps26 (by simp) fun w0 K0 => ?_
  dsimp only [entry]
  by_cases hc : (checkR n).2.2 = 0
  · have ok := NetOK.of hc
    by_cases hf : faultErr n f = 0
    · rw [show showR n f = srchP (srch (stepS n fine n f) (2 ^ n.inn.toNat)) from by unfold showR; rw [if_pos hc, if_pos hf]]
      have hbm := build_map n ok.h1 ok.h6 ok.hl [(1, f)] (flt1 hf 1 (by decide))
      have hse : ∀ s2, ACall Tryd.prog 64 [iv .i64 n.inn, .x (.f (.func 69) [] [.b 910 0])] (sgS n 0 (skF n [(1, f)] (List.range 1)) s2 (0, 0, []))
          (fun r σ' => ∃ q : BQ, r = outE (srchP (srch (stepS n fine n f) (2 ^ n.inn.toNat))) ∧ σ' = sgS n 0 (skF n [(1, f)] (List.range 1)) s2 q) := fun s2 =>
        (search_show ok (skF_len n _ _) (sk_lane1 n f).1 (sk_lane1 n f).2 (faultErr_flt hf) (0, 0, [])).mono fun r σ' ⟨q, h1, h2⟩ => ⟨q, h1.trans (srchE_eq _), h2⟩
      repeat' first | with_reducible refine AW_seq ?_ | ((first | with_reducible refine AW_skip ?_ | with_reducible refine AW_ret ?_ | with_reducible refine AW_region hTt ?_ | fail); conv => whnf) | (exact absurd hb (by omega)) | ((first | ((refine ⟨_, (pcheck_fn n hi).call rfl rfl, ?_⟩); (rintro _ _ ⟨rfl, rfl⟩)) | ((refine ⟨_, (pwrong_fn n f ok.h1 ok.h6 ok.hl).call rfl rfl, ?_⟩); (rintro _ _ ⟨rfl, rfl⟩)) | refine And.intro (by first | rfl | decide) ?_ | refine ⟨[(.int .i64 1, faultAV f)], .inr ⟨fun i y => by simp, rfl⟩, ?_⟩ | ((refine ⟨_, (hbm).frame (asc [(700, 27), (19, 900), (17, 901)]) (by repeat (first | exact trivial | refine ⟨rfl, ?_⟩)) rfl (by rintro _ _ ⟨_, rfl, rfl⟩; rfl), ?_⟩); (rintro _ _ ⟨_, _, ⟨_, rfl, rfl⟩, rfl, rfl⟩)) | ((refine ⟨_, (hse _).frame (asc [(910, 10)]) (by repeat (first | exact trivial | refine ⟨rfl, ?_⟩)) rfl (by rintro _ _ ⟨_, rfl, rfl⟩; rfl), ?_⟩); (rintro _ _ ⟨_, _, ⟨_, rfl, rfl⟩, rfl, rfl⟩)) | fail); conv => whnf) | (refine AW_cond rfl (fun hb => ?_) (fun hb => ?_) <;> first | (replace hb := of_decide_eq_true hb; try simp only [List.length_map] at hb) | (replace hb := of_decide_eq_false hb; try simp only [List.length_map] at hb) | (simp only [List.length_map, bne_iff_ne, ne_eq, beq_iff_eq, bne_eq_false_iff_eq, beq_eq_false_iff_ne, decide_eq_true_eq, decide_eq_false_iff_not, Bool.not_eq_true', Bool.not_eq_false', Int.natCast_inj] at hb) | skip) | ((refine And.intro (by first | exact trivial | rfl | exact gd_self | exact gd_any (by omega) | exact fun h => h | decide | (constructor <;> simp [chunk, maxLen]; done) | (intro h; simpa using h)) ?_); conv => whnf) | fail
      exact ⟨_, rfl, LeAV.refl _⟩
    · rw [show showR n f = ([], faultErr n f) from by unfold showR; rw [if_pos hc, if_neg hf]]
      repeat' first | with_reducible refine AW_seq ?_ | ((first | with_reducible refine AW_skip ?_ | with_reducible refine AW_ret ?_ | with_reducible refine AW_region hTt ?_ | fail); conv => whnf) | (exact absurd hb (by omega)) | ((first | ((refine ⟨_, (pcheck_fn n hi).call rfl rfl, ?_⟩); (rintro _ _ ⟨rfl, rfl⟩)) | ((refine ⟨_, (pwrong_fn n f ok.h1 ok.h6 ok.hl).call rfl rfl, ?_⟩); (rintro _ _ ⟨rfl, rfl⟩)) | fail); conv => whnf) | (refine AW_cond rfl (fun hb => ?_) (fun hb => ?_) <;> first | (replace hb := of_decide_eq_true hb; try simp only [List.length_map] at hb) | (replace hb := of_decide_eq_false hb; try simp only [List.length_map] at hb) | (simp only [List.length_map, bne_iff_ne, ne_eq, beq_iff_eq, bne_eq_false_iff_eq, beq_eq_false_iff_ne, decide_eq_true_eq, decide_eq_false_iff_not, Bool.not_eq_true', Bool.not_eq_false', Int.natCast_inj] at hb) | skip) | fail
      exact ⟨_, rfl, _, rfl, LeAV1.nil 1, LeAV1.refl _, trivial⟩
  · rw [show showR n f = ([], (checkR n).2.2) from by unfold showR; rw [if_neg hc]]
    repeat' first | with_reducible refine AW_seq ?_ | ((first | with_reducible refine AW_skip ?_ | with_reducible refine AW_ret ?_ | with_reducible refine AW_region hTt ?_ | fail); conv => whnf) | (exact absurd hb (by omega)) | ((refine ⟨_, (pcheck_fn n hi).call rfl rfl, ?_⟩); (rintro _ _ ⟨rfl, rfl⟩); conv => whnf) | (refine AW_cond rfl (fun hb => ?_) (fun hb => ?_) <;> first | (replace hb := of_decide_eq_true hb; try simp only [List.length_map] at hb) | (replace hb := of_decide_eq_false hb; try simp only [List.length_map] at hb) | (simp only [List.length_map, bne_iff_ne, ne_eq, beq_iff_eq, bne_eq_false_iff_eq, beq_eq_false_iff_ne, decide_eq_true_eq, decide_eq_false_iff_not, Bool.not_eq_true', Bool.not_eq_false', Int.natCast_inj] at hb) | skip) | fail
    exact ⟨_, rfl, _, rfl, LeAV1.nil 1, LeAV1.refl _, trivial⟩
def netPV (n : NetT) : List PV := [.v (.int .i64 n.inn), gatesPV n.gates, intsPV n.out]
theorem pdiffer_fn (a b : NetT) (ha : i64 a.inn) (hbn : i64 b.inn) : FnC Tryd.prog 23 [netAV a, netAV b] (outE (diffR a b)) := by
  refine FnC_of_AWL hTt Tryd.func23 rfl (by kernel_rfl) (res := [.tmp 4, .tmp 5]) rfl Tryd.ntmps23 (by simp) fun w0 K0 => ?_
  dsimp only [entry]
  repeat' first | with_reducible refine AW_seq ?_ | with_reducible refine AW_block ?_ | ((with_reducible refine AW_region hTt ?_); conv => whnf) | (refine fun hln => ?_; (try rw [List.length_map] at hln); unfold maxLen at hln; conv => whnf) | fail
  refine AW_loop (fun i : Nat => [(17, iv .i64 i), (16, iv .i64 2), (15, .x (.d (.s 3 [netPV a, netPV b]))), (2, .x (.b 2 0)), (3, .x (.b 3 0))])
    (fun _ => [(3, netCells b), (2, netCells a)]) (fun i => i ≤ 2 ∧ (1 ≤ i → (checkR a).2.2 = 0) ∧ (2 ≤ i → (checkR b).2.2 = 0)) (fun i => 2 - i) 0 (by omega) (Imp.forget (by repeat' (first | exact trivial | refine And.intro ?_ ?_ | rfl | exact ivE (by first | omega | (simp only [List.length_map, List.length_append, List.length_singleton] <;> omega)) | exact oE (by first | omega | (simp only [List.length_map, List.length_append, List.length_singleton] <;> omega)))) (by repeat' (first | exact trivial | refine And.intro ?_ ?_ | rfl | exact ivE (by first | omega | (simp only [List.length_map, List.length_append, List.length_singleton] <;> omega)) | exact oE (by first | omega | (simp only [List.length_map, List.length_append, List.length_singleton] <;> omega)))) (by kernel_rfl) (by kernel_rfl) (by kernel_rfl)) ?_
  rintro i ⟨hi, hca, hcb⟩
  have h3 : i = 0 ∨ i = 1 ∨ i = 2 := by omega
  rcases h3 with rfl | rfl | rfl
  · by_cases hc : (checkR a).2.2 = 0
    · repeat' first | with_reducible refine AW_seq ?_ | with_reducible refine AW_block ?_ | ((first | with_reducible refine AW_skip ?_ | with_reducible refine AW_ret ?_ | with_reducible refine AW_region hTt ?_ | refine ⟨netPV a, gd_none ⟨by decide, rfl⟩, ?_⟩ | fail); conv => whnf) | (exact absurd hb (by omega)) | ((refine ⟨_, (pcheck_fn a ha).call rfl rfl, ?_⟩); (rintro _ _ ⟨rfl, rfl⟩); conv => whnf) | (refine AW_cond rfl (fun _ => ?_) (fun hb => absurd hb (by decide))) | (refine AW_cond rfl (fun hb => ?_) (fun hb => ?_) <;> first | (replace hb := of_decide_eq_true hb; try simp only [List.length_map] at hb) | (replace hb := of_decide_eq_false hb; try simp only [List.length_map] at hb) | (simp only [List.length_map, bne_iff_ne, ne_eq, beq_iff_eq, bne_eq_false_iff_eq, beq_eq_false_iff_ne, decide_eq_true_eq, decide_eq_false_iff_not, Bool.not_eq_true', Bool.not_eq_false', Int.natCast_inj] at hb) | skip) | ((refine ⟨_, wrap_of (by first | omega | (simp only [List.length_map]; omega)), ?_⟩); conv => whnf) | ((refine And.intro (by first | exact trivial | rfl | exact gd_self | exact gd_any (by omega) | exact fun h => h | decide | (constructor <;> simp [chunk, maxLen]; done) | (intro h; simpa using h)) ?_); conv => whnf) | fail
      exact ⟨1, ⟨by decide, fun _ => hc, fun h => absurd h (by decide)⟩, by decide, (Imp.forget (by repeat' (first | exact trivial | refine And.intro ?_ ?_ | rfl | exact ivE (by first | omega | (simp only [List.length_map, List.length_append, List.length_singleton] <;> omega)) | exact oE (by first | omega | (simp only [List.length_map, List.length_append, List.length_singleton] <;> omega)))) (by repeat' (first | exact trivial | refine And.intro ?_ ?_ | rfl | exact ivE (by first | omega | (simp only [List.length_map, List.length_append, List.length_singleton] <;> omega)) | exact oE (by first | omega | (simp only [List.length_map, List.length_append, List.length_singleton] <;> omega)))) (by kernel_rfl) (by kernel_rfl) (by kernel_rfl))⟩
    · rw [show diffR a b = ([], (checkR a).2.2) from by unfold diffR; rw [if_neg hc]]
      repeat' first | with_reducible refine AW_seq ?_ | with_reducible refine AW_block ?_ | ((first | with_reducible refine AW_skip ?_ | with_reducible refine AW_ret ?_ | with_reducible refine AW_region hTt ?_ | refine ⟨netPV a, gd_none ⟨by decide, rfl⟩, ?_⟩ | fail); conv => whnf) | (exact absurd hb (by omega)) | ((refine ⟨_, (pcheck_fn a ha).call rfl rfl, ?_⟩); (rintro _ _ ⟨rfl, rfl⟩); conv => whnf) | (refine AW_cond rfl (fun _ => ?_) (fun hb => absurd hb (by decide))) | (refine AW_cond rfl (fun hb => ?_) (fun hb => ?_) <;> first | (replace hb := of_decide_eq_true hb; try simp only [List.length_map] at hb) | (replace hb := of_decide_eq_false hb; try simp only [List.length_map] at hb) | (simp only [List.length_map, bne_iff_ne, ne_eq, beq_iff_eq, bne_eq_false_iff_eq, beq_eq_false_iff_ne, decide_eq_true_eq, decide_eq_false_iff_not, Bool.not_eq_true', Bool.not_eq_false', Int.natCast_inj] at hb) | skip) | ((refine And.intro (by first | exact trivial | rfl | exact gd_self | exact gd_any (by omega) | exact fun h => h | decide | (constructor <;> simp [chunk, maxLen]; done) | (intro h; simpa using h)) ?_); conv => whnf) | fail
      exact ⟨_, rfl, _, rfl, LeAV1.nil 1, LeAV1.refl _, trivial⟩
  · have hca := hca (by decide)
    by_cases hc : (checkR b).2.2 = 0
    · repeat' first | with_reducible refine AW_seq ?_ | with_reducible refine AW_block ?_ | ((first | with_reducible refine AW_skip ?_ | with_reducible refine AW_ret ?_ | with_reducible refine AW_region hTt ?_ | refine ⟨netPV b, gd_none ⟨by decide, rfl⟩, ?_⟩ | fail); conv => whnf) | (exact absurd hb (by omega)) | ((refine ⟨_, (pcheck_fn b hbn).call rfl rfl, ?_⟩); (rintro _ _ ⟨rfl, rfl⟩); conv => whnf) | (refine AW_cond rfl (fun _ => ?_) (fun hb => absurd hb (by decide))) | (refine AW_cond rfl (fun hb => ?_) (fun hb => ?_) <;> first | (replace hb := of_decide_eq_true hb; try simp only [List.length_map] at hb) | (replace hb := of_decide_eq_false hb; try simp only [List.length_map] at hb) | (simp only [List.length_map, bne_iff_ne, ne_eq, beq_iff_eq, bne_eq_false_iff_eq, beq_eq_false_iff_ne, decide_eq_true_eq, decide_eq_false_iff_not, Bool.not_eq_true', Bool.not_eq_false', Int.natCast_inj] at hb) | skip) | ((refine ⟨_, wrap_of (by first | omega | (simp only [List.length_map]; omega)), ?_⟩); conv => whnf) | ((refine And.intro (by first | exact trivial | rfl | exact gd_self | exact gd_any (by omega) | exact fun h => h | decide | (constructor <;> simp [chunk, maxLen]; done) | (intro h; simpa using h)) ?_); conv => whnf) | fail
      exact ⟨2, ⟨by decide, fun _ => hca, fun _ => hc⟩, by decide, (Imp.forget (by repeat' (first | exact trivial | refine And.intro ?_ ?_ | rfl | exact ivE (by first | omega | (simp only [List.length_map, List.length_append, List.length_singleton] <;> omega)) | exact oE (by first | omega | (simp only [List.length_map, List.length_append, List.length_singleton] <;> omega)))) (by repeat' (first | exact trivial | refine And.intro ?_ ?_ | rfl | exact ivE (by first | omega | (simp only [List.length_map, List.length_append, List.length_singleton] <;> omega)) | exact oE (by first | omega | (simp only [List.length_map, List.length_append, List.length_singleton] <;> omega)))) (by kernel_rfl) (by kernel_rfl) (by kernel_rfl))⟩
    · rw [show diffR a b = ([], (checkR b).2.2) from by unfold diffR; rw [if_pos hca, if_neg hc]]
      repeat' first | with_reducible refine AW_seq ?_ | with_reducible refine AW_block ?_ | ((first | with_reducible refine AW_skip ?_ | with_reducible refine AW_ret ?_ | with_reducible refine AW_region hTt ?_ | refine ⟨netPV b, gd_none ⟨by decide, rfl⟩, ?_⟩ | fail); conv => whnf) | (exact absurd hb (by omega)) | ((refine ⟨_, (pcheck_fn b hbn).call rfl rfl, ?_⟩); (rintro _ _ ⟨rfl, rfl⟩); conv => whnf) | (refine AW_cond rfl (fun _ => ?_) (fun hb => absurd hb (by decide))) | (refine AW_cond rfl (fun hb => ?_) (fun hb => ?_) <;> first | (replace hb := of_decide_eq_true hb; try simp only [List.length_map] at hb) | (replace hb := of_decide_eq_false hb; try simp only [List.length_map] at hb) | (simp only [List.length_map, bne_iff_ne, ne_eq, beq_iff_eq, bne_eq_false_iff_eq, beq_eq_false_iff_ne, decide_eq_true_eq, decide_eq_false_iff_not, Bool.not_eq_true', Bool.not_eq_false', Int.natCast_inj] at hb) | skip) | ((refine And.intro (by first | exact trivial | rfl | exact gd_self | exact gd_any (by omega) | exact fun h => h | decide | (constructor <;> simp [chunk, maxLen]; done) | (intro h; simpa using h)) ?_); conv => whnf) | fail
      exact ⟨_, rfl, _, rfl, LeAV1.nil 1, LeAV1.refl _, trivial⟩
  · have hca := hca (by decide)
    have hcb := hcb (by decide)
    have oka := NetOK.of hca
    have okb := NetOK.of hcb
    have oa4 := oka.o4
    have ob4 := okb.o4
    by_cases hne : a.inn = b.inn ∧ a.out.length = b.out.length
    · rw [show diffR a b = srchP (srch (stepS a fine b fine) (2 ^ a.inn.toNat)) from by unfold diffR; rw [if_pos hca, if_pos hcb, if_pos hne]]
      have b1 := DC.ACall.anew (build_nil' a oka.h1 oka.h6 oka.hl) (asc [(19, 900), (17, 901)]) (args' := [netAV a, .x (.d (.v (.map none)))]) (rv' := .x (.b 900 0)) (nob' := sB2 a 900 901 0 (sk0 a) (dl0 a).length (dl0 a)) rfl rfl rfl rfl
      have b2 := DC.ACall.anew (build_nil' b okb.h1 okb.h6 okb.hl) (asc [(19, 800), (17, 801), (902, 802), (903, 803)]) (args' := [netAV b, .x (.d (.v (.map none)))]) (rv' := .x (.b 800 0))
        (nob' := [(800, .box [.d (.v (.int .i64 b.inn)), .d (gatesPV b.gates), .d (intsPV b.out), .o 801 0 (sk0 b).length, .o 802 (dl0 b).length (dl0 b).length, .o 803 0 0]), (801, .chain 126 2 0 ((sk0 b).map sPV)), (802, .chain 3 1 (dl0 b).length ((dl0 b).map iPV)), (803, .chain 125 1 0 [])]) rfl rfl rfl rfl
      have hse : ACall Tryd.prog 64 [iv .i64 a.inn, .x (.f (.func 65) [] [.b 910 0, .b 911 0])] (sgD a b (dl0 a).length (dl0 b).length (0, 0, [], 0, 0, []))
          (fun r σ' => ∃ q : BQ2, r = outE (srchP (srch (stepS a fine b fine) (2 ^ a.inn.toNat))) ∧ σ' = sgD a b (dl0 a).length (dl0 b).length q) :=
        (search_diff oka okb (0, 0, [], 0, 0, [])).mono fun r σ' ⟨q, h1, h2⟩ => ⟨q, h1.trans (srchE_eq _), h2⟩
      repeat' first | ((refine DC.AW_drawC hTt hMix (id := 10) 6 true [0, 1, 0, 7, 0, 0, 63, 127] (by kernel_rfl) rfl rfl (by kernel_rfl) ?_); conv => whnf) | with_reducible refine AW_seq ?_ | ((first | with_reducible refine AW_skip ?_ | with_reducible refine AW_exit ?_ | with_reducible refine AW_ret ?_ | with_reducible refine AW_region hTt ?_ | fail); conv => whnf) | (exfalso; simp [hne.1, hne.2] at hb; done) | ((first | refine ⟨_, _, rfl, b1, ?_⟩ | refine ⟨_, _, rfl, b2, ?_⟩ | ((refine ⟨_, (hse).frame (asc [(910, 11), (911, 12)]) (by repeat (first | exact trivial | refine ⟨rfl, ?_⟩)) rfl (by rintro _ _ ⟨_, rfl, rfl⟩; rfl), ?_⟩); (rintro _ _ ⟨_, _, ⟨_, rfl, rfl⟩, rfl, rfl⟩)) | fail); conv => whnf) | (refine AW_cond rfl (fun hb => absurd hb (by decide)) (fun _ => ?_)) | (refine AW_cond rfl (fun hb => ?_) (fun hb => ?_) <;> first | (replace hb := of_decide_eq_true hb; try simp only [List.length_map] at hb) | (replace hb := of_decide_eq_false hb; try simp only [List.length_map] at hb) | (simp only [List.length_map, bne_iff_ne, ne_eq, beq_iff_eq, bne_eq_false_iff_eq, beq_eq_false_iff_ne, decide_eq_true_eq, decide_eq_false_iff_not, Bool.not_eq_true', Bool.not_eq_false', Int.natCast_inj] at hb) | skip) | ((refine And.intro (by first | exact trivial | rfl | exact gd_self | exact gd_any (by omega) | exact fun h => h | decide | (constructor <;> simp [chunk, maxLen]; done) | (intro h; simpa using h)) ?_); conv => whnf) | fail
      exact ⟨_, rfl, LeAV.refl _⟩
    · rw [show diffR a b = ([], 2) from by unfold diffR; rw [if_pos hca, if_pos hcb, if_neg hne]]
      repeat' first | with_reducible refine AW_seq ?_ | ((first | with_reducible refine AW_skip ?_ | with_reducible refine AW_exit ?_ | with_reducible refine AW_ret ?_ | with_reducible refine AW_region hTt ?_ | refine AW_draw hTt hMix (id := 10) 6 true [0, 1, 0, 7, 0, 0, 63, 127] (by kernel_rfl) rfl rfl (by kernel_rfl) ?_ | fail); conv => whnf) | (exfalso; simp at hb; exact hne ⟨by omega, by omega⟩) | (refine AW_cond rfl (fun hb => absurd hb (by decide)) (fun _ => ?_)) | (refine AW_cond rfl (fun hb => ?_) (fun hb => ?_) <;> first | (replace hb := of_decide_eq_true hb; try simp only [List.length_map] at hb) | (replace hb := of_decide_eq_false hb; try simp only [List.length_map] at hb) | (simp only [List.length_map, bne_iff_ne, ne_eq, beq_iff_eq, bne_eq_false_iff_eq, beq_eq_false_iff_ne, decide_eq_true_eq, decide_eq_false_iff_not, Bool.not_eq_true', Bool.not_eq_false', Int.natCast_inj] at hb) | skip) | ((refine And.intro (by first | exact trivial | rfl | exact gd_self | exact gd_any (by omega) | exact fun h => h | decide | (constructor <;> simp [chunk, maxLen]; done) | (intro h; simpa using h)) ?_); conv => whnf) | fail
      exact ⟨_, rfl, _, rfl, LeAV1.nil 1, LeAV1.refl _, trivial⟩
end Go.Proofs.YtfghooojingdhaaDoor
namespace Go.Proofs.YtfghooojingdhaaDoor
open Go Go.QL
set_option maxHeartbeats 3200000
attribute [local irreducible] ACall FnC YC
theorem runs_5 : RunsAt 5 := fun n ok s1 sk hsk s2 s3 k' nw flt hl xs hxl => run_5 ok hsk hl xs hxl
def exF : List FaultT := [⟨7, 0⟩, ⟨2, 1⟩, ⟨6, 0⟩, ⟨4, 0⟩]
def exT : List (List Int) := [[3, 0], [0], [3, 1, 0]]
def exB : List (List Bool) := [[true, true, false, true], [false, true, false, false], [true, true, true, true]]
theorem ex_i64 : i64 adder.inn := by unfold i64; decide
theorem ex_chk : (checkR adder).2.2 = 0 := by kernel_rfl
theorem ex_asked : askedR adder exF exT = 0 := by kernel_rfl
theorem ex_run : runR adder [3, 1, 0] = ([0, 0, 1], 0) := by kernel_rfl
theorem ex_step : stepP adder 1 1 = (1, 0, 0) := by kernel_rfl
theorem ex_show : showR adder ⟨6, 0⟩ = ([3, 1, 0], 0) := by kernel_rfl
theorem ex_table : tableR adder exF exT = (exB, 0) := by kernel_rfl
theorem ex_tell : tellR adder exF exT = ([0, 2], 0) := by kernel_rfl
theorem ex_tellP : tellP adder exF exT = (intsPV [0, 2], 0) := by
  have h := tell_eq ex_asked
  rw [ex_tell] at h
  have h2 : (tellP adder exF exT).2 = 0 := by unfold tellP; rw [if_pos ex_asked]
  exact Prod.ext h h2
theorem ex_diff : (diffR adder adder).2 = 9 := by kernel_rfl
def exText : ByteArray := ⟨#[105, 110, 112, 117, 116, 115, 32, 50, 10, 100, 101, 108, 97, 121, 32, 55, 10, 120, 111, 114, 32, 48, 32, 49, 10, 120, 111, 114, 32, 51, 32, 50, 10, 97, 110, 100, 32, 48, 32, 49, 10, 97, 110, 100, 32, 51, 32, 50, 10, 111, 114, 32, 53, 32, 54, 10, 111, 117, 116, 112, 117, 116, 115, 32, 52, 10]⟩
theorem ex_write : writeR adder = (exText, 0) := by kernel_rfl
end Go.Proofs.YtfghooojingdhaaDoor
namespace Go.Proofs.YtfghooojingdhaaDoor
open Go Go.QL
set_option maxHeartbeats 3200000
attribute [local irreducible] ACall FnC YC
theorem awake_fn : FnC Tryd.prog 22 [] (bv true) := by
  have hrun := prun_fn adder ex_i64 [3, 1, 0]
  rw [ex_run] at hrun
  have hstep := pstep_fn adder ex_i64 1 1
  rw [ex_step] at hstep
  have hshow := pshow_fn adder ex_i64 ⟨6, 0⟩
  rw [ex_show] at hshow
  have htab := ptable_fn adder ex_i64 exF exT (fun _ => runs_5)
  rw [ex_table] at htab
  have htell := ptell_fn adder ex_i64 exF exT (fun _ => runs_5)
  rw [ex_tellP] at htell
  have hdiff := pdiffer_fn adder adder ex_i64 ex_i64
  have e := ex_diff
  generalize diffR adder adder = D at hdiff e
  obtain ⟨d, z⟩ := D
  dsimp only at e
  subst e
  have hwrite := write_fn adder ex_i64
  rw [ex_write] at hwrite
  have htabs := tables_ref exB exB
  rw [decide_eq_true rfl] at htabs
  have i1 := ints_fn [0, 0, 1] [0, 0, 1]
  rw [show sameInts [0, 0, 1] [0, 0, 1] = true from rfl] at i1
  have i2 := ints_fn [3, 1, 0] [3, 1, 0]
  rw [show sameInts [3, 1, 0] [3, 1, 0] = true from rfl] at i2
  have i3 := ints_fn [0, 2] [0, 2]
  rw [show sameInts [0, 2] [0, 2] = true from rfl] at i3
  dsimp only at hrun hstep hshow htab htell hdiff hwrite
  refine FnC_of_AW hTt Tryd.func22 rfl (by kernel_rfl) (res := [.tmp 0]) rfl Tryd.ntmps22 (by simp) fun w0 K0 => ?_
  dsimp only [entry]
  repeat' first | with_reducible refine AW_seq ?_ | ((first | with_reducible refine AW_ret ?_ | with_reducible refine AW_region hTt ?_ | refine AW_draw hTt hMix (id := 2) 9 false [0, 0, 2, 6, 15, 31, 63, 63, 127, 511] (by kernel_rfl) rfl rfl (by kernel_rfl) ?_ | refine AW_draw hTt hMix (id := 4) 9 false [0, 0, 2, 6, 15, 31, 63, 63, 127, 511] (by kernel_rfl) rfl rfl (by kernel_rfl) ?_ | refine AW_draw hTt hMix (id := 5) 8 false [0, 0, 2, 7, 15, 31, 31, 63, 255] (by kernel_rfl) rfl rfl (by kernel_rfl) ?_ | refine AW_draw hTt hMix (id := 6) 8 false [0, 0, 2, 7, 15, 31, 31, 63, 255] (by kernel_rfl) rfl rfl (by kernel_rfl) ?_ | with_reducible refine Exists.intro _ (And.intro (gd_any (And.intro (by decide) rfl)) ?_) | ((refine ⟨_, (padder_fn).call rfl rfl, ?_⟩); (rintro _ _ ⟨rfl, rfl⟩)) | refine ⟨_, fun _ => (tests_fn).call rfl rfl, ?_⟩ | refine ⟨_, fun _ => (faults_fn).call rfl rfl, ?_⟩ | refine ⟨_, fun _ => (hrun).call rfl rfl, ?_⟩ | ((refine ⟨_, (hstep).call rfl rfl, ?_⟩); (rintro _ _ ⟨rfl, rfl⟩)) | refine ⟨_, fun _ => (hshow).call rfl rfl, ?_⟩ | refine ⟨_, fun _ => (htab).call rfl rfl, ?_⟩ | refine ⟨_, fun _ => (htell).call rfl rfl, ?_⟩ | ((refine ⟨_, (hdiff).call rfl rfl, ?_⟩); (rintro _ _ ⟨rfl, rfl⟩)) | ((refine ⟨_, (hwrite).call rfl rfl, ?_⟩); (rintro _ _ ⟨rfl, rfl⟩)) | refine ⟨_, fun _ => (htabs).call rfl rfl, ?_⟩ | refine ⟨_, fun _ => (i1).call rfl rfl, ?_⟩ | refine ⟨_, fun _ => (i2).call rfl rfl, ?_⟩ | refine ⟨_, fun _ => (i3).call rfl rfl, ?_⟩ | fail); conv => whnf) | ((refine And.intro (by first | exact trivial | rfl | exact gd_self | exact gd_any (by omega) | exact fun h => h | decide | (constructor <;> simp [chunk, maxLen]; done) | (intro h; simpa using h)) ?_); conv => whnf) | fail
  have key : ∀ b, b = true → some (bv b) = some (bv true) := by intro b h; rw [h]
  exact key _ (beq_self_eq_true exText.toList)
end Go.Proofs.YtfghooojingdhaaDoor
