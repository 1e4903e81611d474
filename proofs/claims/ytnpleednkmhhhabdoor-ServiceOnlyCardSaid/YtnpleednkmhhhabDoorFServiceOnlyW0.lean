/- What the functions that this law reaches return: part 0. No condition. -/
import Derived.Test.YtnpleednkmhhhabDoorB04
set_option linter.all false
namespace Go.Proofs.YtnpleednkmhhhabDoor
open Go Go.QL
set_option maxHeartbeats 1600000
attribute [local irreducible] ACall FnC YC
theorem in_eq {lo hi n : Int} : (bif decide (n ≥ lo) then decide (n ≤ hi) else false) = !outB lo hi n := by
  cases h : outB lo hi n with
  | false => have := outB_false.1 h; simp [this.1, this.2]
  | true =>
    have : ¬ (lo ≤ n ∧ n ≤ hi) := fun e => by rw [outB_false.2 e] at h; cases h
    cases h1 : decide (n ≥ lo) with
    | false => rfl
    | true => have := of_decide_eq_true h1; simp; omega
theorem rin_fn (n lo hi : Int) : FnC Tryd.prog 61 [iv .i64 n, iv .i64 lo, iv .i64 hi] (bv (!outB lo hi n)) := by
  rw [← in_eq]
  refine FnC_of_AW hTt Tryd.func61 rfl (by kernel_rfl) (res := [.tmp 6]) rfl Tryd.ntmps61 (by simp) fun w0 K0 => ?_
  dsimp only [entry]
  repeat' first | with_reducible refine AW_seq ?_ | ((first | with_reducible refine AW_ret ?_ | with_reducible refine AW_region hTt ?_ | refine andA ?_ | fail); conv => whnf) | fail
  rfl
theorem rall_fn (l : List Int) (hi : Int) (h : -4611686018427387904 ≤ hi ∧ hi ≤ 4611686018427387904) : FnC Tryd.prog 46 [sl l, iv .i64 hi] (bv (!outL (-hi) hi l)) := by
  have hll : (l.map (fun n : Int => [PV.v (.int .i64 n)])).length = l.length := List.length_map _
  rw [← Int.zero_sub hi]
  have hin := fun n => rin_fn n (0 - hi) hi
  refine FnC_of_AW hTt Tryd.func46 rfl (by kernel_rfl) (res := [.tmp 4]) rfl Tryd.ntmps46 (by simp) fun w0 K0 => ?_
  dsimp only [entry]
  repeat' first | with_reducible refine AW_seq ?_ | with_reducible refine AW_block ?_ | ((with_reducible refine AW_region hTt ?_); conv => whnf) | fail
  refine AW_loop (fun i : Nat => [(5, iv .i64 i), (0, sl l), (1, iv .i64 hi)]) (fun _ => [])
    (fun i => i ≤ l.length ∧ ∀ j (h1 : j < l.length), j < i → outB (0 - hi) hi l[j] = false) (fun i => l.length - i) 0 ⟨Nat.zero_le _, fun j _ h => absurd h (Nat.not_lt_zero _)⟩ impA ?_
  rintro i ⟨hi1, hz⟩
  rcases Nat.lt_or_ge i l.length with hil | hil
  · have ho := hin l[i]
    generalize hb0 : outB (0 - hi) hi l[i] = b at ho
    cases b with
    | true =>
      have hr : outL (0 - hi) hi l = true := List.any_eq_true.2 ⟨_, List.getElem_mem hil, hb0⟩
      rw [hr]
      clear hin hz hb0 hr
      repeat' first | with_reducible refine AW_seq ?_ | with_reducible refine AW_block ?_ | ((first | with_reducible refine AW_skip ?_ | with_reducible refine AW_exit ?_ | with_reducible refine AW_ret ?_ | with_reducible refine AW_region hTt ?_ | fail); conv => whnf) | (exact absurd hb (by omega)) | ((refine ⟨_, (ho).call rfl rfl, ?_⟩); (rintro _ _ ⟨rfl, rfl⟩); conv => whnf) | (refine AW_cond rfl (fun _ => ?_) (fun hb => absurd (show true = false from hb) (by decide))) | (refine AW_cond rfl (fun hb => ?_) (fun hb => ?_) <;> first | (replace hb := of_decide_eq_true hb; try simp only [List.length_map] at hb) | (replace hb := of_decide_eq_false hb; try simp only [List.length_map] at hb)) | ((first | refine ⟨_, wrap_of (by first | omega | (simp only [List.length_map]; omega)), ?_⟩ | refine andA ?_ | with_reducible refine Exists.intro _ (And.intro (gd_any (And.intro (by omega) (map_get (by omega)))) ?_) | fail); conv => whnf) | (refine fun hln => ?_; (try rw [List.length_map] at hln); unfold maxLen at hln; conv => whnf) | fail
      rfl
    | false =>
      clear hin
      repeat' first | with_reducible refine AW_seq ?_ | with_reducible refine AW_block ?_ | ((first | with_reducible refine AW_skip ?_ | with_reducible refine AW_exit ?_ | with_reducible refine AW_ret ?_ | with_reducible refine AW_region hTt ?_ | fail); conv => whnf) | (exact absurd hb (by omega)) | ((refine ⟨_, (ho).call rfl rfl, ?_⟩); (rintro _ _ ⟨rfl, rfl⟩); conv => whnf) | (refine AW_cond rfl (fun hb => absurd (show false = true from hb) (by decide)) (fun _ => ?_)) | (refine AW_cond rfl (fun hb => ?_) (fun hb => ?_) <;> first | (replace hb := of_decide_eq_true hb; try simp only [List.length_map] at hb) | (replace hb := of_decide_eq_false hb; try simp only [List.length_map] at hb)) | ((first | refine ⟨_, wrap_of (by first | omega | (simp only [List.length_map]; omega)), ?_⟩ | refine andA ?_ | with_reducible refine Exists.intro _ (And.intro (gd_any (And.intro (by omega) (map_get (by omega)))) ?_) | fail); conv => whnf) | (refine fun hln => ?_; (try rw [List.length_map] at hln); unfold maxLen at hln; conv => whnf) | fail
      exact ⟨i + 1, ⟨by omega, fun j h1 h3 => by
        by_cases e : j = i
        · subst e; exact hb0
        · exact hz j h1 (by omega)⟩, by omega, impA⟩
  · have hr : outL (0 - hi) hi l = false := outL_false.2 fun n hn => by
      obtain ⟨j, hj, rfl⟩ := List.getElem_of_mem hn
      exact outB_false.1 (hz j hj (by omega))
    rw [hr]
    repeat' first | with_reducible refine AW_seq ?_ | with_reducible refine AW_block ?_ | ((first | with_reducible refine AW_skip ?_ | with_reducible refine AW_exit ?_ | with_reducible refine AW_ret ?_ | with_reducible refine AW_region hTt ?_ | fail); conv => whnf) | (exact absurd hb (by omega)) | (refine AW_cond rfl (fun hb => ?_) (fun hb => ?_) <;> first | (replace hb := of_decide_eq_true hb; try simp only [List.length_map] at hb) | (replace hb := of_decide_eq_false hb; try simp only [List.length_map] at hb)) | (refine fun hln => ?_; (try rw [List.length_map] at hln); unfold maxLen at hln; conv => whnf) | fail
    rfl
theorem size_fn (n : Int) (h : lim n) : FnC Tryd.prog 13 [iv .i64 n] (iv .i64 (n.natAbs : Int)) := by
  unfold lim at h
  have w0 : IntKind.i64.wrap (0 - n) = -n := by rw [Int.zero_sub]; exact wrap_of (by omega)
  refine FnC_of_AW hTt Tryd.func13 rfl (by kernel_rfl) (res := [.tmp 2]) rfl Tryd.ntmps13 (by simp) fun w0 K0 => ?_
  dsimp only [entry]
  repeat' first | with_reducible refine AW_seq ?_ | ((first | with_reducible refine AW_ret ?_ | with_reducible refine AW_region hTt ?_ | refine ⟨_, wrap_of (by first | omega | (simp only [List.length_map]; omega)), ?_⟩ | fail); conv => whnf) | fail
  exact congrArg (fun x : Int => some (iv .i64 x)) (show (if 0 - n > n then 0 - n else n) = _ by split <;> omega)
theorem power_fn (x : Int) (n : Nat) (hn : n ≤ 1000) (h : ∀ k, k ≤ n → lim (x ^ k)) : FnC Tryd.prog 58 [iv .i64 x, iv .i64 n] (iv .i64 (x ^ n)) := by
  refine FnC_of_AW hTt Tryd.func58 rfl (by kernel_rfl) (res := [.tmp 4]) rfl Tryd.ntmps58 (by simp) fun w0 K0 => ?_
  dsimp only [entry]
  repeat' first | with_reducible refine AW_seq ?_ | with_reducible refine AW_block ?_ | ((with_reducible refine AW_region hTt ?_); conv => whnf) | fail
  refine AW_loop (fun i : Nat => [(6, iv .i64 i), (5, iv .i64 (x ^ i)), (0, iv .i64 x), (1, iv .i64 n)]) (fun _ => [])
    (fun i => i ≤ n) (fun i => n - i) 0 (Nat.zero_le _) (Imp.forget (by repeat' (first | exact trivial | refine And.intro ?_ ?_ | exact ivE (Int.pow_zero x).symm | rfl | exact ivE (by first | omega | (simp only [List.length_map, List.length_append, List.length_singleton] <;> omega)) | exact oE (by first | omega | (simp only [List.length_map, List.length_append, List.length_singleton] <;> omega)))) (by repeat' (first | exact trivial | refine And.intro ?_ ?_ | exact ivE (Int.pow_zero x).symm | rfl | exact ivE (by first | omega | (simp only [List.length_map, List.length_append, List.length_singleton] <;> omega)) | exact oE (by first | omega | (simp only [List.length_map, List.length_append, List.length_singleton] <;> omega)))) (by kernel_rfl) (by kernel_rfl) (by kernel_rfl)) ?_
  intro i hi
  rcases Nat.lt_or_ge i n with hil | hil
  · have w0 : IntKind.i64.wrap (x ^ i * x) = x ^ (i + 1) := by
      have e : x ^ (i + 1) = x ^ i * x := Int.pow_succ x i
      have := h (i + 1) hil
      rw [e] at this ⊢
      unfold lim at this
      exact wrap_of (by omega)
    clear h
    repeat' first | with_reducible refine AW_seq ?_ | with_reducible refine AW_block ?_ | ((first | with_reducible refine AW_skip ?_ | with_reducible refine AW_exit ?_ | with_reducible refine AW_ret ?_ | with_reducible refine AW_region hTt ?_ | fail); conv => whnf) | (exact absurd hb (by omega)) | ((refine ⟨_, w0, ?_⟩); conv => whnf) | (refine AW_cond rfl (fun hb => ?_) (fun hb => ?_) <;> first | (replace hb := of_decide_eq_true hb; try simp only [List.length_map] at hb) | (replace hb := of_decide_eq_false hb; try simp only [List.length_map] at hb)) | ((refine ⟨_, wrap_of (by first | omega | (simp only [List.length_map]; omega)), ?_⟩); conv => whnf) | fail
    exact ⟨i + 1, by omega, by omega, impA⟩
  · obtain rfl : i = n := by omega
    repeat' first | with_reducible refine AW_seq ?_ | with_reducible refine AW_block ?_ | ((first | with_reducible refine AW_skip ?_ | with_reducible refine AW_exit ?_ | with_reducible refine AW_ret ?_ | with_reducible refine AW_region hTt ?_ | fail); conv => whnf) | (exact absurd hb (by omega)) | (refine AW_cond rfl (fun hb => ?_) (fun hb => ?_) <;> first | (replace hb := of_decide_eq_true hb; try simp only [List.length_map] at hb) | (replace hb := of_decide_eq_false hb; try simp only [List.length_map] at hb)) | fail
    rfl
theorem poly_fn (p : List Int) : FnC Tryd.prog 78 [sl p] (iv .i64 (checkE p)) := by
  have hll : (p.map (fun n : Int => [PV.v (.int .i64 n)])).length = p.length := List.length_map _
  have h1 := rin_fn ((p.map (fun n : Int => [PV.v (.int .i64 n)])).length : Int) 1 5
  have h2 := rall_fn p 100 (by decide)
  unfold checkE
  rw [outL_one, ← hll]
  generalize outB 1 5 ((p.map (fun n : Int => [PV.v (.int .i64 n)])).length : Int) = b1 at h1
  rw [show (-100 : Int) = -100 from rfl] at h2
  generalize outL (-100) 100 p = b2 at h2
  cases b1 <;> cases b2 <;> (
    refine FnC_of_AW hTt Tryd.func78 rfl (by kernel_rfl) (res := [.tmp 2]) rfl Tryd.ntmps78 (by simp) fun w0 K0 => ?_
    dsimp only [entry]
    repeat' first | with_reducible refine AW_seq ?_ | ((first | with_reducible refine AW_skip ?_ | with_reducible refine AW_ret ?_ | with_reducible refine AW_region hTt ?_ | ((refine ⟨_, (h1).call rfl rfl, ?_⟩); (rintro _ _ ⟨rfl, rfl⟩)) | ((refine ⟨_, (h2).call rfl rfl, ?_⟩); (rintro _ _ ⟨rfl, rfl⟩)) | fail); conv => whnf) | (refine AW_cond rfl (fun _ => ?_) (fun hb => absurd (show true = false from hb) (by decide))) | (refine AW_cond rfl (fun hb => absurd (show false = true from hb) (by decide)) (fun _ => ?_)) | (refine fun hln => ?_; (try rw [List.length_map] at hln); unfold maxLen at hln; conv => whnf) | fail
    rfl)
theorem interval_fn (a b : Int) : FnC Tryd.prog 79 [iv .i64 a, iv .i64 b] (iv .i64 (judgeE a b)) := by
  have h1 := rin_fn a (-10) 10
  have h2 := rin_fn b (-10) 10
  unfold judgeE
  rw [show outL (-10) 10 [a, b] = (outB (-10) 10 a || outB (-10) 10 b) by unfold outL; simp]
  generalize outB (-10) 10 a = b1 at h1
  generalize outB (-10) 10 b = b2 at h2
  cases b1 <;> cases b2 <;> by_cases hba : b ≤ a <;> simp only [hba, Bool.or_true, Bool.or_false, Bool.or_self, if_true, if_false, ite_true, ite_false, reduceIte] <;> (
    refine FnC_of_AW hTt Tryd.func79 rfl (by kernel_rfl) (res := [.tmp 4]) rfl Tryd.ntmps79 (by simp) fun w0 K0 => ?_
    dsimp only [entry]
    repeat' first | with_reducible refine AW_seq ?_ | ((first | with_reducible refine AW_skip ?_ | with_reducible refine AW_ret ?_ | with_reducible refine AW_region hTt ?_ | fail); conv => whnf) | (exact absurd hb (by omega)) | ((first | ((refine ⟨_, (h1).call rfl rfl, ?_⟩); (rintro _ _ ⟨rfl, rfl⟩)) | refine ⟨_, fun _ => (h2).call rfl rfl, ?_⟩ | fail); conv => whnf) | (refine AW_cond rfl (fun _ => ?_) (fun hb => absurd (show true = false from hb) (by decide))) | (refine AW_cond rfl (fun hb => absurd (show false = true from hb) (by decide)) (fun _ => ?_)) | (refine AW_cond rfl (fun hb => ?_) (fun hb => ?_) <;> first | (replace hb := of_decide_eq_true hb; try simp only [List.length_map] at hb) | (replace hb := of_decide_eq_false hb; try simp only [List.length_map] at hb)) | ((refine andA ?_); conv => whnf) | fail
    rfl)
end Go.Proofs.YtnpleednkmhhhabDoor
namespace Go.Proofs.YtnpleednkmhhhabDoor
open Go Go.QL
set_option maxHeartbeats 1600000
attribute [local irreducible] ACall FnC YC
theorem outO1 {tt : TT} {a : Tmp} {fr : Fr} {σ : Sg} {c st n : Nat} {e : TypeId} {sz : Nat} {xs : List (List PV)} (h1 : lk a fr = some (.x (.o c st n))) (h3 : lk c σ = some (.chain e sz st xs)) (h4 : n ≤ xs.length) :
    outcome tt [.tmp a] fr σ = some (.x (.d (.s sz (xs.take n)))) := by
  simp [outcome, resAVs, resAV, h1, viewAV, viewAVs, viewAV1, viewSV, h3, h4]
theorem leS1 {sz : Nat} {xs ys : List (List PV)} (h : xs = ys) : LeAV (.x (.d (.s sz xs))) (.x (.d (.s sz ys))) := by
  rw [h]; exact LeAV.refl _
theorem rdiff_fn (l : List Int) (hl : l.length ≤ 1000) (hbd : ∀ x ∈ l, -1000000000000 ≤ x ∧ x ≤ 1000000000000) : ∀ k : Nat, k ≤ 10 → FnC Tryd.prog 47 [sl l, iv .i64 k] (sl (diffR k l)) := by
  intro k
  induction k with
  | zero =>
    intro _
    refine FnC_of_AWL hTt Tryd.func47 rfl (by kernel_rfl) (res := [.tmp 4]) rfl Tryd.ntmps47 (by simp) fun w0 K0 => ?_
    dsimp only [entry]
    repeat' first | with_reducible refine AW_seq ?_ | ((first | with_reducible refine AW_ret ?_ | with_reducible refine AW_region hTt ?_ | fail); conv => whnf) | (refine AW_cond rfl (fun _ => ?_) (fun hb => absurd (show true = false from hb) (by decide))) | ((refine andA ?_); conv => whnf) | ((refine And.intro (by refine ⟨?_, ?_, ?_⟩ <;> simp [chunk, maxLen] <;> omega) ?_); conv => whnf) | fail
    exact ⟨_, outO1 rfl rfl (by show 0 + (l.map _).length ≤ ([] ++ l.map _).length; rw [List.nil_append, Nat.zero_add]; exact Nat.le_refl _), leS1 (by show ([] ++ l.map _).take (0 + (l.map _).length) = l.map _; rw [List.nil_append, Nat.zero_add, List.take_length])⟩
  | succ k ih =>
    intro hk
    have ih := ih (by omega)
    have hzl := diffR_len l k
    have hzb := diffR_bd hbd k
    have hpw : (2 : Int) ^ k ≤ 1024 ∧ 0 < (2 : Int) ^ k := by
      have : k = 0 ∨ k = 1 ∨ k = 2 ∨ k = 3 ∨ k = 4 ∨ k = 5 ∨ k = 6 ∨ k = 7 ∨ k = 8 ∨ k = 9 := by omega
      rcases this with rfl | rfl | rfl | rfl | rfl | rfl | rfl | rfl | rfl | rfl <;> decide
    show FnC _ _ _ (sl (dif (diffR k l)))
    generalize diffR k l = z at *
    have hzB : ∀ x ∈ z, -1024000000000000 ≤ x ∧ x ≤ 1024000000000000 := fun x hx => by
      have := hzb x hx
      have h2 : (2 : Int) ^ k * 1000000000000 ≤ 1024 * 1000000000000 := Int.mul_le_mul_of_nonneg_right hpw.1 (by decide)
      omega
    clear hzb hpw hbd
    have hll : (z.map (fun n : Int => [PV.v (.int .i64 n)])).length = z.length := List.length_map _
    have wk : IntKind.i64.wrap (((k + 1 : Nat) : Int) - 1) = (k : Int) := by rw [show ((k + 1 : Nat) : Int) - 1 = k by omega]; exact wrap_of (by omega)
    refine FnC_of_AWL hTt Tryd.func47 rfl (by kernel_rfl) (res := [.tmp 4]) rfl Tryd.ntmps47 (by simp) fun w0 K0 => ?_
    dsimp only [entry]
    repeat' first | with_reducible refine AW_seq ?_ | with_reducible refine AW_block ?_ | ((first | with_reducible refine AW_skip ?_ | with_reducible refine AW_region hTt ?_ | refine ⟨_, wk, ?_⟩ | ((refine ⟨_, (ih).call rfl rfl, ?_⟩); (rintro _ _ ⟨rfl, rfl⟩)) | fail); conv => whnf) | (refine AW_cond rfl (fun hb => absurd (show false = true from hb) (by decide)) (fun _ => ?_)) | fail
    refine AW_imp (Imp.nil 900 3 1 (fr' := [(6, iv .i64 1), (5, .x (.o 900 0 0)), (0, sl z)]) (σ' := []) rfl ?_ ?_ rfl rfl) ?_
    · exact ⟨⟨_, rfl, .inl rfl⟩, ⟨_, rfl, .inr ⟨rfl, rfl⟩⟩, ⟨_, rfl, .inl rfl⟩, trivial⟩
    · exact trivial
    clear ih wk
    have hdl := dif_len z
    have hdt : ∀ i, i ≤ z.length - 1 → (((dif z).take i).map iPV).length = i := fun i hi => by rw [List.length_map, List.length_take]; omega
    refine AW_loop (fun i : Nat => [(6, iv .i64 ((i : Int) + 1)), (5, .x (.o 900 i i)), (0, sl z)]) (fun i => [(900, .chain 3 1 i (((dif z).take i).map iPV))])
      (fun i => i ≤ z.length - 1) (fun i => z.length - 1 - i) 0 (Nat.zero_le _) impA ?_
    intro i hi
    have hcl := hdt i hi
    rcases Nat.lt_or_ge (i + 1) z.length with hil | hil
    · have g0 := hzB _ (getD_mem (show i < z.length by omega))
      have g1 := hzB _ (getD_mem hil)
      have e0 : z[((i : Int) + 1 - 1).toNat]? = some (z.getD i 0) := by
        rw [show ((i : Int) + 1 - 1).toNat = i by omega, List.getD_eq_getElem?_getD, List.getElem?_eq_getElem (by omega)]; rfl
      have e1 : z[((i : Int) + 1).toNat]? = some (z.getD (i + 1) 0) := by
        rw [show ((i : Int) + 1).toNat = i + 1 by omega, List.getD_eq_getElem?_getD, List.getElem?_eq_getElem (by omega)]; rfl
      have hnx : (((dif z).take i).map iPV).take i ++ [iPV (z.getD (i + 1) 0 - z.getD i 0)] = ((dif z).take (i + 1)).map iPV := by
        rw [List.take_of_length_le (by omega), List.take_add_one, dif_get hil, List.map_append]; rfl
      generalize z.getD (i + 1) 0 = y1 at *
      generalize z.getD i 0 = y0 at *
      clear hzB hdt
      repeat' first | with_reducible refine AW_seq ?_ | with_reducible refine AW_block ?_ | ((first | with_reducible refine AW_skip ?_ | with_reducible refine AW_exit ?_ | with_reducible refine AW_ret ?_ | with_reducible refine AW_region hTt ?_ | refine AW_draw hTt hMix (id := 8) 12 true [0, 0, 0, 6, 14, 0, 0, 64, 224, 480, 1022, 2046, 4095, 8191] (by kernel_rfl) rfl rfl (by kernel_rfl) ?_ | fail); conv => whnf) | (exact absurd hb (by omega)) | ((first | with_reducible refine Exists.intro _ (And.intro (gd_any (And.intro (by omega) (map_some' e0))) ?_) | with_reducible refine Exists.intro _ (And.intro (gd_any (And.intro (by omega) (map_some' e1))) ?_) | fail); conv => whnf) | ((refine And.intro (by rw [hcl]; refine ⟨?_, ?_, ?_⟩ <;> simp [chunk, maxLen] <;> omega) ?_); conv => whnf) | (refine AW_cond rfl (fun hb => ?_) (fun hb => ?_) <;> first | (replace hb := of_decide_eq_true hb; try simp only [List.length_map] at hb) | (replace hb := of_decide_eq_false hb; try simp only [List.length_map] at hb) | (simp only [List.length_map, bne_iff_ne, ne_eq, beq_iff_eq, bne_eq_false_iff_eq, beq_eq_false_iff_ne, decide_eq_true_eq, decide_eq_false_iff_not, Bool.not_eq_true', Bool.not_eq_false', Int.natCast_inj] at hb) | skip) | ((first | refine ⟨_, wrap_of (by first | omega | (simp only [List.length_map]; omega)), ?_⟩ | refine andA ?_ | fail); conv => whnf) | (refine fun hln => ?_; (try rw [List.length_map] at hln); unfold maxLen at hln; conv => whnf) | fail
      exact ⟨i + 1, by omega, by omega, (Imp.forget (by repeat' (first | exact trivial | refine And.intro ?_ ?_ | exact congrArg (fun xs : List (List PV) => some (Ob.chain 3 1 (i + 1) xs)) hnx | rfl | exact ivE (by first | omega | (simp only [List.length_map, List.length_append, List.length_singleton] <;> omega)) | exact oE (by first | omega | (simp only [List.length_map, List.length_append, List.length_singleton] <;> omega)))) (by repeat' (first | exact trivial | refine And.intro ?_ ?_ | exact congrArg (fun xs : List (List PV) => some (Ob.chain 3 1 (i + 1) xs)) hnx | rfl | exact ivE (by first | omega | (simp only [List.length_map, List.length_append, List.length_singleton] <;> omega)) | exact oE (by first | omega | (simp only [List.length_map, List.length_append, List.length_singleton] <;> omega)))) (by kernel_rfl) (by kernel_rfl) (by kernel_rfl))⟩
    · repeat' first | with_reducible refine AW_seq ?_ | with_reducible refine AW_block ?_ | ((first | with_reducible refine AW_skip ?_ | with_reducible refine AW_exit ?_ | with_reducible refine AW_ret ?_ | with_reducible refine AW_region hTt ?_ | refine AW_draw hTt hMix (id := 8) 12 true [0, 0, 0, 6, 14, 0, 0, 64, 224, 480, 1022, 2046, 4095, 8191] (by kernel_rfl) rfl rfl (by kernel_rfl) ?_ | fail); conv => whnf) | (exact absurd hb (by omega)) | (refine AW_cond rfl (fun hb => ?_) (fun hb => ?_) <;> first | (replace hb := of_decide_eq_true hb; try simp only [List.length_map] at hb) | (replace hb := of_decide_eq_false hb; try simp only [List.length_map] at hb) | (simp only [List.length_map, bne_iff_ne, ne_eq, beq_iff_eq, bne_eq_false_iff_eq, beq_eq_false_iff_ne, decide_eq_true_eq, decide_eq_false_iff_not, Bool.not_eq_true', Bool.not_eq_false', Int.natCast_inj] at hb) | skip) | (refine fun hln => ?_; (try rw [List.length_map] at hln); unfold maxLen at hln; conv => whnf) | fail
      exact ⟨_, outO1 rfl rfl (by omega), leS1 (by rw [List.take_of_length_le (by omega), List.take_of_length_le (by omega)])⟩
theorem with_fn (l : List Int) (hl : l.length ≤ 1000) (i : Nat) (hi : i < l.length) (v : Int) : FnC Tryd.prog 16 [sl l, iv .i64 i, iv .i64 v] (sl (l.set i v)) := by
  refine FnC_of_AWL hTt Tryd.func16 rfl (by kernel_rfl) (res := [.tmp 6]) rfl Tryd.ntmps16 (by simp) fun w0 K0 => ?_
  dsimp only [entry]
  have hel : ([] ++ l.map (fun n : Int => [PV.v (.int .i64 n)]))[i]? = some [PV.v (.int .i64 l[i])] := by rw [List.nil_append, List.getElem?_map, List.getElem?_eq_getElem hi]; rfl
  repeat' first | with_reducible refine AW_seq ?_ | ((first | with_reducible refine AW_ret ?_ | with_reducible refine AW_region hTt ?_ | refine ⟨_, hel, Nat.le_refl _, ?_⟩ | refine andA ?_ | fail); conv => whnf) | ((refine And.intro (by refine ⟨?_, ?_, ?_⟩ <;> simp [chunk, maxLen] <;> omega) ?_); conv => whnf) | fail
  exact ⟨_, outO1 rfl rfl (by show 0 + (l.map _).length ≤ (([] ++ l.map _).set _ _).length; rw [List.length_set, List.nil_append, Nat.zero_add]; exact Nat.le_refl _), leS1 (by
    show (([] ++ l.map (fun n : Int => [PV.v (.int .i64 n)])).set i [PV.v (.int .i64 v)]).take (0 + (l.map _).length) = (l.set i v).map (fun n : Int => [PV.v (.int .i64 n)])
    rw [List.nil_append, Nat.zero_add, List.take_of_length_le (by rw [List.length_set]; exact Nat.le_refl _), List.map_set])⟩
theorem smooth_fn (l : List Int) (hl : l.length ≤ 1000) (hbd : ∀ x ∈ l, -1000000000000 ≤ x ∧ x ≤ 1000000000000) (k : Nat) (hk : k ≤ 9) : FnC Tryd.prog 17 [sl l, iv .i64 k] (bv (!outL 0 0 (diffR (k + 1) l))) := by
  have h1 := rdiff_fn l hl hbd (k + 1) (by omega)
  have h2 := rall_fn (diffR (k + 1) l) 0 (by decide)
  rw [Int.neg_zero] at h2
  have wk : IntKind.i64.wrap ((k : Int) + 1) = ((k + 1 : Nat) : Int) := wrap_of (by omega)
  refine FnC_of_AW hTt Tryd.func17 rfl (by kernel_rfl) (res := [.tmp 4]) rfl Tryd.ntmps17 (by simp) fun w0 K0 => ?_
  dsimp only [entry]
  repeat' first | with_reducible refine AW_seq ?_ | ((first | with_reducible refine AW_ret ?_ | with_reducible refine AW_region hTt ?_ | refine ⟨_, wk, ?_⟩ | ((refine ⟨_, (h1).call rfl rfl, ?_⟩); (rintro _ _ ⟨rfl, rfl⟩)) | ((refine ⟨_, (h2).call rfl rfl, ?_⟩); (rintro _ _ ⟨rfl, rfl⟩)) | fail); conv => whnf) | fail
  rfl
end Go.Proofs.YtnpleednkmhhhabDoor
namespace Go.Proofs.YtnpleednkmhhhabDoor
open Go Go.QL
set_option maxHeartbeats 1600000
theorem getD_none {l : List Int} {i : Nat} (h : l.length ≤ i) : l.getD i 0 = 0 := by
  rw [List.getD_eq_getElem?_getD, List.getElem?_eq_none h]; rfl
theorem diffR_step (l : List Int) (k j : Nat) : (diffR (k + 1) l).getD j 0 = if j + (k + 1) < l.length then (diffR k l).getD (j + 1) 0 - (diffR k l).getD j 0 else 0 := by
  have hl := diffR_len l k
  show (dif (diffR k l)).getD j 0 = _
  by_cases h : j + (k + 1) < l.length
  · rw [if_pos h, dif_getD (by omega)]
  · rw [if_neg h]
    exact getD_none (by rw [dif_len]; omega)
theorem set_getD {l : List Int} {i : Nat} (v : Int) (hi : i < l.length) (j : Nat) (hj : j < l.length) : (l.set i v).getD j 0 = l.getD j 0 + (v - l.getD i 0) * (unit l.length i).getD j 0 := by
  rw [unit_getD hj, List.getD_eq_getElem?_getD, List.getElem?_set]
  by_cases e : i = j
  · subst e
    rw [if_pos rfl, if_pos hi, if_pos rfl, Int.mul_one, Option.getD_some]; omega
  · rw [if_neg e, if_neg e, Int.mul_zero, Int.add_zero, ← List.getD_eq_getElem?_getD]
theorem diffR_set {l : List Int} {i : Nat} (v : Int) (hi : i < l.length) : ∀ k j, j + k < l.length → (diffR k (l.set i v)).getD j 0 = (diffR k l).getD j 0 + (v - l.getD i 0) * (diffR k (unit l.length i)).getD j 0
  | 0, j, hj => set_getD v hi j hj
  | k + 1, j, hj => by
    rw [diffR_step, diffR_step, diffR_step, List.length_set, unit_len, if_pos hj, if_pos hj, if_pos hj, diffR_set v hi k (j + 1) (by omega), diffR_set v hi k j (by omega)]
    grind
def smoothL (l : List Int) (k : Nat) : Prop := ∀ j, j + k < l.length → (diffR k l).getD j 0 = 0
theorem smooth_iff {l : List Int} {k : Nat} : outL 0 0 (diffR k l) = false ↔ smoothL l k := by
  rw [outL_false]
  have hlen := diffR_len l k
  constructor
  · intro h j hj
    have := h _ (getD_mem (show j < (diffR k l).length by omega))
    omega
  · intro h x hx
    obtain ⟨j, hj, rfl⟩ := List.getElem_of_mem hx
    have := h j (by omega)
    rw [List.getD_eq_getElem?_getD, List.getElem?_eq_getElem hj, Option.getD_some] at this
    omega
theorem smooth_any {l : List Int} {k : Nat} : ((diffR k l).any nzB = false) ↔ smoothL l k := by
  rw [← smooth_iff, outL_false, List.any_eq_false]
  constructor
  · intro h x hx; have := h x hx; simp [nzB] at this; omega
  · intro h x hx; have := h x hx; simp [nzB]; omega
theorem smooth_set {l : List Int} {i k : Nat} {v : Int} (hi : i < l.length) : smoothL (l.set i v) k ↔ ∀ j, j + k < l.length → (diffR k l).getD j 0 = (l.getD i 0 - v) * (diffR k (unit l.length i)).getD j 0 := by
  unfold smoothL
  rw [List.length_set]
  constructor
  · intro h j hj
    have := h j hj
    rw [diffR_set v hi k j hj] at this
    have e : (l.getD i 0 - v) * (diffR k (unit l.length i)).getD j 0 = -((v - l.getD i 0) * (diffR k (unit l.length i)).getD j 0) := by rw [← Int.neg_mul]; congr 1; omega
    omega
  · intro h j hj
    have := h j hj
    rw [diffR_set v hi k j hj]
    have e : (l.getD i 0 - v) * (diffR k (unit l.length i)).getD j 0 = -((v - l.getD i 0) * (diffR k (unit l.length i)).getD j 0) := by rw [← Int.neg_mul]; congr 1; omega
    omega
def atK (d i : Nat) : Nat := i - (d + 1)
theorem unit_front0 : ∀ d, d < 5 → ∀ i, i < d + 1 → ∀ n, n < 31 → d + 3 ≤ n → (diffR (d + 1) (unit n i)).getD 0 0 ≠ 0 := by decide +kernel
theorem unit_at {n d i : Nat} (hd : d ≤ 4) (hi : i < n) (hn : d + 3 ≤ n) (h30 : n ≤ 30) : (diffR (d + 1) (unit n i)).getD (atK d i) 0 ≠ 0 ∧ ∀ j, j < atK d i → (diffR (d + 1) (unit n i)).getD j 0 = 0 := by
  unfold atK
  by_cases h1 : d + 1 ≤ i
  · obtain ⟨a, b⟩ := front (l := unit n i) (by rw [unit_len]; exact hi) (by rw [unit_getD hi, if_pos rfl]) (fun j hj => by rw [unit_getD (by omega), if_neg (by omega)]) (d + 1) h1
    exact ⟨by rw [a]; decide, b⟩
  · rw [show i - (d + 1) = 0 by omega]
    exact ⟨unit_front0 d (by omega) i (by omega) n (by omega) hn, fun j hj => by omega⟩
theorem fst_at {p : Int → Bool} : ∀ (xs : List Int) (s k : Nat), p (xs.getD k 0) = true → k < xs.length → (∀ j, j < k → p (xs.getD j 0) = false) → fstI p xs s = some (s + k)
  | [], s, k, _, h, _ => by simp at h
  | x :: r, s, 0, h, _, _ => by
    simp only [fstI]
    rw [if_pos (by simpa using h)]; rfl
  | x :: r, s, k + 1, h, h2, h3 => by
    simp only [fstI]
    have := h3 0 (by omega)
    rw [if_neg (by simpa using this), fst_at r (s + 1) k (by simpa using h) (by simpa using h2) (fun j hj => by have := h3 (j + 1) (by omega); simpa using this)]
    congr 1; omega
theorem idx_at {n d i : Nat} (hd : d ≤ 4) (hi : i < n) (hn : d + 3 ≤ n) (h30 : n ≤ 30) : idxI nzB (diffR (d + 1) (unit n i)) = (atK d i : Nat) := by
  obtain ⟨a, b⟩ := unit_at hd hi hn h30
  have hl := diffR_len (unit n i) (d + 1)
  rw [unit_len] at hl
  unfold idxI
  rw [fst_at (p := nzB) _ 0 (atK d i) (by simpa [nzB] using a) (by unfold atK; omega) (fun j hj => by unfold nzB; rw [b j hj]; rfl), Nat.zero_add]
def rfitB (l : List Int) (d i : Nat) : Bool :=
  ((diffR (d + 1) l).getD (atK d i) 0).tmod ((diffR (d + 1) (unit l.length i)).getD (atK d i) 0) == 0 &&
    !outL 0 0 (diffR (d + 1) (l.set i (l.getD i 0 - ((diffR (d + 1) l).getD (atK d i) 0).tdiv ((diffR (d + 1) (unit l.length i)).getD (atK d i) 0))))
def rfitV (l : List Int) (d i : Nat) : Int := l.getD i 0 - ((diffR (d + 1) l).getD (atK d i) 0).tdiv ((diffR (d + 1) (unit l.length i)).getD (atK d i) 0)
theorem fit_eq {l : List Int} {d i : Nat} (hd : d ≤ 4) (hi : i < l.length) (hn : d + 3 ≤ l.length) (h30 : l.length ≤ 30) :
    fitP (diffR (d + 1) l) l.length d i = if rfitB l d i = true then some (((diffR (d + 1) l).getD (atK d i) 0).tdiv ((diffR (d + 1) (unit l.length i)).getD (atK d i) 0)) else none := by
  unfold fitP
  rw [idx_at hd hi hn h30, Int.toNat_natCast]
  obtain ⟨hz, _⟩ := unit_at hd hi hn h30
  have hlen := diffR_len (unit l.length i) (d + 1)
  rw [unit_len] at hlen
  have hk : atK d i + (d + 1) < l.length := by unfold atK; omega
  have key : (List.range (diffR (d + 1) (unit l.length i)).length).all (fun j => ((diffR (d + 1) l).getD (atK d i) 0).tdiv ((diffR (d + 1) (unit l.length i)).getD (atK d i) 0) * (diffR (d + 1) (unit l.length i)).getD j 0 == (diffR (d + 1) l).getD j 0) = rfitB l d i := by
    rw [Bool.eq_iff_iff, List.all_eq_true]
    unfold rfitB
    rw [Bool.and_eq_true, Bool.not_eq_true', smooth_iff, smooth_set hi]
    generalize hq : ((diffR (d + 1) l).getD (atK d i) 0).tdiv ((diffR (d + 1) (unit l.length i)).getD (atK d i) 0) = q at *
    constructor
    · intro h
      have h' : ∀ j, j + (d + 1) < l.length → q * (diffR (d + 1) (unit l.length i)).getD j 0 = (diffR (d + 1) l).getD j 0 := fun j hj => by
        have := h j (List.mem_range.2 (by omega)); simpa using this
      refine ⟨?_, fun j hj => ?_⟩
      · rw [beq_iff_eq, ← h' _ hk]; exact Int.mul_tmod_left ..
      · rw [← h' j hj]; congr 1; omega
    · rintro ⟨_, h⟩ j hj
      have := h j (by have := List.mem_range.1 hj; omega)
      rw [beq_iff_eq, this]; congr 1; omega
  rw [key]
def rfindGo (l : List Int) (d : Nat) : Nat → Nat → Int × Int × Int
  | 0, _ => (0, 0, 9)
  | r + 1, i => if rfitB l d i = true then (i, rfitV l d i, 0) else rfindGo l d r (i + 1)
theorem find_go {l : List Int} {d : Nat} (hd : d ≤ 4) (hn : d + 3 ≤ l.length) (h30 : l.length ≤ 30) : ∀ r i, i + r = l.length → findGo l (diffR (d + 1) l) d r i = rfindGo l d r i
  | 0, i, _ => rfl
  | r + 1, i, h => by
    simp only [findGo, rfindGo]
    rw [fit_eq hd (by omega) hn h30, find_go hd hn h30 r (i + 1) (by omega)]
    by_cases hf : rfitB l d i = true
    · rw [if_pos hf, if_pos hf]; rfl
    · rw [if_neg hf, if_neg hf]
def rfindP (l : List Int) (degree : Int) : Int × Int × Int :=
  if inspectE l ≠ 0 then (0, 0, inspectE l)
  else if outL 0 4 [degree] = true then (0, 0, 7)
  else if (l.length : Int) < degree + 3 then (0, 0, 3)
  else if outL 0 0 (diffR (degree.toNat + 1) l) = false then (-1, 0, 0)
  else rfindGo l degree.toNat l.length 0
theorem find_eq (l : List Int) (degree : Int) : findP l degree = rfindP l degree := by
  unfold findP rfindP
  by_cases h1 : inspectE l ≠ 0
  · rw [if_pos h1, if_pos h1]
  · rw [if_neg h1, if_neg h1]
    by_cases h2 : outL 0 4 [degree] = true
    · rw [if_pos h2, if_pos h2]
    · rw [if_neg h2, if_neg h2]
      by_cases h3 : (l.length : Int) < degree + 3
      · rw [if_pos h3, if_pos h3]
      · rw [if_neg h3, if_neg h3]
        have hd := outL_false.1 (by simpa using h2) degree (List.mem_singleton.2 rfl)
        have hi := inspect_ok (Classical.not_not.1 h1)
        by_cases h4 : smoothL l (degree.toNat + 1)
        · rw [if_pos (smooth_any.2 h4), if_pos (smooth_iff.2 h4)]
        · rw [if_neg (fun e => h4 (smooth_any.1 e)), if_neg (fun e => h4 (smooth_iff.1 e))]
          exact find_go (by omega) (by omega) (by omega) _ 0 (by omega)
end Go.Proofs.YtnpleednkmhhhabDoor
namespace Go.Proofs.YtnpleednkmhhhabDoor
open Go Go.QL
set_option maxHeartbeats 1600000
theorem unit_front1 : ∀ d, d < 5 → ∀ n, n < 31 → d + 3 ≤ n → ∀ i, i < d + 2 → ∀ j, j < i → (diffR (d + 1) (unit n i)).getD 0 0 * (diffR (d + 1) (unit n j)).getD 1 0 ≠ (diffR (d + 1) (unit n i)).getD 1 0 * (diffR (d + 1) (unit n j)).getD 0 0 := by decide +kernel
theorem rfit_of {l : List Int} {d i : Nat} {v : Int} (hd : d ≤ 4) (hi : i < l.length) (hn : d + 3 ≤ l.length) (h30 : l.length ≤ 30) (h : smoothL (l.set i v) (d + 1)) : rfitB l d i = true ∧ rfitV l d i = v := by
  obtain ⟨hz, _⟩ := unit_at hd hi hn h30
  have hk : atK d i + (d + 1) < l.length := by unfold atK; omega
  have h1 := (smooth_set hi).1 h
  have h2 := h1 _ hk
  have hv : rfitV l d i = v := by
    unfold rfitV
    rw [h2, Int.mul_tdiv_cancel _ hz]; omega
  refine ⟨?_, hv⟩
  unfold rfitB
  unfold rfitV at hv
  rw [hv, Bool.and_eq_true, Bool.not_eq_true', smooth_iff]
  refine ⟨?_, h⟩
  rw [h2, beq_iff_eq]; exact Int.mul_tmod_left ..
theorem rfit_smooth {l : List Int} {d i : Nat} (h : rfitB l d i = true) : smoothL (l.set i (rfitV l d i)) (d + 1) := by
  unfold rfitB at h
  rw [Bool.and_eq_true, Bool.not_eq_true', smooth_iff] at h
  exact h.2
theorem two_same {l : List Int} {d i j : Nat} {v w : Int} (hd : d ≤ 4) (hi : i < l.length) (hj : j < l.length) (hn : d + 3 ≤ l.length) (h30 : l.length ≤ 30)
    (h1 : smoothL (l.set i v) (d + 1)) (h2 : smoothL (l.set j w) (d + 1)) (hv : v ≠ l.getD i 0) (hji : j < i) : False := by
  have e1 := (smooth_set hi).1 h1
  have e2 := (smooth_set hj).1 h2
  obtain ⟨z1, z1'⟩ := unit_at hd hi hn h30
  obtain ⟨z2, z2'⟩ := unit_at hd hj hn h30
  have hx : l.getD i 0 - v ≠ 0 := by omega
  by_cases hat : atK d j < atK d i
  · have hk : atK d j + (d + 1) < l.length := by unfold atK; omega
    have a := e1 _ hk
    have b := e2 _ hk
    rw [z1' _ hat, Int.mul_zero] at a
    rw [a] at b
    have hy : l.getD j 0 - w = 0 := by
      rcases Int.mul_eq_zero.1 b.symm with h | h
      · exact h
      · exact absurd h z2
    have hk' : atK d i + (d + 1) < l.length := by unfold atK; omega
    have a' := e1 _ hk'
    have b' := e2 _ hk'
    rw [hy, Int.zero_mul] at b'
    rw [b'] at a'
    rcases Int.mul_eq_zero.1 a'.symm with h | h
    · exact hx h
    · exact z1 h
  · have hi2 : i < d + 2 := by unfold atK at hat; omega
    have ki : atK d i = 0 := by unfold atK; omega
    have kj : atK d j = 0 := by unfold atK; omega
    rw [ki] at z1; rw [kj] at z2
    have hf := unit_front1 d (by omega) l.length (by omega) hn i hi2 j hji
    have a0 := e1 0 (by omega)
    have a1 := e1 1 (by omega)
    have b0 := e2 0 (by omega)
    have b1 := e2 1 (by omega)
    rw [a0] at b0
    rw [a1] at b1
    generalize (diffR (d + 1) (unit l.length i)).getD 0 0 = p0 at *
    generalize (diffR (d + 1) (unit l.length i)).getD 1 0 = p1 at *
    generalize (diffR (d + 1) (unit l.length j)).getD 0 0 = q0 at *
    generalize (diffR (d + 1) (unit l.length j)).getD 1 0 = q1 at *
    generalize l.getD i 0 - v = x at *
    generalize l.getD j 0 - w = y at *
    have hy : y ≠ 0 := fun h => by
      rw [h, Int.zero_mul] at b0
      rcases Int.mul_eq_zero.1 b0 with h | h
      · exact hx h
      · exact z1 h
    have : x * y * (p0 * q1 - p1 * q0) = 0 := by grind
    rcases Int.mul_eq_zero.1 this with h | h
    · rcases Int.mul_eq_zero.1 h with h | h
      · exact hx h
      · exact hy h
    · exact hf (by omega)
theorem two_is {l : List Int} {d i j : Nat} {v w : Int} (hd : d ≤ 4) (hi : i < l.length) (hj : j < l.length) (hn : d + 3 ≤ l.length) (h30 : l.length ≤ 30)
    (h1 : smoothL (l.set i v) (d + 1)) (h2 : smoothL (l.set j w) (d + 1)) (hv : v ≠ l.getD i 0) (hw : w ≠ l.getD j 0) : i = j ∧ v = w := by
  rcases Nat.lt_trichotomy i j with h | h | h
  · exact (two_same hd hj hi hn h30 h2 h1 hw h).elim
  · subst h
    exact ⟨rfl, (rfit_of hd hi hn h30 h1).2.symm.trans (rfit_of hd hi hn h30 h2).2⟩
  · exact (two_same hd hi hj hn h30 h1 h2 hv h).elim
theorem set_self {l : List Int} {i : Nat} (hi : i < l.length) : l.set i (l.getD i 0) = l := by
  apply List.ext_getElem
  · rw [List.length_set]
  · intro j h1 h2
    rw [List.getElem_set]
    split
    · rename_i e; subst e; rw [List.getD_eq_getElem?_getD, List.getElem?_eq_getElem hi]; rfl
    · rfl
theorem not_both {l : List Int} {d i : Nat} {v : Int} (hd : d ≤ 4) (hi : i < l.length) (hn : d + 3 ≤ l.length) (h30 : l.length ≤ 30) (h1 : smoothL (l.set i v) (d + 1)) (h2 : smoothL l (d + 1)) : v = l.getD i 0 := by
  rw [← set_self hi] at h2
  exact (rfit_of hd hi hn h30 h1).2.symm.trans (rfit_of hd hi hn h30 h2).2
theorem rfind_cases (l : List Int) (d : Nat) : ∀ r i, (rfindGo l d r i = (0, 0, 9) ∧ ∀ j, i ≤ j → j < i + r → rfitB l d j = false) ∨ ∃ j, i ≤ j ∧ j < i + r ∧ rfitB l d j = true ∧ rfindGo l d r i = ((j : Int), rfitV l d j, 0)
  | 0, i => .inl ⟨rfl, fun j h1 h2 => by omega⟩
  | r + 1, i => by
    simp only [rfindGo]
    by_cases h : rfitB l d i = true
    · rw [if_pos h]; exact .inr ⟨i, Nat.le_refl _, by omega, h, rfl⟩
    · rw [if_neg h]
      rcases rfind_cases l d r (i + 1) with ⟨a, b⟩ | ⟨j, h1, h2, h3, h4⟩
      · exact .inl ⟨a, fun j h1 h2 => by
          by_cases e : j = i
          · subst e; simpa using h
          · exact b j (by omega) (by omega)⟩
      · exact .inr ⟨j, by omega, by omega, h3, h4⟩
theorem rfitV_bd {l : List Int} (h : ∀ x ∈ l, -1000000000 ≤ x ∧ x ≤ 1000000000) {d i : Nat} (hd : d ≤ 4) (hi : i < l.length) : -100000000000 ≤ rfitV l d i ∧ rfitV l d i ≤ 100000000000 := by
  have h1 := h _ (getD_mem hi)
  have hq : (((diffR (d + 1) l).getD (atK d i) 0).tdiv ((diffR (d + 1) (unit l.length i)).getD (atK d i) 0)).natAbs ≤ ((diffR (d + 1) l).getD (atK d i) 0).natAbs := Int.natAbs_tdiv_le_natAbs _ _
  have hw : -(2 ^ (d + 1) * 1000000000) ≤ (diffR (d + 1) l).getD (atK d i) 0 ∧ (diffR (d + 1) l).getD (atK d i) 0 ≤ 2 ^ (d + 1) * 1000000000 := by
    by_cases hk : atK d i < (diffR (d + 1) l).length
    · exact diffR_bd h (d + 1) _ (getD_mem hk)
    · rw [getD_none (by omega)]
      have : (0 : Int) ≤ 2 ^ (d + 1) := Int.pow_nonneg (by decide)
      omega
  have hp : (2 : Int) ^ (d + 1) ≤ 32 := by
    have : d = 0 ∨ d = 1 ∨ d = 2 ∨ d = 3 ∨ d = 4 := by omega
    rcases this with rfl | rfl | rfl | rfl | rfl <;> decide
  unfold rfitV
  generalize ((diffR (d + 1) l).getD (atK d i) 0).tdiv ((diffR (d + 1) (unit l.length i)).getD (atK d i) 0) = q at *
  generalize (diffR (d + 1) l).getD (atK d i) 0 = w at *
  generalize (2 : Int) ^ (d + 1) = t at *
  omega
theorem rfind_three {l : List Int} {degree : Int} (he : inspectE l = 0) (hd : 0 ≤ degree ∧ degree ≤ 4) (hn : degree + 3 ≤ l.length) :
    (rfindP l degree = (-1, 0, 0) ∧ smoothL l (degree.toNat + 1)) ∨ ¬ smoothL l (degree.toNat + 1) ∧
      ((rfindP l degree = (0, 0, 9) ∧ ∀ i v, i < l.length → ¬ smoothL (l.set i v) (degree.toNat + 1)) ∨
       ∃ (i : Nat) (v : Int), i < l.length ∧ v ≠ l.getD i 0 ∧ smoothL (l.set i v) (degree.toNat + 1) ∧ rfindP l degree = ((i : Int), v, 0) ∧ (-100000000000 ≤ v ∧ v ≤ 100000000000) ∧ ∀ j w, j < l.length → w ≠ l.getD j 0 → smoothL (l.set j w) (degree.toNat + 1) → j = i ∧ w = v) := by
  have h30 := (inspect_ok he).1
  have ho : outL 0 4 [degree] = false := outL_false.2 fun x hx => by rw [List.mem_singleton] at hx; subst hx; exact hd
  unfold rfindP
  rw [if_neg (by rw [he]; decide), if_neg (by rw [ho]; decide), if_neg (by omega)]
  by_cases h : smoothL l (degree.toNat + 1)
  · rw [if_pos (smooth_iff.2 h)]; exact .inl ⟨rfl, h⟩
  · rw [if_neg (fun e => h (smooth_iff.1 e))]
    refine .inr ⟨h, ?_⟩
    rcases rfind_cases l degree.toNat l.length 0 with ⟨a, b⟩ | ⟨j, h1, h2, h3, h4⟩
    · refine .inl ⟨a, fun i v hi hs => ?_⟩
      have := (rfit_of (by omega) hi (by omega) h30 hs).1
      rw [b i (Nat.zero_le _) (by omega)] at this
      cases this
    · have hs := rfit_smooth h3
      have hj : j < l.length := by omega
      have hne : rfitV l degree.toNat j ≠ l.getD j 0 := fun e => by
        rw [e, set_self hj] at hs; exact h hs
      exact .inr ⟨j, _, hj, hne, hs, h4, rfitV_bd (inspect_ok he).2 (by omega) hj, fun k w hk hw hkw => two_is (by omega) hk hj (by omega) h30 hkw hs hw hne⟩
theorem rfind_err {l : List Int} {degree : Int} (h : inspectE l ≠ 0 ∨ ¬ (0 ≤ degree ∧ degree ≤ 4) ∨ (l.length : Int) < degree + 3) : ∃ e : Int, rfindP l degree = (0, 0, e) ∧ e ≠ 0 ∧ e ≠ 9 := by
  unfold rfindP
  by_cases h1 : inspectE l ≠ 0
  · rw [if_pos h1]
    refine ⟨_, rfl, h1, ?_⟩
    unfold inspectE
    split
    · decide
    · split <;> decide
  · rw [if_neg h1]
    by_cases h2 : outL 0 4 [degree] = true
    · rw [if_pos h2]; exact ⟨7, rfl, by decide, by decide⟩
    · rw [if_neg h2]
      have hd := outL_false.1 (by simpa using h2) degree (List.mem_singleton.2 rfl)
      by_cases h3 : (l.length : Int) < degree + 3
      · rw [if_pos h3]; exact ⟨3, rfl, by decide, by decide⟩
      · rcases h with h | h | h
        · exact absurd h h1
        · exact absurd hd h
        · exact absurd h h3
end Go.Proofs.YtnpleednkmhhhabDoor
namespace Go.Proofs.YtnpleednkmhhhabDoor
open Go Go.QL
set_option maxHeartbeats 40000000
attribute [local irreducible] ACall FnC YC
theorem and_r {a b : Bool} (h : (a && b) = true) : b = true := by cases a <;> cases b <;> simp_all
theorem and_tt2 {a b : Bool} (h1 : a = true) (h2 : b = true) : (a && b) = true := by rw [h1, h2]; rfl
theorem nt_f2 {c : Bool} (h : c = false) : (!c) = true := by subst h; rfl
theorem cOK {e n d : Int} (h : e = 0 ∨ e = 9) (hn : n ≠ 0) (h0 : 0 ≤ d) (h4 : d ≤ 4) : (bif bif bif bif e != 0 then e != 9 else false then true else n == 0 then true else decide (d < 0) then true else decide (4 < d)) = false := by
  have a1 : (bif e != 0 then e != 9 else false) = false := by rcases h with rfl | rfl <;> rfl
  have a2 : (n == 0) = false := by simpa using hn
  rw [a1, a2, decide_eq_false (show ¬ d < 0 by omega), decide_eq_false (show ¬ 4 < d by omega)]; rfl
theorem nil_len : ((([] : List Int).map (fun n : Int => [PV.v (.int .i64 n)])).length : Int) = 0 := rfl
theorem lonly_fn (l : List Int) (degree a b : Int) (ha : -2147483648 ≤ a ∧ a < 2147483648) (hb : -2147483648 ≤ b ∧ b < 2147483648) : FnC Tryd.prog 4 [sl l, iv .i64 degree, a2AV .i32 a b] (bv true) := by
  have s1 := find_fn l degree
  rw [find_eq] at s1
  have haw := awake_fn
  have hll : (l.map (fun n : Int => [PV.v (.int .i64 n)])).length = l.length := List.length_map _
  by_cases hok : inspectE l = 0 ∧ (0 ≤ degree ∧ degree ≤ 4) ∧ degree + 3 ≤ l.length
  · obtain ⟨he, hd, hn⟩ := hok
    have hin := inspect_ok he
    have h3 := rfind_three he hd hn
    obtain ⟨d, rfl⟩ : ∃ d : Nat, degree = d := ⟨degree.toNat, by omega⟩
    rw [Int.toNat_natCast] at h3
    have hm0 := Int.emod_nonneg (a % 4294967296) (show (l.length : Int) ≠ 0 by omega)
    have hm1 := Int.emod_lt_of_pos (a % 4294967296) (show (0 : Int) < l.length by omega)
    have hu0 := Int.emod_nonneg a (show (4294967296 : Int) ≠ 0 by decide)
    have hu1 := Int.emod_lt_of_pos a (show (0 : Int) < 4294967296 by decide)
    have ht : (a % 4294967296).tmod l.length = (a % 4294967296) % l.length := Int.tmod_eq_emod_of_nonneg hu0
    obtain ⟨i, hi⟩ : ∃ i : Nat, (a % 4294967296) % l.length = i := ⟨((a % 4294967296) % l.length).toNat, by omega⟩
    rw [hi] at ht hm1
    have hil : i < l.length := by omega
    have wu : IntKind.u32.wrap a = a % 4294967296 := by
      simp [IntKind.wrap, IntKind.signed, IntKind.bits]
    clear hm0 hi
    generalize a % 4294967296 = u at *
    have e1 : l[i]? = some (l.getD i 0) := by rw [List.getD_eq_getElem?_getD, List.getElem?_eq_getElem hil]; rfl
    have hbd : ∀ x ∈ l.set i b, -1000000000000 ≤ x ∧ x ≤ 1000000000000 := fun x hx => by
      rcases List.mem_or_eq_of_mem_set hx with h | rfl
      · have := hin.2 x h; omega
      · omega
    have c2 := with_fn l (by omega) i hil b
    have c3 := smooth_fn (l.set i b) (by rw [List.length_set]; omega) hbd d (by omega)
    have hns : b ≠ l.getD i 0 → smoothL l (d + 1) ∨ ¬ smoothL (l.set i b) (d + 1) → outL 0 0 (diffR (d + 1) (l.set i b)) = true := fun h1 h2 => by
      cases hx : outL 0 0 (diffR (d + 1) (l.set i b)) with
      | true => rfl
      | false =>
        rw [smooth_iff] at hx
        rcases h2 with h2 | h2
        · exact absurd (not_both (by omega) hil (by omega) hin.1 hx h2) h1
        · exact absurd hx h2
    clear hbd
    have tf : ¬ (true = false) := by decide
    have ft : ¬ (false = true) := by decide
    have hc1 := fun e h => cOK (e := e) (n := l.length) (d := d) h (by omega) (by omega) (by omega)
    rcases h3 with ⟨hq, hs⟩ | ⟨hs, hq⟩
    · rw [hq] at s1
      have hns := fun h => hns h (.inl hs)
      have hc1 := hc1 0 (.inl rfl)
      generalize l.getD i 0 = li at *
      generalize outL 0 0 (diffR (d + 1) (l.set i b)) = ob at *
      clear hs hq he
      dsimp only at s1
      refine FnC_of_AW hTt Tryd.func4 rfl (by kernel_rfl) (res := [.tmp 6]) rfl Tryd.ntmps4 (by simp) fun w0 K0 => ?_
      dsimp only [entry]
      repeat' first | with_reducible refine AW_seq ?_ | ((first | with_reducible refine AW_skip ?_ | with_reducible refine AW_ret ?_ | with_reducible refine AW_region hTt ?_ | refine AW_draw hTt hMix (id := 6) 11 false [0, 1, 3, 7, 0, 16, 63, 0, 128, 384, 127, 2047] (by kernel_rfl) rfl rfl (by kernel_rfl) ?_ | ((refine ⟨_, (s1).call rfl rfl, ?_⟩); (rintro _ _ ⟨rfl, rfl⟩)) | fail); conv => whnf) | (exact absurd (hb.symm.trans hc1) tf) | ((first | ((refine ⟨_, (c2).call rfl rfl, ?_⟩); (rintro _ _ ⟨rfl, rfl⟩)) | ((refine ⟨_, (c3).call rfl rfl, ?_⟩); (rintro _ _ ⟨rfl, rfl⟩)) | ((refine ⟨_, (haw).call rfl rfl, ?_⟩); (rintro _ _ ⟨rfl, rfl⟩)) | refine ⟨_, fun _ => (haw).call rfl rfl, ?_⟩ | refine Exists.intro _ (And.intro (gd_any (And.intro (by omega) (map_some e1))) ?_) | refine Exists.intro (iPV 0) (And.intro (fun h => by simp at h) ?_) | refine Exists.intro (bv true) (And.intro (fun h => by simp at h) ?_) | refine ⟨(i : Int), (by rw [wu, hll]; exact ht), ?_⟩ | fail); conv => whnf) | (refine AW_cond rfl (fun hb => absurd (show false = true from hb) (by decide)) (fun _ => ?_)) | (refine AW_cond rfl (fun hb => ?_) (fun hb => ?_) <;> first | (replace hb := of_decide_eq_true hb; try simp only [List.length_map] at hb) | (replace hb := of_decide_eq_false hb; try simp only [List.length_map] at hb) | (simp only [List.length_map, bne_iff_ne, ne_eq, beq_iff_eq, bne_eq_false_iff_eq, beq_eq_false_iff_ne, decide_eq_true_eq, decide_eq_false_iff_not, Bool.not_eq_true', Bool.not_eq_false', Int.natCast_inj] at hb) | skip) | ((first | refine ⟨_, wrap_of (by first | omega | (simp only [List.length_map]; omega)), ?_⟩ | refine ⟨IntKind.wrap _ _, rfl, ?_⟩ | refine andA ?_ | fail); conv => whnf) | fail
      · rfl
      · have hbl : b ≠ li := fun e => by subst e; simp at hb
        rw [hns hbl]; rfl
    · rcases hq with ⟨hq, hno⟩ | ⟨j, v, hj, hv, hjs, hq, hvb, huni⟩
      · rw [hq] at s1
        have hns := fun h => hns h (.inr (hno i b hil))
        have hc1 := hc1 9 (.inr rfl)
        generalize l.getD i 0 = li at *
        generalize outL 0 0 (diffR (d + 1) (l.set i b)) = ob at *
        clear hs hq he hno
        dsimp only at s1
        refine FnC_of_AW hTt Tryd.func4 rfl (by kernel_rfl) (res := [.tmp 6]) rfl Tryd.ntmps4 (by simp) fun w0 K0 => ?_
        dsimp only [entry]
        repeat' first | with_reducible refine AW_seq ?_ | ((first | with_reducible refine AW_skip ?_ | with_reducible refine AW_ret ?_ | with_reducible refine AW_region hTt ?_ | refine AW_draw hTt hMix (id := 6) 11 false [0, 1, 3, 7, 0, 16, 63, 0, 128, 384, 127, 2047] (by kernel_rfl) rfl rfl (by kernel_rfl) ?_ | ((refine ⟨_, (s1).call rfl rfl, ?_⟩); (rintro _ _ ⟨rfl, rfl⟩)) | fail); conv => whnf) | (exact absurd (hb.symm.trans hc1) tf) | ((first | ((refine ⟨_, (c2).call rfl rfl, ?_⟩); (rintro _ _ ⟨rfl, rfl⟩)) | ((refine ⟨_, (c3).call rfl rfl, ?_⟩); (rintro _ _ ⟨rfl, rfl⟩)) | ((refine ⟨_, (haw).call rfl rfl, ?_⟩); (rintro _ _ ⟨rfl, rfl⟩)) | refine ⟨_, fun _ => (haw).call rfl rfl, ?_⟩ | refine Exists.intro _ (And.intro (gd_any (And.intro (by omega) (map_some e1))) ?_) | refine Exists.intro (iPV 0) (And.intro (fun h => by simp at h) ?_) | refine Exists.intro (bv true) (And.intro (fun h => by simp at h) ?_) | refine ⟨(i : Int), (by rw [wu, hll]; exact ht), ?_⟩ | fail); conv => whnf) | (refine AW_cond rfl (fun hb => absurd (show false = true from hb) (by decide)) (fun _ => ?_)) | (refine AW_cond rfl (fun hb => ?_) (fun hb => ?_) <;> first | (replace hb := of_decide_eq_true hb; try simp only [List.length_map] at hb) | (replace hb := of_decide_eq_false hb; try simp only [List.length_map] at hb) | (simp only [List.length_map, bne_iff_ne, ne_eq, beq_iff_eq, bne_eq_false_iff_eq, beq_eq_false_iff_ne, decide_eq_true_eq, decide_eq_false_iff_not, Bool.not_eq_true', Bool.not_eq_false', Int.natCast_inj] at hb) | skip) | ((first | refine ⟨_, wrap_of (by first | omega | (simp only [List.length_map]; omega)), ?_⟩ | refine ⟨IntKind.wrap _ _, rfl, ?_⟩ | refine andA ?_ | fail); conv => whnf) | fail
        · rfl
        · have hbl : b ≠ li := fun e => by subst e; simp at hb
          rw [hns hbl]; rfl
      · have hjb : ∀ x ∈ l.set j v, -1000000000000 ≤ x ∧ x ≤ 1000000000000 := by
          intro x hx
          rcases List.mem_or_eq_of_mem_set hx with h | rfl
          · have := hin.2 x h; omega
          · omega
        have k2 := with_fn l (by omega) j hj v
        have k3 := smooth_fn (l.set j v) (by rw [List.length_set]; omega) hjb d (by omega)
        rw [smooth_iff.2 hjs] at k3
        have hns : b ≠ l.getD i 0 → ¬ (i = j ∧ b = v) → outL 0 0 (diffR (d + 1) (l.set i b)) = true := fun h h2 => hns h (.inr (fun e => h2 (huni i b hil h e)))
        have hc1 := hc1 0 (.inl rfl)
        have e2 : l[j]? = some (l.getD j 0) := by rw [List.getD_eq_getElem?_getD, List.getElem?_eq_getElem hj]; rfl
        rw [hq] at s1
        have hcB : (bif bif (0 : Int) == 0 then decide ((0 : Int) ≤ (j : Int)) else false then bif bif decide ((l.length : Int) ≤ (j : Int)) then true else l.getD j 0 == v then true else !!false else false) = false := by
          rw [decide_eq_false (show ¬ ((l.length : Int) ≤ (j : Int)) by omega), show (l.getD j 0 == v) = false by simpa using fun e => hv e.symm]
          cases (bif (0 : Int) == 0 then decide ((0 : Int) ≤ (j : Int)) else false) <;> rfl
        generalize l.getD i 0 = li at *
        generalize l.getD j 0 = lj at *
        generalize outL 0 0 (diffR (d + 1) (l.set i b)) = ob at *
        clear hs hq he huni hjs hjb
        dsimp only at s1
        refine FnC_of_AW hTt Tryd.func4 rfl (by kernel_rfl) (res := [.tmp 6]) rfl Tryd.ntmps4 (by simp) fun w0 K0 => ?_
        dsimp only [entry]
        repeat' first | with_reducible refine AW_seq ?_ | ((first | with_reducible refine AW_skip ?_ | with_reducible refine AW_ret ?_ | with_reducible refine AW_region hTt ?_ | refine AW_draw hTt hMix (id := 6) 11 false [0, 1, 3, 7, 0, 16, 63, 0, 128, 384, 127, 2047] (by kernel_rfl) rfl rfl (by kernel_rfl) ?_ | ((refine ⟨_, (s1).call rfl rfl, ?_⟩); (rintro _ _ ⟨rfl, rfl⟩)) | fail); conv => whnf) | (exact absurd (hb.symm.trans hc1) tf) | (exact absurd (hb.symm.trans hcB) tf) | ((first | ((refine ⟨_, (c2).call rfl rfl, ?_⟩); (rintro _ _ ⟨rfl, rfl⟩)) | ((refine ⟨_, (c3).call rfl rfl, ?_⟩); (rintro _ _ ⟨rfl, rfl⟩)) | refine ⟨_, fun _ => (k2).call rfl rfl, ?_⟩ | refine ⟨_, fun _ => (k3).call rfl rfl, ?_⟩ | ((refine ⟨_, (haw).call rfl rfl, ?_⟩); (rintro _ _ ⟨rfl, rfl⟩)) | refine ⟨_, fun _ => (haw).call rfl rfl, ?_⟩ | refine And.intro (fun h1 h2 => and_tt2 h1 h2) ?_ | refine And.intro (fun h => nt_f2 h) ?_ | refine And.intro (fun h1 h2 => and_tt2 h1 (nt_f2 h2)) ?_ | refine Exists.intro _ (And.intro (gd_any (And.intro (by omega) (map_some e1))) ?_) | refine Exists.intro _ (And.intro (gd_any (And.intro (by omega) (map_some e2))) ?_) | refine ⟨(i : Int), (by rw [wu, hll]; exact ht), ?_⟩ | fail); conv => whnf) | (refine AW_cond rfl (fun hb => ?_) (fun hb => ?_) <;> first | (replace hb := of_decide_eq_true hb; try simp only [List.length_map] at hb) | (replace hb := of_decide_eq_false hb; try simp only [List.length_map] at hb) | (simp only [List.length_map, bne_iff_ne, ne_eq, beq_iff_eq, bne_eq_false_iff_eq, beq_eq_false_iff_ne, decide_eq_true_eq, decide_eq_false_iff_not, Bool.not_eq_true', Bool.not_eq_false', Int.natCast_inj] at hb) | skip) | ((first | refine ⟨_, wrap_of (by first | omega | (simp only [List.length_map]; omega)), ?_⟩ | refine ⟨IntKind.wrap _ _, rfl, ?_⟩ | refine andA ?_ | fail); conv => whnf) | fail
        · rfl
        · have hbl : b ≠ li := fun e => by subst e; simp at hb
          have hx : ¬ (i = j ∧ b = v) := fun e => by
            obtain ⟨rfl, rfl⟩ := e
            simp at hb
          rw [hns hbl hx]; rfl
  · obtain ⟨e, hq, he0, he9⟩ := rfind_err (l := l) (degree := degree) (by omega)
    rw [hq] at s1
    have hcn : (bif bif bif bif e != 0 then e != 9 else false then true else (l.length : Int) == 0 then true else decide (degree < 0) then true else decide (4 < degree)) = true := by
      rw [show (e != 0) = true by simpa using he0, show (e != 9) = true by simpa using he9]; rfl
    have tf : ¬ (true = false) := by decide
    dsimp only at s1
    refine FnC_of_AW hTt Tryd.func4 rfl (by kernel_rfl) (res := [.tmp 6]) rfl Tryd.ntmps4 (by simp) fun w0 K0 => ?_
    dsimp only [entry]
    repeat' first | with_reducible refine AW_seq ?_ | ((first | with_reducible refine AW_skip ?_ | with_reducible refine AW_ret ?_ | with_reducible refine AW_region hTt ?_ | ((refine ⟨_, (s1).call rfl rfl, ?_⟩); (rintro _ _ ⟨rfl, rfl⟩)) | fail); conv => whnf) | (exact absurd (hcn.symm.trans hb) tf) | ((first | refine ⟨_, fun _ => (haw).call rfl rfl, ?_⟩ | refine And.intro (fun h => nt_f2 h) ?_ | fail); conv => whnf) | (refine AW_cond rfl (fun hb => ?_) (fun hb => ?_) <;> first | (replace hb := of_decide_eq_true hb; try simp only [List.length_map] at hb) | (replace hb := of_decide_eq_false hb; try simp only [List.length_map] at hb) | (simp only [List.length_map, bne_iff_ne, ne_eq, beq_iff_eq, bne_eq_false_iff_eq, beq_eq_false_iff_ne, decide_eq_true_eq, decide_eq_false_iff_not, Bool.not_eq_true', Bool.not_eq_false', Int.natCast_inj] at hb) | skip) | ((refine andA ?_); conv => whnf) | fail
    have h0 : (e != 0) = true := by simpa using he0
    exact congrArg (fun b : Bool => some (bv b)) (show (bif bif bif e != 0 then (0 : Int) == 0 else false then (0 : Int) == 0 else false then true else false) = true by rw [h0]; rfl)
end Go.Proofs.YtnpleednkmhhhabDoor
