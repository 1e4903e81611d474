/- What the functions that this law reaches return: part 0. No condition. -/
import Derived.Test.YtnpleednkmhhhabDoorB04
set_option linter.all false
namespace Go.Proofs.YtnpleednkmhhhabDoor
open Go Go.QL
set_option maxHeartbeats 1600000
attribute [local irreducible] ACall FnC YC
theorem in_eq {lo hi n : Int} : (bif decide (n ≥ lo) then decide (n ≤ hi) else false) = !outB lo hi n := by
  cases h : outB lo hi n with
  | false => have := outB_false.1 h; simp [this.1, this.2]
  | true =>
    have : ¬ (lo ≤ n ∧ n ≤ hi) := fun e => by rw [outB_false.2 e] at h; cases h
    cases h1 : decide (n ≥ lo) with
    | false => rfl
    | true => have := of_decide_eq_true h1; simp; omega
theorem rin_fn (n lo hi : Int) : FnC Tryd.prog 61 [iv .i64 n, iv .i64 lo, iv .i64 hi] (bv (!outB lo hi n)) := by
  rw [← in_eq]
  refine FnC_of_AW hTt Tryd.func61 rfl (by kernel_rfl) (res := [.tmp 6]) rfl Tryd.ntmps61 (by simp) fun w0 K0 => ?_
  dsimp only [entry]
  repeat' first | with_reducible refine AW_seq ?_ | ((first | with_reducible refine AW_ret ?_ | with_reducible refine AW_region hTt ?_ | refine andA ?_ | fail); conv => whnf) | fail
  rfl
theorem rall_fn (l : List Int) (hi : Int) (h : -4611686018427387904 ≤ hi ∧ hi ≤ 4611686018427387904) : FnC Tryd.prog 46 [sl l, iv .i64 hi] (bv (!outL (-hi) hi l)) := by
  have hll : (l.map (fun n : Int => [PV.v (.int .i64 n)])).length = l.length := List.length_map _
  rw [← Int.zero_sub hi]
  have hin := fun n => rin_fn n (0 - hi) hi
  refine FnC_of_AW hTt Tryd.func46 rfl (by kernel_rfl) (res := [.tmp 4]) rfl Tryd.ntmps46 (by simp) fun w0 K0 => ?_
  dsimp only [entry]
  repeat' first | with_reducible refine AW_seq ?_ | with_reducible refine AW_block ?_ | ((with_reducible refine AW_region hTt ?_); conv => whnf) | fail
  refine AW_loop (fun i : Nat => [(5, iv .i64 i), (0, sl l), (1, iv .i64 hi)]) (fun _ => [])
    (fun i => i ≤ l.length ∧ ∀ j (h1 : j < l.length), j < i → outB (0 - hi) hi l[j] = false) (fun i => l.length - i) 0 ⟨Nat.zero_le _, fun j _ h => absurd h (Nat.not_lt_zero _)⟩ impA ?_
  rintro i ⟨hi1, hz⟩
  rcases Nat.lt_or_ge i l.length with hil | hil
  · have ho := hin l[i]
    generalize hb0 : outB (0 - hi) hi l[i] = b at ho
    cases b with
    | true =>
      have hr : outL (0 - hi) hi l = true := List.any_eq_true.2 ⟨_, List.getElem_mem hil, hb0⟩
      rw [hr]
      clear hin hz hb0 hr
      repeat' first | with_reducible refine AW_seq ?_ | with_reducible refine AW_block ?_ | ((first | with_reducible refine AW_skip ?_ | with_reducible refine AW_exit ?_ | with_reducible refine AW_ret ?_ | with_reducible refine AW_region hTt ?_ | fail); conv => whnf) | (exact absurd hb (by omega)) | ((refine ⟨_, (ho).call rfl rfl, ?_⟩); (rintro _ _ ⟨rfl, rfl⟩); conv => whnf) | (refine AW_cond rfl (fun _ => ?_) (fun hb => absurd (show true = false from hb) (by decide))) | (refine AW_cond rfl (fun hb => ?_) (fun hb => ?_) <;> first | (replace hb := of_decide_eq_true hb; try simp only [List.length_map] at hb) | (replace hb := of_decide_eq_false hb; try simp only [List.length_map] at hb)) | ((first | refine ⟨_, wrap_of (by first | omega | (simp only [List.length_map]; omega)), ?_⟩ | refine andA ?_ | with_reducible refine Exists.intro _ (And.intro (gd_any (And.intro (by omega) (map_get (by omega)))) ?_) | fail); conv => whnf) | (refine fun hln => ?_; (try rw [List.length_map] at hln); unfold maxLen at hln; conv => whnf) | fail
      rfl
    | false =>
      clear hin
      repeat' first | with_reducible refine AW_seq ?_ | with_reducible refine AW_block ?_ | ((first | with_reducible refine AW_skip ?_ | with_reducible refine AW_exit ?_ | with_reducible refine AW_ret ?_ | with_reducible refine AW_region hTt ?_ | fail); conv => whnf) | (exact absurd hb (by omega)) | ((refine ⟨_, (ho).call rfl rfl, ?_⟩); (rintro _ _ ⟨rfl, rfl⟩); conv => whnf) | (refine AW_cond rfl (fun hb => absurd (show false = true from hb) (by decide)) (fun _ => ?_)) | (refine AW_cond rfl (fun hb => ?_) (fun hb => ?_) <;> first | (replace hb := of_decide_eq_true hb; try simp only [List.length_map] at hb) | (replace hb := of_decide_eq_false hb; try simp only [List.length_map] at hb)) | ((first | refine ⟨_, wrap_of (by first | omega | (simp only [List.length_map]; omega)), ?_⟩ | refine andA ?_ | with_reducible refine Exists.intro _ (And.intro (gd_any (And.intro (by omega) (map_get (by omega)))) ?_) | fail); conv => whnf) | (refine fun hln => ?_; (try rw [List.length_map] at hln); unfold maxLen at hln; conv => whnf) | fail
      exact ⟨i + 1, ⟨by omega, fun j h1 h3 => by
        by_cases e : j = i
        · subst e; exact hb0
        · exact hz j h1 (by omega)⟩, by omega, impA⟩
  · have hr : outL (0 - hi) hi l = false := outL_false.2 fun n hn => by
      obtain ⟨j, hj, rfl⟩ := List.getElem_of_mem hn
      exact outB_false.1 (hz j hj (by omega))
    rw [hr]
    repeat' first | with_reducible refine AW_seq ?_ | with_reducible refine AW_block ?_ | ((first | with_reducible refine AW_skip ?_ | with_reducible refine AW_exit ?_ | with_reducible refine AW_ret ?_ | with_reducible refine AW_region hTt ?_ | fail); conv => whnf) | (exact absurd hb (by omega)) | (refine AW_cond rfl (fun hb => ?_) (fun hb => ?_) <;> first | (replace hb := of_decide_eq_true hb; try simp only [List.length_map] at hb) | (replace hb := of_decide_eq_false hb; try simp only [List.length_map] at hb)) | (refine fun hln => ?_; (try rw [List.length_map] at hln); unfold maxLen at hln; conv => whnf) | fail
    rfl
theorem size_fn (n : Int) (h : lim n) : FnC Tryd.prog 13 [iv .i64 n] (iv .i64 (n.natAbs : Int)) := by
  unfold lim at h
  have w0 : IntKind.i64.wrap (0 - n) = -n := by rw [Int.zero_sub]; exact wrap_of (by omega)
  refine FnC_of_AW hTt Tryd.func13 rfl (by kernel_rfl) (res := [.tmp 2]) rfl Tryd.ntmps13 (by simp) fun w0 K0 => ?_
  dsimp only [entry]
  repeat' first | with_reducible refine AW_seq ?_ | ((first | with_reducible refine AW_ret ?_ | with_reducible refine AW_region hTt ?_ | refine ⟨_, wrap_of (by first | omega | (simp only [List.length_map]; omega)), ?_⟩ | fail); conv => whnf) | fail
  exact congrArg (fun x : Int => some (iv .i64 x)) (show (if 0 - n > n then 0 - n else n) = _ by split <;> omega)
theorem power_fn (x : Int) (n : Nat) (hn : n ≤ 1000) (h : ∀ k, k ≤ n → lim (x ^ k)) : FnC Tryd.prog 58 [iv .i64 x, iv .i64 n] (iv .i64 (x ^ n)) := by
  refine FnC_of_AW hTt Tryd.func58 rfl (by kernel_rfl) (res := [.tmp 4]) rfl Tryd.ntmps58 (by simp) fun w0 K0 => ?_
  dsimp only [entry]
  repeat' first | with_reducible refine AW_seq ?_ | with_reducible refine AW_block ?_ | ((with_reducible refine AW_region hTt ?_); conv => whnf) | fail
  refine AW_loop (fun i : Nat => [(6, iv .i64 i), (5, iv .i64 (x ^ i)), (0, iv .i64 x), (1, iv .i64 n)]) (fun _ => [])
    (fun i => i ≤ n) (fun i => n - i) 0 (Nat.zero_le _) (Imp.forget (by repeat' (first | exact trivial | refine And.intro ?_ ?_ | exact ivE (Int.pow_zero x).symm | rfl | exact ivE (by first | omega | (simp only [List.length_map, List.length_append, List.length_singleton] <;> omega)) | exact oE (by first | omega | (simp only [List.length_map, List.length_append, List.length_singleton] <;> omega)))) (by repeat' (first | exact trivial | refine And.intro ?_ ?_ | exact ivE (Int.pow_zero x).symm | rfl | exact ivE (by first | omega | (simp only [List.length_map, List.length_append, List.length_singleton] <;> omega)) | exact oE (by first | omega | (simp only [List.length_map, List.length_append, List.length_singleton] <;> omega)))) (by kernel_rfl) (by kernel_rfl) (by kernel_rfl)) ?_
  intro i hi
  rcases Nat.lt_or_ge i n with hil | hil
  · have w0 : IntKind.i64.wrap (x ^ i * x) = x ^ (i + 1) := by
      have e : x ^ (i + 1) = x ^ i * x := Int.pow_succ x i
      have := h (i + 1) hil
      rw [e] at this ⊢
      unfold lim at this
      exact wrap_of (by omega)
    clear h
    repeat' first | with_reducible refine AW_seq ?_ | with_reducible refine AW_block ?_ | ((first | with_reducible refine AW_skip ?_ | with_reducible refine AW_exit ?_ | with_reducible refine AW_ret ?_ | with_reducible refine AW_region hTt ?_ | fail); conv => whnf) | (exact absurd hb (by omega)) | ((refine ⟨_, w0, ?_⟩); conv => whnf) | (refine AW_cond rfl (fun hb => ?_) (fun hb => ?_) <;> first | (replace hb := of_decide_eq_true hb; try simp only [List.length_map] at hb) | (replace hb := of_decide_eq_false hb; try simp only [List.length_map] at hb)) | ((refine ⟨_, wrap_of (by first | omega | (simp only [List.length_map]; omega)), ?_⟩); conv => whnf) | fail
    exact ⟨i + 1, by omega, by omega, impA⟩
  · obtain rfl : i = n := by omega
    repeat' first | with_reducible refine AW_seq ?_ | with_reducible refine AW_block ?_ | ((first | with_reducible refine AW_skip ?_ | with_reducible refine AW_exit ?_ | with_reducible refine AW_ret ?_ | with_reducible refine AW_region hTt ?_ | fail); conv => whnf) | (exact absurd hb (by omega)) | (refine AW_cond rfl (fun hb => ?_) (fun hb => ?_) <;> first | (replace hb := of_decide_eq_true hb; try simp only [List.length_map] at hb) | (replace hb := of_decide_eq_false hb; try simp only [List.length_map] at hb)) | fail
    rfl
theorem poly_fn (p : List Int) : FnC Tryd.prog 78 [sl p] (iv .i64 (checkE p)) := by
  have hll : (p.map (fun n : Int => [PV.v (.int .i64 n)])).length = p.length := List.length_map _
  have h1 := rin_fn ((p.map (fun n : Int => [PV.v (.int .i64 n)])).length : Int) 1 5
  have h2 := rall_fn p 100 (by decide)
  unfold checkE
  rw [outL_one, ← hll]
  generalize outB 1 5 ((p.map (fun n : Int => [PV.v (.int .i64 n)])).length : Int) = b1 at h1
  rw [show (-100 : Int) = -100 from rfl] at h2
  generalize outL (-100) 100 p = b2 at h2
  cases b1 <;> cases b2 <;> (
    refine FnC_of_AW hTt Tryd.func78 rfl (by kernel_rfl) (res := [.tmp 2]) rfl Tryd.ntmps78 (by simp) fun w0 K0 => ?_
    dsimp only [entry]
    repeat' first | with_reducible refine AW_seq ?_ | ((first | with_reducible refine AW_skip ?_ | with_reducible refine AW_ret ?_ | with_reducible refine AW_region hTt ?_ | ((refine ⟨_, (h1).call rfl rfl, ?_⟩); (rintro _ _ ⟨rfl, rfl⟩)) | ((refine ⟨_, (h2).call rfl rfl, ?_⟩); (rintro _ _ ⟨rfl, rfl⟩)) | fail); conv => whnf) | (refine AW_cond rfl (fun _ => ?_) (fun hb => absurd (show true = false from hb) (by decide))) | (refine AW_cond rfl (fun hb => absurd (show false = true from hb) (by decide)) (fun _ => ?_)) | (refine fun hln => ?_; (try rw [List.length_map] at hln); unfold maxLen at hln; conv => whnf) | fail
    rfl)
theorem interval_fn (a b : Int) : FnC Tryd.prog 79 [iv .i64 a, iv .i64 b] (iv .i64 (judgeE a b)) := by
  have h1 := rin_fn a (-10) 10
  have h2 := rin_fn b (-10) 10
  unfold judgeE
  rw [show outL (-10) 10 [a, b] = (outB (-10) 10 a || outB (-10) 10 b) by unfold outL; simp]
  generalize outB (-10) 10 a = b1 at h1
  generalize outB (-10) 10 b = b2 at h2
  cases b1 <;> cases b2 <;> by_cases hba : b ≤ a <;> simp only [hba, Bool.or_true, Bool.or_false, Bool.or_self, if_true, if_false, ite_true, ite_false, reduceIte] <;> (
    refine FnC_of_AW hTt Tryd.func79 rfl (by kernel_rfl) (res := [.tmp 4]) rfl Tryd.ntmps79 (by simp) fun w0 K0 => ?_
    dsimp only [entry]
    repeat' first | with_reducible refine AW_seq ?_ | ((first | with_reducible refine AW_skip ?_ | with_reducible refine AW_ret ?_ | with_reducible refine AW_region hTt ?_ | fail); conv => whnf) | (exact absurd hb (by omega)) | ((first | ((refine ⟨_, (h1).call rfl rfl, ?_⟩); (rintro _ _ ⟨rfl, rfl⟩)) | refine ⟨_, fun _ => (h2).call rfl rfl, ?_⟩ | fail); conv => whnf) | (refine AW_cond rfl (fun _ => ?_) (fun hb => absurd (show true = false from hb) (by decide))) | (refine AW_cond rfl (fun hb => absurd (show false = true from hb) (by decide)) (fun _ => ?_)) | (refine AW_cond rfl (fun hb => ?_) (fun hb => ?_) <;> first | (replace hb := of_decide_eq_true hb; try simp only [List.length_map] at hb) | (replace hb := of_decide_eq_false hb; try simp only [List.length_map] at hb)) | ((refine andA ?_); conv => whnf) | fail
    rfl)
end Go.Proofs.YtnpleednkmhhhabDoor
namespace Go.Proofs.YtnpleednkmhhhabDoor
open Go Go.QL
set_option maxHeartbeats 1600000
attribute [local irreducible] ACall FnC YC
theorem outO1 {tt : TT} {a : Tmp} {fr : Fr} {σ : Sg} {c st n : Nat} {e : TypeId} {sz : Nat} {xs : List (List PV)} (h1 : lk a fr = some (.x (.o c st n))) (h3 : lk c σ = some (.chain e sz st xs)) (h4 : n ≤ xs.length) :
    outcome tt [.tmp a] fr σ = some (.x (.d (.s sz (xs.take n)))) := by
  simp [outcome, resAVs, resAV, h1, viewAV, viewAVs, viewAV1, viewSV, h3, h4]
theorem leS1 {sz : Nat} {xs ys : List (List PV)} (h : xs = ys) : LeAV (.x (.d (.s sz xs))) (.x (.d (.s sz ys))) := by
  rw [h]; exact LeAV.refl _
theorem rdiff_fn (l : List Int) (hl : l.length ≤ 1000) (hbd : ∀ x ∈ l, -1000000000000 ≤ x ∧ x ≤ 1000000000000) : ∀ k : Nat, k ≤ 10 → FnC Tryd.prog 47 [sl l, iv .i64 k] (sl (diffR k l)) := by
  intro k
  induction k with
  | zero =>
    intro _
    refine FnC_of_AWL hTt Tryd.func47 rfl (by kernel_rfl) (res := [.tmp 4]) rfl Tryd.ntmps47 (by simp) fun w0 K0 => ?_
    dsimp only [entry]
    repeat' first | with_reducible refine AW_seq ?_ | ((first | with_reducible refine AW_ret ?_ | with_reducible refine AW_region hTt ?_ | fail); conv => whnf) | (refine AW_cond rfl (fun _ => ?_) (fun hb => absurd (show true = false from hb) (by decide))) | ((refine andA ?_); conv => whnf) | ((refine And.intro (by refine ⟨?_, ?_, ?_⟩ <;> simp [chunk, maxLen] <;> omega) ?_); conv => whnf) | fail
    exact ⟨_, outO1 rfl rfl (by show 0 + (l.map _).length ≤ ([] ++ l.map _).length; rw [List.nil_append, Nat.zero_add]; exact Nat.le_refl _), leS1 (by show ([] ++ l.map _).take (0 + (l.map _).length) = l.map _; rw [List.nil_append, Nat.zero_add, List.take_length])⟩
  | succ k ih =>
    intro hk
    have ih := ih (by omega)
    have hzl := diffR_len l k
    have hzb := diffR_bd hbd k
    have hpw : (2 : Int) ^ k ≤ 1024 ∧ 0 < (2 : Int) ^ k := by
      have : k = 0 ∨ k = 1 ∨ k = 2 ∨ k = 3 ∨ k = 4 ∨ k = 5 ∨ k = 6 ∨ k = 7 ∨ k = 8 ∨ k = 9 := by omega
      rcases this with rfl | rfl | rfl | rfl | rfl | rfl | rfl | rfl | rfl | rfl <;> decide
    show FnC _ _ _ (sl (dif (diffR k l)))
    generalize diffR k l = z at *
    have hzB : ∀ x ∈ z, -1024000000000000 ≤ x ∧ x ≤ 1024000000000000 := fun x hx => by
      have := hzb x hx
      have h2 : (2 : Int) ^ k * 1000000000000 ≤ 1024 * 1000000000000 := Int.mul_le_mul_of_nonneg_right hpw.1 (by decide)
      omega
    clear hzb hpw hbd
    have hll : (z.map (fun n : Int => [PV.v (.int .i64 n)])).length = z.length := List.length_map _
    have wk : IntKind.i64.wrap (((k + 1 : Nat) : Int) - 1) = (k : Int) := by rw [show ((k + 1 : Nat) : Int) - 1 = k by omega]; exact wrap_of (by omega)
    refine FnC_of_AWL hTt Tryd.func47 rfl (by kernel_rfl) (res := [.tmp 4]) rfl Tryd.ntmps47 (by simp) fun w0 K0 => ?_
    dsimp only [entry]
    repeat' first | with_reducible refine AW_seq ?_ | with_reducible refine AW_block ?_ | ((first | with_reducible refine AW_skip ?_ | with_reducible refine AW_region hTt ?_ | refine ⟨_, wk, ?_⟩ | ((refine ⟨_, (ih).call rfl rfl, ?_⟩); (rintro _ _ ⟨rfl, rfl⟩)) | fail); conv => whnf) | (refine AW_cond rfl (fun hb => absurd (show false = true from hb) (by decide)) (fun _ => ?_)) | fail
    refine AW_imp (Imp.nil 900 3 1 (fr' := [(6, iv .i64 1), (5, .x (.o 900 0 0)), (0, sl z)]) (σ' := []) rfl ?_ ?_ rfl rfl) ?_
    · exact ⟨⟨_, rfl, .inl rfl⟩, ⟨_, rfl, .inr ⟨rfl, rfl⟩⟩, ⟨_, rfl, .inl rfl⟩, trivial⟩
    · exact trivial
    clear ih wk
    have hdl := dif_len z
    have hdt : ∀ i, i ≤ z.length - 1 → (((dif z).take i).map iPV).length = i := fun i hi => by rw [List.length_map, List.length_take]; omega
    refine AW_loop (fun i : Nat => [(6, iv .i64 ((i : Int) + 1)), (5, .x (.o 900 i i)), (0, sl z)]) (fun i => [(900, .chain 3 1 i (((dif z).take i).map iPV))])
      (fun i => i ≤ z.length - 1) (fun i => z.length - 1 - i) 0 (Nat.zero_le _) impA ?_
    intro i hi
    have hcl := hdt i hi
    rcases Nat.lt_or_ge (i + 1) z.length with hil | hil
    · have g0 := hzB _ (getD_mem (show i < z.length by omega))
      have g1 := hzB _ (getD_mem hil)
      have e0 : z[((i : Int) + 1 - 1).toNat]? = some (z.getD i 0) := by
        rw [show ((i : Int) + 1 - 1).toNat = i by omega, List.getD_eq_getElem?_getD, List.getElem?_eq_getElem (by omega)]; rfl
      have e1 : z[((i : Int) + 1).toNat]? = some (z.getD (i + 1) 0) := by
        rw [show ((i : Int) + 1).toNat = i + 1 by omega, List.getD_eq_getElem?_getD, List.getElem?_eq_getElem (by omega)]; rfl
      have hnx : (((dif z).take i).map iPV).take i ++ [iPV (z.getD (i + 1) 0 - z.getD i 0)] = ((dif z).take (i + 1)).map iPV := by
        rw [List.take_of_length_le (by omega), List.take_add_one, dif_get hil, List.map_append]; rfl
      generalize z.getD (i + 1) 0 = y1 at *
      generalize z.getD i 0 = y0 at *
      clear hzB hdt
      repeat' first | with_reducible refine AW_seq ?_ | with_reducible refine AW_block ?_ | ((first | with_reducible refine AW_skip ?_ | with_reducible refine AW_exit ?_ | with_reducible refine AW_ret ?_ | with_reducible refine AW_region hTt ?_ | refine AW_draw hTt hMix (id := 8) 12 true [0, 0, 0, 6, 14, 0, 0, 64, 224, 480, 1022, 2046, 4095, 8191] (by kernel_rfl) rfl rfl (by kernel_rfl) ?_ | fail); conv => whnf) | (exact absurd hb (by omega)) | ((first | with_reducible refine Exists.intro _ (And.intro (gd_any (And.intro (by omega) (map_some' e0))) ?_) | with_reducible refine Exists.intro _ (And.intro (gd_any (And.intro (by omega) (map_some' e1))) ?_) | fail); conv => whnf) | ((refine And.intro (by rw [hcl]; refine ⟨?_, ?_, ?_⟩ <;> simp [chunk, maxLen] <;> omega) ?_); conv => whnf) | (refine AW_cond rfl (fun hb => ?_) (fun hb => ?_) <;> first | (replace hb := of_decide_eq_true hb; try simp only [List.length_map] at hb) | (replace hb := of_decide_eq_false hb; try simp only [List.length_map] at hb) | (simp only [List.length_map, bne_iff_ne, ne_eq, beq_iff_eq, bne_eq_false_iff_eq, beq_eq_false_iff_ne, decide_eq_true_eq, decide_eq_false_iff_not, Bool.not_eq_true', Bool.not_eq_false', Int.natCast_inj] at hb) | skip) | ((first | refine ⟨_, wrap_of (by first | omega | (simp only [List.length_map]; omega)), ?_⟩ | refine andA ?_ | fail); conv => whnf) | (refine fun hln => ?_; (try rw [List.length_map] at hln); unfold maxLen at hln; conv => whnf) | fail
      exact ⟨i + 1, by omega, by omega, (Imp.forget (by repeat' (first | exact trivial | refine And.intro ?_ ?_ | exact congrArg (fun xs : List (List PV) => some (Ob.chain 3 1 (i + 1) xs)) hnx | rfl | exact ivE (by first | omega | (simp only [List.length_map, List.length_append, List.length_singleton] <;> omega)) | exact oE (by first | omega | (simp only [List.length_map, List.length_append, List.length_singleton] <;> omega)))) (by repeat' (first | exact trivial | refine And.intro ?_ ?_ | exact congrArg (fun xs : List (List PV) => some (Ob.chain 3 1 (i + 1) xs)) hnx | rfl | exact ivE (by first | omega | (simp only [List.length_map, List.length_append, List.length_singleton] <;> omega)) | exact oE (by first | omega | (simp only [List.length_map, List.length_append, List.length_singleton] <;> omega)))) (by kernel_rfl) (by kernel_rfl) (by kernel_rfl))⟩
    · repeat' first | with_reducible refine AW_seq ?_ | with_reducible refine AW_block ?_ | ((first | with_reducible refine AW_skip ?_ | with_reducible refine AW_exit ?_ | with_reducible refine AW_ret ?_ | with_reducible refine AW_region hTt ?_ | refine AW_draw hTt hMix (id := 8) 12 true [0, 0, 0, 6, 14, 0, 0, 64, 224, 480, 1022, 2046, 4095, 8191] (by kernel_rfl) rfl rfl (by kernel_rfl) ?_ | fail); conv => whnf) | (exact absurd hb (by omega)) | (refine AW_cond rfl (fun hb => ?_) (fun hb => ?_) <;> first | (replace hb := of_decide_eq_true hb; try simp only [List.length_map] at hb) | (replace hb := of_decide_eq_false hb; try simp only [List.length_map] at hb) | (simp only [List.length_map, bne_iff_ne, ne_eq, beq_iff_eq, bne_eq_false_iff_eq, beq_eq_false_iff_ne, decide_eq_true_eq, decide_eq_false_iff_not, Bool.not_eq_true', Bool.not_eq_false', Int.natCast_inj] at hb) | skip) | (refine fun hln => ?_; (try rw [List.length_map] at hln); unfold maxLen at hln; conv => whnf) | fail
      exact ⟨_, outO1 rfl rfl (by omega), leS1 (by rw [List.take_of_length_le (by omega), List.take_of_length_le (by omega)])⟩
theorem with_fn (l : List Int) (hl : l.length ≤ 1000) (i : Nat) (hi : i < l.length) (v : Int) : FnC Tryd.prog 16 [sl l, iv .i64 i, iv .i64 v] (sl (l.set i v)) := by
  refine FnC_of_AWL hTt Tryd.func16 rfl (by kernel_rfl) (res := [.tmp 6]) rfl Tryd.ntmps16 (by simp) fun w0 K0 => ?_
  dsimp only [entry]
  have hel : ([] ++ l.map (fun n : Int => [PV.v (.int .i64 n)]))[i]? = some [PV.v (.int .i64 l[i])] := by rw [List.nil_append, List.getElem?_map, List.getElem?_eq_getElem hi]; rfl
  repeat' first | with_reducible refine AW_seq ?_ | ((first | with_reducible refine AW_ret ?_ | with_reducible refine AW_region hTt ?_ | refine ⟨_, hel, Nat.le_refl _, ?_⟩ | refine andA ?_ | fail); conv => whnf) | ((refine And.intro (by refine ⟨?_, ?_, ?_⟩ <;> simp [chunk, maxLen] <;> omega) ?_); conv => whnf) | fail
  exact ⟨_, outO1 rfl rfl (by show 0 + (l.map _).length ≤ (([] ++ l.map _).set _ _).length; rw [List.length_set, List.nil_append, Nat.zero_add]; exact Nat.le_refl _), leS1 (by
    show (([] ++ l.map (fun n : Int => [PV.v (.int .i64 n)])).set i [PV.v (.int .i64 v)]).take (0 + (l.map _).length) = (l.set i v).map (fun n : Int => [PV.v (.int .i64 n)])
    rw [List.nil_append, Nat.zero_add, List.take_of_length_le (by rw [List.length_set]; exact Nat.le_refl _), List.map_set])⟩
theorem smooth_fn (l : List Int) (hl : l.length ≤ 1000) (hbd : ∀ x ∈ l, -1000000000000 ≤ x ∧ x ≤ 1000000000000) (k : Nat) (hk : k ≤ 9) : FnC Tryd.prog 17 [sl l, iv .i64 k] (bv (!outL 0 0 (diffR (k + 1) l))) := by
  have h1 := rdiff_fn l hl hbd (k + 1) (by omega)
  have h2 := rall_fn (diffR (k + 1) l) 0 (by decide)
  rw [Int.neg_zero] at h2
  have wk : IntKind.i64.wrap ((k : Int) + 1) = ((k + 1 : Nat) : Int) := wrap_of (by omega)
  refine FnC_of_AW hTt Tryd.func17 rfl (by kernel_rfl) (res := [.tmp 4]) rfl Tryd.ntmps17 (by simp) fun w0 K0 => ?_
  dsimp only [entry]
  repeat' first | with_reducible refine AW_seq ?_ | ((first | with_reducible refine AW_ret ?_ | with_reducible refine AW_region hTt ?_ | refine ⟨_, wk, ?_⟩ | ((refine ⟨_, (h1).call rfl rfl, ?_⟩); (rintro _ _ ⟨rfl, rfl⟩)) | ((refine ⟨_, (h2).call rfl rfl, ?_⟩); (rintro _ _ ⟨rfl, rfl⟩)) | fail); conv => whnf) | fail
  rfl
end Go.Proofs.YtnpleednkmhhhabDoor
namespace Go.Proofs.YtnpleednkmhhhabDoor
open Go Go.QL
set_option maxHeartbeats 1600000
theorem getD_none {l : List Int} {i : Nat} (h : l.length ≤ i) : l.getD i 0 = 0 := by
  rw [List.getD_eq_getElem?_getD, List.getElem?_eq_none h]; rfl
theorem diffR_step (l : List Int) (k j : Nat) : (diffR (k + 1) l).getD j 0 = if j + (k + 1) < l.length then (diffR k l).getD (j + 1) 0 - (diffR k l).getD j 0 else 0 := by
  have hl := diffR_len l k
  show (dif (diffR k l)).getD j 0 = _
  by_cases h : j + (k + 1) < l.length
  · rw [if_pos h, dif_getD (by omega)]
  · rw [if_neg h]
    exact getD_none (by rw [dif_len]; omega)
theorem set_getD {l : List Int} {i : Nat} (v : Int) (hi : i < l.length) (j : Nat) (hj : j < l.length) : (l.set i v).getD j 0 = l.getD j 0 + (v - l.getD i 0) * (unit l.length i).getD j 0 := by
  rw [unit_getD hj, List.getD_eq_getElem?_getD, List.getElem?_set]
  by_cases e : i = j
  · subst e
    rw [if_pos rfl, if_pos hi, if_pos rfl, Int.mul_one, Option.getD_some]; omega
  · rw [if_neg e, if_neg e, Int.mul_zero, Int.add_zero, ← List.getD_eq_getElem?_getD]
theorem diffR_set {l : List Int} {i : Nat} (v : Int) (hi : i < l.length) : ∀ k j, j + k < l.length → (diffR k (l.set i v)).getD j 0 = (diffR k l).getD j 0 + (v - l.getD i 0) * (diffR k (unit l.length i)).getD j 0
  | 0, j, hj => set_getD v hi j hj
  | k + 1, j, hj => by
    rw [diffR_step, diffR_step, diffR_step, List.length_set, unit_len, if_pos hj, if_pos hj, if_pos hj, diffR_set v hi k (j + 1) (by omega), diffR_set v hi k j (by omega)]
    grind
def smoothL (l : List Int) (k : Nat) : Prop := ∀ j, j + k < l.length → (diffR k l).getD j 0 = 0
theorem smooth_iff {l : List Int} {k : Nat} : outL 0 0 (diffR k l) = false ↔ smoothL l k := by
  rw [outL_false]
  have hlen := diffR_len l k
  constructor
  · intro h j hj
    have := h _ (getD_mem (show j < (diffR k l).length by omega))
    omega
  · intro h x hx
    obtain ⟨j, hj, rfl⟩ := List.getElem_of_mem hx
    have := h j (by omega)
    rw [List.getD_eq_getElem?_getD, List.getElem?_eq_getElem hj, Option.getD_some] at this
    omega
theorem smooth_any {l : List Int} {k : Nat} : ((diffR k l).any nzB = false) ↔ smoothL l k := by
  rw [← smooth_iff, outL_false, List.any_eq_false]
  constructor
  · intro h x hx; have := h x hx; simp [nzB] at this; omega
  · intro h x hx; have := h x hx; simp [nzB]; omega
theorem smooth_set {l : List Int} {i k : Nat} {v : Int} (hi : i < l.length) : smoothL (l.set i v) k ↔ ∀ j, j + k < l.length → (diffR k l).getD j 0 = (l.getD i 0 - v) * (diffR k (unit l.length i)).getD j 0 := by
  unfold smoothL
  rw [List.length_set]
  constructor
  · intro h j hj
    have := h j hj
    rw [diffR_set v hi k j hj] at this
    have e : (l.getD i 0 - v) * (diffR k (unit l.length i)).getD j 0 = -((v - l.getD i 0) * (diffR k (unit l.length i)).getD j 0) := by rw [← Int.neg_mul]; congr 1; omega
    omega
  · intro h j hj
    have := h j hj
    rw [diffR_set v hi k j hj]
    have e : (l.getD i 0 - v) * (diffR k (unit l.length i)).getD j 0 = -((v - l.getD i 0) * (diffR k (unit l.length i)).getD j 0) := by rw [← Int.neg_mul]; congr 1; omega
    omega
def atK (d i : Nat) : Nat := i - (d + 1)
theorem unit_front0 : ∀ d, d < 5 → ∀ i, i < d + 1 → ∀ n, n < 31 → d + 3 ≤ n → (diffR (d + 1) (unit n i)).getD 0 0 ≠ 0 := by decide +kernel
theorem unit_at {n d i : Nat} (hd : d ≤ 4) (hi : i < n) (hn : d + 3 ≤ n) (h30 : n ≤ 30) : (diffR (d + 1) (unit n i)).getD (atK d i) 0 ≠ 0 ∧ ∀ j, j < atK d i → (diffR (d + 1) (unit n i)).getD j 0 = 0 := by
  unfold atK
  by_cases h1 : d + 1 ≤ i
  · obtain ⟨a, b⟩ := front (l := unit n i) (by rw [unit_len]; exact hi) (by rw [unit_getD hi, if_pos rfl]) (fun j hj => by rw [unit_getD (by omega), if_neg (by omega)]) (d + 1) h1
    exact ⟨by rw [a]; decide, b⟩
  · rw [show i - (d + 1) = 0 by omega]
    exact ⟨unit_front0 d (by omega) i (by omega) n (by omega) hn, fun j hj => by omega⟩
theorem fst_at {p : Int → Bool} : ∀ (xs : List Int) (s k : Nat), p (xs.getD k 0) = true → k < xs.length → (∀ j, j < k → p (xs.getD j 0) = false) → fstI p xs s = some (s + k)
  | [], s, k, _, h, _ => by simp at h
  | x :: r, s, 0, h, _, _ => by
    simp only [fstI]
    rw [if_pos (by simpa using h)]; rfl
  | x :: r, s, k + 1, h, h2, h3 => by
    simp only [fstI]
    have := h3 0 (by omega)
    rw [if_neg (by simpa using this), fst_at r (s + 1) k (by simpa using h) (by simpa using h2) (fun j hj => by have := h3 (j + 1) (by omega); simpa using this)]
    congr 1; omega
theorem idx_at {n d i : Nat} (hd : d ≤ 4) (hi : i < n) (hn : d + 3 ≤ n) (h30 : n ≤ 30) : idxI nzB (diffR (d + 1) (unit n i)) = (atK d i : Nat) := by
  obtain ⟨a, b⟩ := unit_at hd hi hn h30
  have hl := diffR_len (unit n i) (d + 1)
  rw [unit_len] at hl
  unfold idxI
  rw [fst_at (p := nzB) _ 0 (atK d i) (by simpa [nzB] using a) (by unfold atK; omega) (fun j hj => by unfold nzB; rw [b j hj]; rfl), Nat.zero_add]
def rfitB (l : List Int) (d i : Nat) : Bool :=
  ((diffR (d + 1) l).getD (atK d i) 0).tmod ((diffR (d + 1) (unit l.length i)).getD (atK d i) 0) == 0 &&
    !outL 0 0 (diffR (d + 1) (l.set i (l.getD i 0 - ((diffR (d + 1) l).getD (atK d i) 0).tdiv ((diffR (d + 1) (unit l.length i)).getD (atK d i) 0))))
def rfitV (l : List Int) (d i : Nat) : Int := l.getD i 0 - ((diffR (d + 1) l).getD (atK d i) 0).tdiv ((diffR (d + 1) (unit l.length i)).getD (atK d i) 0)
theorem fit_eq {l : List Int} {d i : Nat} (hd : d ≤ 4) (hi : i < l.length) (hn : d + 3 ≤ l.length) (h30 : l.length ≤ 30) :
    fitP (diffR (d + 1) l) l.length d i = if rfitB l d i = true then some (((diffR (d + 1) l).getD (atK d i) 0).tdiv ((diffR (d + 1) (unit l.length i)).getD (atK d i) 0)) else none := by
  unfold fitP
  rw [idx_at hd hi hn h30, Int.toNat_natCast]
  obtain ⟨hz, _⟩ := unit_at hd hi hn h30
  have hlen := diffR_len (unit l.length i) (d + 1)
  rw [unit_len] at hlen
  have hk : atK d i + (d + 1) < l.length := by unfold atK; omega
  have key : (List.range (diffR (d + 1) (unit l.length i)).length).all (fun j => ((diffR (d + 1) l).getD (atK d i) 0).tdiv ((diffR (d + 1) (unit l.length i)).getD (atK d i) 0) * (diffR (d + 1) (unit l.length i)).getD j 0 == (diffR (d + 1) l).getD j 0) = rfitB l d i := by
    rw [Bool.eq_iff_iff, List.all_eq_true]
    unfold rfitB
    rw [Bool.and_eq_true, Bool.not_eq_true', smooth_iff, smooth_set hi]
    generalize hq : ((diffR (d + 1) l).getD (atK d i) 0).tdiv ((diffR (d + 1) (unit l.length i)).getD (atK d i) 0) = q at *
    constructor
    · intro h
      have h' : ∀ j, j + (d + 1) < l.length → q * (diffR (d + 1) (unit l.length i)).getD j 0 = (diffR (d + 1) l).getD j 0 := fun j hj => by
        have := h j (List.mem_range.2 (by omega)); simpa using this
      refine ⟨?_, fun j hj => ?_⟩
      · rw [beq_iff_eq, ← h' _ hk]; exact Int.mul_tmod_left ..
      · rw [← h' j hj]; congr 1; omega
    · rintro ⟨_, h⟩ j hj
      have := h j (by have := List.mem_range.1 hj; omega)
      rw [beq_iff_eq, this]; congr 1; omega
  rw [key]
def rfindGo (l : List Int) (d : Nat) : Nat → Nat → Int × Int × Int
  | 0, _ => (0, 0, 9)
  | r + 1, i => if rfitB l d i = true then (i, rfitV l d i, 0) else rfindGo l d r (i + 1)
theorem find_go {l : List Int} {d : Nat} (hd : d ≤ 4) (hn : d + 3 ≤ l.length) (h30 : l.length ≤ 30) : ∀ r i, i + r = l.length → findGo l (diffR (d + 1) l) d r i = rfindGo l d r i
  | 0, i, _ => rfl
  | r + 1, i, h => by
    simp only [findGo, rfindGo]
    rw [fit_eq hd (by omega) hn h30, find_go hd hn h30 r (i + 1) (by omega)]
    by_cases hf : rfitB l d i = true
    · rw [if_pos hf, if_pos hf]; rfl
    · rw [if_neg hf, if_neg hf]
def rfindP (l : List Int) (degree : Int) : Int × Int × Int :=
  if inspectE l ≠ 0 then (0, 0, inspectE l)
  else if outL 0 4 [degree] = true then (0, 0, 7)
  else if (l.length : Int) < degree + 3 then (0, 0, 3)
  else if outL 0 0 (diffR (degree.toNat + 1) l) = false then (-1, 0, 0)
  else rfindGo l degree.toNat l.length 0
theorem find_eq (l : List Int) (degree : Int) : findP l degree = rfindP l degree := by
  unfold findP rfindP
  by_cases h1 : inspectE l ≠ 0
  · rw [if_pos h1, if_pos h1]
  · rw [if_neg h1, if_neg h1]
    by_cases h2 : outL 0 4 [degree] = true
    · rw [if_pos h2, if_pos h2]
    · rw [if_neg h2, if_neg h2]
      by_cases h3 : (l.length : Int) < degree + 3
      · rw [if_pos h3, if_pos h3]
      · rw [if_neg h3, if_neg h3]
        have hd := outL_false.1 (by simpa using h2) degree (List.mem_singleton.2 rfl)
        have hi := inspect_ok (Classical.not_not.1 h1)
        by_cases h4 : smoothL l (degree.toNat + 1)
        · rw [if_pos (smooth_any.2 h4), if_pos (smooth_iff.2 h4)]
        · rw [if_neg (fun e => h4 (smooth_any.1 e)), if_neg (fun e => h4 (smooth_iff.1 e))]
          exact find_go (by omega) (by omega) (by omega) _ 0 (by omega)
end Go.Proofs.YtnpleednkmhhhabDoor
namespace Go.Proofs.YtnpleednkmhhhabDoor
open Go Go.QL
set_option maxHeartbeats 1600000
theorem unit_front1 : ∀ d, d < 5 → ∀ n, n < 31 → d + 3 ≤ n → ∀ i, i < d + 2 → ∀ j, j < i → (diffR (d + 1) (unit n i)).getD 0 0 * (diffR (d + 1) (unit n j)).getD 1 0 ≠ (diffR (d + 1) (unit n i)).getD 1 0 * (diffR (d + 1) (unit n j)).getD 0 0 := by decide +kernel
theorem rfit_of {l : List Int} {d i : Nat} {v : Int} (hd : d ≤ 4) (hi : i < l.length) (hn : d + 3 ≤ l.length) (h30 : l.length ≤ 30) (h : smoothL (l.set i v) (d + 1)) : rfitB l d i = true ∧ rfitV l d i = v := by
  obtain ⟨hz, _⟩ := unit_at hd hi hn h30
  have hk : atK d i + (d + 1) < l.length := by unfold atK; omega
  have h1 := (smooth_set hi).1 h
  have h2 := h1 _ hk
  have hv : rfitV l d i = v := by
    unfold rfitV
    rw [h2, Int.mul_tdiv_cancel _ hz]; omega
  refine ⟨?_, hv⟩
  unfold rfitB
  unfold rfitV at hv
  rw [hv, Bool.and_eq_true, Bool.not_eq_true', smooth_iff]
  refine ⟨?_, h⟩
  rw [h2, beq_iff_eq]; exact Int.mul_tmod_left ..
theorem rfit_smooth {l : List Int} {d i : Nat} (h : rfitB l d i = true) : smoothL (l.set i (rfitV l d i)) (d + 1) := by
  unfold rfitB at h
  rw [Bool.and_eq_true, Bool.not_eq_true', smooth_iff] at h
  exact h.2
theorem two_same {l : List Int} {d i j : Nat} {v w : Int} (hd : d ≤ 4) (hi : i < l.length) (hj : j < l.length) (hn : d + 3 ≤ l.length) (h30 : l.length ≤ 30)
    (h1 : smoothL (l.set i v) (d + 1)) (h2 : smoothL (l.set j w) (d + 1)) (hv : v ≠ l.getD i 0) (hji : j < i) : False := by
  have e1 := (smooth_set hi).1 h1
  have e2 := (smooth_set hj).1 h2
  obtain ⟨z1, z1'⟩ := unit_at hd hi hn h30
  obtain ⟨z2, z2'⟩ := unit_at hd hj hn h30
  have hx : l.getD i 0 - v ≠ 0 := by omega
  by_cases hat : atK d j < atK d i
  · have hk : atK d j + (d + 1) < l.length := by unfold atK; omega
    have a := e1 _ hk
    have b := e2 _ hk
    rw [z1' _ hat, Int.mul_zero] at a
    rw [a] at b
    have hy : l.getD j 0 - w = 0 := by
      rcases Int.mul_eq_zero.1 b.symm with h | h
      · exact h
      · exact absurd h z2
    have hk' : atK d i + (d + 1) < l.length := by unfold atK; omega
    have a' := e1 _ hk'
    have b' := e2 _ hk'
    rw [hy, Int.zero_mul] at b'
    rw [b'] at a'
    rcases Int.mul_eq_zero.1 a'.symm with h | h
    · exact hx h
    · exact z1 h
  · have hi2 : i < d + 2 := by unfold atK at hat; omega
    have ki : atK d i = 0 := by unfold atK; omega
    have kj : atK d j = 0 := by unfold atK; omega
    rw [ki] at z1; rw [kj] at z2
    have hf := unit_front1 d (by omega) l.length (by omega) hn i hi2 j hji
    have a0 := e1 0 (by omega)
    have a1 := e1 1 (by omega)
    have b0 := e2 0 (by omega)
    have b1 := e2 1 (by omega)
    rw [a0] at b0
    rw [a1] at b1
    generalize (diffR (d + 1) (unit l.length i)).getD 0 0 = p0 at *
    generalize (diffR (d + 1) (unit l.length i)).getD 1 0 = p1 at *
    generalize (diffR (d + 1) (unit l.length j)).getD 0 0 = q0 at *
    generalize (diffR (d + 1) (unit l.length j)).getD 1 0 = q1 at *
    generalize l.getD i 0 - v = x at *
    generalize l.getD j 0 - w = y at *
    have hy : y ≠ 0 := fun h => by
      rw [h, Int.zero_mul] at b0
      rcases Int.mul_eq_zero.1 b0 with h | h
      · exact hx h
      · exact z1 h
    have : x * y * (p0 * q1 - p1 * q0) = 0 := by grind
    rcases Int.mul_eq_zero.1 this with h | h
    · rcases Int.mul_eq_zero.1 h with h | h
      · exact hx h
      · exact hy h
    · exact hf (by omega)
theorem two_is {l : List Int} {d i j : Nat} {v w : Int} (hd : d ≤ 4) (hi : i < l.length) (hj : j < l.length) (hn : d + 3 ≤ l.length) (h30 : l.length ≤ 30)
    (h1 : smoothL (l.set i v) (d + 1)) (h2 : smoothL (l.set j w) (d + 1)) (hv : v ≠ l.getD i 0) (hw : w ≠ l.getD j 0) : i = j ∧ v = w := by
  rcases Nat.lt_trichotomy i j with h | h | h
  · exact (two_same hd hj hi hn h30 h2 h1 hw h).elim
  · subst h
    exact ⟨rfl, (rfit_of hd hi hn h30 h1).2.symm.trans (rfit_of hd hi hn h30 h2).2⟩
  · exact (two_same hd hi hj hn h30 h1 h2 hv h).elim
theorem set_self {l : List Int} {i : Nat} (hi : i < l.length) : l.set i (l.getD i 0) = l := by
  apply List.ext_getElem
  · rw [List.length_set]
  · intro j h1 h2
    rw [List.getElem_set]
    split
    · rename_i e; subst e; rw [List.getD_eq_getElem?_getD, List.getElem?_eq_getElem hi]; rfl
    · rfl
theorem not_both {l : List Int} {d i : Nat} {v : Int} (hd : d ≤ 4) (hi : i < l.length) (hn : d + 3 ≤ l.length) (h30 : l.length ≤ 30) (h1 : smoothL (l.set i v) (d + 1)) (h2 : smoothL l (d + 1)) : v = l.getD i 0 := by
  rw [← set_self hi] at h2
  exact (rfit_of hd hi hn h30 h1).2.symm.trans (rfit_of hd hi hn h30 h2).2
theorem rfind_cases (l : List Int) (d : Nat) : ∀ r i, (rfindGo l d r i = (0, 0, 9) ∧ ∀ j, i ≤ j → j < i + r → rfitB l d j = false) ∨ ∃ j, i ≤ j ∧ j < i + r ∧ rfitB l d j = true ∧ rfindGo l d r i = ((j : Int), rfitV l d j, 0)
  | 0, i => .inl ⟨rfl, fun j h1 h2 => by omega⟩
  | r + 1, i => by
    simp only [rfindGo]
    by_cases h : rfitB l d i = true
    · rw [if_pos h]; exact .inr ⟨i, Nat.le_refl _, by omega, h, rfl⟩
    · rw [if_neg h]
      rcases rfind_cases l d r (i + 1) with ⟨a, b⟩ | ⟨j, h1, h2, h3, h4⟩
      · exact .inl ⟨a, fun j h1 h2 => by
          by_cases e : j = i
          · subst e; simpa using h
          · exact b j (by omega) (by omega)⟩
      · exact .inr ⟨j, by omega, by omega, h3, h4⟩
theorem rfitV_bd {l : List Int} (h : ∀ x ∈ l, -1000000000 ≤ x ∧ x ≤ 1000000000) {d i : Nat} (hd : d ≤ 4) (hi : i < l.length) : -100000000000 ≤ rfitV l d i ∧ rfitV l d i ≤ 100000000000 := by
  have h1 := h _ (getD_mem hi)
  have hq : (((diffR (d + 1) l).getD (atK d i) 0).tdiv ((diffR (d + 1) (unit l.length i)).getD (atK d i) 0)).natAbs ≤ ((diffR (d + 1) l).getD (atK d i) 0).natAbs := Int.natAbs_tdiv_le_natAbs _ _
  have hw : -(2 ^ (d + 1) * 1000000000) ≤ (diffR (d + 1) l).getD (atK d i) 0 ∧ (diffR (d + 1) l).getD (atK d i) 0 ≤ 2 ^ (d + 1) * 1000000000 := by
    by_cases hk : atK d i < (diffR (d + 1) l).length
    · exact diffR_bd h (d + 1) _ (getD_mem hk)
    · rw [getD_none (by omega)]
      have : (0 : Int) ≤ 2 ^ (d + 1) := Int.pow_nonneg (by decide)
      omega
  have hp : (2 : Int) ^ (d + 1) ≤ 32 := by
    have : d = 0 ∨ d = 1 ∨ d = 2 ∨ d = 3 ∨ d = 4 := by omega
    rcases this with rfl | rfl | rfl | rfl | rfl <;> decide
  unfold rfitV
  generalize ((diffR (d + 1) l).getD (atK d i) 0).tdiv ((diffR (d + 1) (unit l.length i)).getD (atK d i) 0) = q at *
  generalize (diffR (d + 1) l).getD (atK d i) 0 = w at *
  generalize (2 : Int) ^ (d + 1) = t at *
  omega
theorem rfind_three {l : List Int} {degree : Int} (he : inspectE l = 0) (hd : 0 ≤ degree ∧ degree ≤ 4) (hn : degree + 3 ≤ l.length) :
    (rfindP l degree = (-1, 0, 0) ∧ smoothL l (degree.toNat + 1)) ∨ ¬ smoothL l (degree.toNat + 1) ∧
      ((rfindP l degree = (0, 0, 9) ∧ ∀ i v, i < l.length → ¬ smoothL (l.set i v) (degree.toNat + 1)) ∨
       ∃ (i : Nat) (v : Int), i < l.length ∧ v ≠ l.getD i 0 ∧ smoothL (l.set i v) (degree.toNat + 1) ∧ rfindP l degree = ((i : Int), v, 0) ∧ (-100000000000 ≤ v ∧ v ≤ 100000000000) ∧ ∀ j w, j < l.length → w ≠ l.getD j 0 → smoothL (l.set j w) (degree.toNat + 1) → j = i ∧ w = v) := by
  have h30 := (inspect_ok he).1
  have ho : outL 0 4 [degree] = false := outL_false.2 fun x hx => by rw [List.mem_singleton] at hx; subst hx; exact hd
  unfold rfindP
  rw [if_neg (by rw [he]; decide), if_neg (by rw [ho]; decide), if_neg (by omega)]
  by_cases h : smoothL l (degree.toNat + 1)
  · rw [if_pos (smooth_iff.2 h)]; exact .inl ⟨rfl, h⟩
  · rw [if_neg (fun e => h (smooth_iff.1 e))]
    refine .inr ⟨h, ?_⟩
    rcases rfind_cases l degree.toNat l.length 0 with ⟨a, b⟩ | ⟨j, h1, h2, h3, h4⟩
    · refine .inl ⟨a, fun i v hi hs => ?_⟩
      have := (rfit_of (by omega) hi (by omega) h30 hs).1
      rw [b i (Nat.zero_le _) (by omega)] at this
      cases this
    · have hs := rfit_smooth h3
      have hj : j < l.length := by omega
      have hne : rfitV l degree.toNat j ≠ l.getD j 0 := fun e => by
        rw [e, set_self hj] at hs; exact h hs
      exact .inr ⟨j, _, hj, hne, hs, h4, rfitV_bd (inspect_ok he).2 (by omega) hj, fun k w hk hw hkw => two_is (by omega) hk hj (by omega) h30 hkw hs hw hne⟩
theorem rfind_err {l : List Int} {degree : Int} (h : inspectE l ≠ 0 ∨ ¬ (0 ≤ degree ∧ degree ≤ 4) ∨ (l.length : Int) < degree + 3) : ∃ e : Int, rfindP l degree = (0, 0, e) ∧ e ≠ 0 ∧ e ≠ 9 := by
  unfold rfindP
  by_cases h1 : inspectE l ≠ 0
  · rw [if_pos h1]
    refine ⟨_, rfl, h1, ?_⟩
    unfold inspectE
    split
    · decide
    · split <;> decide
  · rw [if_neg h1]
    by_cases h2 : outL 0 4 [degree] = true
    · rw [if_pos h2]; exact ⟨7, rfl, by decide, by decide⟩
    · rw [if_neg h2]
      have hd := outL_false.1 (by simpa using h2) degree (List.mem_singleton.2 rfl)
      by_cases h3 : (l.length : Int) < degree + 3
      · rw [if_pos h3]; exact ⟨3, rfl, by decide, by decide⟩
      · rcases h with h | h | h
        · exact absurd h h1
        · exact absurd hd h
        · exact absurd h h3
end Go.Proofs.YtnpleednkmhhhabDoor
namespace Go.Proofs.YtnpleednkmhhhabDoor
open Go Go.QL
set_option maxHeartbeats 1600000
attribute [local irreducible] ACall FnC YC
theorem pow_bdG {x B : Int} (h : -B ≤ x ∧ x ≤ B) : ∀ k : Nat, -(B ^ k) ≤ x ^ k ∧ x ^ k ≤ B ^ k
  | 0 => by simp
  | k + 1 => by
    have := mul_bd (pow_bdG h k) h
    rw [Int.pow_succ, Int.pow_succ]; exact this
def atS (p : List Int) (num den : Int) : Nat → Int
  | 0 => 0
  | k + 1 => atS p num den k + p.getD k 0 * num ^ k * den ^ (p.length - 1 - k)
theorem valS_2 (p : List Int) (num den : Int) : ∀ j, (valS p num den j).2 = den ^ j
  | 0 => by simp [valS]
  | j + 1 => by simp only [valS]; rw [valS_2 p num den j, Int.pow_succ]
theorem valS_at (p : List Int) (num den : Int) : ∀ j, j ≤ p.length → (valS p num den j).1 * num ^ (p.length - j) + atS p num den (p.length - j) = atS p num den p.length
  | 0, _ => by simp [valS]
  | j + 1, h => by
    have ih := valS_at p num den j (by omega)
    rw [← ih]
    obtain ⟨m, hm⟩ : ∃ m, p.length - (j + 1) = m := ⟨_, rfl⟩
    rw [hm, show p.length - j = m + 1 by omega]
    simp only [valS, atS]
    rw [valS_2, show p.length - 1 - j = m by omega, show p.length - 1 - m = j by omega, Int.pow_succ, Int.add_mul]
    have e1 : (valS p num den j).1 * num * num ^ m = (valS p num den j).1 * (num ^ m * num) := by rw [Int.mul_assoc, Int.mul_comm num]
    have e2 : p.getD m 0 * den ^ j * num ^ m = p.getD m 0 * num ^ m * den ^ j := by rw [Int.mul_assoc, Int.mul_comm (den ^ j), ← Int.mul_assoc]
    rw [e1, e2]; omega
theorem val_at (p : List Int) (num den : Int) : valP p num den = atS p num den p.length := by
  have := valS_at p num den p.length (Nat.le_refl _)
  rw [Nat.sub_self] at this
  simp only [atS, Int.pow_zero, Int.mul_one, Int.add_zero] at this
  exact this
theorem at_bd {p : List Int} (hp : pOK p) {num den : Int} (hn : -4000 ≤ num ∧ num ≤ 4000) (hd : -4000 ≤ den ∧ den ≤ 4000) {k : Nat} (hk : k < p.length) :
    lim (p.getD k 0 * num ^ k) ∧ (-25600000000000000 ≤ p.getD k 0 * num ^ k * den ^ (p.length - 1 - k) ∧ p.getD k 0 * num ^ k * den ^ (p.length - 1 - k) ≤ 25600000000000000) := by
  have hc := hp.get k
  have h1 := pow_bdG hn k
  have h2 := pow_bdG hd (p.length - 1 - k)
  have h5 := hp.1
  have m1 := mul_bd (A := 100) hc h1
  have m2 := mul_bd m1 h2
  have e : (100 : Int) * 4000 ^ k * 4000 ^ (p.length - 1 - k) = 100 * 4000 ^ (p.length - 1) := by
    rw [Int.mul_assoc, ← Int.pow_add, show k + (p.length - 1 - k) = p.length - 1 by omega]
  rw [e] at m2
  have l1 : p.length - 1 = 0 ∨ p.length - 1 = 1 ∨ p.length - 1 = 2 ∨ p.length - 1 = 3 ∨ p.length - 1 = 4 := by omega
  have b2 : (100 : Int) * 4000 ^ (p.length - 1) ≤ 25600000000000000 := by
    rcases l1 with e | e | e | e | e <;> rw [e] <;> decide
  have l2 : k = 0 ∨ k = 1 ∨ k = 2 ∨ k = 3 ∨ k = 4 := by omega
  have b1 : (100 : Int) * 4000 ^ k ≤ 25600000000000000 := by
    rcases l2 with e | e | e | e | e <;> rw [e] <;> decide
  unfold lim
  omega
theorem atS_bd {p : List Int} (hp : pOK p) {num den : Int} (hn : -4000 ≤ num ∧ num ≤ 4000) (hd : -4000 ≤ den ∧ den ≤ 4000) : ∀ k, k ≤ p.length → -((k : Int) * 25600000000000000) ≤ atS p num den k ∧ atS p num den k ≤ (k : Int) * 25600000000000000
  | 0, _ => by simp [atS]
  | k + 1, h => by
    have ih := atS_bd hp hn hd k (by omega)
    have := (at_bd hp hn hd (k := k) (by omega)).2
    simp only [atS]
    omega
theorem at_fn {p : List Int} (hp : pOK p) {num den : Int} (hn : -4000 ≤ num ∧ num ≤ 4000) (hd : -4000 ≤ den ∧ den ≤ 4000) : FnC Tryd.prog 37 [sl p, iv .i64 num, iv .i64 den] (iv .i64 (valP p num den)) := by
  have hll : (p.map (fun n : Int => [PV.v (.int .i64 n)])).length = p.length := List.length_map _
  have h5 := hp.1
  have hlimp : ∀ (x : Int), -4000 ≤ x ∧ x ≤ 4000 → ∀ n : Nat, n ≤ 4 → ∀ k, k ≤ n → lim (x ^ k) := fun x hx n hn4 k hk => by
    have := pow_bdG hx k
    have l2 : k = 0 ∨ k = 1 ∨ k = 2 ∨ k = 3 ∨ k = 4 := by omega
    have b1 : (4000 : Int) ^ k ≤ 256000000000000 := by
      rcases l2 with e | e | e | e | e <;> rw [e] <;> decide
    unfold lim; omega
  rw [val_at]
  refine FnC_of_AW hTt Tryd.func37 rfl (by kernel_rfl) (res := [.tmp 6]) rfl Tryd.ntmps37 (by simp) fun w0 K0 => ?_
  dsimp only [entry]
  repeat' first | with_reducible refine AW_seq ?_ | with_reducible refine AW_block ?_ | ((with_reducible refine AW_region hTt ?_); conv => whnf) | fail
  refine AW_loop (fun i : Nat => [(8, iv .i64 i), (7, iv .i64 (atS p num den i)), (0, sl p), (1, iv .i64 num), (2, iv .i64 den)]) (fun _ => [])
    (fun i => i ≤ p.length) (fun i => p.length - i) 0 (Nat.zero_le _) impA ?_
  intro i hi
  rcases Nat.lt_or_ge i p.length with hil | hil
  · have q1 := power_fn num i (by omega) (hlimp num hn i (by omega))
    have q2 := power_fn den (p.length - 1 - i) (by omega) (hlimp den hd _ (by omega))
    rw [show ((p.length - 1 - i : Nat) : Int) = ((p.map (fun n : Int => [PV.v (.int .i64 n)])).length : Int) - 1 - (i : Int) by omega] at q2
    obtain ⟨b1, b2⟩ := at_bd hp hn hd hil
    have b3 := atS_bd hp hn hd i (by omega)
    have e1 : p[i]? = some (p.getD i 0) := by rw [List.getD_eq_getElem?_getD, List.getElem?_eq_getElem hil]; rfl
    have hnx : atS p num den (i + 1) = atS p num den i + p.getD i 0 * num ^ i * den ^ (p.length - 1 - i) := rfl
    unfold lim at b1
    generalize p.getD i 0 = c at *
    generalize num ^ i = x at *
    generalize den ^ (p.length - 1 - i) = y at *
    have k1 : IntKind.i64.wrap (c * x) = c * x := wrap_of (by omega)
    have k2 : IntKind.i64.wrap (c * x * y) = c * x * y := wrap_of (by omega)
    have k3 : IntKind.i64.wrap (atS p num den i + c * x * y) = atS p num den (i + 1) := by rw [hnx]; exact wrap_of (by omega)
    generalize hT : atS p num den (i + 1) = T1 at *
    generalize atS p num den i = T0 at *
    clear hlimp hp b3 b1 b2 hnx
    repeat' first | with_reducible refine AW_seq ?_ | with_reducible refine AW_block ?_ | ((first | with_reducible refine AW_skip ?_ | with_reducible refine AW_exit ?_ | with_reducible refine AW_ret ?_ | with_reducible refine AW_region hTt ?_ | refine AW_draw hTt hMix (id := 5) 17 false [0, 0, 0, 6, 14, 0, 0, 96, 254, 0, 0, 1024, 3072, 0, 15360, 32480, 65534, 131071, 262143] (by kernel_rfl) rfl rfl (by kernel_rfl) ?_ | fail); conv => whnf) | (exact absurd hb (by omega)) | ((first | with_reducible refine Exists.intro _ (And.intro (gd_any (And.intro (by omega) (map_some e1))) ?_) | refine ⟨_, fun _ => (q1).call rfl rfl, ?_⟩ | refine ⟨_, fun _ => (q2).call rfl rfl, ?_⟩ | refine ⟨_, k1, ?_⟩ | refine ⟨_, k2, ?_⟩ | refine ⟨_, k3, ?_⟩ | fail); conv => whnf) | (refine AW_cond rfl (fun hb => ?_) (fun hb => ?_) <;> first | (replace hb := of_decide_eq_true hb; try simp only [List.length_map] at hb) | (replace hb := of_decide_eq_false hb; try simp only [List.length_map] at hb) | (simp only [List.length_map, bne_iff_ne, ne_eq, beq_iff_eq, bne_eq_false_iff_eq, beq_eq_false_iff_ne, decide_eq_true_eq, decide_eq_false_iff_not, Bool.not_eq_true', Bool.not_eq_false', Int.natCast_inj] at hb) | skip) | ((first | refine ⟨_, wrap_of (by first | omega | (simp only [List.length_map]; omega)), ?_⟩ | refine andA ?_ | fail); conv => whnf) | (refine fun hln => ?_; (try rw [List.length_map] at hln); unfold maxLen at hln; conv => whnf) | fail
    subst hT
    exact ⟨i + 1, by omega, by omega, impA⟩
  · obtain rfl : i = p.length := by omega
    repeat' first | with_reducible refine AW_seq ?_ | with_reducible refine AW_block ?_ | ((first | with_reducible refine AW_skip ?_ | with_reducible refine AW_exit ?_ | with_reducible refine AW_ret ?_ | with_reducible refine AW_region hTt ?_ | refine AW_draw hTt hMix (id := 5) 17 false [0, 0, 0, 6, 14, 0, 0, 96, 254, 0, 0, 1024, 3072, 0, 15360, 32480, 65534, 131071, 262143] (by kernel_rfl) rfl rfl (by kernel_rfl) ?_ | fail); conv => whnf) | (exact absurd hb (by omega)) | (refine AW_cond rfl (fun hb => ?_) (fun hb => ?_) <;> first | (replace hb := of_decide_eq_true hb; try simp only [List.length_map] at hb) | (replace hb := of_decide_eq_false hb; try simp only [List.length_map] at hb) | (simp only [List.length_map, bne_iff_ne, ne_eq, beq_iff_eq, bne_eq_false_iff_eq, beq_eq_false_iff_ne, decide_eq_true_eq, decide_eq_false_iff_not, Bool.not_eq_true', Bool.not_eq_false', Int.natCast_inj] at hb) | skip) | (refine fun hln => ?_; (try rw [List.length_map] at hln); unfold maxLen at hln; conv => whnf) | fail
    rfl
end Go.Proofs.YtnpleednkmhhhabDoor
namespace Go.Proofs.YtnpleednkmhhhabDoor
open Go Go.QL
set_option maxHeartbeats 1600000
attribute [local irreducible] ACall FnC YC
def madeL (p : List Int) (f : Int) (k : Nat) : List Int := (List.range k).map fun (j : Nat) => valP p (f + j) 1
theorem madeL_len (p : List Int) (f : Int) (k : Nat) : (madeL p f k).length = k := by unfold madeL; simp
theorem madeL_succ (p : List Int) (f : Int) (k : Nat) : madeL p f (k + 1) = madeL p f k ++ [valP p (f + k) 1] := by unfold madeL; rw [List.range_succ, List.map_append]; rfl
theorem made_fn {p : List Int} (hp : pOK p) {f : Int} (hf : -1000 ≤ f ∧ f ≤ 1000) (n : Nat) (hn : n ≤ 1000) : FnC Tryd.prog 14 [sl p, iv .i64 f, iv .i64 n] (sl (madeL p f n)) := by
  refine FnC_of_AWL hTt Tryd.func14 rfl (by kernel_rfl) (res := [.tmp 6]) rfl Tryd.ntmps14 (by simp) fun w0 K0 => ?_
  dsimp only [entry]
  repeat' first | with_reducible refine AW_seq ?_ | with_reducible refine AW_block ?_ | with_reducible refine AW_scope ?_ | ((first | with_reducible refine AW_skip ?_ | with_reducible refine AW_label ?_ | with_reducible refine AW_exit ?_ | with_reducible refine AW_ret ?_ | with_reducible refine AW_region hTt ?_ | fail); conv => whnf) | (refine AW_cond rfl (fun _ => ?_) (fun hb => absurd (show true = false from hb) (by decide))) | (refine AW_cond rfl (fun hb => absurd (show false = true from hb) (by decide)) (fun _ => ?_)) | (refine AW_cond rfl (fun _ => ?_) (fun hb => absurd hb (by decide))) | (refine AW_cond rfl (fun hb => absurd hb (by decide)) (fun _ => ?_)) | (refine AW_cond rfl (fun hb => ?_) (fun hb => ?_) <;> first | (replace hb := of_decide_eq_true hb; try simp only [List.length_map] at hb) | (replace hb := of_decide_eq_false hb; try simp only [List.length_map] at hb) | (simp only [List.length_map, bne_iff_ne, ne_eq, beq_iff_eq, bne_eq_false_iff_eq, beq_eq_false_iff_ne, decide_eq_true_eq, decide_eq_false_iff_not, Bool.not_eq_true', Bool.not_eq_false', Int.natCast_inj] at hb) | skip) | ((first | refine ⟨_, wrap_of (by first | omega | (simp only [List.length_map]; omega)), ?_⟩ | refine ⟨IntKind.wrap _ _, rfl, ?_⟩ | refine andA ?_ | with_reducible refine Exists.intro _ (And.intro (gd_any (And.intro (by omega) (map_get (by omega)))) ?_) | with_reducible refine And.intro (gd_any (And.intro (by omega) (And.intro (by first | omega | (simp only [List.length_map]; omega)) (by first | omega | (simp only [List.length_map]; omega) | (simp only [List.length_set, List.length_map]; omega))))) ?_ | with_reducible refine Exists.intro _ (And.intro (gd_any (map_get' (by omega) (by omega))) (And.intro (And.intro (Nat.le_of_ble_eq_true rfl) rfl) ?_)) | with_reducible refine Exists.intro _ (And.intro (gd_any (And.intro (by omega) (map_get' (by omega) (by omega)))) ?_) | with_reducible refine And.intro (And.intro (by omega) (And.intro (by first | omega | (simp only [List.length_map]; omega)) (by first | omega | (simp only [List.length_map, List.length_set]; omega)))) ?_ | with_reducible refine Exists.intro _ (And.intro (map_get' (by omega) (by omega)) (And.intro (Nat.le_of_ble_eq_true rfl) ?_)) | fail); conv => whnf) | ((refine And.intro (by refine ⟨?_, ?_, ?_⟩ <;> simp [chunk, maxLen] <;> omega) ?_); conv => whnf) | (refine fun hln => ?_; (try rw [List.length_map] at hln); unfold maxLen at hln; conv => whnf) | fail
  refine AW_imp (Imp.nil 900 3 1 (fr' := [(8, iv .i64 0), (7, .x (.o 900 0 0)), (0, sl p), (1, iv .i64 f), (2, iv .i64 n)]) (σ' := []) rfl ?_ ?_ rfl rfl) ?_
  · exact ⟨⟨_, rfl, .inl rfl⟩, ⟨_, rfl, .inr ⟨rfl, rfl⟩⟩, ⟨_, rfl, .inl rfl⟩, ⟨_, rfl, .inl rfl⟩, ⟨_, rfl, .inl rfl⟩, trivial⟩
  · exact trivial
  refine AW_loop (fun i : Nat => [(8, iv .i64 i), (7, .x (.o 900 i i)), (0, sl p), (1, iv .i64 f), (2, iv .i64 n)]) (fun i => [(900, .chain 3 1 i ((madeL p f i).map iPV))])
    (fun i => i ≤ n) (fun i => n - i) 0 (Nat.zero_le _) impA ?_
  intro i hi
  have hcl : ((madeL p f i).map iPV).length = i := by rw [List.length_map, madeL_len]
  rcases Nat.lt_or_ge i n with hil | hil
  · have hA := at_fn hp (num := f + i) (den := 1) (by omega) (by omega)
    have hnx : ((madeL p f i).map iPV).take i ++ [iPV (valP p (f + i) 1)] = (madeL p f (i + 1)).map iPV := by
      rw [List.take_of_length_le (by omega), madeL_succ, List.map_append]; rfl
    generalize valP p (f + i) 1 = V at *
    clear hp
    repeat' first | with_reducible refine AW_seq ?_ | with_reducible refine AW_block ?_ | with_reducible refine AW_scope ?_ | ((first | with_reducible refine AW_skip ?_ | with_reducible refine AW_label ?_ | with_reducible refine AW_exit ?_ | with_reducible refine AW_ret ?_ | with_reducible refine AW_region hTt ?_ | fail); conv => whnf) | (exact absurd hb (by omega)) | ((first | ((refine ⟨_, (hA).call rfl rfl, ?_⟩); (rintro _ _ ⟨rfl, rfl⟩)) | refine ⟨_, fun _ => (hA).call rfl rfl, ?_⟩ | refine ⟨_, fun _ _ => (hA).call rfl rfl, ?_⟩ | fail); conv => whnf) | ((refine And.intro (by rw [hcl]; refine ⟨?_, ?_, ?_⟩ <;> simp [chunk, maxLen] <;> omega) ?_); conv => whnf) | (refine AW_cond rfl (fun _ => ?_) (fun hb => absurd (show true = false from hb) (by decide))) | (refine AW_cond rfl (fun hb => absurd (show false = true from hb) (by decide)) (fun _ => ?_)) | (refine AW_cond rfl (fun _ => ?_) (fun hb => absurd hb (by decide))) | (refine AW_cond rfl (fun hb => absurd hb (by decide)) (fun _ => ?_)) | (refine AW_cond rfl (fun hb => ?_) (fun hb => ?_) <;> first | (replace hb := of_decide_eq_true hb; try simp only [List.length_map] at hb) | (replace hb := of_decide_eq_false hb; try simp only [List.length_map] at hb) | (simp only [List.length_map, bne_iff_ne, ne_eq, beq_iff_eq, bne_eq_false_iff_eq, beq_eq_false_iff_ne, decide_eq_true_eq, decide_eq_false_iff_not, Bool.not_eq_true', Bool.not_eq_false', Int.natCast_inj] at hb) | skip) | ((first | refine ⟨_, wrap_of (by first | omega | (simp only [List.length_map]; omega)), ?_⟩ | refine ⟨IntKind.wrap _ _, rfl, ?_⟩ | refine andA ?_ | with_reducible refine Exists.intro _ (And.intro (gd_any (And.intro (by omega) (map_get (by omega)))) ?_) | with_reducible refine And.intro (gd_any (And.intro (by omega) (And.intro (by first | omega | (simp only [List.length_map]; omega)) (by first | omega | (simp only [List.length_map]; omega) | (simp only [List.length_set, List.length_map]; omega))))) ?_ | with_reducible refine Exists.intro _ (And.intro (gd_any (map_get' (by omega) (by omega))) (And.intro (And.intro (Nat.le_of_ble_eq_true rfl) rfl) ?_)) | with_reducible refine Exists.intro _ (And.intro (gd_any (And.intro (by omega) (map_get' (by omega) (by omega)))) ?_) | with_reducible refine And.intro (And.intro (by omega) (And.intro (by first | omega | (simp only [List.length_map]; omega)) (by first | omega | (simp only [List.length_map, List.length_set]; omega)))) ?_ | with_reducible refine Exists.intro _ (And.intro (map_get' (by omega) (by omega)) (And.intro (Nat.le_of_ble_eq_true rfl) ?_)) | fail); conv => whnf) | ((refine And.intro (by refine ⟨?_, ?_, ?_⟩ <;> simp [chunk, maxLen] <;> omega) ?_); conv => whnf) | (refine fun hln => ?_; (try rw [List.length_map] at hln); unfold maxLen at hln; conv => whnf) | fail
    exact ⟨i + 1, by omega, by omega, (Imp.forget (by repeat' (first | exact trivial | refine And.intro ?_ ?_ | exact congrArg (fun xs : List (List PV) => some (Ob.chain 3 1 (i + 1) xs)) hnx | rfl | exact ivE (by first | omega | (simp only [List.length_map, List.length_append, List.length_singleton] <;> omega)) | exact oE (by first | omega | (simp only [List.length_map, List.length_append, List.length_singleton] <;> omega)))) (by repeat' (first | exact trivial | refine And.intro ?_ ?_ | exact congrArg (fun xs : List (List PV) => some (Ob.chain 3 1 (i + 1) xs)) hnx | rfl | exact ivE (by first | omega | (simp only [List.length_map, List.length_append, List.length_singleton] <;> omega)) | exact oE (by first | omega | (simp only [List.length_map, List.length_append, List.length_singleton] <;> omega)))) (by kernel_rfl) (by kernel_rfl) (by kernel_rfl))⟩
  · obtain rfl : i = n := by omega
    repeat' first | with_reducible refine AW_seq ?_ | with_reducible refine AW_block ?_ | with_reducible refine AW_scope ?_ | ((first | with_reducible refine AW_skip ?_ | with_reducible refine AW_label ?_ | with_reducible refine AW_exit ?_ | with_reducible refine AW_ret ?_ | with_reducible refine AW_region hTt ?_ | fail); conv => whnf) | (exact absurd hb (by omega)) | (refine AW_cond rfl (fun _ => ?_) (fun hb => absurd (show true = false from hb) (by decide))) | (refine AW_cond rfl (fun hb => absurd (show false = true from hb) (by decide)) (fun _ => ?_)) | (refine AW_cond rfl (fun _ => ?_) (fun hb => absurd hb (by decide))) | (refine AW_cond rfl (fun hb => absurd hb (by decide)) (fun _ => ?_)) | (refine AW_cond rfl (fun hb => ?_) (fun hb => ?_) <;> first | (replace hb := of_decide_eq_true hb; try simp only [List.length_map] at hb) | (replace hb := of_decide_eq_false hb; try simp only [List.length_map] at hb) | (simp only [List.length_map, bne_iff_ne, ne_eq, beq_iff_eq, bne_eq_false_iff_eq, beq_eq_false_iff_ne, decide_eq_true_eq, decide_eq_false_iff_not, Bool.not_eq_true', Bool.not_eq_false', Int.natCast_inj] at hb) | skip) | ((first | refine ⟨_, wrap_of (by first | omega | (simp only [List.length_map]; omega)), ?_⟩ | refine ⟨IntKind.wrap _ _, rfl, ?_⟩ | refine andA ?_ | with_reducible refine Exists.intro _ (And.intro (gd_any (And.intro (by omega) (map_get (by omega)))) ?_) | with_reducible refine And.intro (gd_any (And.intro (by omega) (And.intro (by first | omega | (simp only [List.length_map]; omega)) (by first | omega | (simp only [List.length_map]; omega) | (simp only [List.length_set, List.length_map]; omega))))) ?_ | with_reducible refine Exists.intro _ (And.intro (gd_any (map_get' (by omega) (by omega))) (And.intro (And.intro (Nat.le_of_ble_eq_true rfl) rfl) ?_)) | with_reducible refine Exists.intro _ (And.intro (gd_any (And.intro (by omega) (map_get' (by omega) (by omega)))) ?_) | with_reducible refine And.intro (And.intro (by omega) (And.intro (by first | omega | (simp only [List.length_map]; omega)) (by first | omega | (simp only [List.length_map, List.length_set]; omega)))) ?_ | with_reducible refine Exists.intro _ (And.intro (map_get' (by omega) (by omega)) (And.intro (Nat.le_of_ble_eq_true rfl) ?_)) | fail); conv => whnf) | ((refine And.intro (by refine ⟨?_, ?_, ?_⟩ <;> simp [chunk, maxLen] <;> omega) ?_); conv => whnf) | (refine fun hln => ?_; (try rw [List.length_map] at hln); unfold maxLen at hln; conv => whnf) | fail
    exact ⟨_, outO1 rfl rfl (by omega), leS1 (by rw [List.take_of_length_le (by omega)])⟩
end Go.Proofs.YtnpleednkmhhhabDoor
namespace Go.Proofs.YtnpleednkmhhhabDoor
open Go Go.QL
set_option maxHeartbeats 1600000
def dF (g : Int → Int) : Int → Int := fun x => g (x + 1) - g x
def dFk : Nat → (Int → Int) → Int → Int
  | 0, g => g
  | k + 1, g => dF (dFk k g)
theorem made_get (p : List Int) (f : Int) {n j : Nat} (h : j < n) : (madeL p f n).getD j 0 = valP p (f + j) 1 := by
  unfold madeL
  rw [List.getD_eq_getElem?_getD, List.getElem?_map, List.getElem?_range h]; rfl
theorem diffR_made (p : List Int) (f : Int) (n : Nat) : ∀ k j, j + k < n → (diffR k (madeL p f n)).getD j 0 = dFk k (fun x => valP p (f + x) 1) j
  | 0, j, h => made_get p f h
  | k + 1, j, h => by
    rw [diffR_step, madeL_len, if_pos h, diffR_made p f n k (j + 1) (by omega), diffR_made p f n k j (by omega)]; rfl
theorem poly_flat {p : List Int} (hp : p.length ≤ 5) (f x : Int) : dFk p.length (fun x => valP p (f + x) 1) x = 0 := by
  match p, hp with
  | [], _ => show valP [] (f + x) 1 = 0; rw [val_at]; rfl
  | [a], _ =>
    have e : (fun x => valP [a] (f + x) 1) = fun _ => a := funext fun x => by rw [val_at]; simp [atS]
    rw [e]; simp only [List.length, dFk, dF]; grind
  | [a, b], _ =>
    have e : (fun x => valP [a, b] (f + x) 1) = fun x => a + b * (f + x) := funext fun x => by rw [val_at]; simp [atS, Int.pow_succ]
    rw [e]; simp only [List.length, dFk, dF]; grind
  | [a, b, c], _ =>
    have e : (fun x => valP [a, b, c] (f + x) 1) = fun x => a + b * (f + x) + c * ((f + x) * (f + x)) := funext fun x => by rw [val_at]; simp [atS, Int.pow_succ]
    rw [e]; simp only [List.length, dFk, dF]; grind
  | [a, b, c, d], _ =>
    have e : (fun x => valP [a, b, c, d] (f + x) 1) = fun x => a + b * (f + x) + c * ((f + x) * (f + x)) + d * ((f + x) * (f + x) * (f + x)) := funext fun x => by rw [val_at]; simp [atS, Int.pow_succ]
    rw [e]; simp only [List.length, dFk, dF]; grind
  | [a, b, c, d, g], _ =>
    have e : (fun x => valP [a, b, c, d, g] (f + x) 1) = fun x => a + b * (f + x) + c * ((f + x) * (f + x)) + d * ((f + x) * (f + x) * (f + x)) + g * ((f + x) * (f + x) * (f + x) * (f + x)) := funext fun x => by rw [val_at]; simp [atS, Int.pow_succ]
    rw [e]; simp only [List.length, dFk, dF]; grind
  | _ :: _ :: _ :: _ :: _ :: _ :: _, h => simp at h
theorem made_smooth {p : List Int} (hp : p.length ≤ 5) (f : Int) (n : Nat) : smoothL (madeL p f n) p.length := fun j hj => by
  rw [madeL_len] at hj
  rw [diffR_made p f n p.length j hj, poly_flat hp]
theorem made_diff {p : List Int} (hp : p.length ≤ 5) (f : Int) (n : Nat) : diffR p.length (madeL p f n) = List.replicate (n - p.length) 0 := by
  have hl := diffR_len (madeL p f n) p.length
  rw [madeL_len] at hl
  apply List.ext_getElem
  · rw [hl, List.length_replicate]
  · intro j h1 h2
    have := made_smooth hp f n j (by rw [madeL_len]; omega)
    rw [List.getD_eq_getElem?_getD, List.getElem?_eq_getElem h1, Option.getD_some] at this
    rw [List.getElem_replicate, this]
theorem made_bd {p : List Int} (hp : pOK p) {f : Int} {n : Nat} (hf : -10 ≤ f ∧ f + n ≤ 40) : ∀ x ∈ madeL p f n, -300000000 ≤ x ∧ x ≤ 300000000 := by
  intro x hx
  unfold madeL at hx
  obtain ⟨j, hj, rfl⟩ := List.mem_map.1 hx
  have hj := List.mem_range.1 hj
  have hx1 : -40 ≤ f + (j : Int) ∧ f + (j : Int) ≤ 40 := by omega
  generalize f + (j : Int) = y at *
  have hc := hp.2
  have h5 := hp.1
  have y2 := mul_bd (a := y) (b := y) (A := 40) (B := 40) hx1 hx1
  have y3 := mul_bd (a := y * y) (b := y) (A := 1600) (B := 40) (by omega) hx1
  have y4 := mul_bd (a := y * y * y) (b := y) (A := 64000) (B := 40) (by omega) hx1
  rw [val_at]
  match p, h5 with
  | [], _ => simp [atS]
  | [a], _ =>
    have ha := hc a (by simp)
    simp [atS, Int.pow_succ]; omega
  | [a, b], _ =>
    have ha := hc a (by simp)
    have hb := mul_bd (hc b (by simp)) hx1
    simp [atS, Int.pow_succ]; omega
  | [a, b, c], _ =>
    have ha := hc a (by simp)
    have hb := mul_bd (hc b (by simp)) hx1
    have hcc := mul_bd (hc c (by simp)) (show -1600 ≤ y * y ∧ y * y ≤ 1600 by omega)
    simp [atS, Int.pow_succ]; omega
  | [a, b, c, d], _ =>
    have ha := hc a (by simp)
    have hb := mul_bd (hc b (by simp)) hx1
    have hcc := mul_bd (hc c (by simp)) (show -1600 ≤ y * y ∧ y * y ≤ 1600 by omega)
    have hd := mul_bd (hc d (by simp)) (show -64000 ≤ y * y * y ∧ y * y * y ≤ 64000 by omega)
    simp [atS, Int.pow_succ]; omega
  | [a, b, c, d, e], _ =>
    have ha := hc a (by simp)
    have hb := mul_bd (hc b (by simp)) hx1
    have hcc := mul_bd (hc c (by simp)) (show -1600 ≤ y * y ∧ y * y ≤ 1600 by omega)
    have hd := mul_bd (hc d (by simp)) (show -64000 ≤ y * y * y ∧ y * y * y ≤ 64000 by omega)
    have he := mul_bd (hc e (by simp)) (show -2560000 ≤ y * y * y * y ∧ y * y * y * y ≤ 2560000 by omega)
    simp [atS, Int.pow_succ]; omega
  | _ :: _ :: _ :: _ :: _ :: _ :: _, h => simp at h
theorem found_plain {L : List Int} {d i : Nat} {w : Int} (hd : d ≤ 4) (hi : i < L.length) (hn : d + 3 ≤ L.length) (h30 : L.length ≤ 30) (hb : ∀ x ∈ L, -300000000 ≤ x ∧ x ≤ 300000000) (hw : -1000000 ≤ w ∧ w ≤ 1000000) (hs : smoothL L (d + 1)) :
    rfindP (L.set i (L.getD i 0 + w)) d = if w = 0 then (-1, 0, 0) else ((i : Int), L.getD i 0, 0) := by
  have hli := hb _ (getD_mem hi)
  have hin : inspectE (L.set i (L.getD i 0 + w)) = 0 := by
    unfold inspectE
    rw [List.length_set, if_neg (by omega), if_neg]
    rw [outL_false.2]
    · decide
    · intro x hx
      rcases List.mem_or_eq_of_mem_set hx with h | rfl
      · have := hb x h; omega
      · omega
  have h3 := rfind_three hin (degree := d) (by omega) (by rw [List.length_set]; omega)
  rw [Int.toNat_natCast] at h3
  by_cases hw0 : w = 0
  · rw [if_pos hw0]
    subst hw0
    rw [Int.add_zero, set_self hi] at h3 ⊢
    rcases h3 with ⟨h, _⟩ | ⟨h, _⟩
    · exact h
    · exact absurd hs h
  · rw [if_neg hw0]
    have hg : (L.set i (L.getD i 0 + w)).getD i 0 = L.getD i 0 + w := by
      rw [List.getD_eq_getElem?_getD, List.getElem?_set, if_pos rfl, if_pos hi]; rfl
    have hback : smoothL ((L.set i (L.getD i 0 + w)).set i (L.getD i 0)) (d + 1) := by
      rw [List.set_set, set_self hi]; exact hs
    generalize hT : L.set i (L.getD i 0 + w) = T at *
    have hTl : T.length = L.length := by rw [← hT, List.length_set]
    have hne : L.getD i 0 ≠ T.getD i 0 := by omega
    have hnt : ¬ smoothL T (d + 1) := fun e => hne (not_both hd (by omega) (by omega) (by omega) hback e)
    rcases h3 with ⟨_, h⟩ | ⟨_, ⟨_, h⟩ | ⟨j, v, hj, hv, hjs, hq, _, hu⟩⟩
    · exact absurd h hnt
    · exact absurd hback (h i _ (by omega))
    · obtain ⟨e1, e2⟩ := hu i _ (by omega) hne hback
      subst e1; subst e2; exact hq
end Go.Proofs.YtnpleednkmhhhabDoor
namespace Go.Proofs.YtnpleednkmhhhabDoor
open Go Go.QL
set_option maxHeartbeats 4000000
attribute [local irreducible] ACall FnC YC
abbrev sgMk (n : Nat) (a b : Int) : Sg := [(66, .chain 3 1 0 (List.replicate n [PV.v (.int .i64 0)])), (3, .box [.d (.v (.int .u8 a)), .d (.v (.int .u8 b))])]
theorem ints_own (n : Nat) (hn : n ≤ 31) (a b : Int) : ACall Tryd.prog 21 [sl (List.replicate n 0), .x (.o 66 0 n)] (sgMk n a b) (fun r σ' => r = bv true ∧ σ' = sgMk n a b) := by
  have hla : ((List.replicate n (0 : Int)).map (fun n : Int => [PV.v (.int .i64 n)])).length = n := by rw [List.length_map, List.length_replicate]
  have hlc : (List.replicate n [PV.v (.int .i64 0)]).length = n := List.length_replicate
  refine ACall_of_AWD hTt Tryd.func21 rfl (by kernel_rfl) (res := [.tmp 4]) rfl Tryd.ntmps21 (by simp) fun w0 K0 B => ?_
  dsimp only [entry]
  repeat' first | with_reducible refine AW_seq ?_ | with_reducible refine AW_block ?_ | with_reducible refine AW_scope ?_ | ((first | with_reducible refine AW_skip ?_ | with_reducible refine AW_label ?_ | with_reducible refine AW_exit ?_ | with_reducible refine AW_ret ?_ | with_reducible refine AW_region hTt ?_ | refine AW_draw hTt hMix (id := 6) 8 false [0, 0, 3, 7, 0, 0, 48, 112, 255] (by kernel_rfl) rfl rfl (by kernel_rfl) ?_ | refine LateGo.mk ⟨_, rfl, ?_⟩ | refine LateGo.mk ⟨.x .j, rfl, ?_⟩ | fail); conv => whnf) | (exact absurd List.length_replicate hb) | (exact absurd hb (by omega)) | (refine AW_cond rfl (fun _ => ?_) (fun hb => absurd (show true = false from hb) (by decide))) | (refine AW_cond rfl (fun hb => absurd (show false = true from hb) (by decide)) (fun _ => ?_)) | (refine AW_cond rfl (fun _ => ?_) (fun hb => absurd hb (by decide))) | (refine AW_cond rfl (fun hb => absurd hb (by decide)) (fun _ => ?_)) | (refine AW_cond rfl (fun hb => ?_) (fun hb => ?_) <;> first | (replace hb := of_decide_eq_true hb; try simp only [List.length_map] at hb) | (replace hb := of_decide_eq_false hb; try simp only [List.length_map] at hb) | (simp only [List.length_map, bne_iff_ne, ne_eq, beq_iff_eq, bne_eq_false_iff_eq, beq_eq_false_iff_ne, decide_eq_true_eq, decide_eq_false_iff_not, Bool.not_eq_true', Bool.not_eq_false', Int.natCast_inj] at hb) | skip) | ((first | refine ⟨_, wrap_of (by first | omega | (simp only [List.length_map]; omega)), ?_⟩ | refine ⟨IntKind.wrap _ _, rfl, ?_⟩ | refine andA ?_ | with_reducible refine Exists.intro _ (And.intro (gd_any (And.intro (by omega) (map_get (by omega)))) ?_) | with_reducible refine And.intro (gd_any (And.intro (by omega) (And.intro (by first | omega | (simp only [List.length_map]; omega)) (by first | omega | (simp only [List.length_map]; omega) | (simp only [List.length_set, List.length_map]; omega))))) ?_ | with_reducible refine Exists.intro _ (And.intro (gd_any (map_get' (by omega) (by omega))) (And.intro (And.intro (Nat.le_of_ble_eq_true rfl) rfl) ?_)) | with_reducible refine Exists.intro _ (And.intro (gd_any (And.intro (by omega) (map_get' (by omega) (by omega)))) ?_) | with_reducible refine And.intro (And.intro (by omega) (And.intro (by first | omega | (simp only [List.length_map]; omega)) (by first | omega | (simp only [List.length_map, List.length_set]; omega)))) ?_ | with_reducible refine Exists.intro _ (And.intro (map_get' (by omega) (by omega)) (And.intro (Nat.le_of_ble_eq_true rfl) ?_)) | fail); conv => whnf) | ((refine And.intro (by refine ⟨?_, ?_, ?_⟩ <;> simp [chunk, maxLen] <;> omega) ?_); conv => whnf) | (refine fun hln => ?_; (try rw [List.length_map] at hln); unfold maxLen at hln; conv => whnf) | fail
  refine AW_loop (fun i : Nat => [(5, iv .i64 i), (0, sl (List.replicate n 0)), (1, .x (.o 66 0 n))]) (fun _ => sgMk n a b) (fun i => i ≤ n) (fun i => n - i) 0 (Nat.zero_le _) impA ?_
  intro i hi
  rcases Nat.lt_or_ge i n with hil | hil
  · have e1 : (List.replicate n (0 : Int))[i]? = some 0 := by rw [List.getElem?_replicate, if_pos hil]
    have e2 : (List.replicate n [PV.v (.int .i64 0)])[i]? = some [PV.v (.int .i64 0)] := by rw [List.getElem?_replicate, if_pos hil]
    repeat' first | with_reducible refine AW_seq ?_ | with_reducible refine AW_block ?_ | with_reducible refine AW_scope ?_ | ((first | with_reducible refine AW_skip ?_ | with_reducible refine AW_label ?_ | with_reducible refine AW_exit ?_ | with_reducible refine AW_ret ?_ | with_reducible refine AW_region hTt ?_ | refine AW_draw hTt hMix (id := 6) 8 false [0, 0, 3, 7, 0, 0, 48, 112, 255] (by kernel_rfl) rfl rfl (by kernel_rfl) ?_ | refine LateGo.mk ⟨_, rfl, ?_⟩ | refine LateGo.mk ⟨.x .j, rfl, ?_⟩ | fail); conv => whnf) | (exact absurd List.length_replicate hb) | (exact absurd hb (by omega)) | ((first | refine Exists.intro _ (And.intro (gd_any (And.intro (by omega) (map_some e1))) ?_) | refine Exists.intro _ (And.intro e2 ?_) | fail); conv => whnf) | (refine AW_cond rfl (fun _ => ?_) (fun hb => absurd (show true = false from hb) (by decide))) | (refine AW_cond rfl (fun hb => absurd (show false = true from hb) (by decide)) (fun _ => ?_)) | (refine AW_cond rfl (fun _ => ?_) (fun hb => absurd hb (by decide))) | (refine AW_cond rfl (fun hb => absurd hb (by decide)) (fun _ => ?_)) | (refine AW_cond rfl (fun hb => ?_) (fun hb => ?_) <;> first | (replace hb := of_decide_eq_true hb; try simp only [List.length_map] at hb) | (replace hb := of_decide_eq_false hb; try simp only [List.length_map] at hb) | (simp only [List.length_map, bne_iff_ne, ne_eq, beq_iff_eq, bne_eq_false_iff_eq, beq_eq_false_iff_ne, decide_eq_true_eq, decide_eq_false_iff_not, Bool.not_eq_true', Bool.not_eq_false', Int.natCast_inj] at hb) | skip) | ((first | refine ⟨_, wrap_of (by first | omega | (simp only [List.length_map]; omega)), ?_⟩ | refine ⟨IntKind.wrap _ _, rfl, ?_⟩ | refine andA ?_ | with_reducible refine Exists.intro _ (And.intro (gd_any (And.intro (by omega) (map_get (by omega)))) ?_) | with_reducible refine And.intro (gd_any (And.intro (by omega) (And.intro (by first | omega | (simp only [List.length_map]; omega)) (by first | omega | (simp only [List.length_map]; omega) | (simp only [List.length_set, List.length_map]; omega))))) ?_ | with_reducible refine Exists.intro _ (And.intro (gd_any (map_get' (by omega) (by omega))) (And.intro (And.intro (Nat.le_of_ble_eq_true rfl) rfl) ?_)) | with_reducible refine Exists.intro _ (And.intro (gd_any (And.intro (by omega) (map_get' (by omega) (by omega)))) ?_) | with_reducible refine And.intro (And.intro (by omega) (And.intro (by first | omega | (simp only [List.length_map]; omega)) (by first | omega | (simp only [List.length_map, List.length_set]; omega)))) ?_ | with_reducible refine Exists.intro _ (And.intro (map_get' (by omega) (by omega)) (And.intro (Nat.le_of_ble_eq_true rfl) ?_)) | fail); conv => whnf) | ((refine And.intro (by refine ⟨?_, ?_, ?_⟩ <;> simp [chunk, maxLen] <;> omega) ?_); conv => whnf) | (refine fun hln => ?_; (try rw [List.length_map] at hln); unfold maxLen at hln; conv => whnf) | fail
    exact ⟨i + 1, by omega, by omega, impA⟩
  · obtain rfl : i = n := by omega
    repeat' first | with_reducible refine AW_seq ?_ | with_reducible refine AW_block ?_ | with_reducible refine AW_scope ?_ | ((first | with_reducible refine AW_skip ?_ | with_reducible refine AW_label ?_ | with_reducible refine AW_exit ?_ | with_reducible refine AW_ret ?_ | with_reducible refine AW_region hTt ?_ | refine AW_draw hTt hMix (id := 6) 8 false [0, 0, 3, 7, 0, 0, 48, 112, 255] (by kernel_rfl) rfl rfl (by kernel_rfl) ?_ | refine LateGo.mk ⟨_, rfl, ?_⟩ | refine LateGo.mk ⟨.x .j, rfl, ?_⟩ | fail); conv => whnf) | (exact absurd List.length_replicate hb) | (exact absurd hb (by omega)) | (refine AW_cond rfl (fun _ => ?_) (fun hb => absurd (show true = false from hb) (by decide))) | (refine AW_cond rfl (fun hb => absurd (show false = true from hb) (by decide)) (fun _ => ?_)) | (refine AW_cond rfl (fun _ => ?_) (fun hb => absurd hb (by decide))) | (refine AW_cond rfl (fun hb => absurd hb (by decide)) (fun _ => ?_)) | (refine AW_cond rfl (fun hb => ?_) (fun hb => ?_) <;> first | (replace hb := of_decide_eq_true hb; try simp only [List.length_map] at hb) | (replace hb := of_decide_eq_false hb; try simp only [List.length_map] at hb) | (simp only [List.length_map, bne_iff_ne, ne_eq, beq_iff_eq, bne_eq_false_iff_eq, beq_eq_false_iff_ne, decide_eq_true_eq, decide_eq_false_iff_not, Bool.not_eq_true', Bool.not_eq_false', Int.natCast_inj] at hb) | skip) | ((first | refine ⟨_, wrap_of (by first | omega | (simp only [List.length_map]; omega)), ?_⟩ | refine ⟨IntKind.wrap _ _, rfl, ?_⟩ | refine andA ?_ | with_reducible refine Exists.intro _ (And.intro (gd_any (And.intro (by omega) (map_get (by omega)))) ?_) | with_reducible refine And.intro (gd_any (And.intro (by omega) (And.intro (by first | omega | (simp only [List.length_map]; omega)) (by first | omega | (simp only [List.length_map]; omega) | (simp only [List.length_set, List.length_map]; omega))))) ?_ | with_reducible refine Exists.intro _ (And.intro (gd_any (map_get' (by omega) (by omega))) (And.intro (And.intro (Nat.le_of_ble_eq_true rfl) rfl) ?_)) | with_reducible refine Exists.intro _ (And.intro (gd_any (And.intro (by omega) (map_get' (by omega) (by omega)))) ?_) | with_reducible refine And.intro (And.intro (by omega) (And.intro (by first | omega | (simp only [List.length_map]; omega)) (by first | omega | (simp only [List.length_map, List.length_set]; omega)))) ?_ | with_reducible refine Exists.intro _ (And.intro (map_get' (by omega) (by omega)) (And.intro (Nat.le_of_ble_eq_true rfl) ?_)) | fail); conv => whnf) | ((refine And.intro (by refine ⟨?_, ?_, ?_⟩ <;> simp [chunk, maxLen] <;> omega) ?_); conv => whnf) | (refine fun hln => ?_; (try rw [List.length_map] at hln); unfold maxLen at hln; conv => whnf) | fail
    exact ⟨_, sgMk i a b, ⟨rfl, rfl, trivial⟩, rfl, rfl, rfl, rfl⟩
end Go.Proofs.YtnpleednkmhhhabDoor
namespace Go.Proofs.YtnpleednkmhhhabDoor
open Go Go.QL
set_option maxHeartbeats 40000000
attribute [local irreducible] ACall FnC YC
theorem pok_bad {c : Int} (h : (bif decide (((c.natAbs : Nat) : Int) > 100) then true else decide (c < -100)) = false) : -100 ≤ c ∧ c ≤ 100 := by
  have h1 : decide (((c.natAbs : Nat) : Int) > 100) = false := by
    cases hx : decide (((c.natAbs : Nat) : Int) > 100) with
    | false => rfl
    | true => rw [hx] at h; cases h
  have := of_decide_eq_false h1
  omega
theorem pok_ok {c : Int} (h : -100 ≤ c ∧ c ≤ 100) : (bif decide (100 < ((c.natAbs : Nat) : Int)) then true else decide (c < -100)) = false := by
  rw [decide_eq_false (by omega), decide_eq_false (by omega)]; rfl
theorem pok_no {c : Int} (hi : i64 c) (h : ¬ (-100 ≤ c ∧ c ≤ 100)) : (bif decide (100 < ((c.natAbs : Nat) : Int)) then true else decide (c < -100)) = true := by
  rw [decide_eq_true (by omega)]; rfl
def szW (n : Int) : Int := if n = -9223372036854775808 then n else n.natAbs
theorem sizeW_fn (n : Int) (h : i64 n) : FnC Tryd.prog 13 [iv .i64 n] (iv .i64 (szW n)) := by
  unfold szW i64 at *
  by_cases hm : n = -9223372036854775808
  · subst hm
    have w0 : IntKind.i64.wrap (0 - -9223372036854775808) = -9223372036854775808 := by decide
    refine FnC_of_AW hTt Tryd.func13 rfl (by kernel_rfl) (res := [.tmp 2]) rfl Tryd.ntmps13 (by simp) fun w0 K0 => ?_
    dsimp only [entry]
    repeat' first | with_reducible refine AW_seq ?_ | with_reducible refine AW_block ?_ | with_reducible refine AW_scope ?_ | ((first | with_reducible refine AW_skip ?_ | with_reducible refine AW_label ?_ | with_reducible refine AW_exit ?_ | with_reducible refine AW_ret ?_ | with_reducible refine AW_region hTt ?_ | refine ⟨_, w0, ?_⟩ | fail); conv => whnf) | (refine AW_cond rfl (fun _ => ?_) (fun hb => absurd (show true = false from hb) (by decide))) | (refine AW_cond rfl (fun hb => absurd (show false = true from hb) (by decide)) (fun _ => ?_)) | (refine AW_cond rfl (fun _ => ?_) (fun hb => absurd hb (by decide))) | (refine AW_cond rfl (fun hb => absurd hb (by decide)) (fun _ => ?_)) | (refine AW_cond rfl (fun hb => ?_) (fun hb => ?_) <;> first | (replace hb := of_decide_eq_true hb; try simp only [List.length_map] at hb) | (replace hb := of_decide_eq_false hb; try simp only [List.length_map] at hb) | (simp only [List.length_map, bne_iff_ne, ne_eq, beq_iff_eq, bne_eq_false_iff_eq, beq_eq_false_iff_ne, decide_eq_true_eq, decide_eq_false_iff_not, Bool.not_eq_true', Bool.not_eq_false', Int.natCast_inj] at hb) | skip) | ((first | refine ⟨_, wrap_of (by first | omega | (simp only [List.length_map]; omega)), ?_⟩ | refine ⟨IntKind.wrap _ _, rfl, ?_⟩ | refine andA ?_ | with_reducible refine Exists.intro _ (And.intro (gd_any (And.intro (by omega) (map_get (by omega)))) ?_) | with_reducible refine And.intro (gd_any (And.intro (by omega) (And.intro (by first | omega | (simp only [List.length_map]; omega)) (by first | omega | (simp only [List.length_map]; omega) | (simp only [List.length_set, List.length_map]; omega))))) ?_ | with_reducible refine Exists.intro _ (And.intro (gd_any (map_get' (by omega) (by omega))) (And.intro (And.intro (Nat.le_of_ble_eq_true rfl) rfl) ?_)) | with_reducible refine Exists.intro _ (And.intro (gd_any (And.intro (by omega) (map_get' (by omega) (by omega)))) ?_) | with_reducible refine And.intro (And.intro (by omega) (And.intro (by first | omega | (simp only [List.length_map]; omega)) (by first | omega | (simp only [List.length_map, List.length_set]; omega)))) ?_ | with_reducible refine Exists.intro _ (And.intro (map_get' (by omega) (by omega)) (And.intro (Nat.le_of_ble_eq_true rfl) ?_)) | fail); conv => whnf) | ((refine And.intro (by refine ⟨?_, ?_, ?_⟩ <;> simp [chunk, maxLen] <;> omega) ?_); conv => whnf) | (refine fun hln => ?_; (try rw [List.length_map] at hln); unfold maxLen at hln; conv => whnf) | fail
    rfl
  · rw [if_neg hm]
    have w0 : IntKind.i64.wrap (0 - n) = -n := by rw [Int.zero_sub]; exact wrap_of (by omega)
    refine FnC_of_AW hTt Tryd.func13 rfl (by kernel_rfl) (res := [.tmp 2]) rfl Tryd.ntmps13 (by simp) fun w0 K0 => ?_
    dsimp only [entry]
    repeat' first | with_reducible refine AW_seq ?_ | with_reducible refine AW_block ?_ | with_reducible refine AW_scope ?_ | ((first | with_reducible refine AW_skip ?_ | with_reducible refine AW_label ?_ | with_reducible refine AW_exit ?_ | with_reducible refine AW_ret ?_ | with_reducible refine AW_region hTt ?_ | refine ⟨_, w0, ?_⟩ | fail); conv => whnf) | (refine AW_cond rfl (fun _ => ?_) (fun hb => absurd (show true = false from hb) (by decide))) | (refine AW_cond rfl (fun hb => absurd (show false = true from hb) (by decide)) (fun _ => ?_)) | (refine AW_cond rfl (fun _ => ?_) (fun hb => absurd hb (by decide))) | (refine AW_cond rfl (fun hb => absurd hb (by decide)) (fun _ => ?_)) | (refine AW_cond rfl (fun hb => ?_) (fun hb => ?_) <;> first | (replace hb := of_decide_eq_true hb; try simp only [List.length_map] at hb) | (replace hb := of_decide_eq_false hb; try simp only [List.length_map] at hb) | (simp only [List.length_map, bne_iff_ne, ne_eq, beq_iff_eq, bne_eq_false_iff_eq, beq_eq_false_iff_ne, decide_eq_true_eq, decide_eq_false_iff_not, Bool.not_eq_true', Bool.not_eq_false', Int.natCast_inj] at hb) | skip) | ((first | refine ⟨_, wrap_of (by first | omega | (simp only [List.length_map]; omega)), ?_⟩ | refine ⟨IntKind.wrap _ _, rfl, ?_⟩ | refine andA ?_ | with_reducible refine Exists.intro _ (And.intro (gd_any (And.intro (by omega) (map_get (by omega)))) ?_) | with_reducible refine And.intro (gd_any (And.intro (by omega) (And.intro (by first | omega | (simp only [List.length_map]; omega)) (by first | omega | (simp only [List.length_map]; omega) | (simp only [List.length_set, List.length_map]; omega))))) ?_ | with_reducible refine Exists.intro _ (And.intro (gd_any (map_get' (by omega) (by omega))) (And.intro (And.intro (Nat.le_of_ble_eq_true rfl) rfl) ?_)) | with_reducible refine Exists.intro _ (And.intro (gd_any (And.intro (by omega) (map_get' (by omega) (by omega)))) ?_) | with_reducible refine And.intro (And.intro (by omega) (And.intro (by first | omega | (simp only [List.length_map]; omega)) (by first | omega | (simp only [List.length_map, List.length_set]; omega)))) ?_ | with_reducible refine Exists.intro _ (And.intro (map_get' (by omega) (by omega)) (And.intro (Nat.le_of_ble_eq_true rfl) ?_)) | fail); conv => whnf) | ((refine And.intro (by refine ⟨?_, ?_, ?_⟩ <;> simp [chunk, maxLen] <;> omega) ?_); conv => whnf) | (refine fun hln => ?_; (try rw [List.length_map] at hln); unfold maxLen at hln; conv => whnf) | fail
    exact congrArg (fun x : Int => some (iv .i64 x)) (show (if 0 - n > n then 0 - n else n) = _ by split <;> omega)
theorem szW_no {c : Int} (hi : i64 c) (h : ¬ (-100 ≤ c ∧ c ≤ 100)) : (bif decide (100 < szW c) then true else decide (c < -100)) = true := by
  unfold szW
  split
  · rename_i e; subst e; decide
  · rw [decide_eq_true (by omega)]; rfl
theorem szW_ok {c : Int} (h : -100 ≤ c ∧ c ≤ 100) : (bif decide (100 < szW c) then true else decide (c < -100)) = false := by
  unfold szW
  rw [if_neg (by omega), decide_eq_false (by omega), decide_eq_false (by omega)]; rfl
theorem lenC {n : Int} (h : 1 ≤ n ∧ n ≤ 5) : (bif decide (n < 1) then true else decide (5 < n)) = false := by
  rw [decide_eq_false (by omega), decide_eq_false (by omega)]; rfl
theorem lenN {n : Int} (h : ¬ (1 ≤ n ∧ n ≤ 5)) : (bif decide (n < 1) then true else decide (5 < n)) = true := by
  cases h1 : decide (n < 1) with
  | true => rfl
  | false => have := of_decide_eq_false h1; rw [decide_eq_true (show 5 < n by omega)]; rfl
theorem kinL (n : Nat) : (List.replicate n [PV.v (.int .i64 0)]) = (List.replicate n (0 : Int)).map fun n => [PV.v (.int .i64 n)] := by rw [List.map_replicate]
theorem lsmooth_fn (p : List Int) (hp64 : ∀ x ∈ p, i64 x) (a b : Int) (ha : 0 ≤ a ∧ a < 256) (hb : 0 ≤ b ∧ b < 256) : FnC Tryd.prog 7 [sl p, a2AV .u8 a b] (bv true) := by
  have haw := awake_fn
  have hpl : (p.map (fun n : Int => [PV.v (.int .i64 n)])).length = p.length := List.length_map _
  have tf : ¬ (true = false) := by decide
  have ft : ¬ (false = true) := by decide
  by_cases hlen : 1 ≤ p.length ∧ p.length ≤ 5
  · have hlc := lenC (n := p.length) (by omega)
    refine FnC_of_AW hTt Tryd.func7 rfl (by kernel_rfl) (res := [.tmp 4]) rfl Tryd.ntmps7 (by simp) fun w0 K0 => ?_
    dsimp only [entry]
    repeat' first | with_reducible refine AW_seq ?_ | with_reducible refine AW_block ?_ | with_reducible refine AW_scope ?_ | ((first | with_reducible refine AW_skip ?_ | with_reducible refine AW_label ?_ | with_reducible refine AW_exit ?_ | with_reducible refine AW_ret ?_ | with_reducible refine AW_region hTt ?_ | fail); conv => whnf) | (exact absurd hb (by omega)) | (exact absurd (hb.symm.trans hlc) tf) | ((first | ((refine ⟨_, (haw).call rfl rfl, ?_⟩); (rintro _ _ ⟨rfl, rfl⟩)) | refine ⟨_, fun _ => (haw).call rfl rfl, ?_⟩ | refine ⟨_, fun _ _ => (haw).call rfl rfl, ?_⟩ | fail); conv => whnf) | (refine AW_cond rfl (fun _ => ?_) (fun hb => absurd (show true = false from hb) (by decide))) | (refine AW_cond rfl (fun hb => absurd (show false = true from hb) (by decide)) (fun _ => ?_)) | (refine AW_cond rfl (fun _ => ?_) (fun hb => absurd hb (by decide))) | (refine AW_cond rfl (fun hb => absurd hb (by decide)) (fun _ => ?_)) | (refine AW_cond rfl (fun hb => ?_) (fun hb => ?_) <;> first | (replace hb := of_decide_eq_true hb; try simp only [List.length_map] at hb) | (replace hb := of_decide_eq_false hb; try simp only [List.length_map] at hb) | (simp only [List.length_map, bne_iff_ne, ne_eq, beq_iff_eq, bne_eq_false_iff_eq, beq_eq_false_iff_ne, decide_eq_true_eq, decide_eq_false_iff_not, Bool.not_eq_true', Bool.not_eq_false', Int.natCast_inj] at hb) | skip) | ((first | refine ⟨_, wrap_of (by first | omega | (simp only [List.length_map]; omega)), ?_⟩ | refine ⟨IntKind.wrap _ _, rfl, ?_⟩ | refine andA ?_ | with_reducible refine Exists.intro _ (And.intro (gd_any (And.intro (by omega) (map_get (by omega)))) ?_) | with_reducible refine And.intro (gd_any (And.intro (by omega) (And.intro (by first | omega | (simp only [List.length_map]; omega)) (by first | omega | (simp only [List.length_map]; omega) | (simp only [List.length_set, List.length_map]; omega))))) ?_ | with_reducible refine Exists.intro _ (And.intro (gd_any (map_get' (by omega) (by omega))) (And.intro (And.intro (Nat.le_of_ble_eq_true rfl) rfl) ?_)) | with_reducible refine Exists.intro _ (And.intro (gd_any (And.intro (by omega) (map_get' (by omega) (by omega)))) ?_) | with_reducible refine And.intro (And.intro (by omega) (And.intro (by first | omega | (simp only [List.length_map]; omega)) (by first | omega | (simp only [List.length_map, List.length_set]; omega)))) ?_ | with_reducible refine Exists.intro _ (And.intro (map_get' (by omega) (by omega)) (And.intro (Nat.le_of_ble_eq_true rfl) ?_)) | fail); conv => whnf) | ((refine And.intro (by refine ⟨?_, ?_, ?_⟩ <;> simp [chunk, maxLen] <;> omega) ?_); conv => whnf) | (refine fun hln => ?_; (try rw [List.length_map] at hln); unfold maxLen at hln; conv => whnf) | fail
    clear hlc
    refine AW_loop (fun k : Nat => [(5, iv .i64 k), (3, .x (.b 3 0)), (0, sl p)]) (fun _ => [(3, .box [.d (.v (.int .u8 a)), .d (.v (.int .u8 b))])]) (fun k => k ≤ p.length ∧ ∀ j, j < k → -100 ≤ p.getD j 0 ∧ p.getD j 0 ≤ 100) (fun k => p.length - k) 0 ⟨Nat.zero_le _, fun j h => absurd h (Nat.not_lt_zero _)⟩ impA ?_
    rintro k ⟨hk, hkb⟩
    rcases Nat.lt_or_ge k p.length with hkl | hkl
    · have e1 : p[k]? = some (p.getD k 0) := by rw [List.getD_eq_getElem?_getD, List.getElem?_eq_getElem hkl]; rfl
      have h64 := hp64 _ (getD_mem hkl)
      by_cases hx : -100 ≤ p.getD k 0 ∧ p.getD k 0 ≤ 100
      · have hkb' : ∀ j, j < k + 1 → -100 ≤ p.getD j 0 ∧ p.getD j 0 ≤ 100 := fun j hj => by
          by_cases e : j = k
          · subst e; exact hx
          · exact hkb j (by omega)
        clear hkb
        have hcn := szW_ok hx
        have z1 := sizeW_fn (p.getD k 0) h64
        generalize szW (p.getD k 0) = z at *
        generalize p.getD k 0 = x at *
        repeat' first | with_reducible refine AW_seq ?_ | with_reducible refine AW_block ?_ | with_reducible refine AW_scope ?_ | ((first | with_reducible refine AW_skip ?_ | with_reducible refine AW_label ?_ | with_reducible refine AW_exit ?_ | with_reducible refine AW_ret ?_ | with_reducible refine AW_region hTt ?_ | fail); conv => whnf) | (exact absurd hb (by omega)) | (exact absurd (hb.symm.trans hcn) tf) | ((first | refine Exists.intro _ (And.intro (gd_any (And.intro (by omega) (map_some e1))) ?_) | ((refine ⟨_, (z1).call rfl rfl, ?_⟩); (rintro _ _ ⟨rfl, rfl⟩)) | refine ⟨_, fun _ => (z1).call rfl rfl, ?_⟩ | refine ⟨_, fun _ _ => (z1).call rfl rfl, ?_⟩ | ((refine ⟨_, (haw).call rfl rfl, ?_⟩); (rintro _ _ ⟨rfl, rfl⟩)) | refine ⟨_, fun _ => (haw).call rfl rfl, ?_⟩ | refine ⟨_, fun _ _ => (haw).call rfl rfl, ?_⟩ | fail); conv => whnf) | (refine AW_cond rfl (fun _ => ?_) (fun hb => absurd (show true = false from hb) (by decide))) | (refine AW_cond rfl (fun hb => absurd (show false = true from hb) (by decide)) (fun _ => ?_)) | (refine AW_cond rfl (fun _ => ?_) (fun hb => absurd hb (by decide))) | (refine AW_cond rfl (fun hb => absurd hb (by decide)) (fun _ => ?_)) | (refine AW_cond rfl (fun hb => ?_) (fun hb => ?_) <;> first | (replace hb := of_decide_eq_true hb; try simp only [List.length_map] at hb) | (replace hb := of_decide_eq_false hb; try simp only [List.length_map] at hb) | (simp only [List.length_map, bne_iff_ne, ne_eq, beq_iff_eq, bne_eq_false_iff_eq, beq_eq_false_iff_ne, decide_eq_true_eq, decide_eq_false_iff_not, Bool.not_eq_true', Bool.not_eq_false', Int.natCast_inj] at hb) | skip) | ((first | refine ⟨_, wrap_of (by first | omega | (simp only [List.length_map]; omega)), ?_⟩ | refine ⟨IntKind.wrap _ _, rfl, ?_⟩ | refine andA ?_ | with_reducible refine Exists.intro _ (And.intro (gd_any (And.intro (by omega) (map_get (by omega)))) ?_) | with_reducible refine And.intro (gd_any (And.intro (by omega) (And.intro (by first | omega | (simp only [List.length_map]; omega)) (by first | omega | (simp only [List.length_map]; omega) | (simp only [List.length_set, List.length_map]; omega))))) ?_ | with_reducible refine Exists.intro _ (And.intro (gd_any (map_get' (by omega) (by omega))) (And.intro (And.intro (Nat.le_of_ble_eq_true rfl) rfl) ?_)) | with_reducible refine Exists.intro _ (And.intro (gd_any (And.intro (by omega) (map_get' (by omega) (by omega)))) ?_) | with_reducible refine And.intro (And.intro (by omega) (And.intro (by first | omega | (simp only [List.length_map]; omega)) (by first | omega | (simp only [List.length_map, List.length_set]; omega)))) ?_ | with_reducible refine Exists.intro _ (And.intro (map_get' (by omega) (by omega)) (And.intro (Nat.le_of_ble_eq_true rfl) ?_)) | fail); conv => whnf) | ((refine And.intro (by refine ⟨?_, ?_, ?_⟩ <;> simp [chunk, maxLen] <;> omega) ?_); conv => whnf) | (refine fun hln => ?_; (try rw [List.length_map] at hln); unfold maxLen at hln; conv => whnf) | fail
        exact ⟨k + 1, ⟨by omega, hkb'⟩, by omega, impA⟩
      · have hcn := szW_no h64 hx
        clear hkb
        have z1 := sizeW_fn (p.getD k 0) h64
        generalize szW (p.getD k 0) = z at *
        generalize p.getD k 0 = x at *
        repeat' first | with_reducible refine AW_seq ?_ | with_reducible refine AW_block ?_ | with_reducible refine AW_scope ?_ | ((first | with_reducible refine AW_skip ?_ | with_reducible refine AW_label ?_ | with_reducible refine AW_exit ?_ | with_reducible refine AW_ret ?_ | with_reducible refine AW_region hTt ?_ | fail); conv => whnf) | (exact absurd hb (by omega)) | (exact absurd (hcn.symm.trans hb) tf) | ((first | refine Exists.intro _ (And.intro (gd_any (And.intro (by omega) (map_some e1))) ?_) | ((refine ⟨_, (z1).call rfl rfl, ?_⟩); (rintro _ _ ⟨rfl, rfl⟩)) | refine ⟨_, fun _ => (z1).call rfl rfl, ?_⟩ | refine ⟨_, fun _ _ => (z1).call rfl rfl, ?_⟩ | ((refine ⟨_, (haw).call rfl rfl, ?_⟩); (rintro _ _ ⟨rfl, rfl⟩)) | refine ⟨_, fun _ => (haw).call rfl rfl, ?_⟩ | refine ⟨_, fun _ _ => (haw).call rfl rfl, ?_⟩ | fail); conv => whnf) | (refine AW_cond rfl (fun _ => ?_) (fun hb => absurd (show true = false from hb) (by decide))) | (refine AW_cond rfl (fun hb => absurd (show false = true from hb) (by decide)) (fun _ => ?_)) | (refine AW_cond rfl (fun _ => ?_) (fun hb => absurd hb (by decide))) | (refine AW_cond rfl (fun hb => absurd hb (by decide)) (fun _ => ?_)) | (refine AW_cond rfl (fun hb => ?_) (fun hb => ?_) <;> first | (replace hb := of_decide_eq_true hb; try simp only [List.length_map] at hb) | (replace hb := of_decide_eq_false hb; try simp only [List.length_map] at hb) | (simp only [List.length_map, bne_iff_ne, ne_eq, beq_iff_eq, bne_eq_false_iff_eq, beq_eq_false_iff_ne, decide_eq_true_eq, decide_eq_false_iff_not, Bool.not_eq_true', Bool.not_eq_false', Int.natCast_inj] at hb) | skip) | ((first | refine ⟨_, wrap_of (by first | omega | (simp only [List.length_map]; omega)), ?_⟩ | refine ⟨IntKind.wrap _ _, rfl, ?_⟩ | refine andA ?_ | with_reducible refine Exists.intro _ (And.intro (gd_any (And.intro (by omega) (map_get (by omega)))) ?_) | with_reducible refine And.intro (gd_any (And.intro (by omega) (And.intro (by first | omega | (simp only [List.length_map]; omega)) (by first | omega | (simp only [List.length_map]; omega) | (simp only [List.length_set, List.length_map]; omega))))) ?_ | with_reducible refine Exists.intro _ (And.intro (gd_any (map_get' (by omega) (by omega))) (And.intro (And.intro (Nat.le_of_ble_eq_true rfl) rfl) ?_)) | with_reducible refine Exists.intro _ (And.intro (gd_any (And.intro (by omega) (map_get' (by omega) (by omega)))) ?_) | with_reducible refine And.intro (And.intro (by omega) (And.intro (by first | omega | (simp only [List.length_map]; omega)) (by first | omega | (simp only [List.length_map, List.length_set]; omega)))) ?_ | with_reducible refine Exists.intro _ (And.intro (map_get' (by omega) (by omega)) (And.intro (Nat.le_of_ble_eq_true rfl) ?_)) | fail); conv => whnf) | ((refine And.intro (by refine ⟨?_, ?_, ?_⟩ <;> simp [chunk, maxLen] <;> omega) ?_); conv => whnf) | (refine fun hln => ?_; (try rw [List.length_map] at hln); unfold maxLen at hln; conv => whnf) | fail
        rfl
    · obtain rfl : k = p.length := by omega
      have hpk : pOK p := ⟨hlen.2, fun x hx => by
        obtain ⟨j, hj, rfl⟩ := List.getElem_of_mem hx
        have := hkb j hj
        rw [List.getD_eq_getElem?_getD, List.getElem?_eq_getElem hj] at this
        exact this⟩
      clear hkb hp64
      obtain ⟨mb, hmb, hmb'⟩ : ∃ m : Nat, b.tmod 31 = m ∧ m < 31 := ⟨(b % 31).toNat, by rw [Int.tmod_eq_emod_of_nonneg (by omega)]; omega, by omega⟩
      obtain ⟨fa, hfa, hfa'⟩ : ∃ m : Int, a.tmod 20 = m ∧ 0 ≤ m ∧ m < 20 := ⟨a % 20, Int.tmod_eq_emod_of_nonneg (by omega), by omega⟩
      have wf : IntKind.i64.wrap (fa - 10) = fa - 10 := wrap_of (by omega)
      have hd := made_diff hpk.1 (fa - 10) mb
      have hbd := made_bd hpk (f := fa - 10) (n := mb) (by omega)
      have c1 := made_fn hpk (f := fa - 10) (by omega) mb (by omega)
      have hml := madeL_len p (fa - 10) mb
      generalize madeL p (fa - 10) mb = L at *
      have c2 := diffs_fn L p.length
      have hin : inspectE L = 0 := by
        unfold inspectE
        rw [if_neg (by omega), if_neg]
        rw [outL_false.2 (fun x hx => by have := hbd x hx; omega)]; decide
      have hdp : diffsP L p.length = (List.replicate (mb - p.length) 0, 0) := by
        unfold diffsP
        rw [if_neg (by rw [hin]; decide), if_neg, Int.toNat_natCast, hd]
        rw [outL_false.2 (fun x hx => by rw [List.mem_singleton] at hx; subst hx; omega)]; decide
      rw [hdp] at c2
      have e5 := ints_fn (List.replicate (mb - p.length) 0) (List.replicate (mb - p.length) 0)
      rw [decide_eq_true rfl] at e5
      have hmm : (L.map (fun n : Int => [PV.v (.int .i64 n)])).length = mb := by rw [List.length_map, hml]
      clear hbd hd hin hdp hpk
      generalize hZ : List.replicate (mb - p.length) (0 : Int) = Z at *
      rw [← hpl] at c2
      have hN : (if (((L.map (fun n : Int => [PV.v (.int .i64 n)])).length : Int) - ((p.map (fun n : Int => [PV.v (.int .i64 n)])).length : Int)) > 0 then (((L.map (fun n : Int => [PV.v (.int .i64 n)])).length : Int) - ((p.map (fun n : Int => [PV.v (.int .i64 n)])).length : Int)) else 0).toNat = mb - p.length := by
        rw [hmm, hpl]; split <;> omega
      have hI := ints_own (mb - p.length) (by omega) a b
      rw [hZ] at hI
      rw [← hN] at hI
      repeat' first | with_reducible refine AW_seq ?_ | with_reducible refine AW_block ?_ | with_reducible refine AW_scope ?_ | ((first | with_reducible refine AW_skip ?_ | with_reducible refine AW_label ?_ | with_reducible refine AW_exit ?_ | with_reducible refine AW_ret ?_ | with_reducible refine AW_region hTt ?_ | fail); conv => whnf) | (exact absurd hb (by omega)) | ((first | ((refine ⟨_, (c1).call rfl rfl, ?_⟩); (rintro _ _ ⟨rfl, rfl⟩)) | refine ⟨_, fun _ => (c1).call rfl rfl, ?_⟩ | refine ⟨_, fun _ _ => (c1).call rfl rfl, ?_⟩ | ((refine ⟨_, (c2).call rfl rfl, ?_⟩); (rintro _ _ ⟨rfl, rfl⟩)) | refine ⟨_, fun _ => (c2).call rfl rfl, ?_⟩ | refine ⟨_, fun _ _ => (c2).call rfl rfl, ?_⟩ | ((refine ⟨_, (e5).call rfl rfl, ?_⟩); (rintro _ _ ⟨rfl, rfl⟩)) | refine ⟨_, fun _ => (e5).call rfl rfl, ?_⟩ | refine ⟨_, fun _ _ => (e5).call rfl rfl, ?_⟩ | ((refine ⟨_, (haw).call rfl rfl, ?_⟩); (rintro _ _ ⟨rfl, rfl⟩)) | refine ⟨_, fun _ => (haw).call rfl rfl, ?_⟩ | refine ⟨_, fun _ _ => (haw).call rfl rfl, ?_⟩ | refine ⟨fa, hfa, ?_⟩ | refine ⟨(mb : Int), hmb, ?_⟩ | refine ⟨_, wf, ?_⟩ | refine And.intro rfl ?_ | refine Exists.intro (bv true) (And.intro (fun _ => hI) ?_) | fail); conv => whnf) | (refine AW_cond rfl (fun _ => ?_) (fun hb => absurd (show true = false from hb) (by decide))) | (refine AW_cond rfl (fun hb => absurd (show false = true from hb) (by decide)) (fun _ => ?_)) | (refine AW_cond rfl (fun _ => ?_) (fun hb => absurd hb (by decide))) | (refine AW_cond rfl (fun hb => absurd hb (by decide)) (fun _ => ?_)) | (refine AW_cond rfl (fun hb => ?_) (fun hb => ?_) <;> first | (replace hb := of_decide_eq_true hb; try simp only [List.length_map] at hb) | (replace hb := of_decide_eq_false hb; try simp only [List.length_map] at hb) | (simp only [List.length_map, bne_iff_ne, ne_eq, beq_iff_eq, bne_eq_false_iff_eq, beq_eq_false_iff_ne, decide_eq_true_eq, decide_eq_false_iff_not, Bool.not_eq_true', Bool.not_eq_false', Int.natCast_inj] at hb) | skip) | ((first | refine ⟨_, wrap_of (by first | omega | (simp only [List.length_map]; omega)), ?_⟩ | refine ⟨IntKind.wrap _ _, rfl, ?_⟩ | refine andA ?_ | with_reducible refine Exists.intro _ (And.intro (gd_any (And.intro (by omega) (map_get (by omega)))) ?_) | with_reducible refine And.intro (gd_any (And.intro (by omega) (And.intro (by first | omega | (simp only [List.length_map]; omega)) (by first | omega | (simp only [List.length_map]; omega) | (simp only [List.length_set, List.length_map]; omega))))) ?_ | with_reducible refine Exists.intro _ (And.intro (gd_any (map_get' (by omega) (by omega))) (And.intro (And.intro (Nat.le_of_ble_eq_true rfl) rfl) ?_)) | with_reducible refine Exists.intro _ (And.intro (gd_any (And.intro (by omega) (map_get' (by omega) (by omega)))) ?_) | with_reducible refine And.intro (And.intro (by omega) (And.intro (by first | omega | (simp only [List.length_map]; omega)) (by first | omega | (simp only [List.length_map, List.length_set]; omega)))) ?_ | with_reducible refine Exists.intro _ (And.intro (map_get' (by omega) (by omega)) (And.intro (Nat.le_of_ble_eq_true rfl) ?_)) | fail); conv => whnf) | ((refine And.intro (by refine ⟨?_, ?_, ?_⟩ <;> simp [chunk, maxLen] <;> omega) ?_); conv => whnf) | (refine fun hln => ?_; (try rw [List.length_map] at hln); unfold maxLen at hln; conv => whnf) | fail
      rfl
  · have hlc := lenN (n := p.length) (by omega)
    refine FnC_of_AW hTt Tryd.func7 rfl (by kernel_rfl) (res := [.tmp 4]) rfl Tryd.ntmps7 (by simp) fun w0 K0 => ?_
    dsimp only [entry]
    repeat' first | with_reducible refine AW_seq ?_ | with_reducible refine AW_block ?_ | with_reducible refine AW_scope ?_ | ((first | with_reducible refine AW_skip ?_ | with_reducible refine AW_label ?_ | with_reducible refine AW_exit ?_ | with_reducible refine AW_ret ?_ | with_reducible refine AW_region hTt ?_ | fail); conv => whnf) | (exact absurd hb (by omega)) | (exact absurd (hlc.symm.trans hb) tf) | ((first | ((refine ⟨_, (haw).call rfl rfl, ?_⟩); (rintro _ _ ⟨rfl, rfl⟩)) | refine ⟨_, fun _ => (haw).call rfl rfl, ?_⟩ | refine ⟨_, fun _ _ => (haw).call rfl rfl, ?_⟩ | fail); conv => whnf) | (refine AW_cond rfl (fun _ => ?_) (fun hb => absurd (show true = false from hb) (by decide))) | (refine AW_cond rfl (fun hb => absurd (show false = true from hb) (by decide)) (fun _ => ?_)) | (refine AW_cond rfl (fun _ => ?_) (fun hb => absurd hb (by decide))) | (refine AW_cond rfl (fun hb => absurd hb (by decide)) (fun _ => ?_)) | (refine AW_cond rfl (fun hb => ?_) (fun hb => ?_) <;> first | (replace hb := of_decide_eq_true hb; try simp only [List.length_map] at hb) | (replace hb := of_decide_eq_false hb; try simp only [List.length_map] at hb) | (simp only [List.length_map, bne_iff_ne, ne_eq, beq_iff_eq, bne_eq_false_iff_eq, beq_eq_false_iff_ne, decide_eq_true_eq, decide_eq_false_iff_not, Bool.not_eq_true', Bool.not_eq_false', Int.natCast_inj] at hb) | skip) | ((first | refine ⟨_, wrap_of (by first | omega | (simp only [List.length_map]; omega)), ?_⟩ | refine ⟨IntKind.wrap _ _, rfl, ?_⟩ | refine andA ?_ | with_reducible refine Exists.intro _ (And.intro (gd_any (And.intro (by omega) (map_get (by omega)))) ?_) | with_reducible refine And.intro (gd_any (And.intro (by omega) (And.intro (by first | omega | (simp only [List.length_map]; omega)) (by first | omega | (simp only [List.length_map]; omega) | (simp only [List.length_set, List.length_map]; omega))))) ?_ | with_reducible refine Exists.intro _ (And.intro (gd_any (map_get' (by omega) (by omega))) (And.intro (And.intro (Nat.le_of_ble_eq_true rfl) rfl) ?_)) | with_reducible refine Exists.intro _ (And.intro (gd_any (And.intro (by omega) (map_get' (by omega) (by omega)))) ?_) | with_reducible refine And.intro (And.intro (by omega) (And.intro (by first | omega | (simp only [List.length_map]; omega)) (by first | omega | (simp only [List.length_map, List.length_set]; omega)))) ?_ | with_reducible refine Exists.intro _ (And.intro (map_get' (by omega) (by omega)) (And.intro (Nat.le_of_ble_eq_true rfl) ?_)) | fail); conv => whnf) | ((refine And.intro (by refine ⟨?_, ?_, ?_⟩ <;> simp [chunk, maxLen] <;> omega) ?_); conv => whnf) | (refine fun hln => ?_; (try rw [List.length_map] at hln); unfold maxLen at hln; conv => whnf) | fail
    rfl
end Go.Proofs.YtnpleednkmhhhabDoor
