/- What the functions that this law reaches return: part 0. No condition. -/
import Derived.Test.YtnpleednkmhhhaaDoorB04
set_option linter.all false
namespace Go.Proofs.YtnpleednkmhhhaaDoor
open Go Go.QL
set_option maxHeartbeats 1600000
attribute [local irreducible] ACall FnC YC
theorem in_eq {lo hi n : Int} : (bif decide (n ≥ lo) then decide (n ≤ hi) else false) = !outB lo hi n := by
  cases h : outB lo hi n with
  | false => have := outB_false.1 h; simp [this.1, this.2]
  | true =>
    have : ¬ (lo ≤ n ∧ n ≤ hi) := fun e => by rw [outB_false.2 e] at h; cases h
    cases h1 : decide (n ≥ lo) with
    | false => rfl
    | true => have := of_decide_eq_true h1; simp; omega
theorem rin_fn (n lo hi : Int) : FnC Tryd.prog 56 [iv .i64 n, iv .i64 lo, iv .i64 hi] (bv (!outB lo hi n)) := by
  rw [← in_eq]
  refine FnC_of_AW hTt Tryd.func56 rfl (by kernel_rfl) (res := [.tmp 6]) rfl Tryd.ntmps56 (by simp) fun w0 K0 => ?_
  dsimp only [entry]
  repeat' first | with_reducible refine AW_seq ?_ | ((first | with_reducible refine AW_ret ?_ | with_reducible refine AW_region hTt ?_ | refine andA ?_ | fail); conv => whnf) | fail
  rfl
theorem rall_fn (l : List Int) (hi : Int) (h : -4611686018427387904 ≤ hi ∧ hi ≤ 4611686018427387904) : FnC Tryd.prog 65 [sl l, iv .i64 hi] (bv (!outL (-hi) hi l)) := by
  have hll : (l.map (fun n : Int => [PV.v (.int .i64 n)])).length = l.length := List.length_map _
  rw [← Int.zero_sub hi]
  have hin := fun n => rin_fn n (0 - hi) hi
  refine FnC_of_AW hTt Tryd.func65 rfl (by kernel_rfl) (res := [.tmp 4]) rfl Tryd.ntmps65 (by simp) fun w0 K0 => ?_
  dsimp only [entry]
  repeat' first | with_reducible refine AW_seq ?_ | with_reducible refine AW_block ?_ | ((with_reducible refine AW_region hTt ?_); conv => whnf) | fail
  refine AW_loop (fun i : Nat => [(5, iv .i64 i), (0, sl l), (1, iv .i64 hi)]) (fun _ => [])
    (fun i => i ≤ l.length ∧ ∀ j (h1 : j < l.length), j < i → outB (0 - hi) hi l[j] = false) (fun i => l.length - i) 0 ⟨Nat.zero_le _, fun j _ h => absurd h (Nat.not_lt_zero _)⟩ impA ?_
  rintro i ⟨hi1, hz⟩
  rcases Nat.lt_or_ge i l.length with hil | hil
  · have ho := hin l[i]
    generalize hb0 : outB (0 - hi) hi l[i] = b at ho
    cases b with
    | true =>
      have hr : outL (0 - hi) hi l = true := List.any_eq_true.2 ⟨_, List.getElem_mem hil, hb0⟩
      rw [hr]
      clear hin hz hb0 hr
      repeat' first | with_reducible refine AW_seq ?_ | with_reducible refine AW_block ?_ | ((first | with_reducible refine AW_skip ?_ | with_reducible refine AW_exit ?_ | with_reducible refine AW_ret ?_ | with_reducible refine AW_region hTt ?_ | fail); conv => whnf) | (exact absurd hb (by omega)) | ((refine ⟨_, (ho).call rfl rfl, ?_⟩); (rintro _ _ ⟨rfl, rfl⟩); conv => whnf) | (refine AW_cond rfl (fun _ => ?_) (fun hb => absurd (show true = false from hb) (by decide))) | (refine AW_cond rfl (fun hb => ?_) (fun hb => ?_) <;> first | (replace hb := of_decide_eq_true hb; try simp only [List.length_map] at hb) | (replace hb := of_decide_eq_false hb; try simp only [List.length_map] at hb)) | ((first | refine ⟨_, wrap_of (by first | omega | (simp only [List.length_map]; omega)), ?_⟩ | refine andA ?_ | with_reducible refine Exists.intro _ (And.intro (gd_any (And.intro (by omega) (map_get (by omega)))) ?_) | fail); conv => whnf) | (refine fun hln => ?_; (try rw [List.length_map] at hln); unfold maxLen at hln; conv => whnf) | fail
      rfl
    | false =>
      clear hin
      repeat' first | with_reducible refine AW_seq ?_ | with_reducible refine AW_block ?_ | ((first | with_reducible refine AW_skip ?_ | with_reducible refine AW_exit ?_ | with_reducible refine AW_ret ?_ | with_reducible refine AW_region hTt ?_ | fail); conv => whnf) | (exact absurd hb (by omega)) | ((refine ⟨_, (ho).call rfl rfl, ?_⟩); (rintro _ _ ⟨rfl, rfl⟩); conv => whnf) | (refine AW_cond rfl (fun hb => absurd (show false = true from hb) (by decide)) (fun _ => ?_)) | (refine AW_cond rfl (fun hb => ?_) (fun hb => ?_) <;> first | (replace hb := of_decide_eq_true hb; try simp only [List.length_map] at hb) | (replace hb := of_decide_eq_false hb; try simp only [List.length_map] at hb)) | ((first | refine ⟨_, wrap_of (by first | omega | (simp only [List.length_map]; omega)), ?_⟩ | refine andA ?_ | with_reducible refine Exists.intro _ (And.intro (gd_any (And.intro (by omega) (map_get (by omega)))) ?_) | fail); conv => whnf) | (refine fun hln => ?_; (try rw [List.length_map] at hln); unfold maxLen at hln; conv => whnf) | fail
      exact ⟨i + 1, ⟨by omega, fun j h1 h3 => by
        by_cases e : j = i
        · subst e; exact hb0
        · exact hz j h1 (by omega)⟩, by omega, impA⟩
  · have hr : outL (0 - hi) hi l = false := outL_false.2 fun n hn => by
      obtain ⟨j, hj, rfl⟩ := List.getElem_of_mem hn
      exact outB_false.1 (hz j hj (by omega))
    rw [hr]
    repeat' first | with_reducible refine AW_seq ?_ | with_reducible refine AW_block ?_ | ((first | with_reducible refine AW_skip ?_ | with_reducible refine AW_exit ?_ | with_reducible refine AW_ret ?_ | with_reducible refine AW_region hTt ?_ | fail); conv => whnf) | (exact absurd hb (by omega)) | (refine AW_cond rfl (fun hb => ?_) (fun hb => ?_) <;> first | (replace hb := of_decide_eq_true hb; try simp only [List.length_map] at hb) | (replace hb := of_decide_eq_false hb; try simp only [List.length_map] at hb)) | (refine fun hln => ?_; (try rw [List.length_map] at hln); unfold maxLen at hln; conv => whnf) | fail
    rfl
theorem size_fn (n : Int) (h : lim n) : FnC Tryd.prog 35 [iv .i64 n] (iv .i64 (n.natAbs : Int)) := by
  unfold lim at h
  have w0 : IntKind.i64.wrap (0 - n) = -n := by rw [Int.zero_sub]; exact wrap_of (by omega)
  refine FnC_of_AW hTt Tryd.func35 rfl (by kernel_rfl) (res := [.tmp 2]) rfl Tryd.ntmps35 (by simp) fun w0 K0 => ?_
  dsimp only [entry]
  repeat' first | with_reducible refine AW_seq ?_ | ((first | with_reducible refine AW_ret ?_ | with_reducible refine AW_region hTt ?_ | refine ⟨_, wrap_of (by first | omega | (simp only [List.length_map]; omega)), ?_⟩ | fail); conv => whnf) | fail
  exact congrArg (fun x : Int => some (iv .i64 x)) (show (if 0 - n > n then 0 - n else n) = _ by split <;> omega)
theorem rsign_fn (n : Int) : FnC Tryd.prog 37 [iv .i64 n] (iv .i64 (sgnI n)) := by
  refine FnC_of_AW hTt Tryd.func37 rfl (by kernel_rfl) (res := [.tmp 2]) rfl Tryd.ntmps37 (by simp) fun w0 K0 => ?_
  dsimp only [entry]
  repeat' first | with_reducible refine AW_seq ?_ | ((first | with_reducible refine AW_skip ?_ | with_reducible refine AW_ret ?_ | with_reducible refine AW_region hTt ?_ | fail); conv => whnf) | (refine AW_cond rfl (fun hb => ?_) (fun hb => ?_) <;> first | (replace hb := of_decide_eq_true hb; try simp only [List.length_map] at hb) | (replace hb := of_decide_eq_false hb; try simp only [List.length_map] at hb)) | fail
  · rw [show sgnI n = 1 by unfold sgnI; rw [if_neg (by omega), if_pos (by omega)]]; rfl
  · rw [show sgnI n = -1 by unfold sgnI; rw [if_pos (by omega)]]; rfl
  · rw [show sgnI n = 0 by unfold sgnI; rw [if_neg (by omega), if_neg (by omega)]]; rfl
theorem power_fn (x : Int) (n : Nat) (hn : n ≤ 1000) (h : ∀ k, k ≤ n → lim (x ^ k)) : FnC Tryd.prog 36 [iv .i64 x, iv .i64 n] (iv .i64 (x ^ n)) := by
  refine FnC_of_AW hTt Tryd.func36 rfl (by kernel_rfl) (res := [.tmp 4]) rfl Tryd.ntmps36 (by simp) fun w0 K0 => ?_
  dsimp only [entry]
  repeat' first | with_reducible refine AW_seq ?_ | with_reducible refine AW_block ?_ | ((with_reducible refine AW_region hTt ?_); conv => whnf) | fail
  refine AW_loop (fun i : Nat => [(6, iv .i64 i), (5, iv .i64 (x ^ i)), (0, iv .i64 x), (1, iv .i64 n)]) (fun _ => [])
    (fun i => i ≤ n) (fun i => n - i) 0 (Nat.zero_le _) (Imp.forget (by repeat' (first | exact trivial | refine And.intro ?_ ?_ | exact ivE (Int.pow_zero x).symm | rfl | exact ivE (by first | omega | (simp only [List.length_map, List.length_append, List.length_singleton] <;> omega)) | exact oE (by first | omega | (simp only [List.length_map, List.length_append, List.length_singleton] <;> omega)))) (by repeat' (first | exact trivial | refine And.intro ?_ ?_ | exact ivE (Int.pow_zero x).symm | rfl | exact ivE (by first | omega | (simp only [List.length_map, List.length_append, List.length_singleton] <;> omega)) | exact oE (by first | omega | (simp only [List.length_map, List.length_append, List.length_singleton] <;> omega)))) (by kernel_rfl) (by kernel_rfl) (by kernel_rfl)) ?_
  intro i hi
  rcases Nat.lt_or_ge i n with hil | hil
  · have w0 : IntKind.i64.wrap (x ^ i * x) = x ^ (i + 1) := by
      have e : x ^ (i + 1) = x ^ i * x := Int.pow_succ x i
      have := h (i + 1) hil
      rw [e] at this ⊢
      unfold lim at this
      exact wrap_of (by omega)
    clear h
    repeat' first | with_reducible refine AW_seq ?_ | with_reducible refine AW_block ?_ | ((first | with_reducible refine AW_skip ?_ | with_reducible refine AW_exit ?_ | with_reducible refine AW_ret ?_ | with_reducible refine AW_region hTt ?_ | fail); conv => whnf) | (exact absurd hb (by omega)) | ((refine ⟨_, w0, ?_⟩); conv => whnf) | (refine AW_cond rfl (fun hb => ?_) (fun hb => ?_) <;> first | (replace hb := of_decide_eq_true hb; try simp only [List.length_map] at hb) | (replace hb := of_decide_eq_false hb; try simp only [List.length_map] at hb)) | ((refine ⟨_, wrap_of (by first | omega | (simp only [List.length_map]; omega)), ?_⟩); conv => whnf) | fail
    exact ⟨i + 1, by omega, by omega, impA⟩
  · obtain rfl : i = n := by omega
    repeat' first | with_reducible refine AW_seq ?_ | with_reducible refine AW_block ?_ | ((first | with_reducible refine AW_skip ?_ | with_reducible refine AW_exit ?_ | with_reducible refine AW_ret ?_ | with_reducible refine AW_region hTt ?_ | fail); conv => whnf) | (exact absurd hb (by omega)) | (refine AW_cond rfl (fun hb => ?_) (fun hb => ?_) <;> first | (replace hb := of_decide_eq_true hb; try simp only [List.length_map] at hb) | (replace hb := of_decide_eq_false hb; try simp only [List.length_map] at hb)) | fail
    rfl
theorem poly_fn (p : List Int) : FnC Tryd.prog 64 [sl p] (iv .i64 (checkE p)) := by
  have hll : (p.map (fun n : Int => [PV.v (.int .i64 n)])).length = p.length := List.length_map _
  have h1 := rin_fn ((p.map (fun n : Int => [PV.v (.int .i64 n)])).length : Int) 1 5
  have h2 := rall_fn p 100 (by decide)
  unfold checkE
  rw [outL_one, ← hll]
  generalize outB 1 5 ((p.map (fun n : Int => [PV.v (.int .i64 n)])).length : Int) = b1 at h1
  rw [show (-100 : Int) = -100 from rfl] at h2
  generalize outL (-100) 100 p = b2 at h2
  cases b1 <;> cases b2 <;> (
    refine FnC_of_AW hTt Tryd.func64 rfl (by kernel_rfl) (res := [.tmp 2]) rfl Tryd.ntmps64 (by simp) fun w0 K0 => ?_
    dsimp only [entry]
    repeat' first | with_reducible refine AW_seq ?_ | ((first | with_reducible refine AW_skip ?_ | with_reducible refine AW_ret ?_ | with_reducible refine AW_region hTt ?_ | ((refine ⟨_, (h1).call rfl rfl, ?_⟩); (rintro _ _ ⟨rfl, rfl⟩)) | ((refine ⟨_, (h2).call rfl rfl, ?_⟩); (rintro _ _ ⟨rfl, rfl⟩)) | fail); conv => whnf) | (refine AW_cond rfl (fun _ => ?_) (fun hb => absurd (show true = false from hb) (by decide))) | (refine AW_cond rfl (fun hb => absurd (show false = true from hb) (by decide)) (fun _ => ?_)) | (refine fun hln => ?_; (try rw [List.length_map] at hln); unfold maxLen at hln; conv => whnf) | fail
    rfl)
theorem interval_fn (a b : Int) : FnC Tryd.prog 66 [iv .i64 a, iv .i64 b] (iv .i64 (judgeE a b)) := by
  have h1 := rin_fn a (-10) 10
  have h2 := rin_fn b (-10) 10
  unfold judgeE
  rw [show outL (-10) 10 [a, b] = (outB (-10) 10 a || outB (-10) 10 b) by unfold outL; simp]
  generalize outB (-10) 10 a = b1 at h1
  generalize outB (-10) 10 b = b2 at h2
  cases b1 <;> cases b2 <;> by_cases hba : b ≤ a <;> simp only [hba, Bool.or_true, Bool.or_false, Bool.or_self, if_true, if_false, ite_true, ite_false, reduceIte] <;> (
    refine FnC_of_AW hTt Tryd.func66 rfl (by kernel_rfl) (res := [.tmp 4]) rfl Tryd.ntmps66 (by simp) fun w0 K0 => ?_
    dsimp only [entry]
    repeat' first | with_reducible refine AW_seq ?_ | ((first | with_reducible refine AW_skip ?_ | with_reducible refine AW_ret ?_ | with_reducible refine AW_region hTt ?_ | fail); conv => whnf) | (exact absurd hb (by omega)) | ((first | ((refine ⟨_, (h1).call rfl rfl, ?_⟩); (rintro _ _ ⟨rfl, rfl⟩)) | refine ⟨_, fun _ => (h2).call rfl rfl, ?_⟩ | fail); conv => whnf) | (refine AW_cond rfl (fun _ => ?_) (fun hb => absurd (show true = false from hb) (by decide))) | (refine AW_cond rfl (fun hb => absurd (show false = true from hb) (by decide)) (fun _ => ?_)) | (refine AW_cond rfl (fun hb => ?_) (fun hb => ?_) <;> first | (replace hb := of_decide_eq_true hb; try simp only [List.length_map] at hb) | (replace hb := of_decide_eq_false hb; try simp only [List.length_map] at hb)) | ((refine andA ?_); conv => whnf) | fail
    rfl)
theorem rtable_fn (l : List Int) : FnC Tryd.prog 70 [sl l] (iv .i64 (inspectE l)) := by
  have hll : (l.map (fun n : Int => [PV.v (.int .i64 n)])).length = l.length := List.length_map _
  have h2 := rall_fn l 1000000000 (by decide)
  unfold inspectE
  generalize outL (-1000000000) 1000000000 l = b2 at h2
  by_cases h1 : 30 < l.length
  · rw [if_pos h1]
    refine FnC_of_AW hTt Tryd.func70 rfl (by kernel_rfl) (res := [.tmp 2]) rfl Tryd.ntmps70 (by simp) fun w0 K0 => ?_
    dsimp only [entry]
    repeat' first | with_reducible refine AW_seq ?_ | ((first | with_reducible refine AW_skip ?_ | with_reducible refine AW_ret ?_ | with_reducible refine AW_region hTt ?_ | fail); conv => whnf) | (exact absurd hb (by omega)) | (refine AW_cond rfl (fun hb => ?_) (fun hb => ?_) <;> first | (replace hb := of_decide_eq_true hb; try simp only [List.length_map] at hb) | (replace hb := of_decide_eq_false hb; try simp only [List.length_map] at hb)) | (refine fun hln => ?_; (try rw [List.length_map] at hln); unfold maxLen at hln; conv => whnf) | fail
    rfl
  · rw [if_neg h1]
    cases b2 <;> (
      refine FnC_of_AW hTt Tryd.func70 rfl (by kernel_rfl) (res := [.tmp 2]) rfl Tryd.ntmps70 (by simp) fun w0 K0 => ?_
      dsimp only [entry]
      repeat' first | with_reducible refine AW_seq ?_ | ((first | with_reducible refine AW_skip ?_ | with_reducible refine AW_ret ?_ | with_reducible refine AW_region hTt ?_ | fail); conv => whnf) | (exact absurd hb (by omega)) | ((refine ⟨_, (h2).call rfl rfl, ?_⟩); (rintro _ _ ⟨rfl, rfl⟩); conv => whnf) | (refine AW_cond rfl (fun _ => ?_) (fun hb => absurd (show true = false from hb) (by decide))) | (refine AW_cond rfl (fun hb => absurd (show false = true from hb) (by decide)) (fun _ => ?_)) | (refine AW_cond rfl (fun hb => ?_) (fun hb => ?_) <;> first | (replace hb := of_decide_eq_true hb; try simp only [List.length_map] at hb) | (replace hb := of_decide_eq_false hb; try simp only [List.length_map] at hb)) | (refine fun hln => ?_; (try rw [List.length_map] at hln); unfold maxLen at hln; conv => whnf) | fail
      rfl)
end Go.Proofs.YtnpleednkmhhhaaDoor
namespace Go.Proofs.YtnpleednkmhhhaaDoor
open Go Go.QL
set_option maxHeartbeats 1600000
attribute [local irreducible] ACall FnC YC
theorem outO1 {tt : TT} {a : Tmp} {fr : Fr} {σ : Sg} {c st n : Nat} {e : TypeId} {sz : Nat} {xs : List (List PV)} (h1 : lk a fr = some (.x (.o c st n))) (h3 : lk c σ = some (.chain e sz st xs)) (h4 : n ≤ xs.length) :
    outcome tt [.tmp a] fr σ = some (.x (.d (.s sz (xs.take n)))) := by
  simp [outcome, resAVs, resAV, h1, viewAV, viewAVs, viewAV1, viewSV, h3, h4]
theorem leS1 {sz : Nat} {xs ys : List (List PV)} (h : xs = ys) : LeAV (.x (.d (.s sz xs))) (.x (.d (.s sz ys))) := by
  rw [h]; exact LeAV.refl _
theorem rdiff_fn (l : List Int) (hl : l.length ≤ 1000) (hbd : ∀ x ∈ l, -1000000000000 ≤ x ∧ x ≤ 1000000000000) : ∀ k : Nat, k ≤ 10 → FnC Tryd.prog 71 [sl l, iv .i64 k] (sl (diffR k l)) := by
  intro k
  induction k with
  | zero =>
    intro _
    refine FnC_of_AWL hTt Tryd.func71 rfl (by kernel_rfl) (res := [.tmp 4]) rfl Tryd.ntmps71 (by simp) fun w0 K0 => ?_
    dsimp only [entry]
    repeat' first | with_reducible refine AW_seq ?_ | ((first | with_reducible refine AW_ret ?_ | with_reducible refine AW_region hTt ?_ | fail); conv => whnf) | (refine AW_cond rfl (fun _ => ?_) (fun hb => absurd (show true = false from hb) (by decide))) | ((refine andA ?_); conv => whnf) | ((refine And.intro (by refine ⟨?_, ?_, ?_⟩ <;> simp [chunk, maxLen] <;> omega) ?_); conv => whnf) | fail
    exact ⟨_, outO1 rfl rfl (by show 0 + (l.map _).length ≤ ([] ++ l.map _).length; rw [List.nil_append, Nat.zero_add]; exact Nat.le_refl _), leS1 (by show ([] ++ l.map _).take (0 + (l.map _).length) = l.map _; rw [List.nil_append, Nat.zero_add, List.take_length])⟩
  | succ k ih =>
    intro hk
    have ih := ih (by omega)
    have hzl := diffR_len l k
    have hzb := diffR_bd hbd k
    have hpw : (2 : Int) ^ k ≤ 1024 ∧ 0 < (2 : Int) ^ k := by
      have : k = 0 ∨ k = 1 ∨ k = 2 ∨ k = 3 ∨ k = 4 ∨ k = 5 ∨ k = 6 ∨ k = 7 ∨ k = 8 ∨ k = 9 := by omega
      rcases this with rfl | rfl | rfl | rfl | rfl | rfl | rfl | rfl | rfl | rfl <;> decide
    show FnC _ _ _ (sl (dif (diffR k l)))
    generalize diffR k l = z at *
    have hzB : ∀ x ∈ z, -1024000000000000 ≤ x ∧ x ≤ 1024000000000000 := fun x hx => by
      have := hzb x hx
      have h2 : (2 : Int) ^ k * 1000000000000 ≤ 1024 * 1000000000000 := Int.mul_le_mul_of_nonneg_right hpw.1 (by decide)
      omega
    clear hzb hpw hbd
    have hll : (z.map (fun n : Int => [PV.v (.int .i64 n)])).length = z.length := List.length_map _
    have wk : IntKind.i64.wrap (((k + 1 : Nat) : Int) - 1) = (k : Int) := by rw [show ((k + 1 : Nat) : Int) - 1 = k by omega]; exact wrap_of (by omega)
    refine FnC_of_AWL hTt Tryd.func71 rfl (by kernel_rfl) (res := [.tmp 4]) rfl Tryd.ntmps71 (by simp) fun w0 K0 => ?_
    dsimp only [entry]
    repeat' first | with_reducible refine AW_seq ?_ | with_reducible refine AW_block ?_ | ((first | with_reducible refine AW_skip ?_ | with_reducible refine AW_region hTt ?_ | refine ⟨_, wk, ?_⟩ | ((refine ⟨_, (ih).call rfl rfl, ?_⟩); (rintro _ _ ⟨rfl, rfl⟩)) | fail); conv => whnf) | (refine AW_cond rfl (fun hb => absurd (show false = true from hb) (by decide)) (fun _ => ?_)) | fail
    refine AW_imp (Imp.nil 900 3 1 (fr' := [(6, iv .i64 1), (5, .x (.o 900 0 0)), (0, sl z)]) (σ' := []) rfl ?_ ?_ rfl rfl) ?_
    · exact ⟨⟨_, rfl, .inl rfl⟩, ⟨_, rfl, .inr ⟨rfl, rfl⟩⟩, ⟨_, rfl, .inl rfl⟩, trivial⟩
    · exact trivial
    clear ih wk
    have hdl := dif_len z
    have hdt : ∀ i, i ≤ z.length - 1 → (((dif z).take i).map iPV).length = i := fun i hi => by rw [List.length_map, List.length_take]; omega
    refine AW_loop (fun i : Nat => [(6, iv .i64 ((i : Int) + 1)), (5, .x (.o 900 i i)), (0, sl z)]) (fun i => [(900, .chain 3 1 i (((dif z).take i).map iPV))])
      (fun i => i ≤ z.length - 1) (fun i => z.length - 1 - i) 0 (Nat.zero_le _) impA ?_
    intro i hi
    have hcl := hdt i hi
    rcases Nat.lt_or_ge (i + 1) z.length with hil | hil
    · have g0 := hzB _ (getD_mem (show i < z.length by omega))
      have g1 := hzB _ (getD_mem hil)
      have e0 : z[((i : Int) + 1 - 1).toNat]? = some (z.getD i 0) := by
        rw [show ((i : Int) + 1 - 1).toNat = i by omega, List.getD_eq_getElem?_getD, List.getElem?_eq_getElem (by omega)]; rfl
      have e1 : z[((i : Int) + 1).toNat]? = some (z.getD (i + 1) 0) := by
        rw [show ((i : Int) + 1).toNat = i + 1 by omega, List.getD_eq_getElem?_getD, List.getElem?_eq_getElem (by omega)]; rfl
      have hnx : (((dif z).take i).map iPV).take i ++ [iPV (z.getD (i + 1) 0 - z.getD i 0)] = ((dif z).take (i + 1)).map iPV := by
        rw [List.take_of_length_le (by omega), List.take_add_one, dif_get hil, List.map_append]; rfl
      generalize z.getD (i + 1) 0 = y1 at *
      generalize z.getD i 0 = y0 at *
      clear hzB hdt
      repeat' first | with_reducible refine AW_seq ?_ | with_reducible refine AW_block ?_ | ((first | with_reducible refine AW_skip ?_ | with_reducible refine AW_exit ?_ | with_reducible refine AW_ret ?_ | with_reducible refine AW_region hTt ?_ | refine AW_draw hTt hMix (id := 8) 12 true [0, 0, 0, 6, 14, 0, 0, 64, 224, 480, 1022, 2046, 4095, 8191] (by kernel_rfl) rfl rfl (by kernel_rfl) ?_ | fail); conv => whnf) | (exact absurd hb (by omega)) | ((first | with_reducible refine Exists.intro _ (And.intro (gd_any (And.intro (by omega) (map_some' e0))) ?_) | with_reducible refine Exists.intro _ (And.intro (gd_any (And.intro (by omega) (map_some' e1))) ?_) | fail); conv => whnf) | ((refine And.intro (by rw [hcl]; refine ⟨?_, ?_, ?_⟩ <;> simp [chunk, maxLen] <;> omega) ?_); conv => whnf) | (refine AW_cond rfl (fun hb => ?_) (fun hb => ?_) <;> first | (replace hb := of_decide_eq_true hb; try simp only [List.length_map] at hb) | (replace hb := of_decide_eq_false hb; try simp only [List.length_map] at hb) | (simp only [List.length_map, bne_iff_ne, ne_eq, beq_iff_eq, bne_eq_false_iff_eq, beq_eq_false_iff_ne, decide_eq_true_eq, decide_eq_false_iff_not, Bool.not_eq_true', Bool.not_eq_false', Int.natCast_inj] at hb) | skip) | ((first | refine ⟨_, wrap_of (by first | omega | (simp only [List.length_map]; omega)), ?_⟩ | refine andA ?_ | fail); conv => whnf) | (refine fun hln => ?_; (try rw [List.length_map] at hln); unfold maxLen at hln; conv => whnf) | fail
      exact ⟨i + 1, by omega, by omega, (Imp.forget (by repeat' (first | exact trivial | refine And.intro ?_ ?_ | exact congrArg (fun xs : List (List PV) => some (Ob.chain 3 1 (i + 1) xs)) hnx | rfl | exact ivE (by first | omega | (simp only [List.length_map, List.length_append, List.length_singleton] <;> omega)) | exact oE (by first | omega | (simp only [List.length_map, List.length_append, List.length_singleton] <;> omega)))) (by repeat' (first | exact trivial | refine And.intro ?_ ?_ | exact congrArg (fun xs : List (List PV) => some (Ob.chain 3 1 (i + 1) xs)) hnx | rfl | exact ivE (by first | omega | (simp only [List.length_map, List.length_append, List.length_singleton] <;> omega)) | exact oE (by first | omega | (simp only [List.length_map, List.length_append, List.length_singleton] <;> omega)))) (by kernel_rfl) (by kernel_rfl) (by kernel_rfl))⟩
    · repeat' first | with_reducible refine AW_seq ?_ | with_reducible refine AW_block ?_ | ((first | with_reducible refine AW_skip ?_ | with_reducible refine AW_exit ?_ | with_reducible refine AW_ret ?_ | with_reducible refine AW_region hTt ?_ | refine AW_draw hTt hMix (id := 8) 12 true [0, 0, 0, 6, 14, 0, 0, 64, 224, 480, 1022, 2046, 4095, 8191] (by kernel_rfl) rfl rfl (by kernel_rfl) ?_ | fail); conv => whnf) | (exact absurd hb (by omega)) | (refine AW_cond rfl (fun hb => ?_) (fun hb => ?_) <;> first | (replace hb := of_decide_eq_true hb; try simp only [List.length_map] at hb) | (replace hb := of_decide_eq_false hb; try simp only [List.length_map] at hb) | (simp only [List.length_map, bne_iff_ne, ne_eq, beq_iff_eq, bne_eq_false_iff_eq, beq_eq_false_iff_ne, decide_eq_true_eq, decide_eq_false_iff_not, Bool.not_eq_true', Bool.not_eq_false', Int.natCast_inj] at hb) | skip) | (refine fun hln => ?_; (try rw [List.length_map] at hln); unfold maxLen at hln; conv => whnf) | fail
      exact ⟨_, outO1 rfl rfl (by omega), leS1 (by rw [List.take_of_length_le (by omega), List.take_of_length_le (by omega)])⟩
theorem with_fn (l : List Int) (hl : l.length ≤ 1000) (i : Nat) (hi : i < l.length) (v : Int) : FnC Tryd.prog 77 [sl l, iv .i64 i, iv .i64 v] (sl (l.set i v)) := by
  refine FnC_of_AWL hTt Tryd.func77 rfl (by kernel_rfl) (res := [.tmp 6]) rfl Tryd.ntmps77 (by simp) fun w0 K0 => ?_
  dsimp only [entry]
  have hel : ([] ++ l.map (fun n : Int => [PV.v (.int .i64 n)]))[i]? = some [PV.v (.int .i64 l[i])] := by rw [List.nil_append, List.getElem?_map, List.getElem?_eq_getElem hi]; rfl
  repeat' first | with_reducible refine AW_seq ?_ | ((first | with_reducible refine AW_ret ?_ | with_reducible refine AW_region hTt ?_ | refine ⟨_, hel, Nat.le_refl _, ?_⟩ | refine andA ?_ | fail); conv => whnf) | ((refine And.intro (by refine ⟨?_, ?_, ?_⟩ <;> simp [chunk, maxLen] <;> omega) ?_); conv => whnf) | fail
  exact ⟨_, outO1 rfl rfl (by show 0 + (l.map _).length ≤ (([] ++ l.map _).set _ _).length; rw [List.length_set, List.nil_append, Nat.zero_add]; exact Nat.le_refl _), leS1 (by
    show (([] ++ l.map (fun n : Int => [PV.v (.int .i64 n)])).set i [PV.v (.int .i64 v)]).take (0 + (l.map _).length) = (l.set i v).map (fun n : Int => [PV.v (.int .i64 n)])
    rw [List.nil_append, Nat.zero_add, List.take_of_length_le (by rw [List.length_set]; exact Nat.le_refl _), List.map_set])⟩
theorem smooth_fn (l : List Int) (hl : l.length ≤ 1000) (hbd : ∀ x ∈ l, -1000000000000 ≤ x ∧ x ≤ 1000000000000) (k : Nat) (hk : k ≤ 9) : FnC Tryd.prog 76 [sl l, iv .i64 k] (bv (!outL 0 0 (diffR (k + 1) l))) := by
  have h1 := rdiff_fn l hl hbd (k + 1) (by omega)
  have h2 := rall_fn (diffR (k + 1) l) 0 (by decide)
  rw [Int.neg_zero] at h2
  have wk : IntKind.i64.wrap ((k : Int) + 1) = ((k + 1 : Nat) : Int) := wrap_of (by omega)
  refine FnC_of_AW hTt Tryd.func76 rfl (by kernel_rfl) (res := [.tmp 4]) rfl Tryd.ntmps76 (by simp) fun w0 K0 => ?_
  dsimp only [entry]
  repeat' first | with_reducible refine AW_seq ?_ | ((first | with_reducible refine AW_ret ?_ | with_reducible refine AW_region hTt ?_ | refine ⟨_, wk, ?_⟩ | ((refine ⟨_, (h1).call rfl rfl, ?_⟩); (rintro _ _ ⟨rfl, rfl⟩)) | ((refine ⟨_, (h2).call rfl rfl, ?_⟩); (rintro _ _ ⟨rfl, rfl⟩)) | fail); conv => whnf) | fail
  rfl
end Go.Proofs.YtnpleednkmhhhaaDoor
namespace Go.Proofs.YtnpleednkmhhhaaDoor
open Go Go.QL
set_option maxHeartbeats 1600000
theorem getD_none {l : List Int} {i : Nat} (h : l.length ≤ i) : l.getD i 0 = 0 := by
  rw [List.getD_eq_getElem?_getD, List.getElem?_eq_none h]; rfl
theorem diffR_step (l : List Int) (k j : Nat) : (diffR (k + 1) l).getD j 0 = if j + (k + 1) < l.length then (diffR k l).getD (j + 1) 0 - (diffR k l).getD j 0 else 0 := by
  have hl := diffR_len l k
  show (dif (diffR k l)).getD j 0 = _
  by_cases h : j + (k + 1) < l.length
  · rw [if_pos h, dif_getD (by omega)]
  · rw [if_neg h]
    exact getD_none (by rw [dif_len]; omega)
theorem set_getD {l : List Int} {i : Nat} (v : Int) (hi : i < l.length) (j : Nat) (hj : j < l.length) : (l.set i v).getD j 0 = l.getD j 0 + (v - l.getD i 0) * (unit l.length i).getD j 0 := by
  rw [unit_getD hj, List.getD_eq_getElem?_getD, List.getElem?_set]
  by_cases e : i = j
  · subst e
    rw [if_pos rfl, if_pos hi, if_pos rfl, Int.mul_one, Option.getD_some]; omega
  · rw [if_neg e, if_neg e, Int.mul_zero, Int.add_zero, ← List.getD_eq_getElem?_getD]
theorem diffR_set {l : List Int} {i : Nat} (v : Int) (hi : i < l.length) : ∀ k j, j + k < l.length → (diffR k (l.set i v)).getD j 0 = (diffR k l).getD j 0 + (v - l.getD i 0) * (diffR k (unit l.length i)).getD j 0
  | 0, j, hj => set_getD v hi j hj
  | k + 1, j, hj => by
    rw [diffR_step, diffR_step, diffR_step, List.length_set, unit_len, if_pos hj, if_pos hj, if_pos hj, diffR_set v hi k (j + 1) (by omega), diffR_set v hi k j (by omega)]
    grind
def smoothL (l : List Int) (k : Nat) : Prop := ∀ j, j + k < l.length → (diffR k l).getD j 0 = 0
theorem smooth_iff {l : List Int} {k : Nat} : outL 0 0 (diffR k l) = false ↔ smoothL l k := by
  rw [outL_false]
  have hlen := diffR_len l k
  constructor
  · intro h j hj
    have := h _ (getD_mem (show j < (diffR k l).length by omega))
    omega
  · intro h x hx
    obtain ⟨j, hj, rfl⟩ := List.getElem_of_mem hx
    have := h j (by omega)
    rw [List.getD_eq_getElem?_getD, List.getElem?_eq_getElem hj, Option.getD_some] at this
    omega
theorem smooth_any {l : List Int} {k : Nat} : ((diffR k l).any nzB = false) ↔ smoothL l k := by
  rw [← smooth_iff, outL_false, List.any_eq_false]
  constructor
  · intro h x hx; have := h x hx; simp [nzB] at this; omega
  · intro h x hx; have := h x hx; simp [nzB]; omega
theorem smooth_set {l : List Int} {i k : Nat} {v : Int} (hi : i < l.length) : smoothL (l.set i v) k ↔ ∀ j, j + k < l.length → (diffR k l).getD j 0 = (l.getD i 0 - v) * (diffR k (unit l.length i)).getD j 0 := by
  unfold smoothL
  rw [List.length_set]
  constructor
  · intro h j hj
    have := h j hj
    rw [diffR_set v hi k j hj] at this
    have e : (l.getD i 0 - v) * (diffR k (unit l.length i)).getD j 0 = -((v - l.getD i 0) * (diffR k (unit l.length i)).getD j 0) := by rw [← Int.neg_mul]; congr 1; omega
    omega
  · intro h j hj
    have := h j hj
    rw [diffR_set v hi k j hj]
    have e : (l.getD i 0 - v) * (diffR k (unit l.length i)).getD j 0 = -((v - l.getD i 0) * (diffR k (unit l.length i)).getD j 0) := by rw [← Int.neg_mul]; congr 1; omega
    omega
def atK (d i : Nat) : Nat := i - (d + 1)
theorem unit_front0 : ∀ d, d < 5 → ∀ i, i < d + 1 → ∀ n, n < 31 → d + 3 ≤ n → (diffR (d + 1) (unit n i)).getD 0 0 ≠ 0 := by decide +kernel
theorem unit_at {n d i : Nat} (hd : d ≤ 4) (hi : i < n) (hn : d + 3 ≤ n) (h30 : n ≤ 30) : (diffR (d + 1) (unit n i)).getD (atK d i) 0 ≠ 0 ∧ ∀ j, j < atK d i → (diffR (d + 1) (unit n i)).getD j 0 = 0 := by
  unfold atK
  by_cases h1 : d + 1 ≤ i
  · obtain ⟨a, b⟩ := front (l := unit n i) (by rw [unit_len]; exact hi) (by rw [unit_getD hi, if_pos rfl]) (fun j hj => by rw [unit_getD (by omega), if_neg (by omega)]) (d + 1) h1
    exact ⟨by rw [a]; decide, b⟩
  · rw [show i - (d + 1) = 0 by omega]
    exact ⟨unit_front0 d (by omega) i (by omega) n (by omega) hn, fun j hj => by omega⟩
theorem fst_at {p : Int → Bool} : ∀ (xs : List Int) (s k : Nat), p (xs.getD k 0) = true → k < xs.length → (∀ j, j < k → p (xs.getD j 0) = false) → fstI p xs s = some (s + k)
  | [], s, k, _, h, _ => by simp at h
  | x :: r, s, 0, h, _, _ => by
    simp only [fstI]
    rw [if_pos (by simpa using h)]; rfl
  | x :: r, s, k + 1, h, h2, h3 => by
    simp only [fstI]
    have := h3 0 (by omega)
    rw [if_neg (by simpa using this), fst_at r (s + 1) k (by simpa using h) (by simpa using h2) (fun j hj => by have := h3 (j + 1) (by omega); simpa using this)]
    congr 1; omega
theorem idx_at {n d i : Nat} (hd : d ≤ 4) (hi : i < n) (hn : d + 3 ≤ n) (h30 : n ≤ 30) : idxI nzB (diffR (d + 1) (unit n i)) = (atK d i : Nat) := by
  obtain ⟨a, b⟩ := unit_at hd hi hn h30
  have hl := diffR_len (unit n i) (d + 1)
  rw [unit_len] at hl
  unfold idxI
  rw [fst_at (p := nzB) _ 0 (atK d i) (by simpa [nzB] using a) (by unfold atK; omega) (fun j hj => by unfold nzB; rw [b j hj]; rfl), Nat.zero_add]
def rfitB (l : List Int) (d i : Nat) : Bool :=
  ((diffR (d + 1) l).getD (atK d i) 0).tmod ((diffR (d + 1) (unit l.length i)).getD (atK d i) 0) == 0 &&
    !outL 0 0 (diffR (d + 1) (l.set i (l.getD i 0 - ((diffR (d + 1) l).getD (atK d i) 0).tdiv ((diffR (d + 1) (unit l.length i)).getD (atK d i) 0))))
def rfitV (l : List Int) (d i : Nat) : Int := l.getD i 0 - ((diffR (d + 1) l).getD (atK d i) 0).tdiv ((diffR (d + 1) (unit l.length i)).getD (atK d i) 0)
theorem fit_eq {l : List Int} {d i : Nat} (hd : d ≤ 4) (hi : i < l.length) (hn : d + 3 ≤ l.length) (h30 : l.length ≤ 30) :
    fitP (diffR (d + 1) l) l.length d i = if rfitB l d i = true then some (((diffR (d + 1) l).getD (atK d i) 0).tdiv ((diffR (d + 1) (unit l.length i)).getD (atK d i) 0)) else none := by
  unfold fitP
  rw [idx_at hd hi hn h30, Int.toNat_natCast]
  obtain ⟨hz, _⟩ := unit_at hd hi hn h30
  have hlen := diffR_len (unit l.length i) (d + 1)
  rw [unit_len] at hlen
  have hk : atK d i + (d + 1) < l.length := by unfold atK; omega
  have key : (List.range (diffR (d + 1) (unit l.length i)).length).all (fun j => ((diffR (d + 1) l).getD (atK d i) 0).tdiv ((diffR (d + 1) (unit l.length i)).getD (atK d i) 0) * (diffR (d + 1) (unit l.length i)).getD j 0 == (diffR (d + 1) l).getD j 0) = rfitB l d i := by
    rw [Bool.eq_iff_iff, List.all_eq_true]
    unfold rfitB
    rw [Bool.and_eq_true, Bool.not_eq_true', smooth_iff, smooth_set hi]
    generalize hq : ((diffR (d + 1) l).getD (atK d i) 0).tdiv ((diffR (d + 1) (unit l.length i)).getD (atK d i) 0) = q at *
    constructor
    · intro h
      have h' : ∀ j, j + (d + 1) < l.length → q * (diffR (d + 1) (unit l.length i)).getD j 0 = (diffR (d + 1) l).getD j 0 := fun j hj => by
        have := h j (List.mem_range.2 (by omega)); simpa using this
      refine ⟨?_, fun j hj => ?_⟩
      · rw [beq_iff_eq, ← h' _ hk]; exact Int.mul_tmod_left ..
      · rw [← h' j hj]; congr 1; omega
    · rintro ⟨_, h⟩ j hj
      have := h j (by have := List.mem_range.1 hj; omega)
      rw [beq_iff_eq, this]; congr 1; omega
  rw [key]
def rfindGo (l : List Int) (d : Nat) : Nat → Nat → Int × Int × Int
  | 0, _ => (0, 0, 9)
  | r + 1, i => if rfitB l d i = true then (i, rfitV l d i, 0) else rfindGo l d r (i + 1)
theorem find_go {l : List Int} {d : Nat} (hd : d ≤ 4) (hn : d + 3 ≤ l.length) (h30 : l.length ≤ 30) : ∀ r i, i + r = l.length → findGo l (diffR (d + 1) l) d r i = rfindGo l d r i
  | 0, i, _ => rfl
  | r + 1, i, h => by
    simp only [findGo, rfindGo]
    rw [fit_eq hd (by omega) hn h30, find_go hd hn h30 r (i + 1) (by omega)]
    by_cases hf : rfitB l d i = true
    · rw [if_pos hf, if_pos hf]; rfl
    · rw [if_neg hf, if_neg hf]
def rfindP (l : List Int) (degree : Int) : Int × Int × Int :=
  if inspectE l ≠ 0 then (0, 0, inspectE l)
  else if outL 0 4 [degree] = true then (0, 0, 7)
  else if (l.length : Int) < degree + 3 then (0, 0, 3)
  else if outL 0 0 (diffR (degree.toNat + 1) l) = false then (-1, 0, 0)
  else rfindGo l degree.toNat l.length 0
theorem find_eq (l : List Int) (degree : Int) : findP l degree = rfindP l degree := by
  unfold findP rfindP
  by_cases h1 : inspectE l ≠ 0
  · rw [if_pos h1, if_pos h1]
  · rw [if_neg h1, if_neg h1]
    by_cases h2 : outL 0 4 [degree] = true
    · rw [if_pos h2, if_pos h2]
    · rw [if_neg h2, if_neg h2]
      by_cases h3 : (l.length : Int) < degree + 3
      · rw [if_pos h3, if_pos h3]
      · rw [if_neg h3, if_neg h3]
        have hd := outL_false.1 (by simpa using h2) degree (List.mem_singleton.2 rfl)
        have hi := inspect_ok (Classical.not_not.1 h1)
        by_cases h4 : smoothL l (degree.toNat + 1)
        · rw [if_pos (smooth_any.2 h4), if_pos (smooth_iff.2 h4)]
        · rw [if_neg (fun e => h4 (smooth_any.1 e)), if_neg (fun e => h4 (smooth_iff.1 e))]
          exact find_go (by omega) (by omega) (by omega) _ 0 (by omega)
end Go.Proofs.YtnpleednkmhhhaaDoor
namespace Go.Proofs.YtnpleednkmhhhaaDoor
open Go Go.QL
set_option maxHeartbeats 1600000
attribute [local irreducible] ACall FnC YC
theorem rdiffs_fn (table : List Int) (order : Int) : FnC Tryd.prog 23 [sl table, iv .i64 order] (.t [sl (diffsP table order).1, iv .i64 (diffsP table order).2]) := by
  have o1 := rtable_fn table
  have o2 := rin_fn order 0 5
  unfold diffsP
  rw [outL_one]
  by_cases he : inspectE table ≠ 0
  · rw [if_pos he]
    generalize inspectE table = e at *
    have hN : (bif e == 0 then !!outB 0 5 order else false) = false := by simp [he]
    have ft : ¬ (false = true) := by decide
    refine FnC_of_AWL hTt Tryd.func23 rfl (by kernel_rfl) (res := [.tmp 4, .tmp 5]) rfl Tryd.ntmps23 (by simp) fun w0 K0 => ?_
    dsimp only [entry]
    repeat' first | with_reducible refine AW_seq ?_ | ((first | with_reducible refine AW_skip ?_ | with_reducible refine AW_ret ?_ | with_reducible refine AW_region hTt ?_ | ((refine ⟨_, (o1).call rfl rfl, ?_⟩); (rintro _ _ ⟨rfl, rfl⟩)) | refine ⟨_, fun _ => (o2).call rfl rfl, ?_⟩ | fail); conv => whnf) | (exact absurd (hN.symm.trans hb) ft) | (exact absurd hb he) | (refine AW_cond rfl (fun hb => ?_) (fun hb => ?_) <;> first | (replace hb := of_decide_eq_true hb; try simp only [List.length_map] at hb) | (replace hb := of_decide_eq_false hb; try simp only [List.length_map] at hb) | (simp only [List.length_map, bne_iff_ne, ne_eq, beq_iff_eq, bne_eq_false_iff_eq, beq_eq_false_iff_ne, decide_eq_true_eq, decide_eq_false_iff_not, Bool.not_eq_true', Bool.not_eq_false', Int.natCast_inj] at hb) | skip) | ((refine andA ?_); conv => whnf) | fail
    exact ⟨_, rfl, leN⟩
  · rw [if_neg he]
    have he : inspectE table = 0 := by simpa using he
    obtain ⟨h1, h2⟩ := inspect_ok he
    rw [he] at o1
    clear he
    by_cases ho : outB 0 5 order = true
    · rw [if_pos ho]
      rw [ho] at o2
      refine FnC_of_AWL hTt Tryd.func23 rfl (by kernel_rfl) (res := [.tmp 4, .tmp 5]) rfl Tryd.ntmps23 (by simp) fun w0 K0 => ?_
      dsimp only [entry]
      repeat' first | with_reducible refine AW_seq ?_ | ((first | with_reducible refine AW_ret ?_ | with_reducible refine AW_region hTt ?_ | ((refine ⟨_, (o1).call rfl rfl, ?_⟩); (rintro _ _ ⟨rfl, rfl⟩)) | refine ⟨_, fun _ => (o2).call rfl rfl, ?_⟩ | fail); conv => whnf) | (refine AW_cond rfl (fun _ => ?_) (fun hb => absurd (show true = false from hb) (by decide))) | ((refine andA ?_); conv => whnf) | fail
      exact ⟨_, rfl, leN⟩
    · rw [if_neg ho]
      have ho : outB 0 5 order = false := by simpa using ho
      rw [ho] at o2
      have hr := outB_false.1 ho
      have hd := rdiff_fn table (by omega) (fun x hx => by have := h2 x hx; omega) order.toNat (by omega)
      rw [show ((order.toNat : Nat) : Int) = order by omega] at hd
      refine FnC_of_AWL hTt Tryd.func23 rfl (by kernel_rfl) (res := [.tmp 4, .tmp 5]) rfl Tryd.ntmps23 (by simp) fun w0 K0 => ?_
      dsimp only [entry]
      repeat' first | with_reducible refine AW_seq ?_ | ((first | with_reducible refine AW_skip ?_ | with_reducible refine AW_ret ?_ | with_reducible refine AW_region hTt ?_ | ((refine ⟨_, (o1).call rfl rfl, ?_⟩); (rintro _ _ ⟨rfl, rfl⟩)) | refine ⟨_, fun _ => (o2).call rfl rfl, ?_⟩ | ((refine ⟨_, (hd).call rfl rfl, ?_⟩); (rintro _ _ ⟨rfl, rfl⟩)) | fail); conv => whnf) | (refine AW_cond rfl (fun hb => absurd (show false = true from hb) (by decide)) (fun _ => ?_)) | ((refine andA ?_); conv => whnf) | fail
      exact ⟨_, rfl, LeAV.refl _⟩
theorem pow_bdG {x B : Int} (h : -B ≤ x ∧ x ≤ B) : ∀ k : Nat, -(B ^ k) ≤ x ^ k ∧ x ^ k ≤ B ^ k
  | 0 => by simp
  | k + 1 => by
    have := mul_bd (pow_bdG h k) h
    rw [Int.pow_succ, Int.pow_succ]; exact this
def atS (p : List Int) (num den : Int) : Nat → Int
  | 0 => 0
  | k + 1 => atS p num den k + p.getD k 0 * num ^ k * den ^ (p.length - 1 - k)
theorem valS_2 (p : List Int) (num den : Int) : ∀ j, (valS p num den j).2 = den ^ j
  | 0 => by simp [valS]
  | j + 1 => by simp only [valS]; rw [valS_2 p num den j, Int.pow_succ]
theorem valS_at (p : List Int) (num den : Int) : ∀ j, j ≤ p.length → (valS p num den j).1 * num ^ (p.length - j) + atS p num den (p.length - j) = atS p num den p.length
  | 0, _ => by simp [valS]
  | j + 1, h => by
    have ih := valS_at p num den j (by omega)
    rw [← ih]
    obtain ⟨m, hm⟩ : ∃ m, p.length - (j + 1) = m := ⟨_, rfl⟩
    rw [hm, show p.length - j = m + 1 by omega]
    simp only [valS, atS]
    rw [valS_2, show p.length - 1 - j = m by omega, show p.length - 1 - m = j by omega, Int.pow_succ, Int.add_mul]
    have e1 : (valS p num den j).1 * num * num ^ m = (valS p num den j).1 * (num ^ m * num) := by rw [Int.mul_assoc, Int.mul_comm num]
    have e2 : p.getD m 0 * den ^ j * num ^ m = p.getD m 0 * num ^ m * den ^ j := by rw [Int.mul_assoc, Int.mul_comm (den ^ j), ← Int.mul_assoc]
    rw [e1, e2]; omega
theorem val_at (p : List Int) (num den : Int) : valP p num den = atS p num den p.length := by
  have := valS_at p num den p.length (Nat.le_refl _)
  rw [Nat.sub_self] at this
  simp only [atS, Int.pow_zero, Int.mul_one, Int.add_zero] at this
  exact this
theorem at_bd {p : List Int} (hp : pOK p) {num den : Int} (hn : -4000 ≤ num ∧ num ≤ 4000) (hd : -4000 ≤ den ∧ den ≤ 4000) {k : Nat} (hk : k < p.length) :
    lim (p.getD k 0 * num ^ k) ∧ (-25600000000000000 ≤ p.getD k 0 * num ^ k * den ^ (p.length - 1 - k) ∧ p.getD k 0 * num ^ k * den ^ (p.length - 1 - k) ≤ 25600000000000000) := by
  have hc := hp.get k
  have h1 := pow_bdG hn k
  have h2 := pow_bdG hd (p.length - 1 - k)
  have h5 := hp.1
  have m1 := mul_bd (A := 100) hc h1
  have m2 := mul_bd m1 h2
  have e : (100 : Int) * 4000 ^ k * 4000 ^ (p.length - 1 - k) = 100 * 4000 ^ (p.length - 1) := by
    rw [Int.mul_assoc, ← Int.pow_add, show k + (p.length - 1 - k) = p.length - 1 by omega]
  rw [e] at m2
  have l1 : p.length - 1 = 0 ∨ p.length - 1 = 1 ∨ p.length - 1 = 2 ∨ p.length - 1 = 3 ∨ p.length - 1 = 4 := by omega
  have b2 : (100 : Int) * 4000 ^ (p.length - 1) ≤ 25600000000000000 := by
    rcases l1 with e | e | e | e | e <;> rw [e] <;> decide
  have l2 : k = 0 ∨ k = 1 ∨ k = 2 ∨ k = 3 ∨ k = 4 := by omega
  have b1 : (100 : Int) * 4000 ^ k ≤ 25600000000000000 := by
    rcases l2 with e | e | e | e | e <;> rw [e] <;> decide
  unfold lim
  omega
theorem atS_bd {p : List Int} (hp : pOK p) {num den : Int} (hn : -4000 ≤ num ∧ num ≤ 4000) (hd : -4000 ≤ den ∧ den ≤ 4000) : ∀ k, k ≤ p.length → -((k : Int) * 25600000000000000) ≤ atS p num den k ∧ atS p num den k ≤ (k : Int) * 25600000000000000
  | 0, _ => by simp [atS]
  | k + 1, h => by
    have ih := atS_bd hp hn hd k (by omega)
    have := (at_bd hp hn hd (k := k) (by omega)).2
    simp only [atS]
    omega
theorem at_fn {p : List Int} (hp : pOK p) {num den : Int} (hn : -4000 ≤ num ∧ num ≤ 4000) (hd : -4000 ≤ den ∧ den ≤ 4000) : FnC Tryd.prog 38 [sl p, iv .i64 num, iv .i64 den] (iv .i64 (valP p num den)) := by
  have hll : (p.map (fun n : Int => [PV.v (.int .i64 n)])).length = p.length := List.length_map _
  have h5 := hp.1
  have hlimp : ∀ (x : Int), -4000 ≤ x ∧ x ≤ 4000 → ∀ n : Nat, n ≤ 4 → ∀ k, k ≤ n → lim (x ^ k) := fun x hx n hn4 k hk => by
    have := pow_bdG hx k
    have l2 : k = 0 ∨ k = 1 ∨ k = 2 ∨ k = 3 ∨ k = 4 := by omega
    have b1 : (4000 : Int) ^ k ≤ 256000000000000 := by
      rcases l2 with e | e | e | e | e <;> rw [e] <;> decide
    unfold lim; omega
  rw [val_at]
  refine FnC_of_AW hTt Tryd.func38 rfl (by kernel_rfl) (res := [.tmp 6]) rfl Tryd.ntmps38 (by simp) fun w0 K0 => ?_
  dsimp only [entry]
  repeat' first | with_reducible refine AW_seq ?_ | with_reducible refine AW_block ?_ | ((with_reducible refine AW_region hTt ?_); conv => whnf) | fail
  refine AW_loop (fun i : Nat => [(8, iv .i64 i), (7, iv .i64 (atS p num den i)), (0, sl p), (1, iv .i64 num), (2, iv .i64 den)]) (fun _ => [])
    (fun i => i ≤ p.length) (fun i => p.length - i) 0 (Nat.zero_le _) impA ?_
  intro i hi
  rcases Nat.lt_or_ge i p.length with hil | hil
  · have q1 := power_fn num i (by omega) (hlimp num hn i (by omega))
    have q2 := power_fn den (p.length - 1 - i) (by omega) (hlimp den hd _ (by omega))
    rw [show ((p.length - 1 - i : Nat) : Int) = ((p.map (fun n : Int => [PV.v (.int .i64 n)])).length : Int) - 1 - (i : Int) by omega] at q2
    obtain ⟨b1, b2⟩ := at_bd hp hn hd hil
    have b3 := atS_bd hp hn hd i (by omega)
    have e1 : p[i]? = some (p.getD i 0) := by rw [List.getD_eq_getElem?_getD, List.getElem?_eq_getElem hil]; rfl
    have hnx : atS p num den (i + 1) = atS p num den i + p.getD i 0 * num ^ i * den ^ (p.length - 1 - i) := rfl
    unfold lim at b1
    generalize p.getD i 0 = c at *
    generalize num ^ i = x at *
    generalize den ^ (p.length - 1 - i) = y at *
    have k1 : IntKind.i64.wrap (c * x) = c * x := wrap_of (by omega)
    have k2 : IntKind.i64.wrap (c * x * y) = c * x * y := wrap_of (by omega)
    have k3 : IntKind.i64.wrap (atS p num den i + c * x * y) = atS p num den (i + 1) := by rw [hnx]; exact wrap_of (by omega)
    generalize hT : atS p num den (i + 1) = T1 at *
    generalize atS p num den i = T0 at *
    clear hlimp hp b3 b1 b2 hnx
    repeat' first | with_reducible refine AW_seq ?_ | with_reducible refine AW_block ?_ | ((first | with_reducible refine AW_skip ?_ | with_reducible refine AW_exit ?_ | with_reducible refine AW_ret ?_ | with_reducible refine AW_region hTt ?_ | refine AW_draw hTt hMix (id := 5) 17 false [0, 0, 0, 6, 14, 0, 0, 96, 254, 0, 0, 1024, 3072, 0, 15360, 32480, 65534, 131071, 262143] (by kernel_rfl) rfl rfl (by kernel_rfl) ?_ | fail); conv => whnf) | (exact absurd hb (by omega)) | ((first | with_reducible refine Exists.intro _ (And.intro (gd_any (And.intro (by omega) (map_some e1))) ?_) | refine ⟨_, fun _ => (q1).call rfl rfl, ?_⟩ | refine ⟨_, fun _ => (q2).call rfl rfl, ?_⟩ | refine ⟨_, k1, ?_⟩ | refine ⟨_, k2, ?_⟩ | refine ⟨_, k3, ?_⟩ | fail); conv => whnf) | (refine AW_cond rfl (fun hb => ?_) (fun hb => ?_) <;> first | (replace hb := of_decide_eq_true hb; try simp only [List.length_map] at hb) | (replace hb := of_decide_eq_false hb; try simp only [List.length_map] at hb) | (simp only [List.length_map, bne_iff_ne, ne_eq, beq_iff_eq, bne_eq_false_iff_eq, beq_eq_false_iff_ne, decide_eq_true_eq, decide_eq_false_iff_not, Bool.not_eq_true', Bool.not_eq_false', Int.natCast_inj] at hb) | skip) | ((first | refine ⟨_, wrap_of (by first | omega | (simp only [List.length_map]; omega)), ?_⟩ | refine andA ?_ | fail); conv => whnf) | (refine fun hln => ?_; (try rw [List.length_map] at hln); unfold maxLen at hln; conv => whnf) | fail
    subst hT
    exact ⟨i + 1, by omega, by omega, impA⟩
  · obtain rfl : i = p.length := by omega
    repeat' first | with_reducible refine AW_seq ?_ | with_reducible refine AW_block ?_ | ((first | with_reducible refine AW_skip ?_ | with_reducible refine AW_exit ?_ | with_reducible refine AW_ret ?_ | with_reducible refine AW_region hTt ?_ | refine AW_draw hTt hMix (id := 5) 17 false [0, 0, 0, 6, 14, 0, 0, 96, 254, 0, 0, 1024, 3072, 0, 15360, 32480, 65534, 131071, 262143] (by kernel_rfl) rfl rfl (by kernel_rfl) ?_ | fail); conv => whnf) | (exact absurd hb (by omega)) | (refine AW_cond rfl (fun hb => ?_) (fun hb => ?_) <;> first | (replace hb := of_decide_eq_true hb; try simp only [List.length_map] at hb) | (replace hb := of_decide_eq_false hb; try simp only [List.length_map] at hb) | (simp only [List.length_map, bne_iff_ne, ne_eq, beq_iff_eq, bne_eq_false_iff_eq, beq_eq_false_iff_ne, decide_eq_true_eq, decide_eq_false_iff_not, Bool.not_eq_true', Bool.not_eq_false', Int.natCast_inj] at hb) | skip) | (refine fun hln => ?_; (try rw [List.length_map] at hln); unfold maxLen at hln; conv => whnf) | fail
    rfl
end Go.Proofs.YtnpleednkmhhhaaDoor
namespace Go.Proofs.YtnpleednkmhhhaaDoor
open Go Go.QL
set_option maxHeartbeats 1600000
attribute [local irreducible] ACall FnC YC
theorem with_own (n i m : Nat) (hm : n = m) (hn : n ≤ 1000) (hi : i < n) : ACall Tryd.prog 77 [.x (.o 900 0 n), iv .i64 i, iv .i64 1] [(900, .chain 3 1 0 (List.replicate n (iPV 0)))]
    (fun r σ' => r = sl (unit m i) ∧ σ' = [(900, .chain 3 1 0 (List.replicate n (iPV 0)))]) := by
  subst hm
  have hll : (List.replicate n (iPV 0)).length = n := List.length_replicate
  have hel : ([] ++ List.take n (List.replicate n (iPV 0)))[i]? = some (iPV 0) := by
    rw [List.nil_append, List.take_of_length_le (by omega), List.getElem?_replicate, if_pos hi]
  refine ACall_of_AWD hTt Tryd.func77 rfl (by kernel_rfl) (res := [.tmp 6]) rfl Tryd.ntmps77 (by simp) fun w0 K0 B => ?_
  dsimp only [entry]
  repeat' first | with_reducible refine AW_seq ?_ | ((first | with_reducible refine AW_ret ?_ | with_reducible refine AW_region hTt ?_ | refine ⟨_, hel, Nat.le_refl _, ?_⟩ | fail); conv => whnf) | ((refine And.intro (by rw [List.take_of_length_le (by omega), hll]; refine ⟨?_, ?_, ?_⟩ <;> simp [chunk, maxLen] <;> omega) ?_); conv => whnf) | ((refine andA ?_); conv => whnf) | fail
  refine ⟨_, [(900, .chain 3 1 0 (List.replicate n (iPV 0)))], ⟨rfl, trivial⟩, rfl, outK1 rfl rfl rfl ?_, ?_, rfl⟩
  · show 0 + (List.take n (List.replicate n (iPV 0))).length ≤ (([] ++ List.take n (List.replicate n (iPV 0))).set _ _).length
    rw [List.length_set, List.nil_append, Nat.zero_add]; exact Nat.le_refl _
  · show AV.x (.d (.s 1 ((([] ++ List.take n (List.replicate n (iPV 0))).set i (iPV 1)).take (0 + (List.take n (List.replicate n (iPV 0))).length)))) = sl (unit n i)
    rw [List.nil_append, Nat.zero_add, List.take_of_length_le (l := List.replicate n (iPV 0)) (by omega), List.take_of_length_le (by rw [List.length_set]; exact Nat.le_refl _)]
    unfold sl unit
    rw [List.map_set, List.map_replicate]
theorem rfind_fn (l : List Int) (degree : Int) : FnC Tryd.prog 26 [sl l, iv .i64 degree] (.t [iv .i64 (rfindP l degree).1, iv .i64 (rfindP l degree).2.1, iv .i64 (rfindP l degree).2.2]) := by
  have o1 := rtable_fn l
  have o2 := rin_fn degree 0 4
  have hll : (l.map (fun n : Int => [PV.v (.int .i64 n)])).length = l.length := List.length_map _
  have hin := @inspect_ok l
  have hv : inspectE l = 0 ∨ inspectE l = 3 ∨ inspectE l = 7 := by unfold inspectE; split <;> (try split) <;> simp
  unfold rfindP
  rw [outL_one]
  generalize inspectE l = e at *
  generalize hob : outB 0 4 degree = b at *
  by_cases h1 : e = 0
  · subst h1
    rw [if_neg (by decide)]
    obtain ⟨h30, hbd⟩ := hin rfl
    cases b with
    | true =>
      rw [if_pos rfl]
      refine FnC_of_AW hTt Tryd.func26 rfl (by kernel_rfl) (res := [.tmp 4, .tmp 5, .tmp 6]) rfl Tryd.ntmps26 (by simp) fun w0 K0 => ?_
      dsimp only [entry]
      repeat' first | with_reducible refine AW_seq ?_ | ((first | with_reducible refine AW_skip ?_ | with_reducible refine AW_ret ?_ | with_reducible refine AW_region hTt ?_ | ((refine ⟨_, (o1).call rfl rfl, ?_⟩); (rintro _ _ ⟨rfl, rfl⟩)) | refine ⟨_, fun _ => (o2).call rfl rfl, ?_⟩ | fail); conv => whnf) | (refine AW_cond rfl (fun _ => ?_) (fun hb => absurd (show true = false from hb) (by decide))) | (refine AW_cond rfl (fun hb => absurd (show false = true from hb) (by decide)) (fun _ => ?_)) | ((first | refine ⟨IntKind.wrap _ _, rfl, ?_⟩ | refine andA ?_ | fail); conv => whnf) | fail
      rfl
    | false =>
      rw [if_neg (by decide)]
      have hd := outB_false.1 hob
      obtain ⟨d, rfl⟩ : ∃ d : Nat, degree = d := ⟨degree.toNat, by omega⟩
      rw [Int.toNat_natCast]
      by_cases h3 : (l.length : Int) < d + 3
      · rw [if_pos h3]
        refine FnC_of_AW hTt Tryd.func26 rfl (by kernel_rfl) (res := [.tmp 4, .tmp 5, .tmp 6]) rfl Tryd.ntmps26 (by simp) fun w0 K0 => ?_
        dsimp only [entry]
        repeat' first | with_reducible refine AW_seq ?_ | ((first | with_reducible refine AW_skip ?_ | with_reducible refine AW_ret ?_ | with_reducible refine AW_region hTt ?_ | fail); conv => whnf) | (exact absurd hb (by omega)) | ((first | ((refine ⟨_, (o1).call rfl rfl, ?_⟩); (rintro _ _ ⟨rfl, rfl⟩)) | refine ⟨_, fun _ => (o2).call rfl rfl, ?_⟩ | fail); conv => whnf) | (refine AW_cond rfl (fun _ => ?_) (fun hb => absurd (show true = false from hb) (by decide))) | (refine AW_cond rfl (fun hb => absurd (show false = true from hb) (by decide)) (fun _ => ?_)) | (refine AW_cond rfl (fun hb => ?_) (fun hb => ?_) <;> first | (replace hb := of_decide_eq_true hb; try simp only [List.length_map] at hb) | (replace hb := of_decide_eq_false hb; try simp only [List.length_map] at hb) | (simp only [List.length_map, bne_iff_ne, ne_eq, beq_iff_eq, bne_eq_false_iff_eq, beq_eq_false_iff_ne, decide_eq_true_eq, decide_eq_false_iff_not, Bool.not_eq_true', Bool.not_eq_false', Int.natCast_inj] at hb) | skip) | ((first | refine ⟨_, wrap_of (by first | omega | (simp only [List.length_map]; omega)), ?_⟩ | refine andA ?_ | fail); conv => whnf) | fail
        rfl
      · rw [if_neg h3]
        have hs := smooth_fn l (by omega) (fun x hx => by have := hbd x hx; omega) d (by omega)
        cases hsm : outL 0 0 (diffR (d + 1) l) with
        | false =>
          rw [if_pos rfl]
          rw [hsm] at hs
          refine FnC_of_AW hTt Tryd.func26 rfl (by kernel_rfl) (res := [.tmp 4, .tmp 5, .tmp 6]) rfl Tryd.ntmps26 (by simp) fun w0 K0 => ?_
          dsimp only [entry]
          repeat' first | with_reducible refine AW_seq ?_ | ((first | with_reducible refine AW_skip ?_ | with_reducible refine AW_ret ?_ | with_reducible refine AW_region hTt ?_ | fail); conv => whnf) | (exact absurd hb (by omega)) | ((first | ((refine ⟨_, (o1).call rfl rfl, ?_⟩); (rintro _ _ ⟨rfl, rfl⟩)) | refine ⟨_, fun _ => (o2).call rfl rfl, ?_⟩ | ((refine ⟨_, (hs).call rfl rfl, ?_⟩); (rintro _ _ ⟨rfl, rfl⟩)) | fail); conv => whnf) | (refine AW_cond rfl (fun _ => ?_) (fun hb => absurd (show true = false from hb) (by decide))) | (refine AW_cond rfl (fun hb => absurd (show false = true from hb) (by decide)) (fun _ => ?_)) | (refine AW_cond rfl (fun hb => ?_) (fun hb => ?_) <;> first | (replace hb := of_decide_eq_true hb; try simp only [List.length_map] at hb) | (replace hb := of_decide_eq_false hb; try simp only [List.length_map] at hb) | (simp only [List.length_map, bne_iff_ne, ne_eq, beq_iff_eq, bne_eq_false_iff_eq, beq_eq_false_iff_ne, decide_eq_true_eq, decide_eq_false_iff_not, Bool.not_eq_true', Bool.not_eq_false', Int.natCast_inj] at hb) | skip) | ((first | refine ⟨_, wrap_of (by first | omega | (simp only [List.length_map]; omega)), ?_⟩ | refine andA ?_ | fail); conv => whnf) | fail
          rfl
        | true =>
          rw [if_neg (by decide)]
          rw [hsm] at hs
          refine FnC_of_AW hTt Tryd.func26 rfl (by kernel_rfl) (res := [.tmp 4, .tmp 5, .tmp 6]) rfl Tryd.ntmps26 (by simp) fun w0 K0 => ?_
          dsimp only [entry]
          repeat' first | with_reducible refine AW_seq ?_ | with_reducible refine AW_block ?_ | ((first | with_reducible refine AW_skip ?_ | with_reducible refine AW_region hTt ?_ | fail); conv => whnf) | (exact absurd hb (by omega)) | ((first | ((refine ⟨_, (o1).call rfl rfl, ?_⟩); (rintro _ _ ⟨rfl, rfl⟩)) | refine ⟨_, fun _ => (o2).call rfl rfl, ?_⟩ | ((refine ⟨_, (hs).call rfl rfl, ?_⟩); (rintro _ _ ⟨rfl, rfl⟩)) | fail); conv => whnf) | (refine AW_cond rfl (fun hb => absurd (show false = true from hb) (by decide)) (fun _ => ?_)) | (refine AW_cond rfl (fun hb => ?_) (fun hb => ?_) <;> first | (replace hb := of_decide_eq_true hb; try simp only [List.length_map] at hb) | (replace hb := of_decide_eq_false hb; try simp only [List.length_map] at hb) | (simp only [List.length_map, bne_iff_ne, ne_eq, beq_iff_eq, bne_eq_false_iff_eq, beq_eq_false_iff_ne, decide_eq_true_eq, decide_eq_false_iff_not, Bool.not_eq_true', Bool.not_eq_false', Int.natCast_inj] at hb) | skip) | ((first | refine ⟨_, wrap_of (by first | omega | (simp only [List.length_map]; omega)), ?_⟩ | refine andA ?_ | fail); conv => whnf) | fail
          clear o1 o2 hs hsm hob hin
          have hb32 : ∀ i, i < l.length → -1000000000 ≤ l.getD i 0 ∧ l.getD i 0 ≤ 1000000000 := fun i hi => hbd _ (getD_mem hi)
          have hwb := diffR_bd hbd (d + 1)
          have h2p := two32 (d := d) (by omega)
          have hwl := diffR_len l (d + 1)
          have c3 := rdiff_fn l (by omega) (fun x hx => by have := hbd x hx; omega) (d + 1) (by omega)
          refine AW_loop (fun i : Nat => [(8, iv .i64 i), (0, sl l), (1, iv .i64 d)]) (fun _ => []) (fun i => i ≤ l.length ∧ rfindGo l d l.length 0 = rfindGo l d (l.length - i) i) (fun i => l.length - i) 0 ⟨Nat.zero_le _, rfl⟩ impA ?_
          rintro i ⟨hi, hgo⟩
          rcases Nat.lt_or_ge i l.length with hil | hil
          · have c1 := with_own (((l.map (fun n : Int => [PV.v (.int .i64 n)])).length : Int)).toNat i l.length (by rw [hll]; omega) (by rw [hll]; omega) (by rw [hll]; omega)
            have hul := unit_len l.length i
            have c2 := rdiff_fn (unit l.length i) (by omega) (fun x hx => by
              obtain ⟨j, hj, rfl⟩ := List.getElem_of_mem hx
              have := unit_getD (n := l.length) (i := i) (j := j) (by omega)
              rw [List.getD_eq_getElem?_getD, List.getElem?_eq_getElem hj, Option.getD_some] at this
              rw [this]; split <;> omega) (d + 1) (by omega)
            have hol := diffR_len (unit l.length i) (d + 1)
            obtain ⟨hz, _⟩ := unit_at (d := d) (by omega) hil (by omega) h30
            have hkl : atK d i + (d + 1) < l.length := by unfold atK; omega
            have hX : (if (i : Int) - d - 1 > 0 then (i : Int) - d - 1 else 0).toNat = atK d i ∧ 0 ≤ (if (i : Int) - d - 1 > 0 then (i : Int) - d - 1 else 0) := by unfold atK; split <;> omega
            have e1 : (diffR (d + 1) (unit l.length i))[(if (i : Int) - d - 1 > 0 then (i : Int) - d - 1 else 0).toNat]? = some ((diffR (d + 1) (unit l.length i)).getD (atK d i) 0) := by
              rw [hX.1, List.getD_eq_getElem?_getD, List.getElem?_eq_getElem (by omega)]; rfl
            have e2 : (diffR (d + 1) l)[(if (i : Int) - d - 1 > 0 then (i : Int) - d - 1 else 0).toNat]? = some ((diffR (d + 1) l).getD (atK d i) 0) := by
              rw [hX.1, List.getD_eq_getElem?_getD, List.getElem?_eq_getElem (by omega)]; rfl
            have e3 : l[i]? = some (l.getD i 0) := by rw [List.getD_eq_getElem?_getD, List.getElem?_eq_getElem hil]; rfl
            have hX0 := hX.2
            have hwk := hwb _ (getD_mem (show atK d i < (diffR (d + 1) l).length by omega))
            have hwk2 : -32000000000 ≤ (diffR (d + 1) l).getD (atK d i) 0 ∧ (diffR (d + 1) l).getD (atK d i) 0 ≤ 32000000000 := by
              have : (2 : Int) ^ (d + 1) * 1000000000 ≤ 32 * 1000000000 := Int.mul_le_mul_of_nonneg_right h2p (by decide)
              omega
            have hq : (((diffR (d + 1) l).getD (atK d i) 0).tdiv ((diffR (d + 1) (unit l.length i)).getD (atK d i) 0)).natAbs ≤ ((diffR (d + 1) l).getD (atK d i) 0).natAbs := Int.natAbs_tdiv_le_natAbs _ _
            have hli := hb32 i hil
            have c4 := with_fn l (by omega) i hil (rfitV l d i)
            have c5 := smooth_fn (l.set i (rfitV l d i)) (by rw [List.length_set]; omega) (fun x hx => by
              rcases List.mem_or_eq_of_mem_set hx with h | rfl
              · have := hbd x h; omega
              · unfold rfitV; omega) d (by omega)
            have hfb : rfitB l d i = (bif ((diffR (d + 1) l).getD (atK d i) 0).tmod ((diffR (d + 1) (unit l.length i)).getD (atK d i) 0) == 0 then !outL 0 0 (diffR (d + 1) (l.set i (rfitV l d i))) else false) := by
              unfold rfitB rfitV
              cases ((diffR (d + 1) l).getD (atK d i) 0).tmod ((diffR (d + 1) (unit l.length i)).getD (atK d i) 0) == 0 <;> rfl
            have hgn : rfindGo l d (l.length - i) i = if rfitB l d i = true then ((i : Int), rfitV l d i, 0) else rfindGo l d (l.length - (i + 1)) (i + 1) := by
              rw [show l.length - i = (l.length - (i + 1)) + 1 by omega]; rfl
            rw [hgn] at hgo
            have hvv : rfitV l d i = l.getD i 0 - ((diffR (d + 1) l).getD (atK d i) 0).tdiv ((diffR (d + 1) (unit l.length i)).getD (atK d i) 0) := rfl
            clear hgn hwk hwb hb32 hX hkl
            generalize outL 0 0 (diffR (d + 1) (l.set i (rfitV l d i))) = b2 at *
            generalize rfitV l d i = V at *
            generalize rfitB l d i = fb at *
            generalize diffR (d + 1) (unit l.length i) = one at *
            generalize diffR (d + 1) l = wrong at *
            generalize one.getD (atK d i) 0 = tm at *
            generalize wrong.getD (atK d i) 0 = dk at *
            generalize l.getD i 0 = li at *
            subst hvv
            have wk : IntKind.i64.wrap ((d : Int) + 1) = ((d + 1 : Nat) : Int) := wrap_of (by omega)
            have wq : IntKind.i64.wrap (dk.tdiv tm) = dk.tdiv tm := wrap_of (by omega)
            have wv : IntKind.i64.wrap (li - dk.tdiv tm) = li - dk.tdiv tm := wrap_of (by omega)
            have wa : IntKind.i64.wrap ((i : Int) - d) = (i : Int) - d := wrap_of (by omega)
            have wb : IntKind.i64.wrap ((i : Int) - d - 1) = (i : Int) - d - 1 := wrap_of (by omega)
            cases fb with
            | true =>
              rw [if_pos rfl] at hgo
              rw [hgo]
              have tf : ¬ (true = false) := by decide
              have hfb := hfb.symm
              repeat' first | with_reducible refine AW_seq ?_ | with_reducible refine AW_block ?_ | ((first | with_reducible refine AW_skip ?_ | with_reducible refine AW_exit ?_ | with_reducible refine AW_ret ?_ | with_reducible refine AW_region hTt ?_ | refine AW_draw hTt hMix (id := 16) 17 false [0, 0, 3, 7, 15, 31, 31, 31, 31, 415, 927, 31, 31, 6175, 16287, 32767, 31, 131071, 262143] (by kernel_rfl) rfl rfl (by kernel_rfl) ?_ | refine AW_draw hTt hMix (id := 17) 10 false [0, 0, 0, 6, 14, 0, 0, 96, 254, 1, 1023, 2047] (by kernel_rfl) rfl rfl (by kernel_rfl) ?_ | fail); conv => whnf) | (exact absurd (hfb.symm.trans hb) tf) | (exact absurd hb (by omega)) | ((first | ((refine ⟨_, (c1).frame (asc [(900, 49)]) (by repeat (first | exact trivial | refine ⟨rfl, ?_⟩)) rfl (by rintro _ _ ⟨rfl, rfl⟩; rfl), ?_⟩); (rintro _ _ ⟨_, _, ⟨rfl, rfl⟩, rfl, rfl⟩)) | ((refine ⟨_, (c2).call rfl rfl, ?_⟩); (rintro _ _ ⟨rfl, rfl⟩)) | ((refine ⟨_, (c3).call rfl rfl, ?_⟩); (rintro _ _ ⟨rfl, rfl⟩)) | refine ⟨_, fun _ _ => (c4).call rfl rfl, ?_⟩ | refine ⟨_, fun _ => (c5).call rfl rfl, ?_⟩ | refine ⟨_, wk, ?_⟩ | refine ⟨_, wa, ?_⟩ | refine ⟨_, wb, ?_⟩ | refine ⟨_, wq, ?_⟩ | refine ⟨_, wv, ?_⟩ | refine Exists.intro _ (And.intro (gd_any (And.intro hX0 (map_some' e1))) ?_) | refine Exists.intro _ (And.intro (gd_any (And.intro hX0 (map_some' e2))) ?_) | refine Exists.intro _ (And.intro (gd_any (And.intro (by omega) (map_some e3))) ?_) | refine And.intro (gd_any hz) ?_ | refine ⟨dk.tmod tm, rfl, ?_⟩ | fail); conv => whnf) | (refine AW_cond rfl (fun hb => ?_) (fun hb => ?_) <;> first | (replace hb := of_decide_eq_true hb; try simp only [List.length_map] at hb) | (replace hb := of_decide_eq_false hb; try simp only [List.length_map] at hb) | (simp only [List.length_map, bne_iff_ne, ne_eq, beq_iff_eq, bne_eq_false_iff_eq, beq_eq_false_iff_ne, decide_eq_true_eq, decide_eq_false_iff_not, Bool.not_eq_true', Bool.not_eq_false', Int.natCast_inj] at hb) | skip) | ((first | refine andA ?_ | with_reducible refine And.intro (And.intro (by omega) (And.intro (by first | omega | (simp only [List.length_map]; omega)) (by first | omega | (simp only [List.length_map, List.length_set]; omega)))) ?_ | fail); conv => whnf) | (refine fun hln => ?_; (try rw [List.length_map] at hln); unfold maxLen at hln; conv => whnf) | fail
              rfl
            | false =>
              rw [if_neg (by decide)] at hgo
              have ft : ¬ (false = true) := by decide
              have hfb := hfb.symm
              repeat' first | with_reducible refine AW_seq ?_ | with_reducible refine AW_block ?_ | ((first | with_reducible refine AW_skip ?_ | with_reducible refine AW_exit ?_ | with_reducible refine AW_ret ?_ | with_reducible refine AW_region hTt ?_ | refine AW_draw hTt hMix (id := 16) 17 false [0, 0, 3, 7, 15, 31, 31, 31, 31, 415, 927, 31, 31, 6175, 16287, 32767, 31, 131071, 262143] (by kernel_rfl) rfl rfl (by kernel_rfl) ?_ | refine AW_draw hTt hMix (id := 17) 10 false [0, 0, 0, 6, 14, 0, 0, 96, 254, 1, 1023, 2047] (by kernel_rfl) rfl rfl (by kernel_rfl) ?_ | fail); conv => whnf) | (exact absurd (hfb.symm.trans hb) ft) | (exact absurd hb (by omega)) | ((first | ((refine ⟨_, (c1).frame (asc [(900, 49)]) (by repeat (first | exact trivial | refine ⟨rfl, ?_⟩)) rfl (by rintro _ _ ⟨rfl, rfl⟩; rfl), ?_⟩); (rintro _ _ ⟨_, _, ⟨rfl, rfl⟩, rfl, rfl⟩)) | ((refine ⟨_, (c2).call rfl rfl, ?_⟩); (rintro _ _ ⟨rfl, rfl⟩)) | ((refine ⟨_, (c3).call rfl rfl, ?_⟩); (rintro _ _ ⟨rfl, rfl⟩)) | refine ⟨_, fun _ _ => (c4).call rfl rfl, ?_⟩ | refine ⟨_, fun _ => (c5).call rfl rfl, ?_⟩ | refine ⟨_, wk, ?_⟩ | refine ⟨_, wa, ?_⟩ | refine ⟨_, wb, ?_⟩ | refine ⟨_, wq, ?_⟩ | refine ⟨_, wv, ?_⟩ | refine Exists.intro _ (And.intro (gd_any (And.intro hX0 (map_some' e1))) ?_) | refine Exists.intro _ (And.intro (gd_any (And.intro hX0 (map_some' e2))) ?_) | refine Exists.intro _ (And.intro (gd_any (And.intro (by omega) (map_some e3))) ?_) | refine And.intro (gd_any hz) ?_ | refine ⟨dk.tmod tm, rfl, ?_⟩ | fail); conv => whnf) | (refine AW_cond rfl (fun hb => ?_) (fun hb => ?_) <;> first | (replace hb := of_decide_eq_true hb; try simp only [List.length_map] at hb) | (replace hb := of_decide_eq_false hb; try simp only [List.length_map] at hb) | (simp only [List.length_map, bne_iff_ne, ne_eq, beq_iff_eq, bne_eq_false_iff_eq, beq_eq_false_iff_ne, decide_eq_true_eq, decide_eq_false_iff_not, Bool.not_eq_true', Bool.not_eq_false', Int.natCast_inj] at hb) | skip) | ((first | refine ⟨_, wrap_of (by first | omega | (simp only [List.length_map]; omega)), ?_⟩ | refine andA ?_ | with_reducible refine And.intro (And.intro (by omega) (And.intro (by first | omega | (simp only [List.length_map]; omega)) (by first | omega | (simp only [List.length_map, List.length_set]; omega)))) ?_ | fail); conv => whnf) | (refine fun hln => ?_; (try rw [List.length_map] at hln); unfold maxLen at hln; conv => whnf) | fail
              exact ⟨i + 1, ⟨hil, hgo⟩, by omega, impA⟩
          · obtain rfl : i = l.length := by omega
            rw [Nat.sub_self] at hgo
            rw [hgo]
            repeat' first | with_reducible refine AW_seq ?_ | with_reducible refine AW_block ?_ | ((first | with_reducible refine AW_skip ?_ | with_reducible refine AW_exit ?_ | with_reducible refine AW_ret ?_ | with_reducible refine AW_region hTt ?_ | fail); conv => whnf) | (exact absurd hb (by omega)) | (refine AW_cond rfl (fun hb => ?_) (fun hb => ?_) <;> first | (replace hb := of_decide_eq_true hb; try simp only [List.length_map] at hb) | (replace hb := of_decide_eq_false hb; try simp only [List.length_map] at hb) | (simp only [List.length_map, bne_iff_ne, ne_eq, beq_iff_eq, bne_eq_false_iff_eq, beq_eq_false_iff_ne, decide_eq_true_eq, decide_eq_false_iff_not, Bool.not_eq_true', Bool.not_eq_false', Int.natCast_inj] at hb) | skip) | (refine fun hln => ?_; (try rw [List.length_map] at hln); unfold maxLen at hln; conv => whnf) | fail
            rfl
  · rw [if_pos h1]
    rcases hv with rfl | rfl | rfl
    · exact absurd rfl h1
    all_goals
      refine FnC_of_AW hTt Tryd.func26 rfl (by kernel_rfl) (res := [.tmp 4, .tmp 5, .tmp 6]) rfl Tryd.ntmps26 (by simp) fun w0 K0 => ?_
      dsimp only [entry]
      repeat' first | with_reducible refine AW_seq ?_ | ((first | with_reducible refine AW_skip ?_ | with_reducible refine AW_ret ?_ | with_reducible refine AW_region hTt ?_ | ((refine ⟨_, (o1).call rfl rfl, ?_⟩); (rintro _ _ ⟨rfl, rfl⟩)) | refine ⟨_, fun _ => (o2).call rfl rfl, ?_⟩ | fail); conv => whnf) | (refine AW_cond rfl (fun _ => ?_) (fun hb => absurd (show true = false from hb) (by decide))) | (refine AW_cond rfl (fun hb => absurd (show false = true from hb) (by decide)) (fun _ => ?_)) | ((first | refine ⟨IntKind.wrap _ _, rfl, ?_⟩ | refine andA ?_ | fail); conv => whnf) | fail
      rfl
theorem lfinds_fn (l : List Int) (order degree : Int) : FnC Tryd.prog 6 [sl l, iv .i64 order, iv .i64 degree] (bv true) := by
  have s1 := diffs_fn l order
  have s2 := rdiffs_fn l order
  have s3 := find_fn l degree
  have s4 := rfind_fn l degree
  rw [find_eq] at s3
  generalize diffsP l order = R at *
  generalize rfindP l degree = Q at *
  obtain ⟨r, e⟩ := R
  obtain ⟨q1, q2, q3⟩ := Q
  dsimp only at s1 s2 s3 s4
  have e1 := ints_fn r r
  rw [decide_eq_true rfl] at e1
  have ha := awake_fn
  refine FnC_of_AW hTt Tryd.func6 rfl (by kernel_rfl) (res := [.tmp 6]) rfl Tryd.ntmps6 (by simp) fun w0 K0 => ?_
  dsimp only [entry]
  have hcn : (bif !true then true else e != e) = false := by simp
  have ft : ¬ (false = true) := by decide
  repeat' first | with_reducible refine AW_seq ?_ | ((first | with_reducible refine AW_skip ?_ | with_reducible refine AW_ret ?_ | with_reducible refine AW_region hTt ?_ | ((refine ⟨_, (s1).call rfl rfl, ?_⟩); (rintro _ _ ⟨rfl, rfl⟩)) | ((refine ⟨_, (s2).call rfl rfl, ?_⟩); (rintro _ _ ⟨rfl, rfl⟩)) | ((refine ⟨_, (s3).call rfl rfl, ?_⟩); (rintro _ _ ⟨rfl, rfl⟩)) | ((refine ⟨_, (s4).call rfl rfl, ?_⟩); (rintro _ _ ⟨rfl, rfl⟩)) | ((refine ⟨_, (e1).call rfl rfl, ?_⟩); (rintro _ _ ⟨rfl, rfl⟩)) | refine ⟨_, fun _ => (ha).call rfl rfl, ?_⟩ | fail); conv => whnf) | (exact absurd (hcn.symm.trans hb) ft) | (refine AW_cond rfl (fun hb => ?_) (fun hb => ?_) <;> first | (replace hb := of_decide_eq_true hb; try simp only [List.length_map] at hb) | (replace hb := of_decide_eq_false hb; try simp only [List.length_map] at hb) | (simp only [List.length_map, bne_iff_ne, ne_eq, beq_iff_eq, bne_eq_false_iff_eq, beq_eq_false_iff_ne, decide_eq_true_eq, decide_eq_false_iff_not, Bool.not_eq_true', Bool.not_eq_false', Int.natCast_inj] at hb) | skip) | ((refine andA ?_); conv => whnf) | fail
  exact congrArg (fun b : Bool => some (bv b)) (show _ = true by simp)
end Go.Proofs.YtnpleednkmhhhaaDoor
