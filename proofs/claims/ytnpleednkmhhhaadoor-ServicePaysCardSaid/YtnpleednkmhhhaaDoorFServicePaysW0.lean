/- What the functions that this law reaches return: part 0. No condition. -/
import Derived.Test.YtnpleednkmhhhaaDoorB04
set_option linter.all false
namespace Go.Proofs.YtnpleednkmhhhaaDoor
open Go Go.QL
set_option maxHeartbeats 1600000
attribute [local irreducible] ACall FnC YC
theorem in_eq {lo hi n : Int} : (bif decide (n ≥ lo) then decide (n ≤ hi) else false) = !outB lo hi n := by
  cases h : outB lo hi n with
  | false => have := outB_false.1 h; simp [this.1, this.2]
  | true =>
    have : ¬ (lo ≤ n ∧ n ≤ hi) := fun e => by rw [outB_false.2 e] at h; cases h
    cases h1 : decide (n ≥ lo) with
    | false => rfl
    | true => have := of_decide_eq_true h1; simp; omega
theorem rin_fn (n lo hi : Int) : FnC Tryd.prog 56 [iv .i64 n, iv .i64 lo, iv .i64 hi] (bv (!outB lo hi n)) := by
  rw [← in_eq]
  refine FnC_of_AW hTt Tryd.func56 rfl (by kernel_rfl) (res := [.tmp 6]) rfl Tryd.ntmps56 (by simp) fun w0 K0 => ?_
  dsimp only [entry]
  repeat' first | with_reducible refine AW_seq ?_ | ((first | with_reducible refine AW_ret ?_ | with_reducible refine AW_region hTt ?_ | refine andA ?_ | fail); conv => whnf) | fail
  rfl
theorem rall_fn (l : List Int) (hi : Int) (h : -4611686018427387904 ≤ hi ∧ hi ≤ 4611686018427387904) : FnC Tryd.prog 65 [sl l, iv .i64 hi] (bv (!outL (-hi) hi l)) := by
  have hll : (l.map (fun n : Int => [PV.v (.int .i64 n)])).length = l.length := List.length_map _
  rw [← Int.zero_sub hi]
  have hin := fun n => rin_fn n (0 - hi) hi
  refine FnC_of_AW hTt Tryd.func65 rfl (by kernel_rfl) (res := [.tmp 4]) rfl Tryd.ntmps65 (by simp) fun w0 K0 => ?_
  dsimp only [entry]
  repeat' first | with_reducible refine AW_seq ?_ | with_reducible refine AW_block ?_ | ((with_reducible refine AW_region hTt ?_); conv => whnf) | fail
  refine AW_loop (fun i : Nat => [(5, iv .i64 i), (0, sl l), (1, iv .i64 hi)]) (fun _ => [])
    (fun i => i ≤ l.length ∧ ∀ j (h1 : j < l.length), j < i → outB (0 - hi) hi l[j] = false) (fun i => l.length - i) 0 ⟨Nat.zero_le _, fun j _ h => absurd h (Nat.not_lt_zero _)⟩ impA ?_
  rintro i ⟨hi1, hz⟩
  rcases Nat.lt_or_ge i l.length with hil | hil
  · have ho := hin l[i]
    generalize hb0 : outB (0 - hi) hi l[i] = b at ho
    cases b with
    | true =>
      have hr : outL (0 - hi) hi l = true := List.any_eq_true.2 ⟨_, List.getElem_mem hil, hb0⟩
      rw [hr]
      clear hin hz hb0 hr
      repeat' first | with_reducible refine AW_seq ?_ | with_reducible refine AW_block ?_ | ((first | with_reducible refine AW_skip ?_ | with_reducible refine AW_exit ?_ | with_reducible refine AW_ret ?_ | with_reducible refine AW_region hTt ?_ | fail); conv => whnf) | (exact absurd hb (by omega)) | ((refine ⟨_, (ho).call rfl rfl, ?_⟩); (rintro _ _ ⟨rfl, rfl⟩); conv => whnf) | (refine AW_cond rfl (fun _ => ?_) (fun hb => absurd (show true = false from hb) (by decide))) | (refine AW_cond rfl (fun hb => ?_) (fun hb => ?_) <;> first | (replace hb := of_decide_eq_true hb; try simp only [List.length_map] at hb) | (replace hb := of_decide_eq_false hb; try simp only [List.length_map] at hb)) | ((first | refine ⟨_, wrap_of (by first | omega | (simp only [List.length_map]; omega)), ?_⟩ | refine andA ?_ | with_reducible refine Exists.intro _ (And.intro (gd_any (And.intro (by omega) (map_get (by omega)))) ?_) | fail); conv => whnf) | (refine fun hln => ?_; (try rw [List.length_map] at hln); unfold maxLen at hln; conv => whnf) | fail
      rfl
    | false =>
      clear hin
      repeat' first | with_reducible refine AW_seq ?_ | with_reducible refine AW_block ?_ | ((first | with_reducible refine AW_skip ?_ | with_reducible refine AW_exit ?_ | with_reducible refine AW_ret ?_ | with_reducible refine AW_region hTt ?_ | fail); conv => whnf) | (exact absurd hb (by omega)) | ((refine ⟨_, (ho).call rfl rfl, ?_⟩); (rintro _ _ ⟨rfl, rfl⟩); conv => whnf) | (refine AW_cond rfl (fun hb => absurd (show false = true from hb) (by decide)) (fun _ => ?_)) | (refine AW_cond rfl (fun hb => ?_) (fun hb => ?_) <;> first | (replace hb := of_decide_eq_true hb; try simp only [List.length_map] at hb) | (replace hb := of_decide_eq_false hb; try simp only [List.length_map] at hb)) | ((first | refine ⟨_, wrap_of (by first | omega | (simp only [List.length_map]; omega)), ?_⟩ | refine andA ?_ | with_reducible refine Exists.intro _ (And.intro (gd_any (And.intro (by omega) (map_get (by omega)))) ?_) | fail); conv => whnf) | (refine fun hln => ?_; (try rw [List.length_map] at hln); unfold maxLen at hln; conv => whnf) | fail
      exact ⟨i + 1, ⟨by omega, fun j h1 h3 => by
        by_cases e : j = i
        · subst e; exact hb0
        · exact hz j h1 (by omega)⟩, by omega, impA⟩
  · have hr : outL (0 - hi) hi l = false := outL_false.2 fun n hn => by
      obtain ⟨j, hj, rfl⟩ := List.getElem_of_mem hn
      exact outB_false.1 (hz j hj (by omega))
    rw [hr]
    repeat' first | with_reducible refine AW_seq ?_ | with_reducible refine AW_block ?_ | ((first | with_reducible refine AW_skip ?_ | with_reducible refine AW_exit ?_ | with_reducible refine AW_ret ?_ | with_reducible refine AW_region hTt ?_ | fail); conv => whnf) | (exact absurd hb (by omega)) | (refine AW_cond rfl (fun hb => ?_) (fun hb => ?_) <;> first | (replace hb := of_decide_eq_true hb; try simp only [List.length_map] at hb) | (replace hb := of_decide_eq_false hb; try simp only [List.length_map] at hb)) | (refine fun hln => ?_; (try rw [List.length_map] at hln); unfold maxLen at hln; conv => whnf) | fail
    rfl
theorem size_fn (n : Int) (h : lim n) : FnC Tryd.prog 35 [iv .i64 n] (iv .i64 (n.natAbs : Int)) := by
  unfold lim at h
  have w0 : IntKind.i64.wrap (0 - n) = -n := by rw [Int.zero_sub]; exact wrap_of (by omega)
  refine FnC_of_AW hTt Tryd.func35 rfl (by kernel_rfl) (res := [.tmp 2]) rfl Tryd.ntmps35 (by simp) fun w0 K0 => ?_
  dsimp only [entry]
  repeat' first | with_reducible refine AW_seq ?_ | ((first | with_reducible refine AW_ret ?_ | with_reducible refine AW_region hTt ?_ | refine ⟨_, wrap_of (by first | omega | (simp only [List.length_map]; omega)), ?_⟩ | fail); conv => whnf) | fail
  exact congrArg (fun x : Int => some (iv .i64 x)) (show (if 0 - n > n then 0 - n else n) = _ by split <;> omega)
theorem rsign_fn (n : Int) : FnC Tryd.prog 37 [iv .i64 n] (iv .i64 (sgnI n)) := by
  refine FnC_of_AW hTt Tryd.func37 rfl (by kernel_rfl) (res := [.tmp 2]) rfl Tryd.ntmps37 (by simp) fun w0 K0 => ?_
  dsimp only [entry]
  repeat' first | with_reducible refine AW_seq ?_ | ((first | with_reducible refine AW_skip ?_ | with_reducible refine AW_ret ?_ | with_reducible refine AW_region hTt ?_ | fail); conv => whnf) | (refine AW_cond rfl (fun hb => ?_) (fun hb => ?_) <;> first | (replace hb := of_decide_eq_true hb; try simp only [List.length_map] at hb) | (replace hb := of_decide_eq_false hb; try simp only [List.length_map] at hb)) | fail
  · rw [show sgnI n = 1 by unfold sgnI; rw [if_neg (by omega), if_pos (by omega)]]; rfl
  · rw [show sgnI n = -1 by unfold sgnI; rw [if_pos (by omega)]]; rfl
  · rw [show sgnI n = 0 by unfold sgnI; rw [if_neg (by omega), if_neg (by omega)]]; rfl
theorem power_fn (x : Int) (n : Nat) (hn : n ≤ 1000) (h : ∀ k, k ≤ n → lim (x ^ k)) : FnC Tryd.prog 36 [iv .i64 x, iv .i64 n] (iv .i64 (x ^ n)) := by
  refine FnC_of_AW hTt Tryd.func36 rfl (by kernel_rfl) (res := [.tmp 4]) rfl Tryd.ntmps36 (by simp) fun w0 K0 => ?_
  dsimp only [entry]
  repeat' first | with_reducible refine AW_seq ?_ | with_reducible refine AW_block ?_ | ((with_reducible refine AW_region hTt ?_); conv => whnf) | fail
  refine AW_loop (fun i : Nat => [(6, iv .i64 i), (5, iv .i64 (x ^ i)), (0, iv .i64 x), (1, iv .i64 n)]) (fun _ => [])
    (fun i => i ≤ n) (fun i => n - i) 0 (Nat.zero_le _) (Imp.forget (by repeat' (first | exact trivial | refine And.intro ?_ ?_ | exact ivE (Int.pow_zero x).symm | rfl | exact ivE (by first | omega | (simp only [List.length_map, List.length_append, List.length_singleton] <;> omega)) | exact oE (by first | omega | (simp only [List.length_map, List.length_append, List.length_singleton] <;> omega)))) (by repeat' (first | exact trivial | refine And.intro ?_ ?_ | exact ivE (Int.pow_zero x).symm | rfl | exact ivE (by first | omega | (simp only [List.length_map, List.length_append, List.length_singleton] <;> omega)) | exact oE (by first | omega | (simp only [List.length_map, List.length_append, List.length_singleton] <;> omega)))) (by kernel_rfl) (by kernel_rfl) (by kernel_rfl)) ?_
  intro i hi
  rcases Nat.lt_or_ge i n with hil | hil
  · have w0 : IntKind.i64.wrap (x ^ i * x) = x ^ (i + 1) := by
      have e : x ^ (i + 1) = x ^ i * x := Int.pow_succ x i
      have := h (i + 1) hil
      rw [e] at this ⊢
      unfold lim at this
      exact wrap_of (by omega)
    clear h
    repeat' first | with_reducible refine AW_seq ?_ | with_reducible refine AW_block ?_ | ((first | with_reducible refine AW_skip ?_ | with_reducible refine AW_exit ?_ | with_reducible refine AW_ret ?_ | with_reducible refine AW_region hTt ?_ | fail); conv => whnf) | (exact absurd hb (by omega)) | ((refine ⟨_, w0, ?_⟩); conv => whnf) | (refine AW_cond rfl (fun hb => ?_) (fun hb => ?_) <;> first | (replace hb := of_decide_eq_true hb; try simp only [List.length_map] at hb) | (replace hb := of_decide_eq_false hb; try simp only [List.length_map] at hb)) | ((refine ⟨_, wrap_of (by first | omega | (simp only [List.length_map]; omega)), ?_⟩); conv => whnf) | fail
    exact ⟨i + 1, by omega, by omega, impA⟩
  · obtain rfl : i = n := by omega
    repeat' first | with_reducible refine AW_seq ?_ | with_reducible refine AW_block ?_ | ((first | with_reducible refine AW_skip ?_ | with_reducible refine AW_exit ?_ | with_reducible refine AW_ret ?_ | with_reducible refine AW_region hTt ?_ | fail); conv => whnf) | (exact absurd hb (by omega)) | (refine AW_cond rfl (fun hb => ?_) (fun hb => ?_) <;> first | (replace hb := of_decide_eq_true hb; try simp only [List.length_map] at hb) | (replace hb := of_decide_eq_false hb; try simp only [List.length_map] at hb)) | fail
    rfl
theorem poly_fn (p : List Int) : FnC Tryd.prog 64 [sl p] (iv .i64 (checkE p)) := by
  have hll : (p.map (fun n : Int => [PV.v (.int .i64 n)])).length = p.length := List.length_map _
  have h1 := rin_fn ((p.map (fun n : Int => [PV.v (.int .i64 n)])).length : Int) 1 5
  have h2 := rall_fn p 100 (by decide)
  unfold checkE
  rw [outL_one, ← hll]
  generalize outB 1 5 ((p.map (fun n : Int => [PV.v (.int .i64 n)])).length : Int) = b1 at h1
  rw [show (-100 : Int) = -100 from rfl] at h2
  generalize outL (-100) 100 p = b2 at h2
  cases b1 <;> cases b2 <;> (
    refine FnC_of_AW hTt Tryd.func64 rfl (by kernel_rfl) (res := [.tmp 2]) rfl Tryd.ntmps64 (by simp) fun w0 K0 => ?_
    dsimp only [entry]
    repeat' first | with_reducible refine AW_seq ?_ | ((first | with_reducible refine AW_skip ?_ | with_reducible refine AW_ret ?_ | with_reducible refine AW_region hTt ?_ | ((refine ⟨_, (h1).call rfl rfl, ?_⟩); (rintro _ _ ⟨rfl, rfl⟩)) | ((refine ⟨_, (h2).call rfl rfl, ?_⟩); (rintro _ _ ⟨rfl, rfl⟩)) | fail); conv => whnf) | (refine AW_cond rfl (fun _ => ?_) (fun hb => absurd (show true = false from hb) (by decide))) | (refine AW_cond rfl (fun hb => absurd (show false = true from hb) (by decide)) (fun _ => ?_)) | (refine fun hln => ?_; (try rw [List.length_map] at hln); unfold maxLen at hln; conv => whnf) | fail
    rfl)
theorem interval_fn (a b : Int) : FnC Tryd.prog 66 [iv .i64 a, iv .i64 b] (iv .i64 (judgeE a b)) := by
  have h1 := rin_fn a (-10) 10
  have h2 := rin_fn b (-10) 10
  unfold judgeE
  rw [show outL (-10) 10 [a, b] = (outB (-10) 10 a || outB (-10) 10 b) by unfold outL; simp]
  generalize outB (-10) 10 a = b1 at h1
  generalize outB (-10) 10 b = b2 at h2
  cases b1 <;> cases b2 <;> by_cases hba : b ≤ a <;> simp only [hba, Bool.or_true, Bool.or_false, Bool.or_self, if_true, if_false, ite_true, ite_false, reduceIte] <;> (
    refine FnC_of_AW hTt Tryd.func66 rfl (by kernel_rfl) (res := [.tmp 4]) rfl Tryd.ntmps66 (by simp) fun w0 K0 => ?_
    dsimp only [entry]
    repeat' first | with_reducible refine AW_seq ?_ | ((first | with_reducible refine AW_skip ?_ | with_reducible refine AW_ret ?_ | with_reducible refine AW_region hTt ?_ | fail); conv => whnf) | (exact absurd hb (by omega)) | ((first | ((refine ⟨_, (h1).call rfl rfl, ?_⟩); (rintro _ _ ⟨rfl, rfl⟩)) | refine ⟨_, fun _ => (h2).call rfl rfl, ?_⟩ | fail); conv => whnf) | (refine AW_cond rfl (fun _ => ?_) (fun hb => absurd (show true = false from hb) (by decide))) | (refine AW_cond rfl (fun hb => absurd (show false = true from hb) (by decide)) (fun _ => ?_)) | (refine AW_cond rfl (fun hb => ?_) (fun hb => ?_) <;> first | (replace hb := of_decide_eq_true hb; try simp only [List.length_map] at hb) | (replace hb := of_decide_eq_false hb; try simp only [List.length_map] at hb)) | ((refine andA ?_); conv => whnf) | fail
    rfl)
theorem rtable_fn (l : List Int) : FnC Tryd.prog 70 [sl l] (iv .i64 (inspectE l)) := by
  have hll : (l.map (fun n : Int => [PV.v (.int .i64 n)])).length = l.length := List.length_map _
  have h2 := rall_fn l 1000000000 (by decide)
  unfold inspectE
  generalize outL (-1000000000) 1000000000 l = b2 at h2
  by_cases h1 : 30 < l.length
  · rw [if_pos h1]
    refine FnC_of_AW hTt Tryd.func70 rfl (by kernel_rfl) (res := [.tmp 2]) rfl Tryd.ntmps70 (by simp) fun w0 K0 => ?_
    dsimp only [entry]
    repeat' first | with_reducible refine AW_seq ?_ | ((first | with_reducible refine AW_skip ?_ | with_reducible refine AW_ret ?_ | with_reducible refine AW_region hTt ?_ | fail); conv => whnf) | (exact absurd hb (by omega)) | (refine AW_cond rfl (fun hb => ?_) (fun hb => ?_) <;> first | (replace hb := of_decide_eq_true hb; try simp only [List.length_map] at hb) | (replace hb := of_decide_eq_false hb; try simp only [List.length_map] at hb)) | (refine fun hln => ?_; (try rw [List.length_map] at hln); unfold maxLen at hln; conv => whnf) | fail
    rfl
  · rw [if_neg h1]
    cases b2 <;> (
      refine FnC_of_AW hTt Tryd.func70 rfl (by kernel_rfl) (res := [.tmp 2]) rfl Tryd.ntmps70 (by simp) fun w0 K0 => ?_
      dsimp only [entry]
      repeat' first | with_reducible refine AW_seq ?_ | ((first | with_reducible refine AW_skip ?_ | with_reducible refine AW_ret ?_ | with_reducible refine AW_region hTt ?_ | fail); conv => whnf) | (exact absurd hb (by omega)) | ((refine ⟨_, (h2).call rfl rfl, ?_⟩); (rintro _ _ ⟨rfl, rfl⟩); conv => whnf) | (refine AW_cond rfl (fun _ => ?_) (fun hb => absurd (show true = false from hb) (by decide))) | (refine AW_cond rfl (fun hb => absurd (show false = true from hb) (by decide)) (fun _ => ?_)) | (refine AW_cond rfl (fun hb => ?_) (fun hb => ?_) <;> first | (replace hb := of_decide_eq_true hb; try simp only [List.length_map] at hb) | (replace hb := of_decide_eq_false hb; try simp only [List.length_map] at hb)) | (refine fun hln => ?_; (try rw [List.length_map] at hln); unfold maxLen at hln; conv => whnf) | fail
      rfl)
end Go.Proofs.YtnpleednkmhhhaaDoor
namespace Go.Proofs.YtnpleednkmhhhaaDoor
open Go Go.QL
set_option maxHeartbeats 3200000
attribute [local irreducible] ACall FnC YC
theorem gross_eq (m n e : Int) : mn m n * 1000 + (m - mn m n) * (1000 + e) = m * 1000 + mx 0 (m - n) * e := by
  have h : m - mn m n = mx 0 (m - n) := by unfold mn mx; split <;> split <;> omega
  have h2 : mn m n = m - mx 0 (m - n) := by omega
  rw [h, h2]
  generalize mx 0 (m - n) = x
  rw [Int.mul_add, Int.sub_mul]
  omega
theorem bads (r : RuleT) : ruleBad r = bif outB 0 10080 r.normal then true else bif (bif outB 0 1000 r.extra then true else outB 0 1000 r.tax) then true else (bif outB 0 10000 r.free then true else outB 0 10000 r.stamp) := by
  unfold ruleBad outL
  simp only [List.any_cons, List.any_nil, Bool.or_false]
  cases outB 0 10080 r.normal <;> cases outB 0 1000 r.extra <;> cases outB 0 1000 r.tax <;> cases outB 0 10000 r.free <;> cases outB 0 10000 r.stamp <;> rfl
theorem wbads (w : WorkerT) : workerBad w = bif outB 0 10080 w.minutes then true else outB 0 1000 w.rate := by
  unfold workerBad; rw [outL_one, outL_one]
theorem rwages_fn (r : RuleT) (l : List WorkerT) : FnC Tryd.prog 28 [ruleAV r, workersAV l] (.t [paysAV (wagesP r l).1, iv .i64 (wagesP r l).2]) := by
  have o1 := rin_fn r.normal 0 10080
  have o2 := rin_fn r.extra 0 1000
  have o3 := rin_fn r.tax 0 1000
  have o4 := rin_fn r.free 0 10000
  have o5 := rin_fn r.stamp 0 10000
  have hok := @ruleBad_ok r
  unfold wagesP
  rw [bads] at *
  have nilR : ∃ r', some (AV.t [.x (.d (.v (.slice none 0 0))), iv .i64 7]) = some r' ∧ LeAV r' (.t [paysAV [], iv .i64 7]) := ⟨_, rfl, ⟨_, rfl, LeAV1.nil _, LeAV1.refl _, trivial⟩⟩
  generalize outB 0 10080 r.normal = b1 at *
  generalize outB 0 1000 r.extra = b2 at *
  generalize outB 0 1000 r.tax = b3 at *
  generalize outB 0 10000 r.free = b4 at *
  generalize outB 0 10000 r.stamp = b5 at *
  have bad : ((bif b1 then true else bif (bif b2 then true else b3) then true else (bif b4 then true else b5)) = true) → FnC Tryd.prog 28 [ruleAV r, workersAV l] (.t [paysAV [], iv .i64 7]) := fun hbad => by
    clear hok
    cases b1
    · cases b2
      · cases b3
        · cases b4
          · cases b5
            · cases hbad
            · refine FnC_of_AWL hTt Tryd.func28 rfl (by kernel_rfl) (res := [.tmp 4, .tmp 5]) rfl Tryd.ntmps28 (by simp) fun w0 K0 => ?_
              dsimp only [entry]
              repeat' first | with_reducible refine AW_seq ?_ | ((first | with_reducible refine AW_ret ?_ | with_reducible refine AW_region hTt ?_ | ((refine ⟨_, (o1).call rfl rfl, ?_⟩); (rintro _ _ ⟨rfl, rfl⟩)) | refine ⟨_, fun _ => (o2).call rfl rfl, ?_⟩ | refine ⟨_, fun _ => (o3).call rfl rfl, ?_⟩ | refine ⟨_, fun _ => (o4).call rfl rfl, ?_⟩ | refine ⟨_, fun _ => (o5).call rfl rfl, ?_⟩ | fail); conv => whnf) | (refine AW_cond rfl (fun _ => ?_) (fun hb => absurd (show true = false from hb) (by decide))) | ((refine andA ?_); conv => whnf) | fail
              exact nilR
          · refine FnC_of_AWL hTt Tryd.func28 rfl (by kernel_rfl) (res := [.tmp 4, .tmp 5]) rfl Tryd.ntmps28 (by simp) fun w0 K0 => ?_
            dsimp only [entry]
            repeat' first | with_reducible refine AW_seq ?_ | ((first | with_reducible refine AW_ret ?_ | with_reducible refine AW_region hTt ?_ | ((refine ⟨_, (o1).call rfl rfl, ?_⟩); (rintro _ _ ⟨rfl, rfl⟩)) | refine ⟨_, fun _ => (o2).call rfl rfl, ?_⟩ | refine ⟨_, fun _ => (o3).call rfl rfl, ?_⟩ | refine ⟨_, fun _ => (o4).call rfl rfl, ?_⟩ | refine ⟨_, fun _ => (o5).call rfl rfl, ?_⟩ | fail); conv => whnf) | (refine AW_cond rfl (fun _ => ?_) (fun hb => absurd (show true = false from hb) (by decide))) | ((refine andA ?_); conv => whnf) | fail
            exact nilR
        · refine FnC_of_AWL hTt Tryd.func28 rfl (by kernel_rfl) (res := [.tmp 4, .tmp 5]) rfl Tryd.ntmps28 (by simp) fun w0 K0 => ?_
          dsimp only [entry]
          repeat' first | with_reducible refine AW_seq ?_ | ((first | with_reducible refine AW_ret ?_ | with_reducible refine AW_region hTt ?_ | ((refine ⟨_, (o1).call rfl rfl, ?_⟩); (rintro _ _ ⟨rfl, rfl⟩)) | refine ⟨_, fun _ => (o2).call rfl rfl, ?_⟩ | refine ⟨_, fun _ => (o3).call rfl rfl, ?_⟩ | refine ⟨_, fun _ => (o4).call rfl rfl, ?_⟩ | refine ⟨_, fun _ => (o5).call rfl rfl, ?_⟩ | fail); conv => whnf) | (refine AW_cond rfl (fun _ => ?_) (fun hb => absurd (show true = false from hb) (by decide))) | ((refine andA ?_); conv => whnf) | fail
          exact nilR
      · refine FnC_of_AWL hTt Tryd.func28 rfl (by kernel_rfl) (res := [.tmp 4, .tmp 5]) rfl Tryd.ntmps28 (by simp) fun w0 K0 => ?_
        dsimp only [entry]
        repeat' first | with_reducible refine AW_seq ?_ | ((first | with_reducible refine AW_ret ?_ | with_reducible refine AW_region hTt ?_ | ((refine ⟨_, (o1).call rfl rfl, ?_⟩); (rintro _ _ ⟨rfl, rfl⟩)) | refine ⟨_, fun _ => (o2).call rfl rfl, ?_⟩ | refine ⟨_, fun _ => (o3).call rfl rfl, ?_⟩ | refine ⟨_, fun _ => (o4).call rfl rfl, ?_⟩ | refine ⟨_, fun _ => (o5).call rfl rfl, ?_⟩ | fail); conv => whnf) | (refine AW_cond rfl (fun _ => ?_) (fun hb => absurd (show true = false from hb) (by decide))) | ((refine andA ?_); conv => whnf) | fail
        exact nilR
    · refine FnC_of_AWL hTt Tryd.func28 rfl (by kernel_rfl) (res := [.tmp 4, .tmp 5]) rfl Tryd.ntmps28 (by simp) fun w0 K0 => ?_
      dsimp only [entry]
      repeat' first | with_reducible refine AW_seq ?_ | ((first | with_reducible refine AW_ret ?_ | with_reducible refine AW_region hTt ?_ | ((refine ⟨_, (o1).call rfl rfl, ?_⟩); (rintro _ _ ⟨rfl, rfl⟩)) | refine ⟨_, fun _ => (o2).call rfl rfl, ?_⟩ | refine ⟨_, fun _ => (o3).call rfl rfl, ?_⟩ | refine ⟨_, fun _ => (o4).call rfl rfl, ?_⟩ | refine ⟨_, fun _ => (o5).call rfl rfl, ?_⟩ | fail); conv => whnf) | (refine AW_cond rfl (fun _ => ?_) (fun hb => absurd (show true = false from hb) (by decide))) | ((refine andA ?_); conv => whnf) | fail
      exact nilR
  by_cases hrb : (bif b1 then true else bif (bif b2 then true else b3) then true else (bif b4 then true else b5)) = true
  · rw [if_pos hrb]
    exact bad hrb
  · rw [if_neg hrb]
    have hokr := hok (by simpa using hrb)
    clear hok
    clear bad
    cases b1 with
    | true => exact absurd rfl hrb
    | false =>
    cases b2 with
    | true => exact absurd rfl hrb
    | false =>
    cases b3 with
    | true => exact absurd rfl hrb
    | false =>
    cases b4 with
    | true => exact absurd rfl hrb
    | false =>
    cases b5 with
    | true => exact absurd rfl hrb
    | false =>
    clear hrb
    have hll : (l.map workerPV).length = l.length := List.length_map _
    by_cases hlen : 40 < l.length
    · rw [if_pos hlen]
      refine FnC_of_AWL hTt Tryd.func28 rfl (by kernel_rfl) (res := [.tmp 4, .tmp 5]) rfl Tryd.ntmps28 (by simp) fun w0 K0 => ?_
      dsimp only [entry]
      repeat' first | with_reducible refine AW_seq ?_ | with_reducible refine AW_block ?_ | ((first | with_reducible refine AW_skip ?_ | with_reducible refine AW_ret ?_ | with_reducible refine AW_region hTt ?_ | ((refine ⟨_, (o1).call rfl rfl, ?_⟩); (rintro _ _ ⟨rfl, rfl⟩)) | refine ⟨_, fun _ => (o2).call rfl rfl, ?_⟩ | refine ⟨_, fun _ => (o3).call rfl rfl, ?_⟩ | refine ⟨_, fun _ => (o4).call rfl rfl, ?_⟩ | refine ⟨_, fun _ => (o5).call rfl rfl, ?_⟩ | fail); conv => whnf) | (exact absurd hb (by omega)) | (refine AW_cond rfl (fun hb => absurd (show false = true from hb) (by decide)) (fun _ => ?_)) | (refine AW_cond rfl (fun hb => ?_) (fun hb => ?_) <;> first | (replace hb := of_decide_eq_true hb; try simp only [List.length_map] at hb) | (replace hb := of_decide_eq_false hb; try simp only [List.length_map] at hb) | (simp only [List.length_map, bne_iff_ne, ne_eq, beq_iff_eq, bne_eq_false_iff_eq, beq_eq_false_iff_ne, decide_eq_true_eq, decide_eq_false_iff_not, Bool.not_eq_true', Bool.not_eq_false', Int.natCast_inj] at hb) | skip) | ((refine andA ?_); conv => whnf) | (refine fun hln => ?_; (try rw [List.length_map] at hln); unfold maxLen at hln; conv => whnf) | fail
      exact ⟨_, rfl, ⟨_, rfl, LeAV1.nil _, LeAV1.refl _, trivial⟩⟩
    · rw [if_neg hlen]
      have hany : ∀ (i : Nat) (h : i < l.length), workerBad l[i] = true → l.any workerBad = true := fun i h hw => List.any_eq_true.2 ⟨_, List.getElem_mem h, hw⟩
      refine FnC_of_AWL hTt Tryd.func28 rfl (by kernel_rfl) (res := [.tmp 4, .tmp 5]) rfl Tryd.ntmps28 (by simp) fun w0 K0 => ?_
      dsimp only [entry]
      repeat' first | with_reducible refine AW_seq ?_ | with_reducible refine AW_block ?_ | ((first | with_reducible refine AW_skip ?_ | with_reducible refine AW_ret ?_ | with_reducible refine AW_region hTt ?_ | ((refine ⟨_, (o1).call rfl rfl, ?_⟩); (rintro _ _ ⟨rfl, rfl⟩)) | refine ⟨_, fun _ => (o2).call rfl rfl, ?_⟩ | refine ⟨_, fun _ => (o3).call rfl rfl, ?_⟩ | refine ⟨_, fun _ => (o4).call rfl rfl, ?_⟩ | refine ⟨_, fun _ => (o5).call rfl rfl, ?_⟩ | fail); conv => whnf) | (exact absurd hb (by omega)) | (refine AW_cond rfl (fun hb => absurd (show false = true from hb) (by decide)) (fun _ => ?_)) | (refine AW_cond rfl (fun hb => ?_) (fun hb => ?_) <;> first | (replace hb := of_decide_eq_true hb; try simp only [List.length_map] at hb) | (replace hb := of_decide_eq_false hb; try simp only [List.length_map] at hb) | (simp only [List.length_map, bne_iff_ne, ne_eq, beq_iff_eq, bne_eq_false_iff_eq, beq_eq_false_iff_ne, decide_eq_true_eq, decide_eq_false_iff_not, Bool.not_eq_true', Bool.not_eq_false', Int.natCast_inj] at hb) | skip) | ((refine andA ?_); conv => whnf) | (refine fun hln => ?_; (try rw [List.length_map] at hln); unfold maxLen at hln; conv => whnf) | fail
      clear o1 o2 o3 o4 o5
      refine AW_imp (Imp.nil 900 94 4 (fr' := [(7, iv .i64 0), (6, .x (.o 900 0 0)), (2, .x (.b 2 0)), (1, workersAV l)]) (σ' := [(2, .box [.d (.v (.int .i64 r.normal)), .d (.v (.int .i64 r.extra)), .d (.v (.int .i64 r.free)), .d (.v (.int .i64 r.tax)), .d (.v (.int .i64 r.stamp))])]) rfl ?_ ?_ rfl rfl) ?_
      · exact ⟨⟨_, rfl, .inl rfl⟩, ⟨_, rfl, .inr ⟨rfl, rfl⟩⟩, ⟨_, rfl, .inl rfl⟩, ⟨_, rfl, .inl rfl⟩, trivial⟩
      · exact ⟨⟨_, rfl, .inl rfl⟩, trivial⟩
      refine AW_loop (fun i : Nat => [(7, iv .i64 i), (6, .x (.o 900 i i)), (2, .x (.b 2 0)), (1, workersAV l)])
        (fun i => [(900, .chain 94 4 i ((l.take i).map fun w => payPV (payP r w))), (2, .box [.d (.v (.int .i64 r.normal)), .d (.v (.int .i64 r.extra)), .d (.v (.int .i64 r.free)), .d (.v (.int .i64 r.tax)), .d (.v (.int .i64 r.stamp))])])
        (fun i => i ≤ l.length ∧ (l.take i).any workerBad = false) (fun i => l.length - i) 0 ⟨Nat.zero_le _, rfl⟩ impA ?_
      rintro i ⟨hi, hin⟩
      have htl : ((l.take i).map fun w => payPV (payP r w)).length = i := by rw [List.length_map, List.length_take]; omega
      rcases Nat.lt_or_ge i l.length with hil | hil
      · have c1 := rin_fn l[i].minutes 0 10080
        have c2 := rin_fn l[i].rate 0 1000
        have hbad := hany i hil
        have hwok := @workerBad_ok l[i]
        have hnx : (l.take (i + 1)) = l.take i ++ [l[i]] := by rw [List.take_add_one, List.getElem?_eq_getElem hil]; rfl
        have hwb := wbads l[i]
        have e1 : l[i]? = some l[i] := List.getElem?_eq_getElem hil
        have hch : ((l.take i).map fun w => payPV (payP r w)).take i ++ [payPV (payP r l[i])] = (l.take (i + 1)).map fun w => payPV (payP r w) := by
          rw [List.take_of_length_le (by rw [htl]; exact Nat.le_refl _), hnx, List.map_append]; rfl
        clear hany
        generalize l[i] = w at *
        obtain ⟨m, k⟩ := w
        dsimp only at *
        generalize hX : ((l.take i).map fun w => payPV (payP r w)) = X at *
        generalize outB 0 10080 m = b1 at *
        generalize outB 0 1000 k = b2 at *
        cases b1 with
        | true =>
          rw [if_pos (hbad hwb)]
          repeat' first | with_reducible refine AW_seq ?_ | with_reducible refine AW_block ?_ | ((first | with_reducible refine AW_skip ?_ | with_reducible refine AW_exit ?_ | with_reducible refine AW_ret ?_ | with_reducible refine AW_region hTt ?_ | fail); conv => whnf) | (exact absurd hb (by omega)) | ((first | ((refine ⟨_, (c1).call rfl rfl, ?_⟩); (rintro _ _ ⟨rfl, rfl⟩)) | refine ⟨_, fun _ => (c2).call rfl rfl, ?_⟩ | with_reducible refine Exists.intro _ (And.intro (gd_any (And.intro (by omega) (map_some e1))) ?_) | fail); conv => whnf) | (refine AW_cond rfl (fun _ => ?_) (fun hb => absurd (show true = false from hb) (by decide))) | (refine AW_cond rfl (fun hb => ?_) (fun hb => ?_) <;> first | (replace hb := of_decide_eq_true hb; try simp only [List.length_map] at hb) | (replace hb := of_decide_eq_false hb; try simp only [List.length_map] at hb) | (simp only [List.length_map, bne_iff_ne, ne_eq, beq_iff_eq, bne_eq_false_iff_eq, beq_eq_false_iff_ne, decide_eq_true_eq, decide_eq_false_iff_not, Bool.not_eq_true', Bool.not_eq_false', Int.natCast_inj] at hb) | skip) | ((refine andA ?_); conv => whnf) | (refine fun hln => ?_; (try rw [List.length_map] at hln); unfold maxLen at hln; conv => whnf) | fail
          exact nilR
        | false =>
        cases b2 with
        | true =>
          rw [if_pos (hbad hwb)]
          repeat' first | with_reducible refine AW_seq ?_ | with_reducible refine AW_block ?_ | ((first | with_reducible refine AW_skip ?_ | with_reducible refine AW_exit ?_ | with_reducible refine AW_ret ?_ | with_reducible refine AW_region hTt ?_ | fail); conv => whnf) | (exact absurd hb (by omega)) | ((first | ((refine ⟨_, (c1).call rfl rfl, ?_⟩); (rintro _ _ ⟨rfl, rfl⟩)) | refine ⟨_, fun _ => (c2).call rfl rfl, ?_⟩ | with_reducible refine Exists.intro _ (And.intro (gd_any (And.intro (by omega) (map_some e1))) ?_) | fail); conv => whnf) | (refine AW_cond rfl (fun _ => ?_) (fun hb => absurd (show true = false from hb) (by decide))) | (refine AW_cond rfl (fun hb => ?_) (fun hb => ?_) <;> first | (replace hb := of_decide_eq_true hb; try simp only [List.length_map] at hb) | (replace hb := of_decide_eq_false hb; try simp only [List.length_map] at hb) | (simp only [List.length_map, bne_iff_ne, ne_eq, beq_iff_eq, bne_eq_false_iff_eq, beq_eq_false_iff_ne, decide_eq_true_eq, decide_eq_false_iff_not, Bool.not_eq_true', Bool.not_eq_false', Int.natCast_inj] at hb) | skip) | ((refine andA ?_); conv => whnf) | (refine fun hln => ?_; (try rw [List.length_map] at hln); unfold maxLen at hln; conv => whnf) | fail
          exact nilR
        | false =>
          obtain ⟨h6, h7⟩ := hwok hwb
          clear nilR hbad hwok
          obtain ⟨n, e, f, t, s⟩ := r
          obtain ⟨h1, h2, h3, h4, h5⟩ := hokr
          dsimp only at *
          have hge := gross_eq m n e
          have hm0 : 0 ≤ mn m n ∧ mn m n ≤ m := by unfold mn; split <;> omega
          have hmn : (if n < m then n else m) = mn m n := rfl
          have w0' : IntKind.i64.wrap (mn m n * 1000) = mn m n * 1000 := wrap_of (by omega)
          have w1 : IntKind.i64.wrap (m - mn m n) = m - mn m n := wrap_of (by omega)
          have m2 := mul_bd (a := m - mn m n) (b := 1000 + e) (A := 10080) (B := 2000) (by omega) (by omega)
          have m2' := Int.mul_nonneg (a := m - mn m n) (b := 1000 + e) (by omega) (by omega)
          have w2 : IntKind.i64.wrap ((m - mn m n) * (1000 + e)) = (m - mn m n) * (1000 + e) := wrap_of (by omega)
          have w3 : IntKind.i64.wrap (mn m n * 1000 + (m - mn m n) * (1000 + e)) = m * 1000 + mx 0 (m - n) * e := by rw [← hge]; exact wrap_of (by omega)
          have m4 := mul_bd (a := m * 1000 + mx 0 (m - n) * e) (b := k) (A := 30240000) (B := 1000) (by omega) (by omega)
          have m4' := Int.mul_nonneg (a := m * 1000 + mx 0 (m - n) * e) (b := k) (by omega) (by omega)
          have w4 : IntKind.i64.wrap ((m * 1000 + mx 0 (m - n) * e) * k) = (m * 1000 + mx 0 (m - n) * e) * k := wrap_of (by omega)
          have eg : grossP ⟨n, e, f, t, s⟩ ⟨m, k⟩ = ((m * 1000 + mx 0 (m - n) * e) * k).tdiv 60000 := rfl
          have rg : 0 ≤ grossP ⟨n, e, f, t, s⟩ ⟨m, k⟩ ∧ grossP ⟨n, e, f, t, s⟩ ⟨m, k⟩ ≤ 1008000 := by
            rw [eg, Int.tdiv_eq_ediv_of_nonneg m4']; omega
          have w5 : IntKind.i64.wrap (((m * 1000 + mx 0 (m - n) * e) * k).tdiv 60000) = grossP ⟨n, e, f, t, s⟩ ⟨m, k⟩ := by rw [← eg]; exact wrap_of (by omega)
          unfold payP at hch
          dsimp only at hch
          generalize grossP ⟨n, e, f, t, s⟩ ⟨m, k⟩ = g at rg w5 hch
          clear eg
          have w6 : IntKind.i64.wrap (g - f) = g - f := wrap_of (by omega)
          have m6 := mx_rng (a := 0) (b := g - f) (N := 1008000) (by omega) (by omega)
          have m7 := mul_bd (a := mx 0 (g - f)) (b := t) (A := 1008000) (B := 1000) (by omega) (by omega)
          have m7' := Int.mul_nonneg (a := mx 0 (g - f)) (b := t) (by omega) (by omega)
          have w7 : IntKind.i64.wrap (mx 0 (g - f) * t) = mx 0 (g - f) * t := wrap_of (by omega)
          have et : taxP ⟨n, e, f, t, s⟩ g = (mx 0 (g - f) * t).tdiv 1000 := rfl
          have rt : 0 ≤ taxP ⟨n, e, f, t, s⟩ g ∧ taxP ⟨n, e, f, t, s⟩ g ≤ 1008000 := by
            rw [et, Int.tdiv_eq_ediv_of_nonneg m7']; omega
          have w8 : IntKind.i64.wrap ((mx 0 (g - f) * t).tdiv 1000) = taxP ⟨n, e, f, t, s⟩ g := by rw [← et]; exact wrap_of (by omega)
          generalize taxP ⟨n, e, f, t, s⟩ g = x at rt w8 hch
          clear et
          have w9 : IntKind.i64.wrap (g - x) = g - x := wrap_of (by omega)
          have m9 : -1008000 ≤ mn s (g - x) ∧ mn s (g - x) ≤ 1008000 := by unfold mn; split <;> omega
          have w10 : IntKind.i64.wrap (g - x - mn s (g - x)) = g - x - mn s (g - x) := wrap_of (by omega)
          repeat' first | with_reducible refine AW_seq ?_ | with_reducible refine AW_block ?_ | ((first | with_reducible refine AW_skip ?_ | with_reducible refine AW_exit ?_ | with_reducible refine AW_ret ?_ | with_reducible refine AW_region hTt ?_ | fail); conv => whnf) | (exact absurd hb (by omega)) | ((first | ((refine ⟨_, (c1).call rfl rfl, ?_⟩); (rintro _ _ ⟨rfl, rfl⟩)) | refine ⟨_, fun _ => (c2).call rfl rfl, ?_⟩ | with_reducible refine Exists.intro _ (And.intro (gd_any (And.intro (by omega) (map_some e1))) ?_) | refine ⟨_, w0', ?_⟩ | refine ⟨_, w1, ?_⟩ | refine ⟨_, w2, ?_⟩ | refine ⟨_, w3, ?_⟩ | refine ⟨_, w4, ?_⟩ | refine ⟨_, w5, ?_⟩ | refine ⟨_, w6, ?_⟩ | refine ⟨_, w7, ?_⟩ | refine ⟨_, w8, ?_⟩ | refine ⟨_, w9, ?_⟩ | refine ⟨_, w10, ?_⟩ | fail); conv => whnf) | ((refine And.intro (by rw [htl]; refine ⟨?_, ?_, ?_⟩ <;> simp [chunk, maxLen] <;> omega) ?_); conv => whnf) | (refine AW_cond rfl (fun hb => absurd (show false = true from hb) (by decide)) (fun _ => ?_)) | (refine AW_cond rfl (fun hb => ?_) (fun hb => ?_) <;> first | (replace hb := of_decide_eq_true hb; try simp only [List.length_map] at hb) | (replace hb := of_decide_eq_false hb; try simp only [List.length_map] at hb) | (simp only [List.length_map, bne_iff_ne, ne_eq, beq_iff_eq, bne_eq_false_iff_eq, beq_eq_false_iff_ne, decide_eq_true_eq, decide_eq_false_iff_not, Bool.not_eq_true', Bool.not_eq_false', Int.natCast_inj] at hb) | skip) | ((first | refine ⟨_, wrap_of (by first | omega | (simp only [List.length_map]; omega)), ?_⟩ | refine andA ?_ | fail); conv => whnf) | (refine fun hln => ?_; (try rw [List.length_map] at hln); unfold maxLen at hln; conv => whnf) | fail
          exact ⟨i + 1, ⟨hil, by rw [hnx, List.any_append, hin]; simp only [List.any_cons, List.any_nil, hwb]; rfl⟩, by omega, (Imp.forget (by repeat' (first | exact trivial | refine And.intro ?_ ?_ | exact congrArg (fun xs : List (List PV) => some (Ob.chain 94 4 (i + 1) xs)) hch | rfl | exact ivE (by first | omega | (simp only [List.length_map, List.length_append, List.length_singleton] <;> omega)) | exact oE (by first | omega | (simp only [List.length_map, List.length_append, List.length_singleton] <;> omega)))) (by repeat' (first | exact trivial | refine And.intro ?_ ?_ | exact congrArg (fun xs : List (List PV) => some (Ob.chain 94 4 (i + 1) xs)) hch | rfl | exact ivE (by first | omega | (simp only [List.length_map, List.length_append, List.length_singleton] <;> omega)) | exact oE (by first | omega | (simp only [List.length_map, List.length_append, List.length_singleton] <;> omega)))) (by kernel_rfl) (by kernel_rfl) (by kernel_rfl))⟩
      · have hie : i = l.length := by omega
        subst hie
        have htl' := htl
        rw [List.take_length] at hin htl
        rw [if_neg (by rw [hin]; exact Bool.noConfusion)]
        repeat' first | with_reducible refine AW_seq ?_ | with_reducible refine AW_block ?_ | ((first | with_reducible refine AW_skip ?_ | with_reducible refine AW_exit ?_ | with_reducible refine AW_ret ?_ | with_reducible refine AW_region hTt ?_ | fail); conv => whnf) | (exact absurd hb (by omega)) | (refine AW_cond rfl (fun hb => ?_) (fun hb => ?_) <;> first | (replace hb := of_decide_eq_true hb; try simp only [List.length_map] at hb) | (replace hb := of_decide_eq_false hb; try simp only [List.length_map] at hb) | (simp only [List.length_map, bne_iff_ne, ne_eq, beq_iff_eq, bne_eq_false_iff_eq, beq_eq_false_iff_ne, decide_eq_true_eq, decide_eq_false_iff_not, Bool.not_eq_true', Bool.not_eq_false', Int.natCast_inj] at hb) | skip) | (refine fun hln => ?_; (try rw [List.length_map] at hln); unfold maxLen at hln; conv => whnf) | fail
        have e : List.take l.length (List.map (fun w => payPV (payP r w)) (List.take l.length l)) = (l.map (payP r)).map payPV := by
          rw [List.take_length, List.take_of_length_le (by rw [htl]; exact Nat.le_refl _), List.map_map]; rfl
        exact ⟨_, outO2 rfl rfl rfl (by rw [htl']; exact Nat.le_refl _), leS e⟩
end Go.Proofs.YtnpleednkmhhhaaDoor
namespace Go.Proofs.YtnpleednkmhhhaaDoor
open Go Go.QL
set_option maxHeartbeats 1600000
attribute [local irreducible] ACall FnC YC
theorem outL_at {lo hi : Int} {l : List Int} {i : Nat} (h : i < l.length) (hb : outB lo hi l[i] = true) : outL lo hi l = true := List.any_eq_true.2 ⟨_, List.getElem_mem h, hb⟩
theorem outL_all {lo hi : Int} {l : List Int} (h : ∀ j (h : j < l.length), j < l.length → outB lo hi l[j] = false) : outL lo hi l = false := outL_false.2 fun n hn => by
  obtain ⟨j, hj, rfl⟩ := List.getElem_of_mem hn
  exact outB_false.1 (h j hj hj)
theorem nt_of {c : Bool} (h : c = false) : (!c) = true := by subst h; rfl
theorem cnd_s (i : Nat) (v y1 y0 : Int) : (bif bif ((i + 1 : Nat) : Int) == 0 then v != 1 else false then true else bif decide ((0 : Int) < ((i + 1 : Nat) : Int)) then decide (y1 ≤ y0) else false) = decide (y1 ≤ y0) := by
  have g0 : (((i + 1 : Nat) : Int) == 0) = false := by rw [beq_eq_false_iff_ne]; omega
  have g1 : decide ((0 : Int) < ((i + 1 : Nat) : Int)) = true := decide_eq_true (by omega)
  rw [g0, g1]; rfl
def coinsE (vs am : List Int) : Int := (coinsP vs am).2
theorem coinsE_1 {vs am : List Int} (h : outL 1 10 [(vs.length : Int)] = true) : coinsE vs am = 3 := by unfold coinsE coinsP; rw [if_pos h]
theorem coinsE_2 {vs am : List Int} (h : outL 1 10 [(vs.length : Int)] = false) (h2 : outL 1 10000 vs = true) : coinsE vs am = 7 := by
  unfold coinsE coinsP; rw [if_neg (by rw [h]; decide), if_pos h2]
theorem coinsE_3 {vs am : List Int} (h : outL 1 10 [(vs.length : Int)] = false) (h2 : outL 1 10000 vs = false) (h3 : vs.getD 0 0 ≠ 1 ∨ ascBad vs = true) : coinsE vs am = 2 := by
  unfold coinsE coinsP; rw [if_neg (by rw [h]; decide), if_neg (by rw [h2]; decide)]
  by_cases e : vs.getD 0 0 ≠ 1
  · rw [if_pos e]
  · rw [if_neg e, if_pos (h3.resolve_left e)]
theorem coinsE_4 {vs am : List Int} (h : outL 1 10 [(vs.length : Int)] = false) (h2 : outL 1 10000 vs = false) (h3 : vs.getD 0 0 = 1) (h4 : ascBad vs = false) :
    coinsE vs am = if 40 < am.length then 3 else if outL 0 10000 am = true then 7 else 0 := by
  unfold coinsE coinsP; rw [if_neg (by rw [h]; decide), if_neg (by rw [h2]; decide), if_neg (by rw [h3]; decide), if_neg (by rw [h4]; decide)]
  split
  · rfl
  · split <;> rfl
theorem rcoinsE_fn (vs am : List Int) : FnC Tryd.prog 80 [sl vs, sl am] (iv .i64 (coinsE vs am)) := by
  have f1 := @coinsE_1 vs am
  have f2 := @coinsE_2 vs am
  have f3 := @coinsE_3 vs am
  have f4 := @coinsE_4 vs am
  have hlv : (vs.map (fun n : Int => [PV.v (.int .i64 n)])).length = vs.length := List.length_map _
  have hla : (am.map (fun n : Int => [PV.v (.int .i64 n)])).length = am.length := List.length_map _
  have o1 := rin_fn (vs.length : Int) 1 10
  have o2 := fun n => rin_fn n 1 10000
  have o3 := fun n => rin_fn n 0 10000
  rw [outL_one] at f1 f2 f3 f4
  have hpos : outB 1 10 (vs.length : Int) = false → 1 ≤ vs.length := fun h => by have := outB_false.1 h; omega
  generalize coinsE vs am = R at *
  generalize outB 1 10 (vs.length : Int) = b1 at *
  rw [← hlv] at o1
  cases b1 with
  | true =>
    obtain rfl := f1 rfl
    clear f2 f3 f4
    refine FnC_of_AW hTt Tryd.func80 rfl (by kernel_rfl) (res := [.tmp 4]) rfl Tryd.ntmps80 (by simp) fun w0 K0 => ?_
    dsimp only [entry]
    repeat' first | with_reducible refine AW_seq ?_ | with_reducible refine AW_block ?_ | with_reducible refine AW_scope ?_ | ((first | with_reducible refine AW_skip ?_ | with_reducible refine AW_label ?_ | with_reducible refine AW_exit ?_ | with_reducible refine AW_ret ?_ | with_reducible refine AW_region hTt ?_ | refine AW_draw hTt hMix (id := 11) 21 false [0, 1, 3, 7, 15, 31, 63, 127, 255, 511, 1023, 2047, 4095, 4095, 16383, 32767, 4095, 4095, 135167, 462847, 987135, 2097151, 4194303, 8388607] (by kernel_rfl) rfl rfl (by kernel_rfl) ?_ | refine LateGo.mk ⟨_, rfl, ?_⟩ | refine LateGo.mk ⟨.x .j, rfl, ?_⟩ | ((refine ⟨_, (o1).call rfl rfl, ?_⟩); (rintro _ _ ⟨rfl, rfl⟩)) | refine ⟨_, fun _ => (o1).call rfl rfl, ?_⟩ | refine ⟨_, fun _ _ => (o1).call rfl rfl, ?_⟩ | fail); conv => whnf) | (refine AW_cond rfl (fun _ => ?_) (fun hb => absurd (show true = false from hb) (by decide))) | (refine AW_cond rfl (fun hb => absurd (show false = true from hb) (by decide)) (fun _ => ?_)) | (refine AW_cond rfl (fun _ => ?_) (fun hb => absurd hb (by decide))) | (refine AW_cond rfl (fun hb => absurd hb (by decide)) (fun _ => ?_)) | (refine AW_cond rfl (fun hb => ?_) (fun hb => ?_) <;> first | (replace hb := of_decide_eq_true hb; try simp only [List.length_map] at hb) | (replace hb := of_decide_eq_false hb; try simp only [List.length_map] at hb) | (simp only [List.length_map, bne_iff_ne, ne_eq, beq_iff_eq, bne_eq_false_iff_eq, beq_eq_false_iff_ne, decide_eq_true_eq, decide_eq_false_iff_not, Bool.not_eq_true', Bool.not_eq_false', Int.natCast_inj] at hb) | skip) | ((first | refine ⟨_, wrap_of (by first | omega | (simp only [List.length_map]; omega)), ?_⟩ | refine ⟨IntKind.wrap _ _, rfl, ?_⟩ | refine andA ?_ | with_reducible refine Exists.intro _ (And.intro (gd_any (And.intro (by omega) (map_get (by omega)))) ?_) | with_reducible refine And.intro (gd_any (And.intro (by omega) (And.intro (by first | omega | (simp only [List.length_map]; omega)) (by first | omega | (simp only [List.length_map]; omega) | (simp only [List.length_set, List.length_map]; omega))))) ?_ | with_reducible refine Exists.intro _ (And.intro (gd_any (map_get' (by omega) (by omega))) (And.intro (And.intro (Nat.le_of_ble_eq_true rfl) rfl) ?_)) | with_reducible refine Exists.intro _ (And.intro (gd_any (And.intro (by omega) (map_get' (by omega) (by omega)))) ?_) | with_reducible refine And.intro (And.intro (by omega) (And.intro (by first | omega | (simp only [List.length_map]; omega)) (by first | omega | (simp only [List.length_map, List.length_set]; omega)))) ?_ | with_reducible refine Exists.intro _ (And.intro (map_get' (by omega) (by omega)) (And.intro (Nat.le_of_ble_eq_true rfl) ?_)) | fail); conv => whnf) | ((refine And.intro (by refine ⟨?_, ?_, ?_⟩ <;> simp [chunk, maxLen] <;> omega) ?_); conv => whnf) | (refine fun hln => ?_; (try rw [List.length_map] at hln); unfold maxLen at hln; conv => whnf) | fail
    rfl
  | false =>
    have f2 := f2 rfl
    have f3 := f3 rfl
    have f4 := f4 rfl
    have hpos := hpos rfl
    clear f1
    refine FnC_of_AW hTt Tryd.func80 rfl (by kernel_rfl) (res := [.tmp 4]) rfl Tryd.ntmps80 (by simp) fun w0 K0 => ?_
    dsimp only [entry]
    repeat' first | with_reducible refine AW_seq ?_ | with_reducible refine AW_block ?_ | with_reducible refine AW_scope ?_ | ((first | with_reducible refine AW_skip ?_ | with_reducible refine AW_label ?_ | with_reducible refine AW_exit ?_ | with_reducible refine AW_ret ?_ | with_reducible refine AW_region hTt ?_ | refine AW_draw hTt hMix (id := 11) 21 false [0, 1, 3, 7, 15, 31, 63, 127, 255, 511, 1023, 2047, 4095, 4095, 16383, 32767, 4095, 4095, 135167, 462847, 987135, 2097151, 4194303, 8388607] (by kernel_rfl) rfl rfl (by kernel_rfl) ?_ | refine LateGo.mk ⟨_, rfl, ?_⟩ | refine LateGo.mk ⟨.x .j, rfl, ?_⟩ | ((refine ⟨_, (o1).call rfl rfl, ?_⟩); (rintro _ _ ⟨rfl, rfl⟩)) | refine ⟨_, fun _ => (o1).call rfl rfl, ?_⟩ | refine ⟨_, fun _ _ => (o1).call rfl rfl, ?_⟩ | fail); conv => whnf) | (refine AW_cond rfl (fun _ => ?_) (fun hb => absurd (show true = false from hb) (by decide))) | (refine AW_cond rfl (fun hb => absurd (show false = true from hb) (by decide)) (fun _ => ?_)) | (refine AW_cond rfl (fun _ => ?_) (fun hb => absurd hb (by decide))) | (refine AW_cond rfl (fun hb => absurd hb (by decide)) (fun _ => ?_)) | (refine AW_cond rfl (fun hb => ?_) (fun hb => ?_) <;> first | (replace hb := of_decide_eq_true hb; try simp only [List.length_map] at hb) | (replace hb := of_decide_eq_false hb; try simp only [List.length_map] at hb) | (simp only [List.length_map, bne_iff_ne, ne_eq, beq_iff_eq, bne_eq_false_iff_eq, beq_eq_false_iff_ne, decide_eq_true_eq, decide_eq_false_iff_not, Bool.not_eq_true', Bool.not_eq_false', Int.natCast_inj] at hb) | skip) | ((first | refine ⟨_, wrap_of (by first | omega | (simp only [List.length_map]; omega)), ?_⟩ | refine ⟨IntKind.wrap _ _, rfl, ?_⟩ | refine andA ?_ | with_reducible refine Exists.intro _ (And.intro (gd_any (And.intro (by omega) (map_get (by omega)))) ?_) | with_reducible refine And.intro (gd_any (And.intro (by omega) (And.intro (by first | omega | (simp only [List.length_map]; omega)) (by first | omega | (simp only [List.length_map]; omega) | (simp only [List.length_set, List.length_map]; omega))))) ?_ | with_reducible refine Exists.intro _ (And.intro (gd_any (map_get' (by omega) (by omega))) (And.intro (And.intro (Nat.le_of_ble_eq_true rfl) rfl) ?_)) | with_reducible refine Exists.intro _ (And.intro (gd_any (And.intro (by omega) (map_get' (by omega) (by omega)))) ?_) | with_reducible refine And.intro (And.intro (by omega) (And.intro (by first | omega | (simp only [List.length_map]; omega)) (by first | omega | (simp only [List.length_map, List.length_set]; omega)))) ?_ | with_reducible refine Exists.intro _ (And.intro (map_get' (by omega) (by omega)) (And.intro (Nat.le_of_ble_eq_true rfl) ?_)) | fail); conv => whnf) | ((refine And.intro (by refine ⟨?_, ?_, ?_⟩ <;> simp [chunk, maxLen] <;> omega) ?_); conv => whnf) | (refine fun hln => ?_; (try rw [List.length_map] at hln); unfold maxLen at hln; conv => whnf) | fail
    clear o1
    refine AW_loop (fun i : Nat => [(5, iv .i64 i), (0, sl vs), (1, sl am)]) (fun _ => [])
      (fun i => i ≤ vs.length ∧ ∀ j (h : j < vs.length), j < i → outB 1 10000 vs[j] = false) (fun i => vs.length - i) 0 ⟨Nat.zero_le _, fun j _ h => absurd h (Nat.not_lt_zero _)⟩ impA ?_
    rintro i ⟨hi, hz⟩
    rcases Nat.lt_or_ge i vs.length with hil | hil
    · have oi := o2 vs[i]
      generalize hoi : outB 1 10000 vs[i] = b at oi
      cases b with
      | true =>
        obtain rfl := f2 (outL_at hil hoi)
        clear f2 f3 f4 hz o2 o3 hoi
        repeat' first | with_reducible refine AW_seq ?_ | with_reducible refine AW_block ?_ | with_reducible refine AW_scope ?_ | ((first | with_reducible refine AW_skip ?_ | with_reducible refine AW_label ?_ | with_reducible refine AW_exit ?_ | with_reducible refine AW_ret ?_ | with_reducible refine AW_region hTt ?_ | refine AW_draw hTt hMix (id := 11) 21 false [0, 1, 3, 7, 15, 31, 63, 127, 255, 511, 1023, 2047, 4095, 4095, 16383, 32767, 4095, 4095, 135167, 462847, 987135, 2097151, 4194303, 8388607] (by kernel_rfl) rfl rfl (by kernel_rfl) ?_ | refine LateGo.mk ⟨_, rfl, ?_⟩ | refine LateGo.mk ⟨.x .j, rfl, ?_⟩ | fail); conv => whnf) | (exact absurd hb (by omega)) | ((first | ((refine ⟨_, (oi).call rfl rfl, ?_⟩); (rintro _ _ ⟨rfl, rfl⟩)) | refine ⟨_, fun _ => (oi).call rfl rfl, ?_⟩ | refine ⟨_, fun _ _ => (oi).call rfl rfl, ?_⟩ | fail); conv => whnf) | (refine AW_cond rfl (fun _ => ?_) (fun hb => absurd (show true = false from hb) (by decide))) | (refine AW_cond rfl (fun hb => absurd (show false = true from hb) (by decide)) (fun _ => ?_)) | (refine AW_cond rfl (fun _ => ?_) (fun hb => absurd hb (by decide))) | (refine AW_cond rfl (fun hb => absurd hb (by decide)) (fun _ => ?_)) | (refine AW_cond rfl (fun hb => ?_) (fun hb => ?_) <;> first | (replace hb := of_decide_eq_true hb; try simp only [List.length_map] at hb) | (replace hb := of_decide_eq_false hb; try simp only [List.length_map] at hb) | (simp only [List.length_map, bne_iff_ne, ne_eq, beq_iff_eq, bne_eq_false_iff_eq, beq_eq_false_iff_ne, decide_eq_true_eq, decide_eq_false_iff_not, Bool.not_eq_true', Bool.not_eq_false', Int.natCast_inj] at hb) | skip) | ((first | refine ⟨_, wrap_of (by first | omega | (simp only [List.length_map]; omega)), ?_⟩ | refine ⟨IntKind.wrap _ _, rfl, ?_⟩ | refine andA ?_ | with_reducible refine Exists.intro _ (And.intro (gd_any (And.intro (by omega) (map_get (by omega)))) ?_) | with_reducible refine And.intro (gd_any (And.intro (by omega) (And.intro (by first | omega | (simp only [List.length_map]; omega)) (by first | omega | (simp only [List.length_map]; omega) | (simp only [List.length_set, List.length_map]; omega))))) ?_ | with_reducible refine Exists.intro _ (And.intro (gd_any (map_get' (by omega) (by omega))) (And.intro (And.intro (Nat.le_of_ble_eq_true rfl) rfl) ?_)) | with_reducible refine Exists.intro _ (And.intro (gd_any (And.intro (by omega) (map_get' (by omega) (by omega)))) ?_) | with_reducible refine And.intro (And.intro (by omega) (And.intro (by first | omega | (simp only [List.length_map]; omega)) (by first | omega | (simp only [List.length_map, List.length_set]; omega)))) ?_ | with_reducible refine Exists.intro _ (And.intro (map_get' (by omega) (by omega)) (And.intro (Nat.le_of_ble_eq_true rfl) ?_)) | fail); conv => whnf) | ((refine And.intro (by refine ⟨?_, ?_, ?_⟩ <;> simp [chunk, maxLen] <;> omega) ?_); conv => whnf) | (refine fun hln => ?_; (try rw [List.length_map] at hln); unfold maxLen at hln; conv => whnf) | fail
        rfl
      | false =>
        have hz1 : ∀ j (h : j < vs.length), j < i + 1 → outB 1 10000 vs[j] = false := fun j h hj => by
          by_cases e : j = i
          · subst e; exact hoi
          · exact hz j h (by omega)
        clear f2 f3 f4 hz o2 o3 hoi
        repeat' first | with_reducible refine AW_seq ?_ | with_reducible refine AW_block ?_ | with_reducible refine AW_scope ?_ | ((first | with_reducible refine AW_skip ?_ | with_reducible refine AW_label ?_ | with_reducible refine AW_exit ?_ | with_reducible refine AW_ret ?_ | with_reducible refine AW_region hTt ?_ | refine AW_draw hTt hMix (id := 11) 21 false [0, 1, 3, 7, 15, 31, 63, 127, 255, 511, 1023, 2047, 4095, 4095, 16383, 32767, 4095, 4095, 135167, 462847, 987135, 2097151, 4194303, 8388607] (by kernel_rfl) rfl rfl (by kernel_rfl) ?_ | refine LateGo.mk ⟨_, rfl, ?_⟩ | refine LateGo.mk ⟨.x .j, rfl, ?_⟩ | fail); conv => whnf) | (exact absurd hb (by omega)) | ((first | ((refine ⟨_, (oi).call rfl rfl, ?_⟩); (rintro _ _ ⟨rfl, rfl⟩)) | refine ⟨_, fun _ => (oi).call rfl rfl, ?_⟩ | refine ⟨_, fun _ _ => (oi).call rfl rfl, ?_⟩ | fail); conv => whnf) | (refine AW_cond rfl (fun _ => ?_) (fun hb => absurd (show true = false from hb) (by decide))) | (refine AW_cond rfl (fun hb => absurd (show false = true from hb) (by decide)) (fun _ => ?_)) | (refine AW_cond rfl (fun _ => ?_) (fun hb => absurd hb (by decide))) | (refine AW_cond rfl (fun hb => absurd hb (by decide)) (fun _ => ?_)) | (refine AW_cond rfl (fun hb => ?_) (fun hb => ?_) <;> first | (replace hb := of_decide_eq_true hb; try simp only [List.length_map] at hb) | (replace hb := of_decide_eq_false hb; try simp only [List.length_map] at hb) | (simp only [List.length_map, bne_iff_ne, ne_eq, beq_iff_eq, bne_eq_false_iff_eq, beq_eq_false_iff_ne, decide_eq_true_eq, decide_eq_false_iff_not, Bool.not_eq_true', Bool.not_eq_false', Int.natCast_inj] at hb) | skip) | ((first | refine ⟨_, wrap_of (by first | omega | (simp only [List.length_map]; omega)), ?_⟩ | refine ⟨IntKind.wrap _ _, rfl, ?_⟩ | refine andA ?_ | with_reducible refine Exists.intro _ (And.intro (gd_any (And.intro (by omega) (map_get (by omega)))) ?_) | with_reducible refine And.intro (gd_any (And.intro (by omega) (And.intro (by first | omega | (simp only [List.length_map]; omega)) (by first | omega | (simp only [List.length_map]; omega) | (simp only [List.length_set, List.length_map]; omega))))) ?_ | with_reducible refine Exists.intro _ (And.intro (gd_any (map_get' (by omega) (by omega))) (And.intro (And.intro (Nat.le_of_ble_eq_true rfl) rfl) ?_)) | with_reducible refine Exists.intro _ (And.intro (gd_any (And.intro (by omega) (map_get' (by omega) (by omega)))) ?_) | with_reducible refine And.intro (And.intro (by omega) (And.intro (by first | omega | (simp only [List.length_map]; omega)) (by first | omega | (simp only [List.length_map, List.length_set]; omega)))) ?_ | with_reducible refine Exists.intro _ (And.intro (map_get' (by omega) (by omega)) (And.intro (Nat.le_of_ble_eq_true rfl) ?_)) | fail); conv => whnf) | ((refine And.intro (by refine ⟨?_, ?_, ?_⟩ <;> simp [chunk, maxLen] <;> omega) ?_); conv => whnf) | (refine fun hln => ?_; (try rw [List.length_map] at hln); unfold maxLen at hln; conv => whnf) | fail
        exact ⟨i + 1, ⟨by omega, hz1⟩, by omega, impA⟩
    · obtain rfl : i = vs.length := by omega
      have hv := outL_all hz
      have f3 := f3 hv
      have f4 := f4 hv
      clear f2 hz o2 hv
      repeat' first | with_reducible refine AW_seq ?_ | with_reducible refine AW_block ?_ | with_reducible refine AW_scope ?_ | ((first | with_reducible refine AW_skip ?_ | with_reducible refine AW_label ?_ | with_reducible refine AW_exit ?_ | with_reducible refine AW_ret ?_ | with_reducible refine AW_region hTt ?_ | refine AW_draw hTt hMix (id := 11) 21 false [0, 1, 3, 7, 15, 31, 63, 127, 255, 511, 1023, 2047, 4095, 4095, 16383, 32767, 4095, 4095, 135167, 462847, 987135, 2097151, 4194303, 8388607] (by kernel_rfl) rfl rfl (by kernel_rfl) ?_ | refine LateGo.mk ⟨_, rfl, ?_⟩ | refine LateGo.mk ⟨.x .j, rfl, ?_⟩ | fail); conv => whnf) | (exact absurd hb (by omega)) | (refine AW_cond rfl (fun _ => ?_) (fun hb => absurd (show true = false from hb) (by decide))) | (refine AW_cond rfl (fun hb => absurd (show false = true from hb) (by decide)) (fun _ => ?_)) | (refine AW_cond rfl (fun _ => ?_) (fun hb => absurd hb (by decide))) | (refine AW_cond rfl (fun hb => absurd hb (by decide)) (fun _ => ?_)) | (refine AW_cond rfl (fun hb => ?_) (fun hb => ?_) <;> first | (replace hb := of_decide_eq_true hb; try simp only [List.length_map] at hb) | (replace hb := of_decide_eq_false hb; try simp only [List.length_map] at hb) | (simp only [List.length_map, bne_iff_ne, ne_eq, beq_iff_eq, bne_eq_false_iff_eq, beq_eq_false_iff_ne, decide_eq_true_eq, decide_eq_false_iff_not, Bool.not_eq_true', Bool.not_eq_false', Int.natCast_inj] at hb) | skip) | ((first | refine ⟨_, wrap_of (by first | omega | (simp only [List.length_map]; omega)), ?_⟩ | refine ⟨IntKind.wrap _ _, rfl, ?_⟩ | refine andA ?_ | with_reducible refine Exists.intro _ (And.intro (gd_any (And.intro (by omega) (map_get (by omega)))) ?_) | with_reducible refine And.intro (gd_any (And.intro (by omega) (And.intro (by first | omega | (simp only [List.length_map]; omega)) (by first | omega | (simp only [List.length_map]; omega) | (simp only [List.length_set, List.length_map]; omega))))) ?_ | with_reducible refine Exists.intro _ (And.intro (gd_any (map_get' (by omega) (by omega))) (And.intro (And.intro (Nat.le_of_ble_eq_true rfl) rfl) ?_)) | with_reducible refine Exists.intro _ (And.intro (gd_any (And.intro (by omega) (map_get' (by omega) (by omega)))) ?_) | with_reducible refine And.intro (And.intro (by omega) (And.intro (by first | omega | (simp only [List.length_map]; omega)) (by first | omega | (simp only [List.length_map, List.length_set]; omega)))) ?_ | with_reducible refine Exists.intro _ (And.intro (map_get' (by omega) (by omega)) (And.intro (Nat.le_of_ble_eq_true rfl) ?_)) | fail); conv => whnf) | ((refine And.intro (by refine ⟨?_, ?_, ?_⟩ <;> simp [chunk, maxLen] <;> omega) ?_); conv => whnf) | (refine fun hln => ?_; (try rw [List.length_map] at hln); unfold maxLen at hln; conv => whnf) | fail
      clear hb
      refine AW_loop (fun i : Nat => [(6, iv .i64 i), (0, sl vs), (1, sl am)]) (fun _ => [])
        (fun i => i ≤ vs.length ∧ (0 < i → vs.getD 0 0 = 1) ∧ ∀ j, j + 1 < i → ¬ vs.getD (j + 1) 0 ≤ vs.getD j 0) (fun i => vs.length - i) 0 ⟨Nat.zero_le _, fun h => absurd h (Nat.not_lt_zero _), fun j h => absurd h (Nat.not_lt_zero _)⟩ impA ?_
      rintro i ⟨hi, hz0, hz⟩
      rcases Nat.lt_or_ge i vs.length with hil | hil
      · clear f4 o3
        cases i with
        | zero =>
          have e0 : vs[0]? = some (vs.getD 0 0) := by rw [List.getD_eq_getElem?_getD, List.getElem?_eq_getElem hil]; rfl
          have gf : ¬ (((!bif ((0 : Nat) : Int) == 0 then (vs.getD 0 0 != 1) else false) && decide ((0 : Int) < ((0 : Nat) : Int))) = true) := by simp
          by_cases h1 : vs.getD 0 0 = 1
          · have hz1 : ∀ j, j + 1 < 1 → ¬ vs.getD (j + 1) 0 ≤ vs.getD j 0 := fun j h => absurd h (by omega)
            have hz2 : 0 < 1 → vs.getD 0 0 = 1 := fun _ => h1
            clear f3 hz0 hz
            rw [h1] at e0 gf
            repeat' first | with_reducible refine AW_seq ?_ | with_reducible refine AW_block ?_ | with_reducible refine AW_scope ?_ | ((first | with_reducible refine AW_skip ?_ | with_reducible refine AW_label ?_ | with_reducible refine AW_exit ?_ | with_reducible refine AW_ret ?_ | with_reducible refine AW_region hTt ?_ | refine AW_draw hTt hMix (id := 11) 21 false [0, 1, 3, 7, 15, 31, 63, 127, 255, 511, 1023, 2047, 4095, 4095, 16383, 32767, 4095, 4095, 135167, 462847, 987135, 2097151, 4194303, 8388607] (by kernel_rfl) rfl rfl (by kernel_rfl) ?_ | refine LateGo.mk ⟨_, rfl, ?_⟩ | refine LateGo.mk ⟨.x .j, rfl, ?_⟩ | fail); conv => whnf) | (exact absurd hb (by omega)) | ((first | with_reducible refine Exists.intro _ (And.intro (gd_any (And.intro (by omega) (map_some e0))) ?_) | refine ⟨[PV.v (.int .i64 0)], fun h => absurd h gf, ?_⟩ | fail); conv => whnf) | (refine AW_cond rfl (fun _ => ?_) (fun hb => absurd (show true = false from hb) (by decide))) | (refine AW_cond rfl (fun hb => absurd (show false = true from hb) (by decide)) (fun _ => ?_)) | (refine AW_cond rfl (fun _ => ?_) (fun hb => absurd hb (by decide))) | (refine AW_cond rfl (fun hb => absurd hb (by decide)) (fun _ => ?_)) | (refine AW_cond rfl (fun hb => ?_) (fun hb => ?_) <;> first | (replace hb := of_decide_eq_true hb; try simp only [List.length_map] at hb) | (replace hb := of_decide_eq_false hb; try simp only [List.length_map] at hb) | (simp only [List.length_map, bne_iff_ne, ne_eq, beq_iff_eq, bne_eq_false_iff_eq, beq_eq_false_iff_ne, decide_eq_true_eq, decide_eq_false_iff_not, Bool.not_eq_true', Bool.not_eq_false', Int.natCast_inj] at hb) | skip) | ((first | refine ⟨_, wrap_of (by first | omega | (simp only [List.length_map]; omega)), ?_⟩ | refine ⟨IntKind.wrap _ _, rfl, ?_⟩ | refine andA ?_ | with_reducible refine Exists.intro _ (And.intro (gd_any (And.intro (by omega) (map_get (by omega)))) ?_) | with_reducible refine And.intro (gd_any (And.intro (by omega) (And.intro (by first | omega | (simp only [List.length_map]; omega)) (by first | omega | (simp only [List.length_map]; omega) | (simp only [List.length_set, List.length_map]; omega))))) ?_ | with_reducible refine Exists.intro _ (And.intro (gd_any (map_get' (by omega) (by omega))) (And.intro (And.intro (Nat.le_of_ble_eq_true rfl) rfl) ?_)) | with_reducible refine Exists.intro _ (And.intro (gd_any (And.intro (by omega) (map_get' (by omega) (by omega)))) ?_) | with_reducible refine And.intro (And.intro (by omega) (And.intro (by first | omega | (simp only [List.length_map]; omega)) (by first | omega | (simp only [List.length_map, List.length_set]; omega)))) ?_ | with_reducible refine Exists.intro _ (And.intro (map_get' (by omega) (by omega)) (And.intro (Nat.le_of_ble_eq_true rfl) ?_)) | fail); conv => whnf) | ((refine And.intro (by refine ⟨?_, ?_, ?_⟩ <;> simp [chunk, maxLen] <;> omega) ?_); conv => whnf) | (refine fun hln => ?_; (try rw [List.length_map] at hln); unfold maxLen at hln; conv => whnf) | fail
            exact ⟨1, ⟨by omega, hz2, hz1⟩, by omega, impA⟩
          · obtain rfl := f3 (.inl h1)
            clear f3 hz0 hz
            generalize vs.getD 0 0 = v at *
            have hb1 : (v != 1) = true := by simpa using h1
            rw [hb1] at gf
            have hcT : (bif bif ((0 : Nat) : Int) == 0 then v != 1 else false then true else bif decide ((0 : Int) < ((0 : Nat) : Int)) then decide (v ≤ 0) else false) = true := by rw [hb1]; rfl
            have tf : ¬ (true = false) := by decide
            repeat' first | with_reducible refine AW_seq ?_ | with_reducible refine AW_block ?_ | with_reducible refine AW_scope ?_ | ((first | with_reducible refine AW_skip ?_ | with_reducible refine AW_label ?_ | with_reducible refine AW_exit ?_ | with_reducible refine AW_ret ?_ | with_reducible refine AW_region hTt ?_ | refine AW_draw hTt hMix (id := 11) 21 false [0, 1, 3, 7, 15, 31, 63, 127, 255, 511, 1023, 2047, 4095, 4095, 16383, 32767, 4095, 4095, 135167, 462847, 987135, 2097151, 4194303, 8388607] (by kernel_rfl) rfl rfl (by kernel_rfl) ?_ | refine LateGo.mk ⟨_, rfl, ?_⟩ | refine LateGo.mk ⟨.x .j, rfl, ?_⟩ | fail); conv => whnf) | (exact absurd hb (by omega)) | ((first | with_reducible refine Exists.intro _ (And.intro (gd_any (And.intro (by omega) (map_some e0))) ?_) | refine ⟨[PV.v (.int .i64 0)], fun h => absurd h (by rw [hb1]; exact gf), ?_⟩ | fail); conv => whnf) | (exact absurd (hcT.symm.trans hb) tf) | (refine AW_cond rfl (fun _ => ?_) (fun hb => absurd (show true = false from hb) (by decide))) | (refine AW_cond rfl (fun hb => absurd (show false = true from hb) (by decide)) (fun _ => ?_)) | (refine AW_cond rfl (fun _ => ?_) (fun hb => absurd hb (by decide))) | (refine AW_cond rfl (fun hb => absurd hb (by decide)) (fun _ => ?_)) | (refine AW_cond rfl (fun hb => ?_) (fun hb => ?_) <;> first | (replace hb := of_decide_eq_true hb; try simp only [List.length_map] at hb) | (replace hb := of_decide_eq_false hb; try simp only [List.length_map] at hb) | (simp only [List.length_map, bne_iff_ne, ne_eq, beq_iff_eq, bne_eq_false_iff_eq, beq_eq_false_iff_ne, decide_eq_true_eq, decide_eq_false_iff_not, Bool.not_eq_true', Bool.not_eq_false', Int.natCast_inj] at hb) | skip) | ((first | refine ⟨_, wrap_of (by first | omega | (simp only [List.length_map]; omega)), ?_⟩ | refine ⟨IntKind.wrap _ _, rfl, ?_⟩ | refine andA ?_ | with_reducible refine Exists.intro _ (And.intro (gd_any (And.intro (by omega) (map_get (by omega)))) ?_) | with_reducible refine And.intro (gd_any (And.intro (by omega) (And.intro (by first | omega | (simp only [List.length_map]; omega)) (by first | omega | (simp only [List.length_map]; omega) | (simp only [List.length_set, List.length_map]; omega))))) ?_ | with_reducible refine Exists.intro _ (And.intro (gd_any (map_get' (by omega) (by omega))) (And.intro (And.intro (Nat.le_of_ble_eq_true rfl) rfl) ?_)) | with_reducible refine Exists.intro _ (And.intro (gd_any (And.intro (by omega) (map_get' (by omega) (by omega)))) ?_) | with_reducible refine And.intro (And.intro (by omega) (And.intro (by first | omega | (simp only [List.length_map]; omega)) (by first | omega | (simp only [List.length_map, List.length_set]; omega)))) ?_ | with_reducible refine Exists.intro _ (And.intro (map_get' (by omega) (by omega)) (And.intro (Nat.le_of_ble_eq_true rfl) ?_)) | fail); conv => whnf) | ((refine And.intro (by refine ⟨?_, ?_, ?_⟩ <;> simp [chunk, maxLen] <;> omega) ?_); conv => whnf) | (refine fun hln => ?_; (try rw [List.length_map] at hln); unfold maxLen at hln; conv => whnf) | fail
            rfl
        | succ i =>
          have e0 : vs[0]? = some (vs.getD 0 0) := by rw [List.getD_eq_getElem?_getD, List.getElem?_eq_getElem (by omega)]; rfl
          have a1 : vs[i + 1]? = some (vs.getD (i + 1) 0) := by rw [List.getD_eq_getElem?_getD, List.getElem?_eq_getElem hil]; rfl
          have a0 : vs[(((i + 1 : Nat) : Int) - 1).toNat]? = some (vs.getD i 0) := by
            rw [show (((i + 1 : Nat) : Int) - 1).toNat = i by omega, List.getD_eq_getElem?_getD, List.getElem?_eq_getElem (by omega)]; rfl
          by_cases h1 : vs.getD (i + 1) 0 ≤ vs.getD i 0
          · obtain rfl := f3 (.inr (List.any_eq_true.2 ⟨i, by rw [List.mem_range]; omega, decide_eq_true h1⟩))
            clear f3 hz0 hz
            generalize vs.getD (i + 1) 0 = y1 at *
            generalize vs.getD i 0 = y0 at *
            generalize vs.getD 0 0 = v at *
            have hcT := (cnd_s i v y1 y0).trans (decide_eq_true h1)
            have tf : ¬ (true = false) := by decide
            repeat' first | with_reducible refine AW_seq ?_ | with_reducible refine AW_block ?_ | with_reducible refine AW_scope ?_ | ((first | with_reducible refine AW_skip ?_ | with_reducible refine AW_label ?_ | with_reducible refine AW_exit ?_ | with_reducible refine AW_ret ?_ | with_reducible refine AW_region hTt ?_ | refine AW_draw hTt hMix (id := 11) 21 false [0, 1, 3, 7, 15, 31, 63, 127, 255, 511, 1023, 2047, 4095, 4095, 16383, 32767, 4095, 4095, 135167, 462847, 987135, 2097151, 4194303, 8388607] (by kernel_rfl) rfl rfl (by kernel_rfl) ?_ | refine LateGo.mk ⟨_, rfl, ?_⟩ | refine LateGo.mk ⟨.x .j, rfl, ?_⟩ | refine And.intro (fun h => nt_of h) ?_ | fail); conv => whnf) | (exact absurd (hcT.symm.trans hb) tf) | (exact absurd hb (by omega)) | ((first | with_reducible refine Exists.intro _ (And.intro (gd_any (And.intro (by omega) (map_some a1))) ?_) | with_reducible refine Exists.intro _ (And.intro (gd_any (And.intro (by omega) (map_some' a0))) ?_) | with_reducible refine Exists.intro _ (And.intro (gd_any (And.intro (by omega) (map_some e0))) ?_) | fail); conv => whnf) | (refine AW_cond rfl (fun _ => ?_) (fun hb => absurd (show true = false from hb) (by decide))) | (refine AW_cond rfl (fun hb => absurd (show false = true from hb) (by decide)) (fun _ => ?_)) | (refine AW_cond rfl (fun _ => ?_) (fun hb => absurd hb (by decide))) | (refine AW_cond rfl (fun hb => absurd hb (by decide)) (fun _ => ?_)) | (refine AW_cond rfl (fun hb => ?_) (fun hb => ?_) <;> first | (replace hb := of_decide_eq_true hb; try simp only [List.length_map] at hb) | (replace hb := of_decide_eq_false hb; try simp only [List.length_map] at hb) | (simp only [List.length_map, bne_iff_ne, ne_eq, beq_iff_eq, bne_eq_false_iff_eq, beq_eq_false_iff_ne, decide_eq_true_eq, decide_eq_false_iff_not, Bool.not_eq_true', Bool.not_eq_false', Int.natCast_inj] at hb) | skip) | ((first | refine ⟨_, wrap_of (by first | omega | (simp only [List.length_map]; omega)), ?_⟩ | refine ⟨IntKind.wrap _ _, rfl, ?_⟩ | refine andA ?_ | with_reducible refine Exists.intro _ (And.intro (gd_any (And.intro (by omega) (map_get (by omega)))) ?_) | with_reducible refine And.intro (gd_any (And.intro (by omega) (And.intro (by first | omega | (simp only [List.length_map]; omega)) (by first | omega | (simp only [List.length_map]; omega) | (simp only [List.length_set, List.length_map]; omega))))) ?_ | with_reducible refine Exists.intro _ (And.intro (gd_any (map_get' (by omega) (by omega))) (And.intro (And.intro (Nat.le_of_ble_eq_true rfl) rfl) ?_)) | with_reducible refine Exists.intro _ (And.intro (gd_any (And.intro (by omega) (map_get' (by omega) (by omega)))) ?_) | with_reducible refine And.intro (And.intro (by omega) (And.intro (by first | omega | (simp only [List.length_map]; omega)) (by first | omega | (simp only [List.length_map, List.length_set]; omega)))) ?_ | with_reducible refine Exists.intro _ (And.intro (map_get' (by omega) (by omega)) (And.intro (Nat.le_of_ble_eq_true rfl) ?_)) | fail); conv => whnf) | ((refine And.intro (by refine ⟨?_, ?_, ?_⟩ <;> simp [chunk, maxLen] <;> omega) ?_); conv => whnf) | (refine fun hln => ?_; (try rw [List.length_map] at hln); unfold maxLen at hln; conv => whnf) | fail
            rfl
          · have hz1 : ∀ j, j + 1 < i + 1 + 1 → ¬ vs.getD (j + 1) 0 ≤ vs.getD j 0 := fun j hj => by
              by_cases e : j = i
              · subst e; exact h1
              · exact hz j (by omega)
            have hz2 : 0 < i + 1 + 1 → vs.getD 0 0 = 1 := fun _ => hz0 (by omega)
            clear f3 hz0 hz
            generalize hy1 : vs.getD (i + 1) 0 = y1 at h1 a1
            generalize hy0 : vs.getD i 0 = y0 at h1 a0
            clear hy1 hy0
            generalize hv : vs.getD 0 0 = v at e0
            have hcT := (cnd_s i v y1 y0).trans (decide_eq_false h1)
            have ft : ¬ (false = true) := by decide
            repeat' first | with_reducible refine AW_seq ?_ | with_reducible refine AW_block ?_ | with_reducible refine AW_scope ?_ | ((first | with_reducible refine AW_skip ?_ | with_reducible refine AW_label ?_ | with_reducible refine AW_exit ?_ | with_reducible refine AW_ret ?_ | with_reducible refine AW_region hTt ?_ | refine AW_draw hTt hMix (id := 11) 21 false [0, 1, 3, 7, 15, 31, 63, 127, 255, 511, 1023, 2047, 4095, 4095, 16383, 32767, 4095, 4095, 135167, 462847, 987135, 2097151, 4194303, 8388607] (by kernel_rfl) rfl rfl (by kernel_rfl) ?_ | refine LateGo.mk ⟨_, rfl, ?_⟩ | refine LateGo.mk ⟨.x .j, rfl, ?_⟩ | refine And.intro (fun h => nt_of h) ?_ | fail); conv => whnf) | (exact absurd (hcT.symm.trans hb) ft) | (exact absurd hb (by omega)) | ((first | with_reducible refine Exists.intro _ (And.intro (gd_any (And.intro (by omega) (map_some a1))) ?_) | with_reducible refine Exists.intro _ (And.intro (gd_any (And.intro (by omega) (map_some' a0))) ?_) | with_reducible refine Exists.intro _ (And.intro (gd_any (And.intro (by omega) (map_some e0))) ?_) | fail); conv => whnf) | (refine AW_cond rfl (fun _ => ?_) (fun hb => absurd (show true = false from hb) (by decide))) | (refine AW_cond rfl (fun hb => absurd (show false = true from hb) (by decide)) (fun _ => ?_)) | (refine AW_cond rfl (fun _ => ?_) (fun hb => absurd hb (by decide))) | (refine AW_cond rfl (fun hb => absurd hb (by decide)) (fun _ => ?_)) | (refine AW_cond rfl (fun hb => ?_) (fun hb => ?_) <;> first | (replace hb := of_decide_eq_true hb; try simp only [List.length_map] at hb) | (replace hb := of_decide_eq_false hb; try simp only [List.length_map] at hb) | (simp only [List.length_map, bne_iff_ne, ne_eq, beq_iff_eq, bne_eq_false_iff_eq, beq_eq_false_iff_ne, decide_eq_true_eq, decide_eq_false_iff_not, Bool.not_eq_true', Bool.not_eq_false', Int.natCast_inj] at hb) | skip) | ((first | refine ⟨_, wrap_of (by first | omega | (simp only [List.length_map]; omega)), ?_⟩ | refine ⟨IntKind.wrap _ _, rfl, ?_⟩ | refine andA ?_ | with_reducible refine Exists.intro _ (And.intro (gd_any (And.intro (by omega) (map_get (by omega)))) ?_) | with_reducible refine And.intro (gd_any (And.intro (by omega) (And.intro (by first | omega | (simp only [List.length_map]; omega)) (by first | omega | (simp only [List.length_map]; omega) | (simp only [List.length_set, List.length_map]; omega))))) ?_ | with_reducible refine Exists.intro _ (And.intro (gd_any (map_get' (by omega) (by omega))) (And.intro (And.intro (Nat.le_of_ble_eq_true rfl) rfl) ?_)) | with_reducible refine Exists.intro _ (And.intro (gd_any (And.intro (by omega) (map_get' (by omega) (by omega)))) ?_) | with_reducible refine And.intro (And.intro (by omega) (And.intro (by first | omega | (simp only [List.length_map]; omega)) (by first | omega | (simp only [List.length_map, List.length_set]; omega)))) ?_ | with_reducible refine Exists.intro _ (And.intro (map_get' (by omega) (by omega)) (And.intro (Nat.le_of_ble_eq_true rfl) ?_)) | fail); conv => whnf) | ((refine And.intro (by refine ⟨?_, ?_, ?_⟩ <;> simp [chunk, maxLen] <;> omega) ?_); conv => whnf) | (refine fun hln => ?_; (try rw [List.length_map] at hln); unfold maxLen at hln; conv => whnf) | fail
            exact ⟨i + 1 + 1, ⟨by omega, (fun h => hv.symm.trans (hz2 h)), hz1⟩, by omega, impA⟩
      · obtain rfl : i = vs.length := by omega
        have ha : ascBad vs = false := by
          unfold ascBad
          rw [List.any_eq_false]
          intro j hj
          rw [List.mem_range] at hj
          simpa using hz j (by omega)
        have f4 := f4 (hz0 (by omega)) ha
        clear f3 hz0 hz ha
        by_cases h40 : 40 < am.length
        · rw [if_pos h40] at f4
          subst f4
          clear o3
          repeat' first | with_reducible refine AW_seq ?_ | with_reducible refine AW_block ?_ | with_reducible refine AW_scope ?_ | ((first | with_reducible refine AW_skip ?_ | with_reducible refine AW_label ?_ | with_reducible refine AW_exit ?_ | with_reducible refine AW_ret ?_ | with_reducible refine AW_region hTt ?_ | refine AW_draw hTt hMix (id := 11) 21 false [0, 1, 3, 7, 15, 31, 63, 127, 255, 511, 1023, 2047, 4095, 4095, 16383, 32767, 4095, 4095, 135167, 462847, 987135, 2097151, 4194303, 8388607] (by kernel_rfl) rfl rfl (by kernel_rfl) ?_ | refine LateGo.mk ⟨_, rfl, ?_⟩ | refine LateGo.mk ⟨.x .j, rfl, ?_⟩ | fail); conv => whnf) | (exact absurd hb (by omega)) | (refine AW_cond rfl (fun _ => ?_) (fun hb => absurd (show true = false from hb) (by decide))) | (refine AW_cond rfl (fun hb => absurd (show false = true from hb) (by decide)) (fun _ => ?_)) | (refine AW_cond rfl (fun _ => ?_) (fun hb => absurd hb (by decide))) | (refine AW_cond rfl (fun hb => absurd hb (by decide)) (fun _ => ?_)) | (refine AW_cond rfl (fun hb => ?_) (fun hb => ?_) <;> first | (replace hb := of_decide_eq_true hb; try simp only [List.length_map] at hb) | (replace hb := of_decide_eq_false hb; try simp only [List.length_map] at hb) | (simp only [List.length_map, bne_iff_ne, ne_eq, beq_iff_eq, bne_eq_false_iff_eq, beq_eq_false_iff_ne, decide_eq_true_eq, decide_eq_false_iff_not, Bool.not_eq_true', Bool.not_eq_false', Int.natCast_inj] at hb) | skip) | ((first | refine ⟨_, wrap_of (by first | omega | (simp only [List.length_map]; omega)), ?_⟩ | refine ⟨IntKind.wrap _ _, rfl, ?_⟩ | refine andA ?_ | with_reducible refine Exists.intro _ (And.intro (gd_any (And.intro (by omega) (map_get (by omega)))) ?_) | with_reducible refine And.intro (gd_any (And.intro (by omega) (And.intro (by first | omega | (simp only [List.length_map]; omega)) (by first | omega | (simp only [List.length_map]; omega) | (simp only [List.length_set, List.length_map]; omega))))) ?_ | with_reducible refine Exists.intro _ (And.intro (gd_any (map_get' (by omega) (by omega))) (And.intro (And.intro (Nat.le_of_ble_eq_true rfl) rfl) ?_)) | with_reducible refine Exists.intro _ (And.intro (gd_any (And.intro (by omega) (map_get' (by omega) (by omega)))) ?_) | with_reducible refine And.intro (And.intro (by omega) (And.intro (by first | omega | (simp only [List.length_map]; omega)) (by first | omega | (simp only [List.length_map, List.length_set]; omega)))) ?_ | with_reducible refine Exists.intro _ (And.intro (map_get' (by omega) (by omega)) (And.intro (Nat.le_of_ble_eq_true rfl) ?_)) | fail); conv => whnf) | ((refine And.intro (by refine ⟨?_, ?_, ?_⟩ <;> simp [chunk, maxLen] <;> omega) ?_); conv => whnf) | (refine fun hln => ?_; (try rw [List.length_map] at hln); unfold maxLen at hln; conv => whnf) | fail
          rfl
        · rw [if_neg h40] at f4
          repeat' first | with_reducible refine AW_seq ?_ | with_reducible refine AW_block ?_ | with_reducible refine AW_scope ?_ | ((first | with_reducible refine AW_skip ?_ | with_reducible refine AW_label ?_ | with_reducible refine AW_exit ?_ | with_reducible refine AW_ret ?_ | with_reducible refine AW_region hTt ?_ | refine AW_draw hTt hMix (id := 11) 21 false [0, 1, 3, 7, 15, 31, 63, 127, 255, 511, 1023, 2047, 4095, 4095, 16383, 32767, 4095, 4095, 135167, 462847, 987135, 2097151, 4194303, 8388607] (by kernel_rfl) rfl rfl (by kernel_rfl) ?_ | refine LateGo.mk ⟨_, rfl, ?_⟩ | refine LateGo.mk ⟨.x .j, rfl, ?_⟩ | fail); conv => whnf) | (exact absurd hb (by omega)) | (refine AW_cond rfl (fun _ => ?_) (fun hb => absurd (show true = false from hb) (by decide))) | (refine AW_cond rfl (fun hb => absurd (show false = true from hb) (by decide)) (fun _ => ?_)) | (refine AW_cond rfl (fun _ => ?_) (fun hb => absurd hb (by decide))) | (refine AW_cond rfl (fun hb => absurd hb (by decide)) (fun _ => ?_)) | (refine AW_cond rfl (fun hb => ?_) (fun hb => ?_) <;> first | (replace hb := of_decide_eq_true hb; try simp only [List.length_map] at hb) | (replace hb := of_decide_eq_false hb; try simp only [List.length_map] at hb) | (simp only [List.length_map, bne_iff_ne, ne_eq, beq_iff_eq, bne_eq_false_iff_eq, beq_eq_false_iff_ne, decide_eq_true_eq, decide_eq_false_iff_not, Bool.not_eq_true', Bool.not_eq_false', Int.natCast_inj] at hb) | skip) | ((first | refine ⟨_, wrap_of (by first | omega | (simp only [List.length_map]; omega)), ?_⟩ | refine ⟨IntKind.wrap _ _, rfl, ?_⟩ | refine andA ?_ | with_reducible refine Exists.intro _ (And.intro (gd_any (And.intro (by omega) (map_get (by omega)))) ?_) | with_reducible refine And.intro (gd_any (And.intro (by omega) (And.intro (by first | omega | (simp only [List.length_map]; omega)) (by first | omega | (simp only [List.length_map]; omega) | (simp only [List.length_set, List.length_map]; omega))))) ?_ | with_reducible refine Exists.intro _ (And.intro (gd_any (map_get' (by omega) (by omega))) (And.intro (And.intro (Nat.le_of_ble_eq_true rfl) rfl) ?_)) | with_reducible refine Exists.intro _ (And.intro (gd_any (And.intro (by omega) (map_get' (by omega) (by omega)))) ?_) | with_reducible refine And.intro (And.intro (by omega) (And.intro (by first | omega | (simp only [List.length_map]; omega)) (by first | omega | (simp only [List.length_map, List.length_set]; omega)))) ?_ | with_reducible refine Exists.intro _ (And.intro (map_get' (by omega) (by omega)) (And.intro (Nat.le_of_ble_eq_true rfl) ?_)) | fail); conv => whnf) | ((refine And.intro (by refine ⟨?_, ?_, ?_⟩ <;> simp [chunk, maxLen] <;> omega) ?_); conv => whnf) | (refine fun hln => ?_; (try rw [List.length_map] at hln); unfold maxLen at hln; conv => whnf) | fail
          refine AW_loop (fun i : Nat => [(7, iv .i64 i), (0, sl vs), (1, sl am)]) (fun _ => [])
            (fun i => i ≤ am.length ∧ ∀ j (h : j < am.length), j < i → outB 0 10000 am[j] = false) (fun i => am.length - i) 0 ⟨Nat.zero_le _, fun j _ h => absurd h (Nat.not_lt_zero _)⟩ impA ?_
          rintro i ⟨hi, hz⟩
          rcases Nat.lt_or_ge i am.length with hil | hil
          · have oi := o3 am[i]
            generalize hoi : outB 0 10000 am[i] = b at oi
            cases b with
            | true =>
              rw [if_pos (outL_at hil hoi)] at f4
              subst f4
              clear hz o3 hoi
              repeat' first | with_reducible refine AW_seq ?_ | with_reducible refine AW_block ?_ | with_reducible refine AW_scope ?_ | ((first | with_reducible refine AW_skip ?_ | with_reducible refine AW_label ?_ | with_reducible refine AW_exit ?_ | with_reducible refine AW_ret ?_ | with_reducible refine AW_region hTt ?_ | refine AW_draw hTt hMix (id := 11) 21 false [0, 1, 3, 7, 15, 31, 63, 127, 255, 511, 1023, 2047, 4095, 4095, 16383, 32767, 4095, 4095, 135167, 462847, 987135, 2097151, 4194303, 8388607] (by kernel_rfl) rfl rfl (by kernel_rfl) ?_ | refine LateGo.mk ⟨_, rfl, ?_⟩ | refine LateGo.mk ⟨.x .j, rfl, ?_⟩ | fail); conv => whnf) | (exact absurd hb (by omega)) | ((first | ((refine ⟨_, (oi).call rfl rfl, ?_⟩); (rintro _ _ ⟨rfl, rfl⟩)) | refine ⟨_, fun _ => (oi).call rfl rfl, ?_⟩ | refine ⟨_, fun _ _ => (oi).call rfl rfl, ?_⟩ | fail); conv => whnf) | (refine AW_cond rfl (fun _ => ?_) (fun hb => absurd (show true = false from hb) (by decide))) | (refine AW_cond rfl (fun hb => absurd (show false = true from hb) (by decide)) (fun _ => ?_)) | (refine AW_cond rfl (fun _ => ?_) (fun hb => absurd hb (by decide))) | (refine AW_cond rfl (fun hb => absurd hb (by decide)) (fun _ => ?_)) | (refine AW_cond rfl (fun hb => ?_) (fun hb => ?_) <;> first | (replace hb := of_decide_eq_true hb; try simp only [List.length_map] at hb) | (replace hb := of_decide_eq_false hb; try simp only [List.length_map] at hb) | (simp only [List.length_map, bne_iff_ne, ne_eq, beq_iff_eq, bne_eq_false_iff_eq, beq_eq_false_iff_ne, decide_eq_true_eq, decide_eq_false_iff_not, Bool.not_eq_true', Bool.not_eq_false', Int.natCast_inj] at hb) | skip) | ((first | refine ⟨_, wrap_of (by first | omega | (simp only [List.length_map]; omega)), ?_⟩ | refine ⟨IntKind.wrap _ _, rfl, ?_⟩ | refine andA ?_ | with_reducible refine Exists.intro _ (And.intro (gd_any (And.intro (by omega) (map_get (by omega)))) ?_) | with_reducible refine And.intro (gd_any (And.intro (by omega) (And.intro (by first | omega | (simp only [List.length_map]; omega)) (by first | omega | (simp only [List.length_map]; omega) | (simp only [List.length_set, List.length_map]; omega))))) ?_ | with_reducible refine Exists.intro _ (And.intro (gd_any (map_get' (by omega) (by omega))) (And.intro (And.intro (Nat.le_of_ble_eq_true rfl) rfl) ?_)) | with_reducible refine Exists.intro _ (And.intro (gd_any (And.intro (by omega) (map_get' (by omega) (by omega)))) ?_) | with_reducible refine And.intro (And.intro (by omega) (And.intro (by first | omega | (simp only [List.length_map]; omega)) (by first | omega | (simp only [List.length_map, List.length_set]; omega)))) ?_ | with_reducible refine Exists.intro _ (And.intro (map_get' (by omega) (by omega)) (And.intro (Nat.le_of_ble_eq_true rfl) ?_)) | fail); conv => whnf) | ((refine And.intro (by refine ⟨?_, ?_, ?_⟩ <;> simp [chunk, maxLen] <;> omega) ?_); conv => whnf) | (refine fun hln => ?_; (try rw [List.length_map] at hln); unfold maxLen at hln; conv => whnf) | fail
              rfl
            | false =>
              have hz1 : ∀ j (h : j < am.length), j < i + 1 → outB 0 10000 am[j] = false := fun j h hj => by
                by_cases e : j = i
                · subst e; exact hoi
                · exact hz j h (by omega)
              clear f4 hz o3 hoi
              repeat' first | with_reducible refine AW_seq ?_ | with_reducible refine AW_block ?_ | with_reducible refine AW_scope ?_ | ((first | with_reducible refine AW_skip ?_ | with_reducible refine AW_label ?_ | with_reducible refine AW_exit ?_ | with_reducible refine AW_ret ?_ | with_reducible refine AW_region hTt ?_ | refine AW_draw hTt hMix (id := 11) 21 false [0, 1, 3, 7, 15, 31, 63, 127, 255, 511, 1023, 2047, 4095, 4095, 16383, 32767, 4095, 4095, 135167, 462847, 987135, 2097151, 4194303, 8388607] (by kernel_rfl) rfl rfl (by kernel_rfl) ?_ | refine LateGo.mk ⟨_, rfl, ?_⟩ | refine LateGo.mk ⟨.x .j, rfl, ?_⟩ | fail); conv => whnf) | (exact absurd hb (by omega)) | ((first | ((refine ⟨_, (oi).call rfl rfl, ?_⟩); (rintro _ _ ⟨rfl, rfl⟩)) | refine ⟨_, fun _ => (oi).call rfl rfl, ?_⟩ | refine ⟨_, fun _ _ => (oi).call rfl rfl, ?_⟩ | fail); conv => whnf) | (refine AW_cond rfl (fun _ => ?_) (fun hb => absurd (show true = false from hb) (by decide))) | (refine AW_cond rfl (fun hb => absurd (show false = true from hb) (by decide)) (fun _ => ?_)) | (refine AW_cond rfl (fun _ => ?_) (fun hb => absurd hb (by decide))) | (refine AW_cond rfl (fun hb => absurd hb (by decide)) (fun _ => ?_)) | (refine AW_cond rfl (fun hb => ?_) (fun hb => ?_) <;> first | (replace hb := of_decide_eq_true hb; try simp only [List.length_map] at hb) | (replace hb := of_decide_eq_false hb; try simp only [List.length_map] at hb) | (simp only [List.length_map, bne_iff_ne, ne_eq, beq_iff_eq, bne_eq_false_iff_eq, beq_eq_false_iff_ne, decide_eq_true_eq, decide_eq_false_iff_not, Bool.not_eq_true', Bool.not_eq_false', Int.natCast_inj] at hb) | skip) | ((first | refine ⟨_, wrap_of (by first | omega | (simp only [List.length_map]; omega)), ?_⟩ | refine ⟨IntKind.wrap _ _, rfl, ?_⟩ | refine andA ?_ | with_reducible refine Exists.intro _ (And.intro (gd_any (And.intro (by omega) (map_get (by omega)))) ?_) | with_reducible refine And.intro (gd_any (And.intro (by omega) (And.intro (by first | omega | (simp only [List.length_map]; omega)) (by first | omega | (simp only [List.length_map]; omega) | (simp only [List.length_set, List.length_map]; omega))))) ?_ | with_reducible refine Exists.intro _ (And.intro (gd_any (map_get' (by omega) (by omega))) (And.intro (And.intro (Nat.le_of_ble_eq_true rfl) rfl) ?_)) | with_reducible refine Exists.intro _ (And.intro (gd_any (And.intro (by omega) (map_get' (by omega) (by omega)))) ?_) | with_reducible refine And.intro (And.intro (by omega) (And.intro (by first | omega | (simp only [List.length_map]; omega)) (by first | omega | (simp only [List.length_map, List.length_set]; omega)))) ?_ | with_reducible refine Exists.intro _ (And.intro (map_get' (by omega) (by omega)) (And.intro (Nat.le_of_ble_eq_true rfl) ?_)) | fail); conv => whnf) | ((refine And.intro (by refine ⟨?_, ?_, ?_⟩ <;> simp [chunk, maxLen] <;> omega) ?_); conv => whnf) | (refine fun hln => ?_; (try rw [List.length_map] at hln); unfold maxLen at hln; conv => whnf) | fail
              exact ⟨i + 1, ⟨by omega, hz1⟩, by omega, impA⟩
          · obtain rfl : i = am.length := by omega
            rw [if_neg (by rw [outL_all hz]; decide)] at f4
            subst f4
            clear hz o3
            repeat' first | with_reducible refine AW_seq ?_ | with_reducible refine AW_block ?_ | with_reducible refine AW_scope ?_ | ((first | with_reducible refine AW_skip ?_ | with_reducible refine AW_label ?_ | with_reducible refine AW_exit ?_ | with_reducible refine AW_ret ?_ | with_reducible refine AW_region hTt ?_ | refine AW_draw hTt hMix (id := 11) 21 false [0, 1, 3, 7, 15, 31, 63, 127, 255, 511, 1023, 2047, 4095, 4095, 16383, 32767, 4095, 4095, 135167, 462847, 987135, 2097151, 4194303, 8388607] (by kernel_rfl) rfl rfl (by kernel_rfl) ?_ | refine LateGo.mk ⟨_, rfl, ?_⟩ | refine LateGo.mk ⟨.x .j, rfl, ?_⟩ | fail); conv => whnf) | (exact absurd hb (by omega)) | (refine AW_cond rfl (fun _ => ?_) (fun hb => absurd (show true = false from hb) (by decide))) | (refine AW_cond rfl (fun hb => absurd (show false = true from hb) (by decide)) (fun _ => ?_)) | (refine AW_cond rfl (fun _ => ?_) (fun hb => absurd hb (by decide))) | (refine AW_cond rfl (fun hb => absurd hb (by decide)) (fun _ => ?_)) | (refine AW_cond rfl (fun hb => ?_) (fun hb => ?_) <;> first | (replace hb := of_decide_eq_true hb; try simp only [List.length_map] at hb) | (replace hb := of_decide_eq_false hb; try simp only [List.length_map] at hb) | (simp only [List.length_map, bne_iff_ne, ne_eq, beq_iff_eq, bne_eq_false_iff_eq, beq_eq_false_iff_ne, decide_eq_true_eq, decide_eq_false_iff_not, Bool.not_eq_true', Bool.not_eq_false', Int.natCast_inj] at hb) | skip) | ((first | refine ⟨_, wrap_of (by first | omega | (simp only [List.length_map]; omega)), ?_⟩ | refine ⟨IntKind.wrap _ _, rfl, ?_⟩ | refine andA ?_ | with_reducible refine Exists.intro _ (And.intro (gd_any (And.intro (by omega) (map_get (by omega)))) ?_) | with_reducible refine And.intro (gd_any (And.intro (by omega) (And.intro (by first | omega | (simp only [List.length_map]; omega)) (by first | omega | (simp only [List.length_map]; omega) | (simp only [List.length_set, List.length_map]; omega))))) ?_ | with_reducible refine Exists.intro _ (And.intro (gd_any (map_get' (by omega) (by omega))) (And.intro (And.intro (Nat.le_of_ble_eq_true rfl) rfl) ?_)) | with_reducible refine Exists.intro _ (And.intro (gd_any (And.intro (by omega) (map_get' (by omega) (by omega)))) ?_) | with_reducible refine And.intro (And.intro (by omega) (And.intro (by first | omega | (simp only [List.length_map]; omega)) (by first | omega | (simp only [List.length_map, List.length_set]; omega)))) ?_ | with_reducible refine Exists.intro _ (And.intro (map_get' (by omega) (by omega)) (And.intro (Nat.le_of_ble_eq_true rfl) ?_)) | fail); conv => whnf) | ((refine And.intro (by refine ⟨?_, ?_, ?_⟩ <;> simp [chunk, maxLen] <;> omega) ?_); conv => whnf) | (refine fun hln => ?_; (try rw [List.length_map] at hln); unfold maxLen at hln; conv => whnf) | fail
            rfl
end Go.Proofs.YtnpleednkmhhhaaDoor
namespace Go.Proofs.YtnpleednkmhhhaaDoor
open Go Go.QL
set_option maxHeartbeats 1600000
theorem bg_le (W : List R2) (m : Int) : ∀ (r : List Int) (k : Nat) (b : R2), (bestGo W m r k b).1 ≤ b.1
  | [], _, _ => Int.le_refl _
  | v :: r, k, b => by
    simp only [bestGo]
    split
    · exact Int.le_refl _
    · refine Int.le_trans (bg_le W m r (k + 1) _) ?_
      split
      · assumption
      · exact Int.le_refl _
theorem bg_all (W : List R2) (m : Int) : ∀ (r : List Int) (k : Nat) (b : R2), (∀ i, i + 1 < r.length → r.getD i 0 < r.getD (i + 1) 0) → ∀ i, i < r.length → r.getD i 0 ≤ m → (bestGo W m r k b).1 ≤ (W.getD (m - r.getD i 0).toNat (0, 0)).1 + 1
  | [], _, _, _, i, h, _ => absurd h (Nat.not_lt_zero _)
  | v :: r, k, b, hs, i, hi, hv => by
    have hge : ∀ j, j < (v :: r).length → v ≤ (v :: r).getD j 0 := fun j => by
      induction j with
      | zero => intro _; exact Int.le_refl _
      | succ j ih => intro h; have := hs j h; have := ih (by omega); omega
    have h0 := hge i hi
    simp only [bestGo]
    rw [if_neg (by omega)]
    cases i with
    | zero =>
      refine Int.le_trans (bg_le W m r (k + 1) _) ?_
      show (if _ then _ else _ : R2).1 ≤ (W.getD (m - v).toNat (0, 0)).1 + 1
      split
      · exact Int.le_refl _
      · omega
    | succ i =>
      exact bg_all W m r (k + 1) _ (fun j hj => hs (j + 1) (by rw [List.length_cons]; omega)) i (by rw [List.length_cons] at hi; omega) hv
theorem bg_is (W : List R2) (m : Int) : ∀ (r : List Int) (k : Nat) (b : R2), bestGo W m r k b = b ∨ ∃ i, i < r.length ∧ r.getD i 0 ≤ m ∧ bestGo W m r k b = ((W.getD (m - r.getD i 0).toNat (0, 0)).1 + 1, ((k + i : Nat) : Int))
  | [], _, _ => .inl rfl
  | v :: r, k, b => by
    simp only [bestGo]
    by_cases hm : m < v
    · rw [if_pos hm]; exact .inl rfl
    · rw [if_neg hm]
      rcases bg_is W m r (k + 1) (if (W.getD (m - v).toNat (0, 0)).1 + 1 ≤ b.1 then ((W.getD (m - v).toNat (0, 0)).1 + 1, (k : Int)) else b) with h | ⟨i, hi, hv, h⟩
      · rw [h]
        split
        · exact .inr ⟨0, by rw [List.length_cons]; omega, by show v ≤ m; omega, rfl⟩
        · exact .inl rfl
      · exact .inr ⟨i + 1, by rw [List.length_cons]; omega, hv, by rw [h]; exact congrArg _ (congrArg _ (by omega))⟩
structure CoinOK (vs : List Int) : Prop where
  len : 1 ≤ vs.length ∧ vs.length ≤ 10
  rng : ∀ v ∈ vs, 1 ≤ v ∧ v ≤ 10000
  one : vs.getD 0 0 = 1
  asc : ∀ i, i + 1 < vs.length → vs.getD i 0 < vs.getD (i + 1) 0
theorem getD_in {vs : List Int} {i : Nat} (h : i < vs.length) : vs.getD i 0 ∈ vs := by
  rw [List.getD_eq_getElem?_getD, List.getElem?_eq_getElem h]; exact List.getElem_mem _
theorem way_is {vs : List Int} (h : CoinOK vs) : ∀ n : Nat, (0 ≤ (wayAt vs n).1 ∧ (wayAt vs n).1 ≤ n) ∧
    (0 < n → (∃ i, i < vs.length ∧ vs.getD i 0 ≤ n ∧ wayAt vs n = ((wayAt vs (n - (vs.getD i 0).toNat)).1 + 1, (i : Int))) ∧
      ∀ i, i < vs.length → vs.getD i 0 ≤ n → (wayAt vs n).1 ≤ (wayAt vs (n - (vs.getD i 0).toNat)).1 + 1)
  | 0 => ⟨(show (0 : Int) ≤ 0 ∧ (0 : Int) ≤ ((0 : Nat) : Int) from ⟨by decide, by decide⟩), fun h => absurd h (Nat.lt_irrefl _)⟩
  | n + 1 => by
    have hW : ∀ i, i < vs.length → vs.getD i 0 ≤ ((n + 1 : Nat) : Int) → ((waysR vs n).getD (((n : Int) + 1) - vs.getD i 0).toNat (0, 0)) = wayAt vs (n + 1 - (vs.getD i 0).toNat) := fun i hi hv => by
      have := h.rng _ (getD_in hi)
      rw [show (((n : Int) + 1) - vs.getD i 0).toNat = n + 1 - (vs.getD i 0).toNat by omega]
      exact wayAt_eq vs (by omega)
    have e : wayAt vs (n + 1) = bestGo (waysR vs n) ((n : Int) + 1) vs 0 ((n : Int) + 2, 0) := by
      unfold wayAt
      rw [waysR, List.getD_eq_getElem?_getD, List.getElem?_append_right (by rw [waysR_len]; exact Nat.le_refl _), waysR_len, Nat.sub_self]
      rfl
    have hall := bg_all (waysR vs n) ((n : Int) + 1) vs 0 ((n : Int) + 2, 0) h.asc
    have his := bg_is (waysR vs n) ((n : Int) + 1) vs 0 ((n : Int) + 2, 0)
    rw [← e] at hall his
    have h1 := hall 0 (by have := h.len; omega) (by rw [h.one]; omega)
    have hw0 := hW 0 (by have := h.len; omega) (by rw [h.one]; omega)
    rw [hw0, h.one] at h1
    have ih := (way_is h n).1
    have h1 : (wayAt vs (n + 1)).1 ≤ (wayAt vs n).1 + 1 := h1
    have hex : ∃ i, i < vs.length ∧ vs.getD i 0 ≤ ((n + 1 : Nat) : Int) ∧ wayAt vs (n + 1) = ((wayAt vs (n + 1 - (vs.getD i 0).toNat)).1 + 1, (i : Int)) := by
      rcases his with hb | ⟨i, hi, hv, hb⟩
      · rw [hb] at h1
        dsimp only at h1
        omega
      · refine ⟨i, hi, by omega, ?_⟩
        rw [hW i hi (by omega), Nat.zero_add] at hb
        exact hb
    refine ⟨?_, fun _ => ⟨hex, fun i hi hv => ?_⟩⟩
    · obtain ⟨i, hi, hv, hb⟩ := hex
      have hr := h.rng _ (getD_in hi)
      have := (way_is h (n + 1 - (vs.getD i 0).toNat)).1
      rw [hb] at h1 ⊢
      dsimp only at h1 ⊢
      omega
    · have := hall i hi (by omega)
      rw [hW i hi hv] at this
      exact this
termination_by n => n
decreasing_by
  all_goals first | omega | (have := h.rng _ (getD_in hi); omega)
def valC (vs m : List Int) : Nat → Int
  | 0 => 0
  | k + 1 => valC vs m k + m.getD k 0 * vs.getD k 0
def cntC (m : List Int) : Nat → Int
  | 0 => 0
  | k + 1 => cntC m k + m.getD k 0
theorem getD_set {m : List Int} {i k : Nat} {x : Int} (hi : i < m.length) : (m.set i x).getD k 0 = if i = k then x else m.getD k 0 := by
  rw [List.getD_eq_getElem?_getD, List.getD_eq_getElem?_getD, List.getElem?_set]
  split
  · rename_i e; subst e; first | rfl | (rw [if_pos hi]; rfl)
  · rfl
theorem val_set (vs : List Int) {m : List Int} {i : Nat} (hi : i < m.length) : ∀ k, valC vs (m.set i (m.getD i 0 + 1)) k = valC vs m k + (if i < k then vs.getD i 0 else 0)
  | 0 => by simp [valC]
  | k + 1 => by
    simp only [valC]
    rw [val_set vs hi k, getD_set hi]
    by_cases e : i = k
    · subst e
      rw [if_pos rfl, if_neg (Nat.lt_irrefl _), if_pos (Nat.lt_succ_self _), Int.add_mul, Int.one_mul]; omega
    · rw [if_neg e]
      by_cases h : i < k
      · rw [if_pos h, if_pos (by omega)]; omega
      · rw [if_neg h, if_neg (by omega)]; omega
theorem cnt_set {m : List Int} {i : Nat} (hi : i < m.length) : ∀ k, cntC (m.set i (m.getD i 0 + 1)) k = cntC m k + (if i < k then 1 else 0)
  | 0 => by simp [cntC]
  | k + 1 => by
    simp only [cntC]
    rw [cnt_set hi k, getD_set hi]
    by_cases e : i = k
    · subst e
      rw [if_pos rfl, if_neg (Nat.lt_irrefl _), if_pos (Nat.lt_succ_self _)]; omega
    · rw [if_neg e]
      by_cases h : i < k
      · rw [if_pos h, if_pos (by omega)]; omega
      · rw [if_neg h, if_neg (by omega)]; omega
theorem spend_is {vs : List Int} (h : CoinOK vs) : ∀ (f : Nat) (n : Int) (m : List Int), 0 ≤ n → n ≤ f → m.length = vs.length → (∀ j, 0 ≤ m.getD j 0 ∧ m.getD j 0 + n ≤ 10000) →
    valC vs (spend vs f n m) vs.length = valC vs m vs.length + n ∧ cntC (spend vs f n m) vs.length = cntC m vs.length + (wayAt vs n.toNat).1 ∧ ∀ j, 0 ≤ (spend vs f n m).getD j 0 ∧ (spend vs f n m).getD j 0 ≤ 10000
  | 0, n, m, h0, hn, hl, hb => by
    obtain rfl : n = 0 := by omega
    exact ⟨(Int.add_zero _).symm, (Int.add_zero _).symm, fun j => by have := hb j; exact ⟨this.1, by show m.getD j 0 ≤ 10000; omega⟩⟩
  | f + 1, n, m, h0, hn, hl, hb => by
    simp only [spend]
    by_cases hp : 0 < n
    · rw [if_pos hp]
      obtain ⟨i, hi, hv, hw⟩ := ((way_is h n.toNat).2 (by omega)).1
      have hr := h.rng _ (getD_in hi)
      rw [hw]
      dsimp only
      rw [Int.toNat_natCast]
      have ih := spend_is h f (n - vs.getD i 0) (m.set i (m.getD i 0 + 1)) (by omega) (by omega) (by rw [List.length_set]; exact hl) (fun j => by
        rw [getD_set (by omega)]
        split
        · rename_i e; subst e; have := hb i; omega
        · have := hb j; omega)
      rw [val_set vs (by omega), cnt_set (by omega), if_pos hi, if_pos hi] at ih
      rw [show (n - vs.getD i 0).toNat = n.toNat - (vs.getD i 0).toNat by omega] at ih
      refine ⟨by rw [ih.1]; omega, by rw [ih.2.1]; omega, ih.2.2⟩
    · rw [if_neg hp]
      obtain rfl : n = 0 := by omega
      exact ⟨(Int.add_zero _).symm, (Int.add_zero _).symm, fun j => by have := hb j; exact ⟨this.1, by omega⟩⟩
theorem zero_is (vs : List Int) (n : Nat) : ∀ k, valC vs (List.replicate n 0) k = 0 ∧ cntC (List.replicate n 0) k = 0
  | 0 => ⟨rfl, rfl⟩
  | k + 1 => by
    have ih := zero_is vs n k
    have e : (List.replicate n (0 : Int)).getD k 0 = 0 := by
      rw [List.getD_eq_getElem?_getD, List.getElem?_replicate]; split <;> rfl
    simp only [valC, cntC]
    rw [ih.1, ih.2, e]; simp
theorem coins_are {vs : List Int} (h : CoinOK vs) {n : Int} (h0 : 0 ≤ n) (h1 : n ≤ 10000) :
    (coinsOf vs n).length = vs.length ∧ valC vs (coinsOf vs n) vs.length = n ∧ cntC (coinsOf vs n) vs.length = (wayAt vs n.toNat).1 ∧ ∀ j, 0 ≤ (coinsOf vs n).getD j 0 ∧ (coinsOf vs n).getD j 0 ≤ 10000 := by
  have hz := zero_is vs vs.length vs.length
  have hs := spend_is h n.toNat n (List.replicate vs.length 0) h0 (by omega) (List.length_replicate) (fun j => by
    have e : (List.replicate vs.length (0 : Int)).getD j 0 = 0 := by
      rw [List.getD_eq_getElem?_getD, List.getElem?_replicate]; split <;> rfl
    rw [e]; omega)
  rw [hz.1, hz.2] at hs
  refine ⟨by unfold coinsOf; rw [spend_len, List.length_replicate], by have := hs.1; unfold coinsOf; omega, by have := hs.2.1; unfold coinsOf; omega, hs.2.2⟩
theorem other_step {vs : List Int} (h : CoinOK vs) {n : Int} {i : Nat} (hi : i < vs.length) (h0 : 0 ≤ n) (hv : vs.getD i 0 ≤ n) : (wayAt vs n.toNat).1 ≤ (wayAt vs (n - vs.getD i 0).toNat).1 + 1 := by
  have hr := h.rng _ (getD_in hi)
  have := ((way_is h n.toNat).2 (by omega)).2 i hi (by omega)
  rw [show (n - vs.getD i 0).toNat = n.toNat - (vs.getD i 0).toNat by omega]
  exact this
theorem coinsP_cases (vs am : List Int) : ((coinsP vs am).2 ≠ 0 ∧ (coinsP vs am).1 = []) ∨ (CoinOK vs ∧ am.length ≤ 40 ∧ (∀ a ∈ am, 0 ≤ a ∧ a ≤ 10000) ∧ coinsP vs am = (am.map (coinsOf vs), 0)) := by
  unfold coinsP
  split
  · exact .inl ⟨by decide, rfl⟩
  split
  · exact .inl ⟨by decide, rfl⟩
  split
  · exact .inl ⟨by decide, rfl⟩
  split
  · exact .inl ⟨by decide, rfl⟩
  split
  · exact .inl ⟨by decide, rfl⟩
  split
  · exact .inl ⟨by decide, rfl⟩
  rename_i h1 h2 h3 h4 h5 h6
  have h1 := outL_false.1 (by simpa using h1) _ (List.mem_singleton.2 rfl)
  refine .inr ⟨⟨by omega, outL_false.1 (by simpa using h2), by simpa using h3, fun i hi => ?_⟩, by omega, outL_false.1 (by simpa using h6), rfl⟩
  have hA : ascBad vs = false := by simpa using h4
  unfold ascBad at hA
  have := (List.any_eq_false.1 hA) i (List.mem_range.2 (by omega))
  simpa using this
end Go.Proofs.YtnpleednkmhhhaaDoor
namespace Go.Proofs.YtnpleednkmhhhaaDoor
open Go Go.QL
set_option maxHeartbeats 8000000
attribute [local irreducible] ACall FnC YC Imp
def mostA (am : List Int) : Nat → Int
  | 0 => 0
  | i + 1 => if am.getD i 0 > mostA am i then am.getD i 0 else mostA am i
theorem mostA_bd {am : List Int} (h : ∀ a ∈ am, 0 ≤ a ∧ a ≤ 10000) : ∀ i, i ≤ am.length → (0 ≤ mostA am i ∧ mostA am i ≤ 10000) ∧ ∀ j, j < i → am.getD j 0 ≤ mostA am i
  | 0, _ => ⟨by simp [mostA], fun j hj => absurd hj (Nat.not_lt_zero _)⟩
  | i + 1, hi => by
    obtain ⟨h1, h2⟩ := mostA_bd h i (by omega)
    have h3 := h _ (getD_in (show i < am.length by omega))
    have e : mostA am (i + 1) = if am.getD i 0 > mostA am i then am.getD i 0 else mostA am i := rfl
    refine ⟨by rw [e]; split <;> omega, fun j hj => ?_⟩
    rw [e]
    by_cases hji : j = i
    · subst hji; split <;> omega
    · have := h2 j (by omega)
      split <;> omega
def wtab (f : R2 → Int) (vs : List Int) (m q : Nat) : List Int := (List.range (m + 1)).map fun j => if j < q then f (wayAt vs j) else 0
theorem wtab_len (f : R2 → Int) (vs : List Int) (m q : Nat) : (wtab f vs m q).length = m + 1 := by unfold wtab; rw [List.length_map, List.length_range]
theorem wtab_get (f : R2 → Int) (vs : List Int) {m q j : Nat} (h : j < m + 1) : (wtab f vs m q)[j]? = some (if j < q then f (wayAt vs j) else 0) := by
  unfold wtab; rw [List.getElem?_map, List.getElem?_range h]; rfl
theorem wtab_one (f : R2 → Int) (hf : f (0, 0) = 0) (vs : List Int) (m : Nat) : wtab f vs m 1 = List.replicate (m + 1) 0 := by
  refine List.ext_getElem? fun j => ?_
  by_cases hj : j < m + 1
  · rw [wtab_get f vs hj, List.getElem?_replicate, if_pos hj]
    by_cases h0 : j < 1
    · obtain rfl : j = 0 := by omega
      rw [if_pos (by omega)]; show some (f (0, 0)) = _; rw [hf]
    · rw [if_neg h0]
  · rw [List.getElem?_eq_none (by rw [wtab_len]; omega), List.getElem?_eq_none (by rw [List.length_replicate]; omega)]
theorem wtab_next (f : R2 → Int) (vs : List Int) {m q : Nat} (h : q < m + 1) : (wtab f vs m q).set q (f (wayAt vs q)) = wtab f vs m (q + 1) := by
  refine List.ext_getElem? fun j => ?_
  rw [List.getElem?_set]
  by_cases hj : j < m + 1
  · rw [wtab_get f vs hj, wtab_get f vs hj, wtab_len]
    by_cases e : q = j
    · subst e; rw [if_pos rfl, if_pos h, if_pos (by omega)]
    · rw [if_neg e]
      by_cases h2 : j < q
      · rw [if_pos h2, if_pos (by omega)]
      · rw [if_neg h2, if_neg (by omega)]
  · rw [if_neg (by omega), List.getElem?_eq_none (by rw [wtab_len]; omega), List.getElem?_eq_none (by rw [wtab_len]; omega)]
theorem wtab_same (f : R2 → Int) (vs : List Int) {m q : Nat} (h : q < m + 1) : (wtab f vs m q).set q 0 = wtab f vs m q := by
  refine List.ext_getElem? fun j => ?_
  rw [List.getElem?_set]
  by_cases e : q = j
  · subst e; rw [if_pos rfl, wtab_len, if_pos h, wtab_get f vs h, if_neg (Nat.lt_irrefl _)]
  · rw [if_neg e]
theorem way_go (vs : List Int) (n : Nat) : wayAt vs (n + 1) = bestGo (waysR vs n) ((n : Int) + 1) vs 0 ((n : Int) + 2, 0) := by
  unfold wayAt
  rw [waysR, List.getD_eq_getElem?_getD, List.getElem?_append_right (by rw [waysR_len]; exact Nat.le_refl _), waysR_len, Nat.sub_self]
  rfl
theorem set_get {l : List Int} {q t : Nat} {x y : Int} (h : t ≠ q) (hl : l[t]? = some y) : (l.set q x)[t]? = some y := by rw [List.getElem?_set, if_neg (fun e => h e.symm)]; exact hl
theorem set_at {l : List Int} {q : Nat} {x : Int} (h : q < l.length) : (l.set q x)[q]? = some x := by rw [List.getElem?_set, if_pos rfl, if_pos h]
theorem set_two {l : List Int} {q : Nat} {x y : Int} : ((l.set q x).map iPV).set q (iPV y) = (l.set q y).map iPV := by rw [← List.map_set, List.set_set]
theorem ipv_some {l : List Int} {i : Nat} {x : Int} (h : l[i]? = some x) : (l.map iPV)[i]? = some (iPV x) := by rw [List.getElem?_map, h]; rfl
theorem ipv_some' {l : List Int} {n : Int} {x : Int} (h : l[n.toNat]? = some x) : (l.map iPV)[n.toNat]? = some (iPV x) := by rw [List.getElem?_map, h]; rfl
end Go.Proofs.YtnpleednkmhhhaaDoor
namespace Go.Proofs.YtnpleednkmhhhaaDoor
open Go Go.QL
set_option maxHeartbeats 16000000
attribute [local irreducible] ACall FnC YC Imp
theorem cnd2_t {a b : Bool} (h1 : a = true) (h2 : b = true) : (bif a then b else false) = true := by subst h1; subst h2; rfl
theorem cnd2_f {a b : Bool} (h : a = false ∨ b = false) : (bif a then b else false) = false := by rcases h with rfl | rfl <;> (try cases a) <;> rfl
theorem rcoins_fn (vs am : List Int) : FnC Tryd.prog 31 [sl vs, sl am] (.t [rowsAV (coinsP vs am).1, iv .i64 (coinsP vs am).2]) := by
  have o1 := rcoinsE_fn vs am
  have tf : ¬ (true = false) := by decide
  have ft : ¬ (false = true) := by decide
  have hcE : coinsE vs am = (coinsP vs am).2 := rfl
  rw [hcE] at o1
  rcases coinsP_cases vs am with ⟨he, e1⟩ | ⟨hok, ham, har, e1⟩
  · rw [e1]
    clear e1 hcE
    generalize (coinsP vs am).2 = e at *
    refine FnC_of_AWL hTt Tryd.func31 rfl (by kernel_rfl) (res := [.tmp 4, .tmp 5]) rfl Tryd.ntmps31 (by simp) fun w0 K0 => ?_
    dsimp only [entry]
    repeat' first | with_reducible refine AW_seq ?_ | with_reducible refine AW_block ?_ | ((first | with_reducible refine AW_skip ?_ | with_reducible refine AW_ret ?_ | with_reducible refine AW_region hTt ?_ | ((refine ⟨_, (o1).call rfl rfl, ?_⟩); (rintro _ _ ⟨rfl, rfl⟩)) | fail); conv => whnf) | (exact absurd hb he) | (refine AW_cond rfl (fun hb => ?_) (fun hb => ?_) <;> first | (replace hb := of_decide_eq_true hb; try simp only [List.length_map] at hb) | (replace hb := of_decide_eq_false hb; try simp only [List.length_map] at hb) | (simp only [List.length_map, bne_iff_ne, ne_eq, beq_iff_eq, bne_eq_false_iff_eq, beq_eq_false_iff_ne, decide_eq_true_eq, decide_eq_false_iff_not, Bool.not_eq_true', Bool.not_eq_false', Int.natCast_inj] at hb) | skip) | fail
    exact ⟨_, rfl, leN⟩
  · rw [e1] at o1 ⊢
    clear e1 hcE
    dsimp only at o1 ⊢
    have hvl : (vs.map (fun n : Int => [PV.v (.int .i64 n)])).length = vs.length := List.length_map _
    have hal : (am.map (fun n : Int => [PV.v (.int .i64 n)])).length = am.length := List.length_map _
    have hlen := hok.len
    have hmb := mostA_bd har
    refine FnC_of_AWL hTt Tryd.func31 rfl (by kernel_rfl) (res := [.tmp 4, .tmp 5]) rfl Tryd.ntmps31 (by simp) fun w0 K0 => ?_
    dsimp only [entry]
    repeat' first | with_reducible refine AW_seq ?_ | with_reducible refine AW_block ?_ | ((first | with_reducible refine AW_skip ?_ | with_reducible refine AW_region hTt ?_ | ((refine ⟨_, (o1).call rfl rfl, ?_⟩); (rintro _ _ ⟨rfl, rfl⟩)) | fail); conv => whnf) | (refine AW_cond rfl (fun hb => absurd (show false = true from hb) (by decide)) (fun _ => ?_)) | fail
    clear o1
    refine AW_loop (fun i : Nat => [(8, iv .i64 i), (7, iv .i64 (mostA am i)), (0, sl vs), (1, sl am)]) (fun _ => []) (fun i => i ≤ am.length) (fun i => am.length - i) 0 (Nat.zero_le _) impA ?_
    intro i hi
    rcases Nat.lt_or_ge i am.length with hil | hil
    · have e2 : am[i]? = some (am.getD i 0) := by rw [List.getD_eq_getElem?_getD, List.getElem?_eq_getElem hil]; rfl
      have n1 : mostA am (i + 1) = if am.getD i 0 > mostA am i then am.getD i 0 else mostA am i := rfl
      clear hmb
      generalize hM1 : mostA am (i + 1) = M1 at n1
      generalize am.getD i 0 = a at *
      generalize mostA am i = M at *
      repeat' first | with_reducible refine AW_seq ?_ | with_reducible refine AW_block ?_ | ((first | with_reducible refine AW_skip ?_ | with_reducible refine AW_exit ?_ | with_reducible refine AW_region hTt ?_ | refine AW_draw hTt hMix (id := 9) 7 true [0, 1, 3, 0, 8, 24, 7, 127] (by kernel_rfl) rfl rfl (by kernel_rfl) ?_ | fail); conv => whnf) | (exact absurd hb (by omega)) | ((with_reducible refine Exists.intro _ (And.intro (gd_any (And.intro (by omega) (map_some e2))) ?_)); conv => whnf) | (refine AW_cond rfl (fun hb => ?_) (fun hb => ?_) <;> first | (replace hb := of_decide_eq_true hb; try simp only [List.length_map] at hb) | (replace hb := of_decide_eq_false hb; try simp only [List.length_map] at hb) | (simp only [List.length_map, bne_iff_ne, ne_eq, beq_iff_eq, bne_eq_false_iff_eq, beq_eq_false_iff_ne, decide_eq_true_eq, decide_eq_false_iff_not, Bool.not_eq_true', Bool.not_eq_false', Int.natCast_inj] at hb) | skip) | ((first | refine ⟨_, wrap_of (by first | omega | (simp only [List.length_map]; omega)), ?_⟩ | refine andA ?_ | fail); conv => whnf) | (refine fun hln => ?_; (try rw [List.length_map] at hln); unfold maxLen at hln; conv => whnf) | fail
      refine ⟨i + 1, hil, by omega, ?_⟩
      rw [hM1, n1]
      exact impA
    · obtain rfl : i = am.length := by omega
      obtain ⟨hm1, hm2⟩ := hmb am.length (Nat.le_refl _)
      obtain ⟨m, hm⟩ : ∃ m : Nat, mostA am am.length = m := ⟨(mostA am am.length).toNat, by omega⟩
      rw [hm] at hm1 hm2 ⊢
      clear hmb hm
      have eN : (((m : Int) + 1)).toNat = m + 1 := by omega
      have hrep : ∀ f : R2 → Int, f (0, 0) = 0 → List.replicate (((m : Int) + 1)).toNat [PV.v (.int .i64 0)] = (wtab f vs m 1).map iPV := fun f hf => by rw [eN, wtab_one f hf, List.map_replicate]
      have hr1 := hrep Prod.fst rfl
      have hr2 := hrep Prod.snd rfl
      repeat' first | with_reducible refine AW_seq ?_ | with_reducible refine AW_block ?_ | ((first | with_reducible refine AW_skip ?_ | with_reducible refine AW_exit ?_ | with_reducible refine AW_region hTt ?_ | refine AW_draw hTt hMix (id := 9) 7 true [0, 1, 3, 0, 8, 24, 7, 127] (by kernel_rfl) rfl rfl (by kernel_rfl) ?_ | fail); conv => whnf) | (exact absurd hb (by omega)) | (refine AW_cond rfl (fun hb => ?_) (fun hb => ?_) <;> first | (replace hb := of_decide_eq_true hb; try simp only [List.length_map] at hb) | (replace hb := of_decide_eq_false hb; try simp only [List.length_map] at hb) | (simp only [List.length_map, bne_iff_ne, ne_eq, beq_iff_eq, bne_eq_false_iff_eq, beq_eq_false_iff_ne, decide_eq_true_eq, decide_eq_false_iff_not, Bool.not_eq_true', Bool.not_eq_false', Int.natCast_inj] at hb) | skip) | ((first | refine ⟨_, wrap_of (by first | omega | (simp only [List.length_map]; omega)), ?_⟩ | refine andA ?_ | with_reducible refine And.intro (And.intro (by omega) (And.intro (by first | omega | (simp only [List.length_map]; omega)) (by first | omega | (simp only [List.length_map, List.length_set]; omega)))) ?_ | fail); conv => whnf) | (refine fun hln => ?_; (try rw [List.length_map] at hln); unfold maxLen at hln; conv => whnf) | fail
      refine AW_loop (fun q : Nat => [(11, iv .i64 ((q : Int) + 1)), (9, .x (.o 37 0 (m + 1))), (10, .x (.o 40 0 (m + 1))), (7, iv .i64 m), (0, sl vs), (1, sl am)])
        (fun q => [(37, .chain 3 1 0 ((wtab Prod.fst vs m (q + 1)).map iPV)), (40, .chain 3 1 0 ((wtab Prod.snd vs m (q + 1)).map iPV))]) (fun q => q ≤ m) (fun q => m - q) 0 (Nat.zero_le _) (Imp.forget (by repeat' (first | exact trivial | refine And.intro ?_ ?_ | exact chE hr1 | exact chE hr2 | exact oE eN | rfl | exact ivE (by first | omega | (simp only [List.length_map, List.length_append, List.length_singleton] <;> omega)) | exact oE (by first | omega | (simp only [List.length_map, List.length_append, List.length_singleton] <;> omega)))) (by repeat' (first | exact trivial | refine And.intro ?_ ?_ | exact chE hr1 | exact chE hr2 | exact oE eN | rfl | exact ivE (by first | omega | (simp only [List.length_map, List.length_append, List.length_singleton] <;> omega)) | exact oE (by first | omega | (simp only [List.length_map, List.length_append, List.length_singleton] <;> omega)))) (by kernel_rfl) (by kernel_rfl) (by kernel_rfl)) ?_
      clear hrep hr1 hr2
      intro q hq
      have hcl1 : ((wtab Prod.fst vs m (q + 1)).map iPV).length = m + 1 := by rw [List.length_map, wtab_len]
      have hcl2 : ((wtab Prod.snd vs m (q + 1)).map iPV).length = m + 1 := by rw [List.length_map, wtab_len]
      rcases Nat.lt_or_ge q m with hql | hql
      · have hgo := way_go vs q
        have hbnd := (way_is hok (q + 1)).1
        have hT1 := wtab_next Prod.fst vs (m := m) (q := q + 1) (by omega)
        have hT2 := wtab_next Prod.snd vs (m := m) (q := q + 1) (by omega)
        have hsame := wtab_same Prod.snd vs (m := m) (q := q + 1) (by omega)
        have g1 : ((wtab Prod.fst vs m (q + 1)).map iPV)[((q : Int) + 1).toNat]? = some (iPV 0) := ipv_some' (by rw [show ((q : Int) + 1).toNat = q + 1 by omega, wtab_get Prod.fst vs (by omega), if_neg (Nat.lt_irrefl _)])
        have hset : ((wtab Prod.fst vs m (q + 1)).map iPV).set ((q : Int) + 1).toNat (iPV ((q : Int) + 1 + 1)) = ((wtab Prod.fst vs m (q + 1)).set (q + 1) ((q : Int) + 2)).map iPV := by
          rw [show ((q : Int) + 1).toNat = q + 1 by omega, List.map_set, show (q : Int) + 1 + 1 = (q : Int) + 2 by omega]
        have hset2 : (wtab Prod.snd vs m (q + 1)).map iPV = ((wtab Prod.snd vs m (q + 1)).set (q + 1) 0).map iPV := by rw [hsame]
        have hW : ∀ t, t ≤ q → (waysR vs q).getD t (0, 0) = wayAt vs t := fun t ht => wayAt_eq vs ht
        have hwb : ∀ t, (0 ≤ (wayAt vs t).1 ∧ (wayAt vs t).1 ≤ t) := fun t => (way_is hok t).1
        have hF : ∀ t, t ≤ q → ∀ b1 : Int, (((wtab Prod.fst vs m (q + 1)).set (q + 1) b1).map iPV)[t]? = some (iPV (wayAt vs t).1) := fun t ht b1 => ipv_some (set_get (by omega) (by rw [wtab_get Prod.fst vs (by omega), if_pos (by omega)]))
        have hF1 : ∀ b1 : Int, (((wtab Prod.fst vs m (q + 1)).set (q + 1) b1).map iPV)[q + 1]? = some (iPV b1) := fun b1 => ipv_some (set_at (by rw [wtab_len]; omega))
        have hF2 : ∀ b1 : Int, (((wtab Prod.snd vs m (q + 1)).set (q + 1) b1).map iPV)[q + 1]? = some (iPV b1) := fun b1 => ipv_some (set_at (by rw [wtab_len]; omega))
        have hl1 : ∀ b1 : Int, (((wtab Prod.fst vs m (q + 1)).set (q + 1) b1).map iPV).length = m + 1 := fun b1 => by rw [List.length_map, List.length_set, wtab_len]
        have hl2 : ∀ b1 : Int, (((wtab Prod.snd vs m (q + 1)).set (q + 1) b1).map iPV).length = m + 1 := fun b1 => by rw [List.length_map, List.length_set, wtab_len]
        have hq1 : ((q : Int) + 1).toNat = q + 1 := by omega
        generalize wtab Prod.fst vs m (q + 1) = T1 at *
        generalize wtab Prod.snd vs m (q + 1) = T2 at *
        generalize waysR vs q = W at *
        repeat' first | with_reducible refine AW_seq ?_ | with_reducible refine AW_block ?_ | ((first | with_reducible refine AW_skip ?_ | with_reducible refine AW_exit ?_ | with_reducible refine AW_region hTt ?_ | fail); conv => whnf) | (exact absurd hb (by omega)) | ((first | with_reducible refine And.intro (gd_any ⟨by omega, by omega, by omega⟩) ?_ | with_reducible refine Exists.intro _ (And.intro g1 (And.intro (Nat.le_of_ble_eq_true rfl) ?_)) | fail); conv => whnf) | (refine AW_cond rfl (fun hb => ?_) (fun hb => ?_) <;> first | (replace hb := of_decide_eq_true hb; try simp only [List.length_map] at hb) | (replace hb := of_decide_eq_false hb; try simp only [List.length_map] at hb) | (simp only [List.length_map, bne_iff_ne, ne_eq, beq_iff_eq, bne_eq_false_iff_eq, beq_eq_false_iff_ne, decide_eq_true_eq, decide_eq_false_iff_not, Bool.not_eq_true', Bool.not_eq_false', Int.natCast_inj] at hb) | skip) | ((first | refine ⟨_, wrap_of (by first | omega | (simp only [List.length_map]; omega)), ?_⟩ | refine andA ?_ | fail); conv => whnf) | fail
        refine AW_loop (fun p : Nat × R2 => [(12, iv .i64 p.1), (11, iv .i64 ((q : Int) + 1)), (9, .x (.o 37 0 (m + 1))), (10, .x (.o 40 0 (m + 1))), (7, iv .i64 m), (0, sl vs), (1, sl am)])
          (fun p => [(37, .chain 3 1 0 ((T1.set (q + 1) p.2.1).map iPV)), (40, .chain 3 1 0 ((T2.set (q + 1) p.2.2).map iPV))])
          (fun p => p.1 ≤ vs.length ∧ wayAt vs (q + 1) = bestGo W ((q : Int) + 1) (vs.drop p.1) p.1 p.2 ∧ (0 ≤ p.2.1 ∧ p.2.1 ≤ (q : Int) + 2)) (fun p => vs.length - p.1) (0, ((q : Int) + 2, 0)) ⟨Nat.zero_le _, hgo, by dsimp only; omega⟩ (Imp.forget (by repeat' (first | exact trivial | refine And.intro ?_ ?_ | exact chE hset | exact chE hset2 | rfl | exact ivE (by first | omega | (simp only [List.length_map, List.length_append, List.length_singleton] <;> omega)) | exact oE (by first | omega | (simp only [List.length_map, List.length_append, List.length_singleton] <;> omega)))) (by repeat' (first | exact trivial | refine And.intro ?_ ?_ | exact chE hset | exact chE hset2 | rfl | exact ivE (by first | omega | (simp only [List.length_map, List.length_append, List.length_singleton] <;> omega)) | exact oE (by first | omega | (simp only [List.length_map, List.length_append, List.length_singleton] <;> omega)))) (by kernel_rfl) (by kernel_rfl) (by kernel_rfl)) ?_
        clear g1 hset hset2 hgo hcl1 hcl2
        rintro ⟨k, b⟩ ⟨hk, hgo, hb0⟩
        dsimp only at hk hgo hb0 ⊢
        have hF1b := hF1 b.1
        have hF2b := hF2 b.2
        have hl1b := hl1 b.1
        have hl2b := hl2 b.2
        rcases Nat.lt_or_ge k vs.length with hkl | hkl
        · have e4 : vs[k]? = some (vs.getD k 0) := by rw [List.getD_eq_getElem?_getD, List.getElem?_eq_getElem hkl]; rfl
          have hgv : vs[k] = vs.getD k 0 := by rw [List.getD_eq_getElem?_getD, List.getElem?_eq_getElem hkl]; rfl
          rw [List.drop_eq_getElem_cons hkl] at hgo
          simp only [bestGo] at hgo
          rw [hgv] at hgo
          have hv := hok.rng _ (getD_in hkl)
          generalize vs.getD k 0 = v at *
          by_cases hbr : (q : Int) + 1 < v
          · rw [if_pos hbr] at hgo
            rw [hgo] at hT1 hT2
            have hcf : (bif decide ((k : Int) < (vs.length : Int)) then decide (v ≤ (q : Int) + 1) else false) = false := cnd2_f (.inr (decide_eq_false (by omega)))
            clear hF hwb hW hF1 hF2 hl1 hl2
            repeat' first | with_reducible refine AW_seq ?_ | with_reducible refine AW_block ?_ | ((first | with_reducible refine AW_skip ?_ | with_reducible refine AW_exit ?_ | with_reducible refine AW_region hTt ?_ | refine AW_draw hTt hMix (id := 17) 14 false [0, 0, 0, 0, 12, 28, 62, 127, 255, 511, 0, 0, 3072, 7168, 16383] (by kernel_rfl) rfl rfl (by kernel_rfl) ?_ | fail); conv => whnf) | (exact absurd (hcf.symm.trans hb) ft) | ((with_reducible refine Exists.intro _ (And.intro (gd_any (And.intro (by omega) (map_some e4))) ?_)); conv => whnf) | (refine AW_cond rfl (fun hb => ?_) (fun hb => ?_) <;> first | (replace hb := of_decide_eq_true hb; try simp only [List.length_map] at hb) | (replace hb := of_decide_eq_false hb; try simp only [List.length_map] at hb) | (simp only [List.length_map, bne_iff_ne, ne_eq, beq_iff_eq, bne_eq_false_iff_eq, beq_eq_false_iff_ne, decide_eq_true_eq, decide_eq_false_iff_not, Bool.not_eq_true', Bool.not_eq_false', Int.natCast_inj] at hb) | skip) | ((first | refine ⟨_, wrap_of (by first | omega | (simp only [List.length_map]; omega)), ?_⟩ | refine andA ?_ | fail); conv => whnf) | (refine fun hln => ?_; (try rw [List.length_map] at hln); unfold maxLen at hln; conv => whnf) | fail
            refine ⟨q + 1, by omega, by omega, ?_⟩
            rw [← hT1, ← hT2]
            exact impA
          · rw [if_neg hbr] at hgo
            have hct : (bif decide ((k : Int) < (vs.length : Int)) then decide (v ≤ (q : Int) + 1) else false) = true := cnd2_t (decide_eq_true (by omega)) (decide_eq_true (by omega))
            obtain ⟨t, ht⟩ : ∃ t : Nat, (q : Int) + 1 - v = t := ⟨((q : Int) + 1 - v).toNat, by omega⟩
            have htq : t ≤ q := by omega
            have hFt := hF t htq b.1
            have hwt := hwb t
            rw [ht, Int.toNat_natCast, hW t htq] at hgo
            have w1 : IntKind.i64.wrap ((q : Int) + 1 - v) = (t : Int) := by rw [ht]; exact wrap_of (by omega)
            generalize (wayAt vs t).1 = wt at *
            have hs1 : ((T1.set (q + 1) b.1).map iPV).set (q + 1) (iPV (wt + 1)) = (T1.set (q + 1) (wt + 1)).map iPV := set_two
            have hs2 : ((T2.set (q + 1) b.2).map iPV).set (q + 1) (iPV (k : Int)) = (T2.set (q + 1) (k : Int)).map iPV := set_two
            clear hF hwb hW hF1 hF2 hl1 hl2 hT1 hT2
            obtain ⟨b1, b2⟩ := b
            dsimp only at *
            generalize hX1 : (T1.set (q + 1) b1).map iPV = X1 at *
            generalize hX2 : (T2.set (q + 1) b2).map iPV = X2 at *
            by_cases hle : wt + 1 ≤ b1
            · rw [if_pos hle] at hgo
              repeat' first | with_reducible refine AW_seq ?_ | with_reducible refine AW_block ?_ | ((first | with_reducible refine AW_skip ?_ | with_reducible refine AW_exit ?_ | with_reducible refine AW_region hTt ?_ | refine AW_draw hTt hMix (id := 17) 14 false [0, 0, 0, 0, 12, 28, 62, 127, 255, 511, 0, 0, 3072, 7168, 16383] (by kernel_rfl) rfl rfl (by kernel_rfl) ?_ | fail); conv => whnf) | (exact absurd hb (by omega)) | (exact absurd (hb.symm.trans hct) ft) | ((first | with_reducible refine Exists.intro _ (And.intro (gd_any (And.intro (by omega) (map_some e4))) ?_) | refine ⟨_, w1, ?_⟩ | with_reducible refine And.intro (gd_any ⟨by omega, by omega, by omega⟩) ?_ | refine Exists.intro _ (And.intro (gd_any hFt) (And.intro (And.intro (Nat.le_of_ble_eq_true rfl) rfl) ?_)) | refine Exists.intro _ (And.intro (gd_any hF1b) (And.intro (And.intro (Nat.le_of_ble_eq_true rfl) rfl) ?_)) | refine Exists.intro _ (And.intro hF1b (And.intro (Nat.le_of_ble_eq_true rfl) ?_)) | refine Exists.intro _ (And.intro hF2b (And.intro (Nat.le_of_ble_eq_true rfl) ?_)) | fail); conv => whnf) | (refine AW_cond rfl (fun hb => ?_) (fun hb => ?_) <;> first | (replace hb := of_decide_eq_true hb; try simp only [List.length_map] at hb) | (replace hb := of_decide_eq_false hb; try simp only [List.length_map] at hb) | (simp only [List.length_map, bne_iff_ne, ne_eq, beq_iff_eq, bne_eq_false_iff_eq, beq_eq_false_iff_ne, decide_eq_true_eq, decide_eq_false_iff_not, Bool.not_eq_true', Bool.not_eq_false', Int.natCast_inj] at hb) | skip) | ((first | refine ⟨_, wrap_of (by first | omega | (simp only [List.length_map]; omega)), ?_⟩ | refine andA ?_ | fail); conv => whnf) | (refine fun hln => ?_; (try rw [List.length_map] at hln); unfold maxLen at hln; conv => whnf) | fail
              exact ⟨(k + 1, (wt + 1, (k : Int))), ⟨hkl, hgo, by dsimp only; omega⟩, by show vs.length - (k + 1) < vs.length - k; omega, (Imp.forget (by repeat' (first | exact trivial | refine And.intro ?_ ?_ | exact chE hs1 | exact chE hs2 | rfl | exact ivE (by first | omega | (simp only [List.length_map, List.length_append, List.length_singleton] <;> omega)) | exact oE (by first | omega | (simp only [List.length_map, List.length_append, List.length_singleton] <;> omega)))) (by repeat' (first | exact trivial | refine And.intro ?_ ?_ | exact chE hs1 | exact chE hs2 | rfl | exact ivE (by first | omega | (simp only [List.length_map, List.length_append, List.length_singleton] <;> omega)) | exact oE (by first | omega | (simp only [List.length_map, List.length_append, List.length_singleton] <;> omega)))) (by kernel_rfl) (by kernel_rfl) (by kernel_rfl))⟩
            · rw [if_neg hle] at hgo
              repeat' first | with_reducible refine AW_seq ?_ | with_reducible refine AW_block ?_ | ((first | with_reducible refine AW_skip ?_ | with_reducible refine AW_exit ?_ | with_reducible refine AW_region hTt ?_ | refine AW_draw hTt hMix (id := 17) 14 false [0, 0, 0, 0, 12, 28, 62, 127, 255, 511, 0, 0, 3072, 7168, 16383] (by kernel_rfl) rfl rfl (by kernel_rfl) ?_ | fail); conv => whnf) | (exact absurd hb (by omega)) | (exact absurd (hb.symm.trans hct) ft) | ((first | with_reducible refine Exists.intro _ (And.intro (gd_any (And.intro (by omega) (map_some e4))) ?_) | refine ⟨_, w1, ?_⟩ | with_reducible refine And.intro (gd_any ⟨by omega, by omega, by omega⟩) ?_ | refine Exists.intro _ (And.intro (gd_any hFt) (And.intro (And.intro (Nat.le_of_ble_eq_true rfl) rfl) ?_)) | refine Exists.intro _ (And.intro (gd_any hF1b) (And.intro (And.intro (Nat.le_of_ble_eq_true rfl) rfl) ?_)) | fail); conv => whnf) | (refine AW_cond rfl (fun hb => ?_) (fun hb => ?_) <;> first | (replace hb := of_decide_eq_true hb; try simp only [List.length_map] at hb) | (replace hb := of_decide_eq_false hb; try simp only [List.length_map] at hb) | (simp only [List.length_map, bne_iff_ne, ne_eq, beq_iff_eq, bne_eq_false_iff_eq, beq_eq_false_iff_ne, decide_eq_true_eq, decide_eq_false_iff_not, Bool.not_eq_true', Bool.not_eq_false', Int.natCast_inj] at hb) | skip) | ((first | refine ⟨_, wrap_of (by first | omega | (simp only [List.length_map]; omega)), ?_⟩ | refine andA ?_ | fail); conv => whnf) | (refine fun hln => ?_; (try rw [List.length_map] at hln); unfold maxLen at hln; conv => whnf) | fail
              exact ⟨(k + 1, (b1, b2)), ⟨hkl, hgo, hb0⟩, by show vs.length - (k + 1) < vs.length - k; omega, (Imp.forget (by repeat' (first | exact trivial | refine And.intro ?_ ?_ | exact chE hX1.symm | exact chE hX2.symm | rfl | exact ivE (by first | omega | (simp only [List.length_map, List.length_append, List.length_singleton] <;> omega)) | exact oE (by first | omega | (simp only [List.length_map, List.length_append, List.length_singleton] <;> omega)))) (by repeat' (first | exact trivial | refine And.intro ?_ ?_ | exact chE hX1.symm | exact chE hX2.symm | rfl | exact ivE (by first | omega | (simp only [List.length_map, List.length_append, List.length_singleton] <;> omega)) | exact oE (by first | omega | (simp only [List.length_map, List.length_append, List.length_singleton] <;> omega)))) (by kernel_rfl) (by kernel_rfl) (by kernel_rfl))⟩
        · have hkE : k = vs.length := by omega
          subst hkE
          rw [List.drop_length] at hgo
          simp only [bestGo] at hgo
          rw [hgo] at hT1 hT2
          have hcf : ∀ c : Bool, (bif decide (((vs.length : Nat) : Int) < ((vs.length : Nat) : Int)) then c else false) = false := fun c => cnd2_f (.inl (decide_eq_false (by omega)))
          have hgd : decide (((vs.length : Nat) : Int) < ((vs.map (fun n : Int => [PV.v (.int .i64 n)])).length : Int)) = true → False := fun h => by have := of_decide_eq_true h; omega
          clear hF hwb hW hF1 hF2 hl1 hl2
          repeat' first | with_reducible refine AW_seq ?_ | with_reducible refine AW_block ?_ | ((first | with_reducible refine AW_skip ?_ | with_reducible refine AW_exit ?_ | with_reducible refine AW_region hTt ?_ | refine AW_draw hTt hMix (id := 17) 14 false [0, 0, 0, 0, 12, 28, 62, 127, 255, 511, 0, 0, 3072, 7168, 16383] (by kernel_rfl) rfl rfl (by kernel_rfl) ?_ | fail); conv => whnf) | (exact absurd ((hcf _).symm.trans hb) ft) | ((refine Exists.intro [PV.v (.int .i64 0)] (And.intro (gd_some fun h => (hgd h).elim) ?_)); conv => whnf) | (refine AW_cond rfl (fun hb => ?_) (fun hb => ?_) <;> first | (replace hb := of_decide_eq_true hb; try simp only [List.length_map] at hb) | (replace hb := of_decide_eq_false hb; try simp only [List.length_map] at hb) | (simp only [List.length_map, bne_iff_ne, ne_eq, beq_iff_eq, bne_eq_false_iff_eq, beq_eq_false_iff_ne, decide_eq_true_eq, decide_eq_false_iff_not, Bool.not_eq_true', Bool.not_eq_false', Int.natCast_inj] at hb) | skip) | ((first | refine ⟨_, wrap_of (by first | omega | (simp only [List.length_map]; omega)), ?_⟩ | refine andA ?_ | fail); conv => whnf) | (refine fun hln => ?_; (try rw [List.length_map] at hln); unfold maxLen at hln; conv => whnf) | fail
          refine ⟨q + 1, by omega, by omega, ?_⟩
          rw [← hT1, ← hT2]
          exact impA
      · obtain rfl : q = m := by omega
        have hL0 : ∀ t : Nat, t ≤ q → ((wtab Prod.snd vs q (q + 1)).map iPV)[((t : Int)).toNat]? = some (iPV (wayAt vs t).2) := fun t ht => by
          rw [Int.toNat_natCast]
          exact ipv_some (by rw [wtab_get Prod.snd vs (by omega), if_pos (by omega)])
        generalize hTL : (wtab Prod.snd vs q (q + 1)).map iPV = TL at *
        clear hTL
        repeat' first | with_reducible refine AW_seq ?_ | with_reducible refine AW_block ?_ | ((first | with_reducible refine AW_skip ?_ | with_reducible refine AW_exit ?_ | with_reducible refine AW_region hTt ?_ | fail); conv => whnf) | (exact absurd hb (by omega)) | (refine AW_cond rfl (fun hb => ?_) (fun hb => ?_) <;> first | (replace hb := of_decide_eq_true hb; try simp only [List.length_map] at hb) | (replace hb := of_decide_eq_false hb; try simp only [List.length_map] at hb) | (simp only [List.length_map, bne_iff_ne, ne_eq, beq_iff_eq, bne_eq_false_iff_eq, beq_eq_false_iff_ne, decide_eq_true_eq, decide_eq_false_iff_not, Bool.not_eq_true', Bool.not_eq_false', Int.natCast_inj] at hb) | skip) | fail
        refine AW_imp (Imp.nil 900 23 1 (fr' := [(14, iv .i64 0), (13, .x (.o 900 0 0)), (10, .x (.o 40 0 (q + 1))), (0, sl vs), (1, sl am)]) (σ' := [(40, .chain 3 1 0 TL)]) rfl ?_ ?_ rfl rfl) ?_
        · exact ⟨⟨_, rfl, .inl rfl⟩, ⟨_, rfl, .inr ⟨rfl, rfl⟩⟩, ⟨_, rfl, .inl rfl⟩, ⟨_, rfl, .inl rfl⟩, ⟨_, rfl, .inl rfl⟩, trivial⟩
        · exact ⟨⟨_, rfl, .inl rfl⟩, trivial⟩
        refine AW_loop (fun i : Nat => [(14, iv .i64 i), (13, .x (.o 900 i i)), (10, .x (.o 40 0 (q + 1))), (0, sl vs), (1, sl am)])
          (fun i => [(900, .chain 23 1 i ((am.take i).map fun n => [intsPV (coinsOf vs n)])), (40, .chain 3 1 0 TL)]) (fun i => i ≤ am.length) (fun i => am.length - i) 0 (Nat.zero_le _) impA ?_
        clear hcl1
        intro i hi
        have htl : ((am.take i).map fun n => [intsPV (coinsOf vs n)]).length = i := by rw [List.length_map, List.length_take]; omega
        rcases Nat.lt_or_ge i am.length with hil | hil
        · have e2 : am[i]? = some (am.getD i 0) := by rw [List.getD_eq_getElem?_getD, List.getElem?_eq_getElem hil]; rfl
          have ha := har _ (getD_in hil)
          have ham2 := hm2 i hil
          have hch : ((am.take i).map fun n => [intsPV (coinsOf vs n)]).take i ++ [[intsPV (coinsOf vs (am.getD i 0))]] = (am.take (i + 1)).map fun n => [intsPV (coinsOf vs n)] := by
            rw [List.take_of_length_le (by rw [htl]; exact Nat.le_refl _), List.take_add_one, e2, List.map_append]; rfl
          generalize hX : ((am.take i).map fun n => [intsPV (coinsOf vs n)]) = X at *
          generalize am.getD i 0 = a at *
          have eR : some (Ob.chain 3 1 0 (List.replicate (((vs.map iPV).length : Int)).toNat [PV.v (.int .i64 0)])) = some (.chain 3 1 0 ((List.replicate vs.length 0).map iPV)) := by rw [Int.toNat_natCast, List.length_map, List.map_replicate]
          have eN : some (AV.x (.o 105 0 (((vs.map iPV).length : Int)).toNat)) = some (AV.x (.o 105 0 vs.length)) := by rw [Int.toNat_natCast, List.length_map]
          repeat' first | with_reducible refine AW_seq ?_ | with_reducible refine AW_block ?_ | ((first | with_reducible refine AW_skip ?_ | with_reducible refine AW_exit ?_ | with_reducible refine AW_ret ?_ | with_reducible refine AW_region hTt ?_ | fail); conv => whnf) | (exact absurd hb (by omega)) | ((with_reducible refine Exists.intro _ (And.intro (gd_any (And.intro (by omega) (map_some e2))) ?_)); conv => whnf) | (refine AW_cond rfl (fun hb => ?_) (fun hb => ?_) <;> first | (replace hb := of_decide_eq_true hb; try simp only [List.length_map] at hb) | (replace hb := of_decide_eq_false hb; try simp only [List.length_map] at hb) | (simp only [List.length_map, bne_iff_ne, ne_eq, beq_iff_eq, bne_eq_false_iff_eq, beq_eq_false_iff_ne, decide_eq_true_eq, decide_eq_false_iff_not, Bool.not_eq_true', Bool.not_eq_false', Int.natCast_inj] at hb) | skip) | ((first | refine andA ?_ | with_reducible refine And.intro (And.intro (by omega) (And.intro (by first | omega | (simp only [List.length_map]; omega)) (by first | omega | (simp only [List.length_map, List.length_set]; omega)))) ?_ | fail); conv => whnf) | (refine fun hln => ?_; (try rw [List.length_map] at hln); unfold maxLen at hln; conv => whnf) | fail
          refine AW_loop (fun p : (Nat × Int) × List Int => [(16, iv .i64 p.1.2), (15, .x (.o 105 0 vs.length)), (14, iv .i64 i), (13, .x (.o 900 i i)), (10, .x (.o 40 0 (q + 1))), (0, sl vs), (1, sl am)])
            (fun p => [(105, .chain 3 1 0 (p.2.map iPV)), (900, .chain 23 1 i X), (40, .chain 3 1 0 TL)])
            (fun p => (p.1.2 ≤ p.1.1 ∧ -10000 ≤ p.1.2 ∧ p.1.2 ≤ q) ∧ p.2.length = vs.length ∧ spend vs p.1.1 p.1.2 p.2 = coinsOf vs a ∧ ∀ x ∈ p.2, 0 ≤ x ∧ x + p.1.2 ≤ 10000) (fun p => p.1.1) ((a.toNat, a), List.replicate vs.length 0)
            ⟨by dsimp only; omega, List.length_replicate, rfl, fun x hx => by rw [(List.mem_replicate.1 hx).2]; dsimp only; omega⟩ (Imp.forget (by repeat' (first | exact trivial | refine And.intro ?_ ?_ | exact eR | exact eN | rfl | exact ivE (by first | omega | (simp only [List.length_map, List.length_append, List.length_singleton] <;> omega)) | exact oE (by first | omega | (simp only [List.length_map, List.length_append, List.length_singleton] <;> omega)))) (by repeat' (first | exact trivial | refine And.intro ?_ ?_ | exact eR | exact eN | rfl | exact ivE (by first | omega | (simp only [List.length_map, List.length_append, List.length_singleton] <;> omega)) | exact oE (by first | omega | (simp only [List.length_map, List.length_append, List.length_singleton] <;> omega)))) (by kernel_rfl) (by kernel_rfl) (by kernel_rfl)) ?_
          clear eR eN
          rintro ⟨⟨f, n⟩, mm⟩ ⟨⟨hf, hn1, hn2⟩, hml, hsp, hmb⟩
          dsimp only at hf hn1 hn2 hml hsp hmb ⊢
          rcases Int.lt_or_le 0 n with hn0 | hn0
          · obtain ⟨f, rfl⟩ : ∃ f', f = f' + 1 := ⟨f - 1, by omega⟩
            obtain ⟨t, rfl⟩ : ∃ t : Nat, n = t := ⟨n.toNat, by omega⟩
            obtain ⟨kk, hkl, hvt, hw⟩ := ((way_is hok t).2 (by omega)).1
            have hL := hL0 t (by omega)
            simp only [spend] at hsp
            rw [if_pos hn0, Int.toNat_natCast, hw] at hsp
            rw [hw] at hL
            dsimp only at hsp hL
            rw [Int.toNat_natCast] at hsp
            have gv : vs[kk]? = some (vs.getD kk 0) := by rw [List.getD_eq_getElem?_getD, List.getElem?_eq_getElem hkl]; rfl
            have hvk := hok.rng _ (getD_in hkl)
            have g0 : (mm.map iPV)[((kk : Int)).toNat]? = some (iPV (mm.getD kk 0)) := by rw [Int.toNat_natCast, List.getElem?_map, List.getD_eq_getElem?_getD, List.getElem?_eq_getElem (by omega)]; rfl
            have hmk := hmb (mm.getD kk 0) (by rw [List.getD_eq_getElem?_getD, List.getElem?_eq_getElem (by omega)]; exact List.getElem_mem _)
            have hset : (mm.map iPV).set ((kk : Int)).toNat (iPV (mm.getD kk 0 + 1)) = (mm.set kk (mm.getD kk 0 + 1)).map iPV := by rw [Int.toNat_natCast, List.map_set]
            have hl2 : vs.length ≤ (mm.map iPV).length := by rw [List.length_map]; omega
            generalize vs.getD kk 0 = v at *
            generalize mm.getD kk 0 = y at *
            clear hch hL0 hm2
            repeat' first | with_reducible refine AW_seq ?_ | with_reducible refine AW_block ?_ | ((first | with_reducible refine AW_skip ?_ | with_reducible refine AW_exit ?_ | with_reducible refine AW_region hTt ?_ | fail); conv => whnf) | (exact absurd hb (by omega)) | ((first | with_reducible refine And.intro (gd_any ⟨by omega, by omega, by omega⟩) ?_ | refine Exists.intro _ (And.intro (gd_any hL) (And.intro (And.intro (Nat.le_of_ble_eq_true rfl) rfl) ?_)) | refine Exists.intro _ (And.intro (gd_any g0) (And.intro (And.intro (Nat.le_of_ble_eq_true rfl) rfl) ?_)) | refine Exists.intro _ (And.intro g0 (And.intro (Nat.le_of_ble_eq_true rfl) ?_)) | with_reducible refine Exists.intro _ (And.intro (gd_any (And.intro (by omega) (map_some gv))) ?_) | fail); conv => whnf) | (refine AW_cond rfl (fun hb => ?_) (fun hb => ?_) <;> first | (replace hb := of_decide_eq_true hb; try simp only [List.length_map] at hb) | (replace hb := of_decide_eq_false hb; try simp only [List.length_map] at hb) | (simp only [List.length_map, bne_iff_ne, ne_eq, beq_iff_eq, bne_eq_false_iff_eq, beq_eq_false_iff_ne, decide_eq_true_eq, decide_eq_false_iff_not, Bool.not_eq_true', Bool.not_eq_false', Int.natCast_inj] at hb) | skip) | ((first | refine ⟨_, wrap_of (by first | omega | (simp only [List.length_map]; omega)), ?_⟩ | refine andA ?_ | fail); conv => whnf) | fail
            refine ⟨((f, (t : Int) - v), mm.set kk (y + 1)), ⟨⟨by dsimp only; omega, by dsimp only; omega, by dsimp only; omega⟩, by dsimp only; rw [List.length_set]; exact hml, hsp, fun x hx => ?_⟩, Nat.lt_succ_self f, impA⟩
            dsimp only at hx ⊢
            rcases List.mem_or_eq_of_mem_set hx with h | h
            · have := hmb x h; omega
            · omega
          · have hm : coinsOf vs a = mm := by
              rw [← hsp]
              cases f with
              | zero => rfl
              | succ f => simp only [spend]; rw [if_neg (by omega)]
            rw [hm] at hch
            have hle : vs.length ≤ (mm.map iPV).length := by rw [List.length_map]; omega
            have hfz : AV.x (.d (intsPV mm)) = .x (.d (.s 1 ((mm.map iPV).take vs.length))) := by
              rw [List.take_of_length_le (by rw [List.length_map]; omega)]; rfl
            clear hmb hsp hL0 hm2
            repeat' first | ((refine AW_imp (Imp.freeze 105 (fr' := [(15, .x (.d (intsPV mm))), (14, iv .i64 i), (13, .x (.o 900 i i)), (10, .x (.o 40 0 (q + 1))), (0, sl vs), (1, sl am)]) (σ' := [(900, .chain 23 1 i X), (40, .chain 3 1 0 TL)]) rfl ⟨⟨_, rfl, .inr ⟨_, rfl, hle, hfz⟩⟩, ⟨_, rfl, .inl rfl⟩, ⟨_, rfl, .inl rfl⟩, ⟨_, rfl, .inl rfl⟩, ⟨_, rfl, .inl rfl⟩, ⟨_, rfl, .inl rfl⟩, trivial⟩ ⟨rfl, rfl, trivial⟩ rfl rfl) (AW_region (id := 28) hTt ?_)); conv => whnf) | with_reducible refine AW_seq ?_ | with_reducible refine AW_block ?_ | ((first | with_reducible refine AW_skip ?_ | with_reducible refine AW_exit ?_ | with_reducible refine AW_region hTt ?_ | fail); conv => whnf) | (exact absurd hb (by omega)) | ((refine And.intro (by rw [htl]; refine ⟨?_, ?_, ?_⟩ <;> simp [chunk, maxLen] <;> omega) ?_); conv => whnf) | (refine AW_cond rfl (fun hb => ?_) (fun hb => ?_) <;> first | (replace hb := of_decide_eq_true hb; try simp only [List.length_map] at hb) | (replace hb := of_decide_eq_false hb; try simp only [List.length_map] at hb) | (simp only [List.length_map, bne_iff_ne, ne_eq, beq_iff_eq, bne_eq_false_iff_eq, beq_eq_false_iff_ne, decide_eq_true_eq, decide_eq_false_iff_not, Bool.not_eq_true', Bool.not_eq_false', Int.natCast_inj] at hb) | skip) | ((first | refine ⟨_, wrap_of (by first | omega | (simp only [List.length_map]; omega)), ?_⟩ | refine andA ?_ | fail); conv => whnf) | fail
            refine ⟨i + 1, hil, by omega, ?_⟩
            rw [← hch]
            exact impA
        · obtain rfl : i = am.length := by omega
          repeat' first | with_reducible refine AW_seq ?_ | with_reducible refine AW_block ?_ | ((first | with_reducible refine AW_skip ?_ | with_reducible refine AW_exit ?_ | with_reducible refine AW_ret ?_ | with_reducible refine AW_region hTt ?_ | fail); conv => whnf) | (exact absurd hb (by omega)) | (refine AW_cond rfl (fun hb => ?_) (fun hb => ?_) <;> first | (replace hb := of_decide_eq_true hb; try simp only [List.length_map] at hb) | (replace hb := of_decide_eq_false hb; try simp only [List.length_map] at hb) | (simp only [List.length_map, bne_iff_ne, ne_eq, beq_iff_eq, bne_eq_false_iff_eq, beq_eq_false_iff_ne, decide_eq_true_eq, decide_eq_false_iff_not, Bool.not_eq_true', Bool.not_eq_false', Int.natCast_inj] at hb) | skip) | (refine fun hln => ?_; (try rw [List.length_map] at hln); unfold maxLen at hln; conv => whnf) | fail
          exact ⟨_, outO2 rfl rfl rfl (by rw [htl]; exact Nat.le_refl _), leS (by rw [List.take_of_length_le (by rw [htl]; exact Nat.le_refl _), List.take_length, List.map_map]; rfl)⟩
end Go.Proofs.YtnpleednkmhhhaaDoor
namespace Go.Proofs.YtnpleednkmhhhaaDoor
open Go Go.QL
set_option maxHeartbeats 40000000
attribute [local irreducible] ACall FnC YC
theorem nt_f10 {c : Bool} (h : c = false) : (!c) = true := by subst h; rfl
theorem lpays_fn (r : RuleT) (l : List WorkerT) (vs am : List Int) : FnC Tryd.prog 7 [ruleAV r, workersAV l, tillAV vs am] (bv true) := by
  have s1 := wages_fn r l
  have s2 := rwages_fn r l
  have s3 := coins_fn vs am
  have s4 := rcoins_fn vs am
  have haw := awake_fn
  have tf : ¬ (true = false) := by decide
  have ft : ¬ (false = true) := by decide
  generalize wagesP r l = W at *
  generalize coinsP vs am = C at *
  obtain ⟨w, e⟩ := W
  obtain ⟨c, f⟩ := C
  dsimp only at *
  have s5 := pays_fn w w
  rw [decide_eq_true rfl] at s5
  have hi := fun r : List Int => ints_fn r r
  have hee : (e != e) = false := bne_self_eq_false _
  have hcl : (c.map (fun r : List Int => [intsPV r])).length = c.length := List.length_map _
  have hc2 : (bif ((c.length : Int) != (c.length : Int)) then true else f != f) = false := by rw [bne_self_eq_false, bne_self_eq_false]; rfl
  have hc1 : (bif !true then true else e != e) = false := by rw [hee]; rfl
  obtain ⟨r1, r2, r3, r4, r5⟩ := r
  refine FnC_of_AW hTt Tryd.func7 rfl (by kernel_rfl) (res := [.tmp 6]) rfl Tryd.ntmps7 (by simp) fun w0 K0 => ?_
  dsimp only [entry]
  repeat' first | with_reducible refine AW_seq ?_ | with_reducible refine AW_block ?_ | ((first | with_reducible refine AW_skip ?_ | with_reducible refine AW_ret ?_ | with_reducible refine AW_region hTt ?_ | ((refine ⟨_, (s1).call rfl rfl, ?_⟩); (rintro _ _ ⟨rfl, rfl⟩)) | ((refine ⟨_, (s2).call rfl rfl, ?_⟩); (rintro _ _ ⟨rfl, rfl⟩)) | ((refine ⟨_, (s5).call rfl rfl, ?_⟩); (rintro _ _ ⟨rfl, rfl⟩)) | ((refine ⟨_, (s3).call rfl rfl, ?_⟩); (rintro _ _ ⟨rfl, rfl⟩)) | ((refine ⟨_, (s4).call rfl rfl, ?_⟩); (rintro _ _ ⟨rfl, rfl⟩)) | fail); conv => whnf) | (exact absurd (hc1.symm.trans hb) ft) | (exact absurd (hc2.symm.trans hb) ft) | ((refine And.intro (fun h => nt_f10 h) ?_); conv => whnf) | (refine AW_cond rfl (fun hb => ?_) (fun hb => ?_) <;> first | (replace hb := of_decide_eq_true hb; try simp only [List.length_map] at hb) | (replace hb := of_decide_eq_false hb; try simp only [List.length_map] at hb) | (simp only [List.length_map, bne_iff_ne, ne_eq, beq_iff_eq, bne_eq_false_iff_eq, beq_eq_false_iff_ne, decide_eq_true_eq, decide_eq_false_iff_not, Bool.not_eq_true', Bool.not_eq_false', Int.natCast_inj] at hb) | skip) | ((refine andA ?_); conv => whnf) | (refine fun hln => ?_; (try rw [List.length_map] at hln); unfold maxLen at hln; conv => whnf) | fail
  clear s1 s2 s3 s4 s5
  refine AW_loop (fun i : Nat => [(13, iv .i64 i), (11, rowsAV c), (12, rowsAV c)]) (fun _ => []) (fun i => i ≤ c.length) (fun i => c.length - i) 0 (Nat.zero_le _) impA ?_
  intro i hi2
  rcases Nat.lt_or_ge i c.length with hil | hil
  · have e1 : c[i]? = some c[i] := List.getElem?_eq_getElem hil
    have s6 := hi c[i]
    rw [decide_eq_true rfl] at s6
    generalize c[i] = x at *
    repeat' first | with_reducible refine AW_seq ?_ | with_reducible refine AW_block ?_ | ((first | with_reducible refine AW_skip ?_ | with_reducible refine AW_exit ?_ | with_reducible refine AW_region hTt ?_ | refine AW_draw hTt hMix (id := 12) 8 false [0, 0, 3, 7, 0, 0, 48, 112, 255, 511] (by kernel_rfl) rfl rfl (by kernel_rfl) ?_ | fail); conv => whnf) | (exact absurd hb (by omega)) | ((first | ((refine ⟨_, (s6).call rfl rfl, ?_⟩); (rintro _ _ ⟨rfl, rfl⟩)) | with_reducible refine Exists.intro _ (And.intro (gd_any (And.intro (by omega) (map_some e1))) ?_) | fail); conv => whnf) | (refine AW_cond rfl (fun hb => absurd (show false = true from hb) (by decide)) (fun _ => ?_)) | (refine AW_cond rfl (fun hb => ?_) (fun hb => ?_) <;> first | (replace hb := of_decide_eq_true hb; try simp only [List.length_map] at hb) | (replace hb := of_decide_eq_false hb; try simp only [List.length_map] at hb) | (simp only [List.length_map, bne_iff_ne, ne_eq, beq_iff_eq, bne_eq_false_iff_eq, beq_eq_false_iff_ne, decide_eq_true_eq, decide_eq_false_iff_not, Bool.not_eq_true', Bool.not_eq_false', Int.natCast_inj] at hb) | skip) | ((first | refine ⟨_, wrap_of (by first | omega | (simp only [List.length_map]; omega)), ?_⟩ | refine andA ?_ | fail); conv => whnf) | (refine fun hln => ?_; (try rw [List.length_map] at hln); unfold maxLen at hln; conv => whnf) | fail
    exact ⟨i + 1, hil, by omega, impA⟩
  · obtain rfl : i = c.length := by omega
    repeat' first | with_reducible refine AW_seq ?_ | with_reducible refine AW_block ?_ | ((first | with_reducible refine AW_skip ?_ | with_reducible refine AW_exit ?_ | with_reducible refine AW_ret ?_ | with_reducible refine AW_region hTt ?_ | refine AW_draw hTt hMix (id := 12) 8 false [0, 0, 3, 7, 0, 0, 48, 112, 255, 511] (by kernel_rfl) rfl rfl (by kernel_rfl) ?_ | fail); conv => whnf) | (exact absurd hb (by omega)) | ((refine ⟨_, (haw).call rfl rfl, ?_⟩); (rintro _ _ ⟨rfl, rfl⟩); conv => whnf) | (refine AW_cond rfl (fun hb => ?_) (fun hb => ?_) <;> first | (replace hb := of_decide_eq_true hb; try simp only [List.length_map] at hb) | (replace hb := of_decide_eq_false hb; try simp only [List.length_map] at hb) | (simp only [List.length_map, bne_iff_ne, ne_eq, beq_iff_eq, bne_eq_false_iff_eq, beq_eq_false_iff_ne, decide_eq_true_eq, decide_eq_false_iff_not, Bool.not_eq_true', Bool.not_eq_false', Int.natCast_inj] at hb) | skip) | (refine fun hln => ?_; (try rw [List.length_map] at hln); unfold maxLen at hln; conv => whnf) | fail
    rfl
end Go.Proofs.YtnpleednkmhhhaaDoor
