/- What the functions that this law reaches return: part 0. No condition. -/
import Derived.Test.YtnpleednkmhhhaaDoorB04
set_option linter.all false
namespace Go.Proofs.YtnpleednkmhhhaaDoor
open Go Go.QL
set_option maxHeartbeats 1600000
attribute [local irreducible] ACall FnC YC
theorem in_eq {lo hi n : Int} : (bif decide (n ≥ lo) then decide (n ≤ hi) else false) = !outB lo hi n := by
  cases h : outB lo hi n with
  | false => have := outB_false.1 h; simp [this.1, this.2]
  | true =>
    have : ¬ (lo ≤ n ∧ n ≤ hi) := fun e => by rw [outB_false.2 e] at h; cases h
    cases h1 : decide (n ≥ lo) with
    | false => rfl
    | true => have := of_decide_eq_true h1; simp; omega
theorem rin_fn (n lo hi : Int) : FnC Tryd.prog 56 [iv .i64 n, iv .i64 lo, iv .i64 hi] (bv (!outB lo hi n)) := by
  rw [← in_eq]
  refine FnC_of_AW hTt Tryd.func56 rfl (by kernel_rfl) (res := [.tmp 6]) rfl Tryd.ntmps56 (by simp) fun w0 K0 => ?_
  dsimp only [entry]
  repeat' first | with_reducible refine AW_seq ?_ | ((first | with_reducible refine AW_ret ?_ | with_reducible refine AW_region hTt ?_ | refine andA ?_ | fail); conv => whnf) | fail
  rfl
theorem rall_fn (l : List Int) (hi : Int) (h : -4611686018427387904 ≤ hi ∧ hi ≤ 4611686018427387904) : FnC Tryd.prog 65 [sl l, iv .i64 hi] (bv (!outL (-hi) hi l)) := by
  have hll : (l.map (fun n : Int => [PV.v (.int .i64 n)])).length = l.length := List.length_map _
  rw [← Int.zero_sub hi]
  have hin := fun n => rin_fn n (0 - hi) hi
  refine FnC_of_AW hTt Tryd.func65 rfl (by kernel_rfl) (res := [.tmp 4]) rfl Tryd.ntmps65 (by simp) fun w0 K0 => ?_
  dsimp only [entry]
  repeat' first | with_reducible refine AW_seq ?_ | with_reducible refine AW_block ?_ | ((with_reducible refine AW_region hTt ?_); conv => whnf) | fail
  refine AW_loop (fun i : Nat => [(5, iv .i64 i), (0, sl l), (1, iv .i64 hi)]) (fun _ => [])
    (fun i => i ≤ l.length ∧ ∀ j (h1 : j < l.length), j < i → outB (0 - hi) hi l[j] = false) (fun i => l.length - i) 0 ⟨Nat.zero_le _, fun j _ h => absurd h (Nat.not_lt_zero _)⟩ impA ?_
  rintro i ⟨hi1, hz⟩
  rcases Nat.lt_or_ge i l.length with hil | hil
  · have ho := hin l[i]
    generalize hb0 : outB (0 - hi) hi l[i] = b at ho
    cases b with
    | true =>
      have hr : outL (0 - hi) hi l = true := List.any_eq_true.2 ⟨_, List.getElem_mem hil, hb0⟩
      rw [hr]
      clear hin hz hb0 hr
      repeat' first | with_reducible refine AW_seq ?_ | with_reducible refine AW_block ?_ | ((first | with_reducible refine AW_skip ?_ | with_reducible refine AW_exit ?_ | with_reducible refine AW_ret ?_ | with_reducible refine AW_region hTt ?_ | fail); conv => whnf) | (exact absurd hb (by omega)) | ((refine ⟨_, (ho).call rfl rfl, ?_⟩); (rintro _ _ ⟨rfl, rfl⟩); conv => whnf) | (refine AW_cond rfl (fun _ => ?_) (fun hb => absurd (show true = false from hb) (by decide))) | (refine AW_cond rfl (fun hb => ?_) (fun hb => ?_) <;> first | (replace hb := of_decide_eq_true hb; try simp only [List.length_map] at hb) | (replace hb := of_decide_eq_false hb; try simp only [List.length_map] at hb)) | ((first | refine ⟨_, wrap_of (by first | omega | (simp only [List.length_map]; omega)), ?_⟩ | refine andA ?_ | with_reducible refine Exists.intro _ (And.intro (gd_any (And.intro (by omega) (map_get (by omega)))) ?_) | fail); conv => whnf) | (refine fun hln => ?_; (try rw [List.length_map] at hln); unfold maxLen at hln; conv => whnf) | fail
      rfl
    | false =>
      clear hin
      repeat' first | with_reducible refine AW_seq ?_ | with_reducible refine AW_block ?_ | ((first | with_reducible refine AW_skip ?_ | with_reducible refine AW_exit ?_ | with_reducible refine AW_ret ?_ | with_reducible refine AW_region hTt ?_ | fail); conv => whnf) | (exact absurd hb (by omega)) | ((refine ⟨_, (ho).call rfl rfl, ?_⟩); (rintro _ _ ⟨rfl, rfl⟩); conv => whnf) | (refine AW_cond rfl (fun hb => absurd (show false = true from hb) (by decide)) (fun _ => ?_)) | (refine AW_cond rfl (fun hb => ?_) (fun hb => ?_) <;> first | (replace hb := of_decide_eq_true hb; try simp only [List.length_map] at hb) | (replace hb := of_decide_eq_false hb; try simp only [List.length_map] at hb)) | ((first | refine ⟨_, wrap_of (by first | omega | (simp only [List.length_map]; omega)), ?_⟩ | refine andA ?_ | with_reducible refine Exists.intro _ (And.intro (gd_any (And.intro (by omega) (map_get (by omega)))) ?_) | fail); conv => whnf) | (refine fun hln => ?_; (try rw [List.length_map] at hln); unfold maxLen at hln; conv => whnf) | fail
      exact ⟨i + 1, ⟨by omega, fun j h1 h3 => by
        by_cases e : j = i
        · subst e; exact hb0
        · exact hz j h1 (by omega)⟩, by omega, impA⟩
  · have hr : outL (0 - hi) hi l = false := outL_false.2 fun n hn => by
      obtain ⟨j, hj, rfl⟩ := List.getElem_of_mem hn
      exact outB_false.1 (hz j hj (by omega))
    rw [hr]
    repeat' first | with_reducible refine AW_seq ?_ | with_reducible refine AW_block ?_ | ((first | with_reducible refine AW_skip ?_ | with_reducible refine AW_exit ?_ | with_reducible refine AW_ret ?_ | with_reducible refine AW_region hTt ?_ | fail); conv => whnf) | (exact absurd hb (by omega)) | (refine AW_cond rfl (fun hb => ?_) (fun hb => ?_) <;> first | (replace hb := of_decide_eq_true hb; try simp only [List.length_map] at hb) | (replace hb := of_decide_eq_false hb; try simp only [List.length_map] at hb)) | (refine fun hln => ?_; (try rw [List.length_map] at hln); unfold maxLen at hln; conv => whnf) | fail
    rfl
theorem size_fn (n : Int) (h : lim n) : FnC Tryd.prog 35 [iv .i64 n] (iv .i64 (n.natAbs : Int)) := by
  unfold lim at h
  have w0 : IntKind.i64.wrap (0 - n) = -n := by rw [Int.zero_sub]; exact wrap_of (by omega)
  refine FnC_of_AW hTt Tryd.func35 rfl (by kernel_rfl) (res := [.tmp 2]) rfl Tryd.ntmps35 (by simp) fun w0 K0 => ?_
  dsimp only [entry]
  repeat' first | with_reducible refine AW_seq ?_ | ((first | with_reducible refine AW_ret ?_ | with_reducible refine AW_region hTt ?_ | refine ⟨_, wrap_of (by first | omega | (simp only [List.length_map]; omega)), ?_⟩ | fail); conv => whnf) | fail
  exact congrArg (fun x : Int => some (iv .i64 x)) (show (if 0 - n > n then 0 - n else n) = _ by split <;> omega)
theorem rsign_fn (n : Int) : FnC Tryd.prog 37 [iv .i64 n] (iv .i64 (sgnI n)) := by
  refine FnC_of_AW hTt Tryd.func37 rfl (by kernel_rfl) (res := [.tmp 2]) rfl Tryd.ntmps37 (by simp) fun w0 K0 => ?_
  dsimp only [entry]
  repeat' first | with_reducible refine AW_seq ?_ | ((first | with_reducible refine AW_skip ?_ | with_reducible refine AW_ret ?_ | with_reducible refine AW_region hTt ?_ | fail); conv => whnf) | (refine AW_cond rfl (fun hb => ?_) (fun hb => ?_) <;> first | (replace hb := of_decide_eq_true hb; try simp only [List.length_map] at hb) | (replace hb := of_decide_eq_false hb; try simp only [List.length_map] at hb)) | fail
  · rw [show sgnI n = 1 by unfold sgnI; rw [if_neg (by omega), if_pos (by omega)]]; rfl
  · rw [show sgnI n = -1 by unfold sgnI; rw [if_pos (by omega)]]; rfl
  · rw [show sgnI n = 0 by unfold sgnI; rw [if_neg (by omega), if_neg (by omega)]]; rfl
theorem power_fn (x : Int) (n : Nat) (hn : n ≤ 1000) (h : ∀ k, k ≤ n → lim (x ^ k)) : FnC Tryd.prog 36 [iv .i64 x, iv .i64 n] (iv .i64 (x ^ n)) := by
  refine FnC_of_AW hTt Tryd.func36 rfl (by kernel_rfl) (res := [.tmp 4]) rfl Tryd.ntmps36 (by simp) fun w0 K0 => ?_
  dsimp only [entry]
  repeat' first | with_reducible refine AW_seq ?_ | with_reducible refine AW_block ?_ | ((with_reducible refine AW_region hTt ?_); conv => whnf) | fail
  refine AW_loop (fun i : Nat => [(6, iv .i64 i), (5, iv .i64 (x ^ i)), (0, iv .i64 x), (1, iv .i64 n)]) (fun _ => [])
    (fun i => i ≤ n) (fun i => n - i) 0 (Nat.zero_le _) (Imp.forget (by repeat' (first | exact trivial | refine And.intro ?_ ?_ | exact ivE (Int.pow_zero x).symm | rfl | exact ivE (by first | omega | (simp only [List.length_map, List.length_append, List.length_singleton] <;> omega)) | exact oE (by first | omega | (simp only [List.length_map, List.length_append, List.length_singleton] <;> omega)))) (by repeat' (first | exact trivial | refine And.intro ?_ ?_ | exact ivE (Int.pow_zero x).symm | rfl | exact ivE (by first | omega | (simp only [List.length_map, List.length_append, List.length_singleton] <;> omega)) | exact oE (by first | omega | (simp only [List.length_map, List.length_append, List.length_singleton] <;> omega)))) (by kernel_rfl) (by kernel_rfl) (by kernel_rfl)) ?_
  intro i hi
  rcases Nat.lt_or_ge i n with hil | hil
  · have w0 : IntKind.i64.wrap (x ^ i * x) = x ^ (i + 1) := by
      have e : x ^ (i + 1) = x ^ i * x := Int.pow_succ x i
      have := h (i + 1) hil
      rw [e] at this ⊢
      unfold lim at this
      exact wrap_of (by omega)
    clear h
    repeat' first | with_reducible refine AW_seq ?_ | with_reducible refine AW_block ?_ | ((first | with_reducible refine AW_skip ?_ | with_reducible refine AW_exit ?_ | with_reducible refine AW_ret ?_ | with_reducible refine AW_region hTt ?_ | fail); conv => whnf) | (exact absurd hb (by omega)) | ((refine ⟨_, w0, ?_⟩); conv => whnf) | (refine AW_cond rfl (fun hb => ?_) (fun hb => ?_) <;> first | (replace hb := of_decide_eq_true hb; try simp only [List.length_map] at hb) | (replace hb := of_decide_eq_false hb; try simp only [List.length_map] at hb)) | ((refine ⟨_, wrap_of (by first | omega | (simp only [List.length_map]; omega)), ?_⟩); conv => whnf) | fail
    exact ⟨i + 1, by omega, by omega, impA⟩
  · obtain rfl : i = n := by omega
    repeat' first | with_reducible refine AW_seq ?_ | with_reducible refine AW_block ?_ | ((first | with_reducible refine AW_skip ?_ | with_reducible refine AW_exit ?_ | with_reducible refine AW_ret ?_ | with_reducible refine AW_region hTt ?_ | fail); conv => whnf) | (exact absurd hb (by omega)) | (refine AW_cond rfl (fun hb => ?_) (fun hb => ?_) <;> first | (replace hb := of_decide_eq_true hb; try simp only [List.length_map] at hb) | (replace hb := of_decide_eq_false hb; try simp only [List.length_map] at hb)) | fail
    rfl
theorem poly_fn (p : List Int) : FnC Tryd.prog 64 [sl p] (iv .i64 (checkE p)) := by
  have hll : (p.map (fun n : Int => [PV.v (.int .i64 n)])).length = p.length := List.length_map _
  have h1 := rin_fn ((p.map (fun n : Int => [PV.v (.int .i64 n)])).length : Int) 1 5
  have h2 := rall_fn p 100 (by decide)
  unfold checkE
  rw [outL_one, ← hll]
  generalize outB 1 5 ((p.map (fun n : Int => [PV.v (.int .i64 n)])).length : Int) = b1 at h1
  rw [show (-100 : Int) = -100 from rfl] at h2
  generalize outL (-100) 100 p = b2 at h2
  cases b1 <;> cases b2 <;> (
    refine FnC_of_AW hTt Tryd.func64 rfl (by kernel_rfl) (res := [.tmp 2]) rfl Tryd.ntmps64 (by simp) fun w0 K0 => ?_
    dsimp only [entry]
    repeat' first | with_reducible refine AW_seq ?_ | ((first | with_reducible refine AW_skip ?_ | with_reducible refine AW_ret ?_ | with_reducible refine AW_region hTt ?_ | ((refine ⟨_, (h1).call rfl rfl, ?_⟩); (rintro _ _ ⟨rfl, rfl⟩)) | ((refine ⟨_, (h2).call rfl rfl, ?_⟩); (rintro _ _ ⟨rfl, rfl⟩)) | fail); conv => whnf) | (refine AW_cond rfl (fun _ => ?_) (fun hb => absurd (show true = false from hb) (by decide))) | (refine AW_cond rfl (fun hb => absurd (show false = true from hb) (by decide)) (fun _ => ?_)) | (refine fun hln => ?_; (try rw [List.length_map] at hln); unfold maxLen at hln; conv => whnf) | fail
    rfl)
theorem interval_fn (a b : Int) : FnC Tryd.prog 66 [iv .i64 a, iv .i64 b] (iv .i64 (judgeE a b)) := by
  have h1 := rin_fn a (-10) 10
  have h2 := rin_fn b (-10) 10
  unfold judgeE
  rw [show outL (-10) 10 [a, b] = (outB (-10) 10 a || outB (-10) 10 b) by unfold outL; simp]
  generalize outB (-10) 10 a = b1 at h1
  generalize outB (-10) 10 b = b2 at h2
  cases b1 <;> cases b2 <;> by_cases hba : b ≤ a <;> simp only [hba, Bool.or_true, Bool.or_false, Bool.or_self, if_true, if_false, ite_true, ite_false, reduceIte] <;> (
    refine FnC_of_AW hTt Tryd.func66 rfl (by kernel_rfl) (res := [.tmp 4]) rfl Tryd.ntmps66 (by simp) fun w0 K0 => ?_
    dsimp only [entry]
    repeat' first | with_reducible refine AW_seq ?_ | ((first | with_reducible refine AW_skip ?_ | with_reducible refine AW_ret ?_ | with_reducible refine AW_region hTt ?_ | fail); conv => whnf) | (exact absurd hb (by omega)) | ((first | ((refine ⟨_, (h1).call rfl rfl, ?_⟩); (rintro _ _ ⟨rfl, rfl⟩)) | refine ⟨_, fun _ => (h2).call rfl rfl, ?_⟩ | fail); conv => whnf) | (refine AW_cond rfl (fun _ => ?_) (fun hb => absurd (show true = false from hb) (by decide))) | (refine AW_cond rfl (fun hb => absurd (show false = true from hb) (by decide)) (fun _ => ?_)) | (refine AW_cond rfl (fun hb => ?_) (fun hb => ?_) <;> first | (replace hb := of_decide_eq_true hb; try simp only [List.length_map] at hb) | (replace hb := of_decide_eq_false hb; try simp only [List.length_map] at hb)) | ((refine andA ?_); conv => whnf) | fail
    rfl)
theorem rtable_fn (l : List Int) : FnC Tryd.prog 70 [sl l] (iv .i64 (inspectE l)) := by
  have hll : (l.map (fun n : Int => [PV.v (.int .i64 n)])).length = l.length := List.length_map _
  have h2 := rall_fn l 1000000000 (by decide)
  unfold inspectE
  generalize outL (-1000000000) 1000000000 l = b2 at h2
  by_cases h1 : 30 < l.length
  · rw [if_pos h1]
    refine FnC_of_AW hTt Tryd.func70 rfl (by kernel_rfl) (res := [.tmp 2]) rfl Tryd.ntmps70 (by simp) fun w0 K0 => ?_
    dsimp only [entry]
    repeat' first | with_reducible refine AW_seq ?_ | ((first | with_reducible refine AW_skip ?_ | with_reducible refine AW_ret ?_ | with_reducible refine AW_region hTt ?_ | fail); conv => whnf) | (exact absurd hb (by omega)) | (refine AW_cond rfl (fun hb => ?_) (fun hb => ?_) <;> first | (replace hb := of_decide_eq_true hb; try simp only [List.length_map] at hb) | (replace hb := of_decide_eq_false hb; try simp only [List.length_map] at hb)) | (refine fun hln => ?_; (try rw [List.length_map] at hln); unfold maxLen at hln; conv => whnf) | fail
    rfl
  · rw [if_neg h1]
    cases b2 <;> (
      refine FnC_of_AW hTt Tryd.func70 rfl (by kernel_rfl) (res := [.tmp 2]) rfl Tryd.ntmps70 (by simp) fun w0 K0 => ?_
      dsimp only [entry]
      repeat' first | with_reducible refine AW_seq ?_ | ((first | with_reducible refine AW_skip ?_ | with_reducible refine AW_ret ?_ | with_reducible refine AW_region hTt ?_ | fail); conv => whnf) | (exact absurd hb (by omega)) | ((refine ⟨_, (h2).call rfl rfl, ?_⟩); (rintro _ _ ⟨rfl, rfl⟩); conv => whnf) | (refine AW_cond rfl (fun _ => ?_) (fun hb => absurd (show true = false from hb) (by decide))) | (refine AW_cond rfl (fun hb => absurd (show false = true from hb) (by decide)) (fun _ => ?_)) | (refine AW_cond rfl (fun hb => ?_) (fun hb => ?_) <;> first | (replace hb := of_decide_eq_true hb; try simp only [List.length_map] at hb) | (replace hb := of_decide_eq_false hb; try simp only [List.length_map] at hb)) | (refine fun hln => ?_; (try rw [List.length_map] at hln); unfold maxLen at hln; conv => whnf) | fail
      rfl)
end Go.Proofs.YtnpleednkmhhhaaDoor
namespace Go.Proofs.YtnpleednkmhhhaaDoor
open Go Go.QL
set_option maxHeartbeats 1600000
attribute [local irreducible] ACall FnC YC
theorem reduced_fn (n d : Int) (hn : lim n) (hd : lim d) (h0 : d ≠ 0) : FnC Tryd.prog 46 [iv .i64 n, iv .i64 d] (r2AV (redP n d)) := by
  have z1 := size_fn n hn
  have z2 := size_fn d hd
  have key : ∀ c : Int, c.natAbs = Int.gcd n d → decide (c < 0) = decide (d < 0) → lim (n.tdiv c) ∧ lim (d.tdiv c) ∧ c ≠ 0 ∧ (n.tdiv c, d.tdiv c) = redP n d := by
    intro c h1 h2
    have hg0 : 0 < Int.gcd n d := Int.gcd_pos_of_ne_zero_right n h0
    have h3 := Int.natAbs_tdiv_le_natAbs n c
    have h4 := Int.natAbs_tdiv_le_natAbs d c
    unfold lim at *
    exact ⟨by omega, by omega, by omega, tdiv_gcd h0 h1 h2⟩
  have hgg : Int.gcd (n.natAbs : Int) (d.natAbs : Int) = Int.gcd n d := by unfold Int.gcd; simp
  have hln1 : (n.natAbs : Int) ≤ 4611686018427387904 := by unfold lim at hn; omega
  have hln2 : (d.natAbs : Int) ≤ 4611686018427387904 := by unfold lim at hd; omega
  refine FnC_of_AW hTt Tryd.func46 rfl (by kernel_rfl) (res := [.cell 4 34]) rfl Tryd.ntmps46 (by simp) fun w0 K0 => ?_
  dsimp only [entry]
  repeat' first | with_reducible refine AW_seq ?_ | with_reducible refine AW_block ?_ | ((first | with_reducible refine AW_region hTt ?_ | ((refine ⟨_, (z1).call rfl rfl, ?_⟩); (rintro _ _ ⟨rfl, rfl⟩)) | ((refine ⟨_, (z2).call rfl rfl, ?_⟩); (rintro _ _ ⟨rfl, rfl⟩)) | fail); conv => whnf) | fail
  clear z1 z2
  refine AW_loop (fun p : Int × Int => [(6, iv .i64 p.2), (5, iv .i64 p.1), (0, iv .i64 n), (1, iv .i64 d), (4, .x (.b 4 0))]) (fun _ => [(4, .box [.d (.v (.int .i64 0)), .d (.v (.int .i64 0))])])
    (fun p => 0 ≤ p.1 ∧ p.1 ≤ 4611686018427387904 ∧ 0 ≤ p.2 ∧ p.2 ≤ 4611686018427387904 ∧ Int.gcd p.1 p.2 = Int.gcd n d) (fun p => p.2.natAbs) ((n.natAbs : Int), (d.natAbs : Int)) ⟨by show (0 : Int) ≤ (n.natAbs : Int); omega, hln1, by show (0 : Int) ≤ (d.natAbs : Int); omega, hln2, hgg⟩ impA ?_
  rintro ⟨a, b⟩ ⟨ha0, ha, hb0, hbl, hg⟩
  dsimp only at ha0 ha hb0 hbl hg ⊢
  clear hgg hln1 hln2
  by_cases hz : b = 0
  · subst hz
    rw [Int.gcd_zero_right] at hg
    by_cases hs : d < 0
    · obtain ⟨k1, k2, k3, k4⟩ := key (-a) (by omega) (by rw [decide_eq_true hs]; have := Int.gcd_pos_of_ne_zero_right n h0; exact decide_eq_true (by omega))
      rw [← k4]
      unfold lim at k1 k2
      clear key hg k4
      have w0 : IntKind.i64.wrap (0 - a) = -a := by rw [Int.zero_sub]; exact wrap_of (by omega)
      have w1 : IntKind.i64.wrap (n.tdiv (-a)) = n.tdiv (-a) := wrap_of (by omega)
      have w2 : IntKind.i64.wrap (d.tdiv (-a)) = d.tdiv (-a) := wrap_of (by omega)
      repeat' first | with_reducible refine AW_seq ?_ | ((first | with_reducible refine AW_skip ?_ | with_reducible refine AW_exit ?_ | with_reducible refine AW_ret ?_ | with_reducible refine AW_region hTt ?_ | refine AW_draw hTt hMix (id := 6) 6 false [0, 0, 3, 0, 0, 24, 63, 127] (by kernel_rfl) rfl rfl (by kernel_rfl) ?_ | fail); conv => whnf) | (exact absurd hb (by omega)) | ((first | refine And.intro (gd_none k3) ?_ | refine ⟨_, w0, ?_⟩ | refine ⟨_, w1, ?_⟩ | refine ⟨_, w2, ?_⟩ | fail); conv => whnf) | (refine AW_cond rfl (fun hb => absurd (show false = true from hb) (by decide)) (fun _ => ?_)) | (refine AW_cond rfl (fun hb => ?_) (fun hb => ?_) <;> first | (replace hb := of_decide_eq_true hb; try simp only [List.length_map] at hb) | (replace hb := of_decide_eq_false hb; try simp only [List.length_map] at hb) | (simp only [List.length_map, bne_iff_ne, ne_eq, beq_iff_eq, bne_eq_false_iff_eq, beq_eq_false_iff_ne, decide_eq_true_eq, decide_eq_false_iff_not, Bool.not_eq_true', Bool.not_eq_false', Int.natCast_inj] at hb) | skip) | ((refine andA ?_); conv => whnf) | fail
      rfl
    · obtain ⟨k1, k2, k3, k4⟩ := key a hg (by rw [decide_eq_false hs]; exact decide_eq_false (by omega))
      rw [← k4]
      unfold lim at k1 k2
      clear key hg k4
      have w1 : IntKind.i64.wrap (n.tdiv a) = n.tdiv a := wrap_of (by omega)
      have w2 : IntKind.i64.wrap (d.tdiv a) = d.tdiv a := wrap_of (by omega)
      repeat' first | with_reducible refine AW_seq ?_ | ((first | with_reducible refine AW_skip ?_ | with_reducible refine AW_exit ?_ | with_reducible refine AW_ret ?_ | with_reducible refine AW_region hTt ?_ | refine AW_draw hTt hMix (id := 6) 6 false [0, 0, 3, 0, 0, 24, 63, 127] (by kernel_rfl) rfl rfl (by kernel_rfl) ?_ | fail); conv => whnf) | (exact absurd hb (by omega)) | ((first | refine And.intro (gd_none k3) ?_ | refine ⟨_, w1, ?_⟩ | refine ⟨_, w2, ?_⟩ | fail); conv => whnf) | (refine AW_cond rfl (fun hb => absurd (show false = true from hb) (by decide)) (fun _ => ?_)) | (refine AW_cond rfl (fun hb => ?_) (fun hb => ?_) <;> first | (replace hb := of_decide_eq_true hb; try simp only [List.length_map] at hb) | (replace hb := of_decide_eq_false hb; try simp only [List.length_map] at hb) | (simp only [List.length_map, bne_iff_ne, ne_eq, beq_iff_eq, bne_eq_false_iff_eq, beq_eq_false_iff_ne, decide_eq_true_eq, decide_eq_false_iff_not, Bool.not_eq_true', Bool.not_eq_false', Int.natCast_inj] at hb) | skip) | ((refine andA ?_); conv => whnf) | fail
      rfl
  · have hm0 := Int.emod_nonneg a hz
    have hm1 := Int.emod_lt_of_pos a (show 0 < b by omega)
    have ht : a.tmod b = a % b := Int.tmod_eq_emod_of_nonneg ha0
    have hgm : Int.gcd b (a.tmod b) = Int.gcd n d := by rw [gcd_tmod]; exact hg
    rw [ht] at hgm
    have w0 : IntKind.i64.wrap (a.tmod b) = a % b := by rw [ht]; exact wrap_of (by omega)
    clear key
    repeat' first | with_reducible refine AW_seq ?_ | with_reducible refine AW_block ?_ | ((first | with_reducible refine AW_skip ?_ | with_reducible refine AW_exit ?_ | with_reducible refine AW_region hTt ?_ | refine AW_draw hTt hMix (id := 3) 5 false [0, 0, 0, 6, 3, 31] (by kernel_rfl) rfl rfl (by kernel_rfl) ?_ | fail); conv => whnf) | (exact absurd hb (by omega)) | ((first | refine And.intro (gd_none hz) ?_ | refine ⟨a % b, ht, ?_⟩ | fail); conv => whnf) | (refine AW_cond rfl (fun hb => ?_) (fun hb => ?_) <;> first | (replace hb := of_decide_eq_true hb; try simp only [List.length_map] at hb) | (replace hb := of_decide_eq_false hb; try simp only [List.length_map] at hb) | (simp only [List.length_map, bne_iff_ne, ne_eq, beq_iff_eq, bne_eq_false_iff_eq, beq_eq_false_iff_ne, decide_eq_true_eq, decide_eq_false_iff_not, Bool.not_eq_true', Bool.not_eq_false', Int.natCast_inj] at hb) | skip) | ((refine andA ?_); conv => whnf) | fail
    exact ⟨(b, a % b), ⟨hb0, hbl, hm0, by show a % b ≤ 4611686018427387904; omega, hgm⟩, by show (a % b).natAbs < b.natAbs; omega, impA⟩
def sysE (s : SysT) : Int := if longE s = true then 3 else if rangeE s = true then 7 else 0
theorem sysE_1 {s : SysT} (h : outB 1 4 (s.rows.length : Int) = true) : sysE s = 3 := by
  have : longE s = true := by unfold longE; rw [outL_one, h]; rfl
  unfold sysE; rw [if_pos this]
theorem sysE_2 {s : SysT} (h : s.right.length ≠ s.rows.length) : sysE s = 3 := by
  have : longE s = true := by unfold longE; rw [decide_eq_true h]; simp
  unfold sysE; rw [if_pos this]
theorem sysE_3 {s : SysT} {i : Nat} (hi : i < s.rows.length) (h : s.rows[i].length ≠ s.rows.length) : sysE s = 3 := by
  have : longE s = true := by
    unfold longE
    rw [List.any_eq_true.2 ⟨_, List.getElem_mem hi, decide_eq_true h⟩]; simp
  unfold sysE; rw [if_pos this]
theorem sysE_4 {s : SysT} (h1 : outB 1 4 (s.rows.length : Int) = false) (h2 : s.right.length = s.rows.length) (h3 : ∀ j (h : j < s.rows.length), j < s.rows.length → s.rows[j].length = s.rows.length) :
    sysE s = if (!outL (-10000) 10000 s.right && !(s.rows.take s.rows.length).any (outL (-100) 100)) = true then 0 else 7 := by
  have : longE s = false := by
    unfold longE
    rw [outL_one, h1, decide_eq_false (by simpa using h2), Bool.or_false, Bool.false_or, List.any_eq_false]
    intro r hr
    obtain ⟨j, hj, rfl⟩ := List.getElem_of_mem hr
    simpa using h3 j hj hj
  unfold sysE
  rw [if_neg (by rw [this]; decide), List.take_length]
  unfold rangeE
  cases outL (-10000) 10000 s.right <;> cases s.rows.any (outL (-100) 100) <;> rfl
theorem rsystem_fn (s : SysT) : FnC Tryd.prog 45 [sysAV s] (iv .i64 (sysE s)) := by
  have e1 := @sysE_1 s
  have e2 := @sysE_2 s
  have e3 := @sysE_3 s
  have e4 := @sysE_4 s
  obtain ⟨rows, right⟩ := s
  dsimp only at e1 e2 e3 e4
  have hl1 : (rwPV rows).length = rows.length := List.length_map _
  have hl2 : (right.map fun n => [PV.v (.int .i64 n)]).length = right.length := List.length_map _
  have hl3 : ∀ r : List Int, (r.map fun n => [PV.v (.int .i64 n)]).length = r.length := fun r => List.length_map _
  have o1 := rin_fn ((rwPV rows).length : Int) 1 4
  have o2 := rall_fn right 10000 (by decide)
  have o3 := fun r => rall_fn r 100 (by decide)
  rw [hl1] at o1
  change FnC _ _ [.a [.d (.s 1 (rwPV rows)), .d (intsPV right)]] _
  generalize sysE ⟨rows, right⟩ = R at *
  generalize outB 1 4 (rows.length : Int) = b1 at *
  generalize hfr : outL (-10000) 10000 right = b2 at *
  rw [← hl1] at o1
  cases b1 with
  | true =>
    obtain rfl := e1 rfl
    refine FnC_of_AW hTt Tryd.func45 rfl (by kernel_rfl) (res := [.tmp 2]) rfl Tryd.ntmps45 (by simp) fun w0 K0 => ?_
    dsimp only [entry]
    repeat' first | with_reducible refine AW_seq ?_ | ((first | with_reducible refine AW_ret ?_ | with_reducible refine AW_region hTt ?_ | ((refine ⟨_, (o1).call rfl rfl, ?_⟩); (rintro _ _ ⟨rfl, rfl⟩)) | fail); conv => whnf) | (refine AW_cond rfl (fun _ => ?_) (fun hb => absurd (show true = false from hb) (by decide))) | ((refine andA ?_); conv => whnf) | (refine fun hln => ?_; (try rw [List.length_map] at hln); unfold maxLen at hln; conv => whnf) | fail
    rfl
  | false =>
    by_cases hr : right.length = rows.length
    · clear e1 e2
      have e4 := e4 rfl hr
      have hrN : ((right.length : Int) != (rows.length : Int)) = false := by rw [hr]; simp
      clear hfr
      refine FnC_of_AW hTt Tryd.func45 rfl (by kernel_rfl) (res := [.tmp 2]) rfl Tryd.ntmps45 (by simp) fun w0 K0 => ?_
      dsimp only [entry]
      repeat' first | with_reducible refine AW_seq ?_ | with_reducible refine AW_block ?_ | ((first | with_reducible refine AW_skip ?_ | with_reducible refine AW_ret ?_ | with_reducible refine AW_region hTt ?_ | fail); conv => whnf) | (exact absurd (hrN.symm.trans hb) (by decide)) | ((first | ((refine ⟨_, (o1).call rfl rfl, ?_⟩); (rintro _ _ ⟨rfl, rfl⟩)) | ((refine ⟨_, (o2).call rfl rfl, ?_⟩); (rintro _ _ ⟨rfl, rfl⟩)) | fail); conv => whnf) | (refine AW_cond rfl (fun hb => ?_) (fun hb => ?_) <;> first | (replace hb := of_decide_eq_true hb; try simp only [List.length_map] at hb) | (replace hb := of_decide_eq_false hb; try simp only [List.length_map] at hb) | (simp only [List.length_map, bne_iff_ne, ne_eq, beq_iff_eq, bne_eq_false_iff_eq, beq_eq_false_iff_ne, decide_eq_true_eq, decide_eq_false_iff_not, Bool.not_eq_true', Bool.not_eq_false', Int.natCast_inj] at hb) | skip) | ((refine andA ?_); conv => whnf) | (refine fun hln => ?_; (try rw [List.length_map] at hln); unfold maxLen at hln; conv => whnf) | fail
      clear o1 o2 hb
      refine AW_loop (fun i : Nat => [(5, iv .i64 i), (4, bv (!b2 && !(rows.take i).any (outL (-100) 100))), (3, iv .i64 (rwPV rows).length), (1, .x (.b 1 0))]) (fun _ => [(1, .box [.d (.s 1 (rwPV rows)), .d (intsPV right)])])
        (fun i => i ≤ rows.length ∧ ∀ j (h : j < rows.length), j < i → rows[j].length = rows.length) (fun i => rows.length - i) 0 ⟨Nat.zero_le _, fun j _ h => absurd h (Nat.not_lt_zero _)⟩ (Imp.forget (by repeat' (first | exact trivial | refine And.intro ?_ ?_ | exact congrArg (fun b => some (bv b)) (by simp) | rfl | exact ivE (by first | omega | (simp only [List.length_map, List.length_append, List.length_singleton] <;> omega)) | exact oE (by first | omega | (simp only [List.length_map, List.length_append, List.length_singleton] <;> omega)))) (by repeat' (first | exact trivial | refine And.intro ?_ ?_ | exact congrArg (fun b => some (bv b)) (by simp) | rfl | exact ivE (by first | omega | (simp only [List.length_map, List.length_append, List.length_singleton] <;> omega)) | exact oE (by first | omega | (simp only [List.length_map, List.length_append, List.length_singleton] <;> omega)))) (by kernel_rfl) (by kernel_rfl) (by kernel_rfl)) ?_
      rintro i ⟨hi, hz⟩
      rcases Nat.lt_or_ge i rows.length with hil | hil
      · have hnx : (!b2 && !(rows.take (i + 1)).any (outL (-100) 100)) = (bif (!b2 && !(rows.take i).any (outL (-100) 100)) then !outL (-100) 100 rows[i] else false) := by
          rw [List.take_add_one, List.getElem?_eq_getElem hil, List.any_append]
          cases b2 <;> cases (rows.take i).any (outL (-100) 100) <;> simp
        have ho := o3 rows[i]
        have hlr := hl3 rows[i]
        by_cases hrl : rows[i].length = rows.length
        · have hz1 : ∀ j (h : j < rows.length), j < i + 1 → rows[j].length = rows.length := fun j h hj => by
            by_cases e : j = i
            · subst e; exact hrl
            · exact hz j h (by omega)
          clear e3 e4 hz o3
          generalize (!b2 && !(rows.take i).any (outL (-100) 100)) = c at hnx ⊢
          repeat' first | with_reducible refine AW_seq ?_ | with_reducible refine AW_block ?_ | ((first | with_reducible refine AW_skip ?_ | with_reducible refine AW_exit ?_ | with_reducible refine AW_ret ?_ | with_reducible refine AW_region hTt ?_ | fail); conv => whnf) | (exact absurd hb (by omega)) | ((refine ⟨_, fun _ => (ho).call rfl rfl, ?_⟩); conv => whnf) | (refine AW_cond rfl (fun hb => ?_) (fun hb => ?_) <;> first | (replace hb := of_decide_eq_true hb; try simp only [List.length_map] at hb) | (replace hb := of_decide_eq_false hb; try simp only [List.length_map] at hb) | (simp only [List.length_map, bne_iff_ne, ne_eq, beq_iff_eq, bne_eq_false_iff_eq, beq_eq_false_iff_ne, decide_eq_true_eq, decide_eq_false_iff_not, Bool.not_eq_true', Bool.not_eq_false', Int.natCast_inj] at hb) | skip) | ((first | refine ⟨_, wrap_of (by first | omega | (simp only [List.length_map]; omega)), ?_⟩ | refine andA ?_ | with_reducible refine Exists.intro _ (And.intro (gd_any (And.intro (by omega) (map_get (by omega)))) ?_) | fail); conv => whnf) | (refine fun hln => ?_; (try rw [List.length_map] at hln); unfold maxLen at hln; conv => whnf) | fail
          exact ⟨i + 1, ⟨by omega, hz1⟩, by omega, (Imp.forget (by repeat' (first | exact trivial | refine And.intro ?_ ?_ | exact congrArg (fun b => some (bv b)) hnx.symm | rfl | exact ivE (by first | omega | (simp only [List.length_map, List.length_append, List.length_singleton] <;> omega)) | exact oE (by first | omega | (simp only [List.length_map, List.length_append, List.length_singleton] <;> omega)))) (by repeat' (first | exact trivial | refine And.intro ?_ ?_ | exact congrArg (fun b => some (bv b)) hnx.symm | rfl | exact ivE (by first | omega | (simp only [List.length_map, List.length_append, List.length_singleton] <;> omega)) | exact oE (by first | omega | (simp only [List.length_map, List.length_append, List.length_singleton] <;> omega)))) (by kernel_rfl) (by kernel_rfl) (by kernel_rfl))⟩
        · obtain rfl := e3 hil hrl
          clear e3 e4 hz o3 hnx ho
          generalize (!b2 && !(rows.take i).any (outL (-100) 100)) = c
          repeat' first | with_reducible refine AW_seq ?_ | with_reducible refine AW_block ?_ | ((first | with_reducible refine AW_skip ?_ | with_reducible refine AW_exit ?_ | with_reducible refine AW_ret ?_ | with_reducible refine AW_region hTt ?_ | fail); conv => whnf) | (exact absurd hb (by omega)) | (refine AW_cond rfl (fun hb => ?_) (fun hb => ?_) <;> first | (replace hb := of_decide_eq_true hb; try simp only [List.length_map] at hb) | (replace hb := of_decide_eq_false hb; try simp only [List.length_map] at hb) | (simp only [List.length_map, bne_iff_ne, ne_eq, beq_iff_eq, bne_eq_false_iff_eq, beq_eq_false_iff_ne, decide_eq_true_eq, decide_eq_false_iff_not, Bool.not_eq_true', Bool.not_eq_false', Int.natCast_inj] at hb) | skip) | ((first | refine andA ?_ | with_reducible refine Exists.intro _ (And.intro (gd_any (And.intro (by omega) (map_get (by omega)))) ?_) | fail); conv => whnf) | (refine fun hln => ?_; (try rw [List.length_map] at hln); unfold maxLen at hln; conv => whnf) | fail
          rfl
      · obtain rfl : i = rows.length := by omega
        have e4 := e4 hz
        generalize (!b2 && !(rows.take rows.length).any (outL (-100) 100)) = c at e4 ⊢
        clear e3 hz o3
        cases c <;> (
          obtain rfl := e4
          repeat' first | with_reducible refine AW_seq ?_ | with_reducible refine AW_block ?_ | ((first | with_reducible refine AW_skip ?_ | with_reducible refine AW_exit ?_ | with_reducible refine AW_ret ?_ | with_reducible refine AW_region hTt ?_ | fail); conv => whnf) | (exact absurd hb (by omega)) | (refine AW_cond rfl (fun _ => ?_) (fun hb => absurd (show true = false from hb) (by decide))) | (refine AW_cond rfl (fun hb => absurd (show false = true from hb) (by decide)) (fun _ => ?_)) | (refine AW_cond rfl (fun hb => ?_) (fun hb => ?_) <;> first | (replace hb := of_decide_eq_true hb; try simp only [List.length_map] at hb) | (replace hb := of_decide_eq_false hb; try simp only [List.length_map] at hb) | (simp only [List.length_map, bne_iff_ne, ne_eq, beq_iff_eq, bne_eq_false_iff_eq, beq_eq_false_iff_ne, decide_eq_true_eq, decide_eq_false_iff_not, Bool.not_eq_true', Bool.not_eq_false', Int.natCast_inj] at hb) | skip) | fail
          rfl)
    · obtain rfl := e2 hr
      have hr' : ((right.length : Int) != (rows.length : Int)) = true := by rw [ne_nat]; exact decide_eq_true hr
      clear e1 e3 e4
      refine FnC_of_AW hTt Tryd.func45 rfl (by kernel_rfl) (res := [.tmp 2]) rfl Tryd.ntmps45 (by simp) fun w0 K0 => ?_
      dsimp only [entry]
      repeat' first | with_reducible refine AW_seq ?_ | ((first | with_reducible refine AW_skip ?_ | with_reducible refine AW_ret ?_ | with_reducible refine AW_region hTt ?_ | ((refine ⟨_, (o1).call rfl rfl, ?_⟩); (rintro _ _ ⟨rfl, rfl⟩)) | fail); conv => whnf) | (exact absurd (hr'.symm.trans hb) (by decide)) | (refine AW_cond rfl (fun hb => ?_) (fun hb => ?_) <;> first | (replace hb := of_decide_eq_true hb; try simp only [List.length_map] at hb) | (replace hb := of_decide_eq_false hb; try simp only [List.length_map] at hb) | (simp only [List.length_map, bne_iff_ne, ne_eq, beq_iff_eq, bne_eq_false_iff_eq, beq_eq_false_iff_ne, decide_eq_true_eq, decide_eq_false_iff_not, Bool.not_eq_true', Bool.not_eq_false', Int.natCast_inj] at hb) | skip) | ((refine andA ?_); conv => whnf) | (refine fun hln => ?_; (try rw [List.length_map] at hln); unfold maxLen at hln; conv => whnf) | fail
      rfl
end Go.Proofs.YtnpleednkmhhhaaDoor
namespace Go.Proofs.YtnpleednkmhhhaaDoor
open Go Go.QL
set_option maxHeartbeats 4000000
set_option linter.unusedSimpArgs false
def d2 (B : Mat) (r0 r1 c0 c1 : Nat) : Int := B r0 c0 * B r1 c1 - B r0 c1 * B r1 c0
def d3 (B : Mat) (r0 r1 r2 c0 c1 c2 : Nat) : Int := B r0 c0 * d2 B r1 r2 c1 c2 - B r0 c1 * d2 B r1 r2 c0 c2 + B r0 c2 * d2 B r1 r2 c0 c1
def d4 (B : Mat) (r0 r1 r2 r3 c0 c1 c2 c3 : Nat) : Int := B r0 c0 * d3 B r1 r2 r3 c1 c2 c3 - B r0 c1 * d3 B r1 r2 r3 c0 c2 c3 + B r0 c2 * d3 B r1 r2 r3 c0 c1 c3 - B r0 c3 * d3 B r1 r2 r3 c0 c1 c2
def Dm (B : Mat) : Nat → (Nat → Nat) → Int
  | 0, _ => 1
  | 1, c => B 0 (c 0)
  | 2, c => d2 B 0 1 (c 0) (c 1)
  | 3, c => d3 B 0 1 2 (c 0) (c 1) (c 2)
  | _, c => d4 B 0 1 2 3 (c 0) (c 1) (c 2) (c 3)
def rep (r x : Nat) : Nat → Nat := fun i => if i = r then x else i
def Em (B : Mat) : Nat → Mat
  | 0 => B
  | 1 => fun r c => if r < 1 then Dm B 1 (rep r c) else d2 B 0 r 0 c
  | 2 => fun r c => if r < 2 then Dm B 2 (rep r c) else d3 B 0 1 r 0 1 c
  | 3 => fun r c => if r < 3 then Dm B 3 (rep r c) else d4 B 0 1 2 r 0 1 2 c
  | _ => fun r c => Dm B 4 (rep r c)
theorem em_step {k r c : Nat} (B : Mat) (hk : k < 4) (hr : r < 4) (hrk : r ≠ k) : Em B k k k * Em B k r c - Em B k r k * Em B k k c = Dm B k id * Em B (k + 1) r c := by
  have hk' : k = 0 ∨ k = 1 ∨ k = 2 ∨ k = 3 := by omega
  have hr' : r = 0 ∨ r = 1 ∨ r = 2 ∨ r = 3 := by omega
  rcases hk' with rfl | rfl | rfl | rfl <;> rcases hr' with rfl | rfl | rfl | rfl <;> first | exact absurd rfl hrk | (simp [Em, Dm, rep, d2, d3, d4]; grind)
theorem em_stay {k c : Nat} (B : Mat) (hk : k < 4) : Em B (k + 1) k c = Em B k k c := by
  have hk' : k = 0 ∨ k = 1 ∨ k = 2 ∨ k = 3 := by omega
  rcases hk' with rfl | rfl | rfl | rfl <;> simp [Em, Dm, rep]
theorem Dm_next {k : Nat} (B : Mat) (hk : k < 4) : Dm B (k + 1) id = Em B k k k := by
  have hk' : k = 0 ∨ k = 1 ∨ k = 2 ∨ k = 3 := by omega
  rcases hk' with rfl | rfl | rfl | rfl <;> simp [Em, Dm, rep]
theorem swap_Em {k j r c : Nat} (B : Mat) (hk : k < 4) (hj : j < 4) (hkj : k ≤ j) (hr : r < 4) : Em (swapM B k j) k r c = swapM (Em B k) k j r c := by
  have hk' : k = 0 ∨ k = 1 ∨ k = 2 ∨ k = 3 := by omega
  have hr' : r = 0 ∨ r = 1 ∨ r = 2 ∨ r = 3 := by omega
  have hj' : j = 0 ∨ j = 1 ∨ j = 2 ∨ j = 3 := by omega
  rcases hk' with rfl | rfl | rfl | rfl <;> rcases hj' with rfl | rfl | rfl | rfl <;> first | (exfalso; omega) | (rcases hr' with rfl | rfl | rfl | rfl <;> simp [Em, Dm, rep, swapM, d2, d3, d4])
theorem swap_id {k : Nat} (B : Mat) : swapM B k k = B := by
  funext r c
  unfold swapM
  by_cases h : r = k
  · rw [if_pos h, h]
  · rw [if_neg h, if_neg h]
theorem swap_Dm {n k j : Nat} (B : Mat) (hn : n ≤ 4) (hj : j < n) (hkj : k < j) (c : Nat → Nat) : Dm (swapM B k j) n c = -Dm B n c := by
  have hn' : n = 2 ∨ n = 3 ∨ n = 4 := by omega
  have hk' : k = 0 ∨ k = 1 ∨ k = 2 ∨ k = 3 := by omega
  have hj' : j = 1 ∨ j = 2 ∨ j = 3 := by omega
  rcases hn' with rfl | rfl | rfl <;> rcases hj' with rfl | rfl | rfl <;> first | (exfalso; omega) | skip
  all_goals rcases hk' with rfl | rfl | rfl | rfl <;> first | (exfalso; omega) | (simp only [Dm, d2, d3, d4, swapM]; simp; grind)
theorem no_piv {n k : Nat} (B : Mat) (hn : n ≤ 4) (hk : k < n) (h0 : Dm B k id ≠ 0) (hz : ∀ r, k ≤ r → r < n → Em B k r k = 0) : Dm B n id = 0 := by
  have hn' : n = 1 ∨ n = 2 ∨ n = 3 ∨ n = 4 := by omega
  have hk' : k = 0 ∨ k = 1 ∨ k = 2 ∨ k = 3 := by omega
  rcases hn' with rfl | rfl | rfl | rfl <;> rcases hk' with rfl | rfl | rfl | rfl <;> first | (exfalso; omega) | skip
  · have := hz 0 (by omega) (by omega); simpa [Em, Dm] using this
  · have h1 := hz 0 (by omega) (by omega); have h2 := hz 1 (by omega) (by omega); simp [Em, Dm, d2] at *; rw [h1, h2]; simp
  · have h1 := hz 1 (by omega) (by omega); simpa [Em, Dm] using h1
  · have h1 := hz 0 (by omega) (by omega); have h2 := hz 1 (by omega) (by omega); have h3 := hz 2 (by omega) (by omega); simp [Em, Dm, d2, d3] at *; rw [h1, h2, h3]; simp
  · have h1 := hz 1 (by omega) (by omega); have h2 := hz 2 (by omega) (by omega)
    have key : Dm B 1 id * Dm B 3 id = Em B 1 1 1 * Em B 1 2 2 - Em B 1 1 2 * Em B 1 2 1 := by simp [Em, Dm, d2, d3]; grind
    rw [h1, h2] at key; simp at key
    exact (Int.mul_eq_zero.1 key).resolve_left h0
  · have h1 := hz 2 (by omega) (by omega); simpa [Em, Dm] using h1
  · have h1 := hz 0 (by omega) (by omega); have h2 := hz 1 (by omega) (by omega); have h3 := hz 2 (by omega) (by omega); have h4 := hz 3 (by omega) (by omega); simp [Em, Dm, d2, d3, d4] at *; rw [h1, h2, h3, h4]; simp
  · have h1 := hz 1 (by omega) (by omega); have h2 := hz 2 (by omega) (by omega); have h3 := hz 3 (by omega) (by omega)
    have key : Dm B 1 id * (Dm B 1 id * Dm B 4 id) = Em B 1 1 1 * (Em B 1 2 2 * Em B 1 3 3 - Em B 1 2 3 * Em B 1 3 2) - Em B 1 2 1 * (Em B 1 1 2 * Em B 1 3 3 - Em B 1 1 3 * Em B 1 3 2) + Em B 1 3 1 * (Em B 1 1 2 * Em B 1 2 3 - Em B 1 1 3 * Em B 1 2 2) := by simp [Em, Dm, d2, d3, d4]; grind
    rw [h1, h2, h3] at key; simp at key
    exact (Int.mul_eq_zero.1 ((Int.mul_eq_zero.1 key).resolve_left h0)).resolve_left h0
  · have h1 := hz 2 (by omega) (by omega); have h2 := hz 3 (by omega) (by omega)
    have key : Dm B 2 id * Dm B 4 id = Em B 2 2 2 * Em B 2 3 3 - Em B 2 2 3 * Em B 2 3 2 := by simp [Em, Dm, d2, d3, d4]; grind
    rw [h1, h2] at key; simp at key
    exact (Int.mul_eq_zero.1 key).resolve_left h0
  · have h1 := hz 3 (by omega) (by omega); simpa [Em, Dm] using h1
theorem mul_bd2 {a b A B : Int} (h1 : -A ≤ a ∧ a ≤ A) (h2 : -B ≤ b ∧ b ≤ B) : -(A * B) ≤ a * b ∧ a * b ≤ A * B := by
  have : a.natAbs * b.natAbs ≤ A.natAbs * B.natAbs := Nat.mul_le_mul (by omega) (by omega)
  rw [← Int.natAbs_mul, ← Int.natAbs_mul] at this
  have h3 : 0 ≤ A * B := Int.mul_nonneg (by omega) (by omega)
  omega
def cb (c : Nat) : Int := if c = 4 then 10000 else 100
def inB (B : Mat) : Prop := ∀ r c, -cb c ≤ B r c ∧ B r c ≤ cb c
theorem cb_lt {c : Nat} (h : c < 4) : cb c = 100 := by unfold cb; rw [if_neg (by omega)]
theorem d2_b {B : Mat} (h : inB B) (r0 r1 : Nat) {c0 c1 : Nat} {x y : Int} (h0 : cb c0 = x) (h1 : cb c1 = y) : -(2 * (x * y)) ≤ d2 B r0 r1 c0 c1 ∧ d2 B r0 r1 c0 c1 ≤ 2 * (x * y) := by
  have a := mul_bd2 (h r0 c0) (h r1 c1)
  have b := mul_bd2 (h r0 c1) (h r1 c0)
  rw [h0, h1] at a b
  rw [Int.mul_comm y x] at b
  unfold d2
  omega
theorem d3_b {B : Mat} (h : inB B) (r0 r1 r2 : Nat) {c0 c1 c2 : Nat} {x y z : Int} (h0 : cb c0 = x) (h1 : cb c1 = y) (h2 : cb c2 = z) : -(6 * (x * y * z)) ≤ d3 B r0 r1 r2 c0 c1 c2 ∧ d3 B r0 r1 r2 c0 c1 c2 ≤ 6 * (x * y * z) := by
  have a := mul_bd2 (h r0 c0) (d2_b h r1 r2 h1 h2)
  have b := mul_bd2 (h r0 c1) (d2_b h r1 r2 h0 h2)
  have c := mul_bd2 (h r0 c2) (d2_b h r1 r2 h0 h1)
  rw [h0] at a; rw [h1] at b; rw [h2] at c
  rw [show x * (2 * (y * z)) = 2 * (x * y * z) by grind] at a
  rw [show y * (2 * (x * z)) = 2 * (x * y * z) by grind] at b
  rw [show z * (2 * (x * y)) = 2 * (x * y * z) by grind] at c
  unfold d3
  omega
theorem d4_b {B : Mat} (h : inB B) (r0 r1 r2 r3 : Nat) {c0 c1 c2 c3 : Nat} {x y z u : Int} (h0 : cb c0 = x) (h1 : cb c1 = y) (h2 : cb c2 = z) (h3 : cb c3 = u) : -(24 * (x * y * z * u)) ≤ d4 B r0 r1 r2 r3 c0 c1 c2 c3 ∧ d4 B r0 r1 r2 r3 c0 c1 c2 c3 ≤ 24 * (x * y * z * u) := by
  have a := mul_bd2 (h r0 c0) (d3_b h r1 r2 r3 h1 h2 h3)
  have b := mul_bd2 (h r0 c1) (d3_b h r1 r2 r3 h0 h2 h3)
  have c := mul_bd2 (h r0 c2) (d3_b h r1 r2 r3 h0 h1 h3)
  have d := mul_bd2 (h r0 c3) (d3_b h r1 r2 r3 h0 h1 h2)
  rw [h0] at a; rw [h1] at b; rw [h2] at c; rw [h3] at d
  rw [show x * (6 * (y * z * u)) = 6 * (x * y * z * u) by grind] at a
  rw [show y * (6 * (x * z * u)) = 6 * (x * y * z * u) by grind] at b
  rw [show z * (6 * (x * y * u)) = 6 * (x * y * z * u) by grind] at c
  rw [show u * (6 * (x * y * z)) = 6 * (x * y * z * u) by grind] at d
  unfold d4
  omega
def eb (k r c : Nat) : Int := (if c = 4 then 100 else 1) * (match (if r < k then k else k + 1) with | 0 => 1 | 1 => 100 | 2 => 20000 | 3 => 6000000 | _ => 2400000000)
theorem Em_b {B : Mat} (h : inB B) {k r c : Nat} (hk : k < 4) (hr : r < 4) (hc : c < 5) : -eb k r c ≤ Em B k r c ∧ Em B k r c ≤ eb k r c := by
  have hk' : k = 0 ∨ k = 1 ∨ k = 2 ∨ k = 3 := by omega
  have hr' : r = 0 ∨ r = 1 ∨ r = 2 ∨ r = 3 := by omega
  have e0 : cb 0 = 100 := rfl
  have e1 : cb 1 = 100 := rfl
  have e2 : cb 2 = 100 := rfl
  have e3 : cb 3 = 100 := rfl
  have ec : cb c = (if c = 4 then 100 else 1) * 100 := by unfold cb; split <;> rfl
  have hx : (if c = 4 then (100 : Int) else 1) = 100 ∨ (if c = 4 then (100 : Int) else 1) = 1 := by split <;> simp
  unfold eb
  generalize (if c = 4 then (100 : Int) else 1) = X at *
  have b1 := fun r => h r c
  have b2a := fun r s => d2_b h r s e0 ec
  have b2b := fun r s => d2_b h r s ec e1
  have b3a := fun r s t => d3_b h r s t e0 e1 ec
  have b3b := fun r s t => d3_b h r s t ec e1 e2
  have b3c := fun r s t => d3_b h r s t e0 ec e2
  have b4a := fun r s t u => d4_b h r s t u e0 e1 e2 ec
  rw [ec] at b1
  rcases hk' with rfl | rfl | rfl | rfl
  · rcases hr' with rfl | rfl | rfl | rfl <;> simp [Em] <;> have := b1 <;> grind
  · have c0 := b1 0; have c1 := b2a 0 1; have c2 := b2a 0 2; have c3 := b2a 0 3
    rcases hr' with rfl | rfl | rfl | rfl <;> simp [Em, Dm, rep] <;> rcases hx with rfl | rfl <;> omega
  · have c0 := b2b 0 1; have c1 := b2a 0 1; have c2 := b3a 0 1 2; have c3 := b3a 0 1 3
    rcases hr' with rfl | rfl | rfl | rfl <;> simp [Em, Dm, rep] <;> rcases hx with rfl | rfl <;> omega
  · have c0 := b3b 0 1 2; have c1 := b3c 0 1 2; have c2 := b3a 0 1 2; have c3 := b4a 0 1 2 3
    rcases hr' with rfl | rfl | rfl | rfl <;> simp [Em, Dm, rep] <;> rcases hx with rfl | rfl <;> omega
theorem prod_b {B : Mat} (h : inB B) {k r c : Nat} (hk : k < 4) (hr : r < 4) (hrk : r ≠ k) (hc : c < 5) : (-2000000000000000000 ≤ Em B k k k * Em B k r c ∧ Em B k k k * Em B k r c ≤ 2000000000000000000) ∧ (-2000000000000000000 ≤ Em B k r k * Em B k k c ∧ Em B k r k * Em B k k c ≤ 2000000000000000000) := by
  have m1 := mul_bd2 (Em_b h hk hk (show k < 5 by omega)) (Em_b h hk hr hc)
  have m2 := mul_bd2 (Em_b h hk hr (show k < 5 by omega)) (Em_b h hk hk hc)
  have hk' : k = 0 ∨ k = 1 ∨ k = 2 ∨ k = 3 := by omega
  have hr' : r = 0 ∨ r = 1 ∨ r = 2 ∨ r = 3 := by omega
  have hx : (if c = 4 then (100 : Int) else 1) = 100 ∨ (if c = 4 then (100 : Int) else 1) = 1 := by split <;> simp
  unfold eb at m1 m2
  generalize (if c = 4 then (100 : Int) else 1) = X at *
  rcases hk' with rfl | rfl | rfl | rfl <;> rcases hr' with rfl | rfl | rfl | rfl <;> first | exact absurd rfl hrk | (simp at m1 m2; rcases hx with rfl | rfl <;> simp at m1 m2 <;> omega)
theorem pivR_none {m : Mat} {k cnt : Nat} (h : pivR m k cnt = none) : ∀ j, j < cnt → m (k + j) k = 0 := by
  have key : ∀ (l : List Nat) (i : Nat), fstI (fun j => m (k + j) k != 0) l i = none → ∀ j ∈ l, m (k + j) k = 0 := by
    intro l
    induction l with
    | nil => intro i _ j hj; cases hj
    | cons a l ih =>
      intro i h j hj
      simp only [fstI] at h
      by_cases ha : m (k + a) k = 0
      · rw [if_neg (by rw [ha]; decide)] at h
        rcases List.mem_cons.1 hj with rfl | hj
        · exact ha
        · exact ih _ h j hj
      · rw [if_pos (by simpa using ha)] at h; cases h
  intro j hj
  exact key _ 0 h j (List.mem_range.2 hj)
theorem newV_ok {B m : Mat} (hB : inB B) {k r c n : Nat} (hn : n ≤ 4) (hk : k < n) (hr : r < n) (hrk : r ≠ k) (hc : c < 5) (hm : ∀ r c, r < n → c < 5 → m r c = Em B k r c) (h0 : Dm B k id ≠ 0) :
    newV (m k) (m r) k (Dm B k id) c = Em B (k + 1) r c := by
  have hs := em_step (k := k) (r := r) (c := c) B (by omega) (by omega) hrk
  have hp := prod_b hB (k := k) (r := r) (c := c) (by omega) (by omega) hrk hc
  unfold newV
  rw [hm k k hk (by omega), hm r c hr hc, hm r k hr (by omega), hm k c hk hc]
  generalize Em B k k k * Em B k r c = x at *
  generalize Em B k r k * Em B k k c = y at *
  have w1 : IntKind.i64.wrap x = x := wrap_of (by omega)
  have w2 : IntKind.i64.wrap y = y := wrap_of (by omega)
  have w3 : IntKind.i64.wrap (x - y) = x - y := wrap_of (by omega)
  rw [w1, w2, w3, hs, Int.mul_tdiv_cancel_left _ h0]
  refine wrap_of ?_
  have hle : (Em B (k + 1) r c).natAbs ≤ (x - y).natAbs := by
    rw [hs, Int.natAbs_mul]
    exact Nat.le_mul_of_pos_left _ (Int.natAbs_pos.2 h0)
  omega
theorem inB_swap {B : Mat} (h : inB B) (k j : Nat) : inB (swapM B k j) := by
  intro r c
  unfold swapM
  split
  · exact h _ _
  · split <;> exact h _ _
theorem gauss_ok {n : Nat} (hn : n ≤ 4) : ∀ (f k : Nat) (B m : Mat), k + f = n → inB B → (∀ r c, r < n → c < 5 → m r c = Em B k r c) → Dm B k id ≠ 0 →
    (gaussR n f k (Dm B k id) m = none ∧ Dm B n id = 0) ∨ ∃ m' B', gaussR n f k (Dm B k id) m = some m' ∧ inB B' ∧ (∀ r c, r < n → c < 5 → m' r c = Em B' n r c) ∧ Dm B' n id ≠ 0 ∧
      ((∀ c, Dm B' n c = Dm B n c) ∨ ∀ c, Dm B' n c = -Dm B n c)
  | 0, k, B, m, hk, hB, hm, h0 => by
    obtain rfl : k = n := by omega
    exact .inr ⟨m, B, rfl, hB, hm, h0, .inl fun _ => rfl⟩
  | f + 1, k, B, m, hk, hB, hm, h0 => by
    unfold gaussR
    cases hp : pivR m k (n - k) with
    | none =>
      refine .inl ⟨rfl, no_piv B hn (k := k) (by omega) h0 fun r h1 h2 => ?_⟩
      have := pivR_none hp (r - k) (by omega)
      rw [show k + (r - k) = r by omega, hm r k h2 (by omega)] at this
      exact this
    | some j =>
      obtain ⟨hj, hnz⟩ := pivR_some hp
      dsimp only
      have hB' := inB_swap hB k (k + j)
      have hm' : ∀ r c, r < n → c < 5 → swapM m k (k + j) r c = Em (swapM B k (k + j)) k r c := by
        intro r c h1 h2
        rw [swap_Em B (by omega) (by omega) (by omega) (by omega)]
        unfold swapM
        split
        · exact hm _ _ (by omega) h2
        · split
          · exact hm _ _ (by omega) h2
          · exact hm _ _ h1 h2
      have hsg : (∀ c, Dm (swapM B k (k + j)) n c = Dm B n c) ∨ ∀ c, Dm (swapM B k (k + j)) n c = -Dm B n c := by
        by_cases e : j = 0
        · subst e; left; intro c; rw [Nat.add_zero, swap_id]
        · right; exact swap_Dm B hn (by omega) (by omega)
      have hDk : Dm (swapM B k (k + j)) k id = Dm B k id := by
        have hk' : k = 0 ∨ k = 1 ∨ k = 2 ∨ k = 3 := by omega
        have e : ∀ r c, r < k → swapM B k (k + j) r c = B r c := by
          intro r c h
          unfold swapM
          rw [if_neg (by omega), if_neg (by omega)]
        rcases hk' with rfl | rfl | rfl | rfl
        · rfl
        · simp only [Dm, e 0 _ (by omega)]
        · simp only [Dm, d2, e 0 _ (by omega), e 1 _ (by omega)]
        · simp only [Dm, d2, d3, e 0 _ (by omega), e 1 _ (by omega), e 2 _ (by omega)]
      generalize swapM B k (k + j) = C at *
      have hkk : swapM m k (k + j) k k = Dm C (k + 1) id := by rw [hm' k k (by omega) (by omega), Dm_next C (by omega)]
      have hne : Dm C (k + 1) id ≠ 0 := by
        rw [← hkk]
        unfold swapM
        rw [if_pos rfl]; exact hnz
      rw [hkk]
      have hm2 : ∀ r c, r < n → c < 5 → elimTo (swapM m k (k + j)) k (Dm B k id) n r c = Em C (k + 1) r c := by
        intro r c h1 h2
        unfold elimTo
        by_cases e : r = k
        · subst e
          rw [if_neg (fun h => h.2 rfl), em_stay C (by omega)]
          exact hm' _ _ h1 h2
        · rw [if_pos ⟨h1, e⟩, ← hDk]
          exact newV_ok hB' hn (by omega) h1 e h2 hm' (by rw [hDk]; exact h0)
      rcases gauss_ok hn f (k + 1) C _ (by omega) hB' hm2 hne with ⟨h1, h2⟩ | ⟨m', B', h1, h2, h3, h4, h5⟩
      · refine .inl ⟨h1, ?_⟩
        rcases hsg with h | h
        · rw [← h]; exact h2
        · have := h id; omega
      · refine .inr ⟨m', B', h1, h2, h3, h4, ?_⟩
        rcases hsg with h | h <;> rcases h5 with h' | h'
        · left; intro c; rw [h', h]
        · right; intro c; rw [h', h]
        · right; intro c; rw [h', h]
        · left; intro c; rw [h', h, Int.neg_neg]
theorem redP_neg {a b : Int} (hb : b ≠ 0) : redP (-a) (-b) = redP a b := by
  unfold redP
  rw [Int.gcd_neg, Int.neg_gcd, Int.neg_ediv_of_dvd (Int.gcd_dvd_left ..), Int.neg_ediv_of_dvd (Int.gcd_dvd_right ..)]
  by_cases h : b < 0
  · rw [if_neg (by omega), if_pos h]
  · rw [if_pos (by omega), if_neg h, Int.neg_neg, Int.neg_neg]
def detS (s : SysT) : Int := Dm (getM s) s.rows.length id
def numS (s : SysT) (k : Nat) : Int := Dm (getM s) s.rows.length (rep k 4)
theorem Em_end {B : Mat} {n r c : Nat} (h1 : 1 ≤ n) (h4 : n ≤ 4) (hr : r < n) : Em B n r c = Dm B n (rep r c) := by
  have hn' : n = 1 ∨ n = 2 ∨ n = 3 ∨ n = 4 := by omega
  rcases hn' with rfl | rfl | rfl | rfl
  · simp only [Em]; rw [if_pos (by omega)]
  · simp only [Em]; rw [if_pos (by omega)]
  · simp only [Em]; rw [if_pos (by omega)]
  · simp only [Em]
theorem rep_self (r : Nat) : rep r r = id := by funext i; unfold rep; split <;> simp_all
theorem getM_in {s : SysT} (hr : ∀ l ∈ s.rows, outL (-100) 100 l = false) (hq : outL (-10000) 10000 s.right = false) : inB (getM s) := by
  have hr' := fun l hl => outL_false.1 (hr l hl)
  have hq' := outL_false.1 hq
  intro r c
  unfold getM cb
  by_cases h : c = 4
  · rw [if_pos h, if_pos h]
    rw [List.getD_eq_getElem?_getD]
    cases hg : s.right[r]? with
    | none => simp
    | some x => exact hq' x (List.mem_of_getElem? hg)
  · rw [if_neg h, if_neg h]
    rw [List.getD_eq_getElem?_getD]
    cases hg : (s.rows.getD r [])[c]? with
    | none => simp
    | some x =>
      simp only [Option.getD_some]
      have hx := List.mem_of_getElem? hg
      rw [List.getD_eq_getElem?_getD] at hx
      cases hg2 : s.rows[r]? with
      | none => rw [hg2] at hx; cases hx
      | some l => rw [hg2] at hx; exact hr' l (List.mem_of_getElem? hg2) x hx
theorem gauss_sys {s : SysT} (h1 : 1 ≤ s.rows.length) (h4 : s.rows.length ≤ 4) (hB : inB (getM s)) :
    (gaussR s.rows.length s.rows.length 0 1 (getM s) = none ∧ detS s = 0) ∨ ∃ m, gaussR s.rows.length s.rows.length 0 1 (getM s) = some m ∧ detS s ≠ 0 ∧
      ∀ r, r < s.rows.length → (m r 4 = numS s r ∧ m r r = detS s ∨ m r 4 = -numS s r ∧ m r r = -detS s) := by
  rcases gauss_ok h4 s.rows.length 0 (getM s) (getM s) (by omega) hB (fun r c _ _ => rfl) (by show (1 : Int) ≠ 0; decide) with ⟨a, b⟩ | ⟨m, B, a, b, c, d, e⟩
  · exact .inl ⟨a, b⟩
  · refine .inr ⟨m, a, ?_, fun r hr => ?_⟩
    · unfold detS
      rcases e with e | e
      · rw [← e]; exact d
      · have := e id; omega
    · rw [c r 4 hr (by omega), c r r hr (by omega), Em_end h1 h4 hr, Em_end h1 h4 hr, rep_self]
      unfold numS detS
      rcases e with e | e
      · left; exact ⟨e _, e _⟩
      · right; exact ⟨e _, e _⟩
theorem Dm_b {B : Mat} (h : inB B) {n r c : Nat} (h1 : 1 ≤ n) (h4 : n ≤ 4) (hr : r < n) (hc : c < 5) : -240000000000 ≤ Dm B n (rep r c) ∧ Dm B n (rep r c) ≤ 240000000000 := by
  have e0 : cb 0 = 100 := rfl
  have e1 : cb 1 = 100 := rfl
  have e2 : cb 2 = 100 := rfl
  have e3 : cb 3 = 100 := rfl
  have ec : cb c = (if c = 4 then 100 else 1) * 100 := by unfold cb; split <;> rfl
  have hx : (if c = 4 then (100 : Int) else 1) = 100 ∨ (if c = 4 then (100 : Int) else 1) = 1 := by split <;> simp
  generalize (if c = 4 then (100 : Int) else 1) = X at *
  have hn' : n = 1 ∨ n = 2 ∨ n = 3 ∨ n = 4 := by omega
  have hr' : r = 0 ∨ r = 1 ∨ r = 2 ∨ r = 3 := by omega
  have b1 := h 0 c
  rw [ec] at b1
  have b2a := d2_b h 0 1 e0 ec
  have b2b := d2_b h 0 1 ec e1
  have b3a := d3_b h 0 1 2 e0 e1 ec
  have b3b := d3_b h 0 1 2 ec e1 e2
  have b3c := d3_b h 0 1 2 e0 ec e2
  have b4a := d4_b h 0 1 2 3 e0 e1 e2 ec
  have b4b := d4_b h 0 1 2 3 e0 e1 ec e3
  have b4c := d4_b h 0 1 2 3 e0 ec e2 e3
  have b4d := d4_b h 0 1 2 3 ec e1 e2 e3
  rcases hn' with rfl | rfl | rfl | rfl <;> rcases hr' with rfl | rfl | rfl | rfl <;> first | (exfalso; omega) | (simp [Dm, rep]; rcases hx with rfl | rfl <;> omega)
end Go.Proofs.YtnpleednkmhhhaaDoor
namespace Go.QL
open Go Go.RowKit
section
variable {w0 : World} {K0 : Bs} {σ : Sg} {g : Gh} {w : World}
theorem freezeDead (h : Hp w0 K0 σ g w) {c e sz st n : Nat} {xs : List (List PV)} (hl : lk c σ = some (.chain e sz st xs)) (hn : n ≤ xs.length) {v : Value} (hv : SR σ g w (.o c st n) v) :
    ∃ g', Did w0 K0 σ g w (setOb c (.chain e sz (st + 1) []) σ) g' w ∧ SR (setOb c (.chain e sz (st + 1) []) σ) g' w (.d (.s sz (xs.take n))) v := by
  have hsome : (lk c σ).isSome := by rw [hl]; rfl
  let K' : Nat → Nat → Prop := fun b o => g.K b o ∨ (blk (g.μ c) = some b ∧ b < w.heap.size)
  let g' : Gh := ⟨K', upd g.μ c (.slice none 0 0)⟩
  have hext : Ext g.K w K' w := ⟨fun _ _ h => .inl h, fun _ _ _ => rfl⟩
  have hc : Compat σ g (setOb c (.chain e sz (st + 1) []) σ) g' := by
    refine ⟨fun i cs hi => ?_, fun i e1 sz1 st1 xs1 hi => ?_, fun i o hi => ?_⟩
    · have hne : i ≠ c := fun e => by rw [e, hl] at hi; cases hi
      exact ⟨upd_other _ _ hne, cs, by rw [lk_setOb_other _ _ _ _ hne]; exact hi⟩
    · by_cases hne : i = c
      · subst hne
        rw [hl] at hi; cases hi
        exact .inl ⟨_, _, _, _, lk_setOb_same _ _ _ hsome, Nat.lt_succ_self _⟩
      · exact .inr ⟨upd_other _ _ hne, xs1, by rw [lk_setOb_other _ _ _ _ hne]; exact hi, rfl⟩
    · have hne : i ≠ c := fun e => by rw [e, hl] at hi; cases hi
      exact ⟨upd_other _ _ hne, o, by rw [lk_setOb_other _ _ _ _ hne]; exact hi, rfl⟩
  have hkeep : ∀ s u, SR σ g w s u → SR (setOb c (.chain e sz (st + 1) []) σ) g' w s u := fun s u hs => hs.keep hc hext
  refine ⟨g', ⟨⟨h.kept, h.flt, h.ext.trans hext, ?_, ?_, ?_, ?_, ?_⟩, hkeep⟩, ?_⟩
  · intro b o hb hk
    rcases hk with hk | ⟨hk, _⟩
    · exact h.old b o hb hk
    · exact absurd hb (h.own c b hsome hk)
  · intro b o hk
    rcases hk with hk | ⟨_, hk⟩
    · exact h.val b o hk
    · exact hk
  · intro i ob hi
    by_cases hne : i = c
    · subst hne
      rw [lk_setOb_same _ _ _ hsome] at hi; cases hi
      refine ⟨[], ?_, ⟨none, 0, upd_same _ _ _, Nat.le_refl _, by simp [maxLen]⟩, fun x hx => by simp at hx, fun i x hi => by simp at hi, fun b hb => ?_⟩
      · show World.ownsRow w 0 e sz (upd g.μ i (.slice none 0 0) i) 0 []
        rw [upd_same]; exact World.ownsRow_nil w _ _ _
      · have hb : blk (upd g.μ i (.slice none 0 0) i) = some b := hb
        rw [upd_same] at hb; cases hb
    · rw [lk_setOb_other _ _ _ _ hne] at hi
      have hO := h.obs i ob hi
      refine hO.keep hkeep hext (upd_other _ _ hne) (fun _ _ => rfl) (fun b hb o hk => ?_)
      rcases hk with hk | ⟨hk, _⟩
      · exact h.notK hi hb o hk
      · exact hne (h.inj i c b (by rw [hi]; rfl) hsome hb hk)
  · intro i b hi hb
    have hb : blk (upd g.μ c (.slice none 0 0) i) = some b := hb
    by_cases hne : i = c
    · subst hne; rw [upd_same] at hb; cases hb
    · rw [lk_setOb_other _ _ _ _ hne] at hi
      rw [upd_other _ _ hne] at hb
      exact h.own i b hi hb
  · intro i j b hi hj hbi hbj
    have hbi : blk (upd g.μ c (.slice none 0 0) i) = some b := hbi
    have hbj : blk (upd g.μ c (.slice none 0 0) j) = some b := hbj
    by_cases e1 : i = c
    · subst e1; rw [upd_same] at hbi; cases hbi
    · by_cases e2 : j = c
      · subst e2; rw [upd_same] at hbj; cases hbj
      · rw [lk_setOb_other _ _ _ _ e1] at hi
        rw [lk_setOb_other _ _ _ _ e2] at hj
        rw [upd_other _ _ e1] at hbi
        rw [upd_other _ _ e2] at hbj
        exact h.inj i j b hi hj hbi hbj
  · obtain ⟨vs, hown, ⟨a0, cap0, hμ0, hcap0, hmax0⟩, hsz, hpr, _⟩ := h.obs _ _ hl
    cases hv with
    | old _ _ _ e1 sz1 st1 xs1 v hl1 hlt1 _ => rw [hl] at hl1; cases hl1; omega
    | o _ _ _ e1 sz1 xs1 a cap hl1 hn1 hμ1 =>
      rw [hl] at hl1; cases hl1
      have hmax1 : cap ≤ maxLen := by rw [hμ1] at hμ0; cases hμ0; exact hmax0
      have hcap1 : xs.length ≤ cap := by rw [hμ1] at hμ0; cases hμ0; exact hcap0
      have htl : (xs.take n).length = n := by simp; omega
      rcases hown.2 with ⟨hnil, hz⟩ | ⟨gb, cap', cur, hv', hB, hg, _⟩
      · have hx : xs = [] := List.eq_nil_of_length_eq_zero hz
        subst hx
        have hn0 : n = 0 := by simpa using hn
        subst hn0
        have := PR.s (K := K') (w := w) sz ([] : List (List PV)) a cap 0 0 (fun _ _ => undef) (Nat.zero_le _) hmax1 (by simp) (fun h => absurd rfl h) (fun i e hi => by simp at hi) (fun i e hi => by simp at hi) (fun i e hi => by simp at hi)
        exact .d _ _ (by simpa using this)
      · rw [hμ1] at hv'; cases hv'
        have hbl : blk (g.μ c) = some gb := by rw [hμ1]; rfl
        have hlt : gb < w.heap.size := (h.obs _ _ hl).blk_lt hbl |>.2
        have hcell := hown.cells (g := gb) (by rw [hμ1]; rfl)
        have := PR.s (K := K') (w := w) sz (xs.take n) (some ⟨gb, 0, none⟩) cap gb 0 (fun i j => vs.getD (i * sz + j) undef) (by rw [htl]; omega) hmax1 (fun x hx => hsz x (List.mem_of_mem_take hx)) (fun _ => rfl)
          (fun i e hi j hj => .inr ⟨hbl, hlt⟩) (fun i e hi j hj => by
            rw [List.getElem?_take] at hi
            by_cases hin : i < n
            · rw [if_pos hin] at hi
              obtain ⟨u, hu, _⟩ := hpr i e hi j _ (List.getElem?_eq_getElem hj)
              have := hcell _ _ hu
              rw [add_none] at this
              rw [this]; simp [hu]
            · rw [if_neg hin] at hi; cases hi) (fun i e hi j p hp' => by
            rw [List.getElem?_take] at hi
            by_cases hin : i < n
            · rw [if_pos hin] at hi
              obtain ⟨u, hu, hpu⟩ := hpr i e hi j p hp'
              have e2 : vs.getD (i * sz + j) undef = u := by simp [hu]
              rw [e2]; exact hpu.mono hext
            · rw [if_neg hin] at hi; cases hi)
        rw [htl] at this
        exact .d _ _ this
def FzGo (on : Bool) (σ : Sg) (v : AV) (k : AV → Sg → Prop) : Prop :=
  bif on then (match v with
    | .x (.o c st n) => (match lk c σ with
      | some (.chain e sz st' xs) => (st' = st ∧ n ≤ xs.length) ∧ k (.x (.d (.s sz (xs.take n)))) (setOb c (.chain e sz (st + 1) []) σ)
      | _ => False)
    | _ => False)
  else k v σ
theorem FzGo_ok {P : Program} {Γ : Cx} {on : Bool} {v : AV} {k : AV → Sg → Prop} (h : FzGo on σ v k) : ∃ v' σ', k v' σ' ∧ ∀ (d : Option Tmp) (fr : Fr) (g : Gh) (a : Act) (w : World), Rel Γ (addFr d v fr) σ g a w → ∃ g', Rel Γ (addFr d v' fr) σ' g' a w := by
  unfold FzGo at h
  cases on with
  | false => exact ⟨v, σ, h, fun d fr g a w hr => ⟨g, hr⟩⟩
  | true =>
    simp only [cond_true] at h
    split at h
    · rename_i c st n
      split at h
      · rename_i e sz st' xs hl
        obtain ⟨⟨rfl, hn⟩, hk⟩ := h
        refine ⟨_, _, hk, fun d fr g a w hr => ?_⟩
        cases d with
        | none =>
          have hO := hr.hp.obs _ _ hl
          obtain ⟨vs, hown, ⟨a0, cap0, hμ0, hcap0, hmax0⟩, hsz, hpr, _⟩ := hO
          obtain ⟨g', hd, _⟩ := freezeDead hr.hp hl hn (SR.o c st' n e sz xs a0 cap0 hl hn hμ0)
          exact ⟨g', hr.did hd⟩
        | some t =>
          have ht := hr.fr t (.x (.o c st' n)) (by show lk t ((t, _) :: fr) = _; rw [lk_cons, if_pos rfl])
          obtain ⟨g', hd, hv⟩ := freezeDead hr.hp hl hn (show SR σ g w (.o c st' n) _ from ht.2)
          refine ⟨g', hd.hp, fun s x hs => ?_, hr.size, (hr.did hd).defers, (hr.did hd).base⟩
          have hs : lk s ((t, _) :: fr) = some x := hs
          rw [lk_cons] at hs
          by_cases e1 : t = s
          · subst e1
            rw [if_pos rfl] at hs; cases hs
            exact ⟨ht.1, hv⟩
          · rw [if_neg e1] at hs
            refine (hr.did hd).fr s x ?_
            show lk s ((t, _) :: fr) = some x
            rw [lk_cons, if_neg e1]; exact hs
      · exact h.elim
    · exact h.elim
end
structure Stg where
  w : Nat
  ob : Bool
  fz : Bool
  re : List Nat
  fl : List Nat
def vcFl (P : Program) (tt : TT) (nt : Nat) (ops : List Oper) (ms : List Nat) (fr0 : Fr) (σ : Sg) (k : List En → Prop) : List Nat → List En → Prop
  | [], es => k es
  | i :: r, es => match ops[i]? with
    | some o => opDr P tt ops false (selF (frs (pickE (ms.getD i 0) es) ++ fr0) (looks ops o)) σ 0 o fun gd v nob => nob = none ∧ putE nt o.dst gd v fun x => vcFl P tt nt ops ms fr0 σ k r (⟨i, o.dst, x, none⟩ :: es)
    | none => False
def getE : List En → Nat → Option AV
  | [], _ => none
  | ⟨j, _, x, _⟩ :: r, i => bif Nat.beq j i then some x else getE r i
def vcRe (P : Program) (tt : TT) (nt : Nat) (ops : List Oper) (ms : List Nat) (fr0 : Fr) (es : List En) (σ : Sg) (k : Prop) : List Nat → Prop
  | [] => k
  | l :: r => match ops[l]? with
    | some o => opDr P tt ops false (selF (frs (pickE (ms.getD l 0) es) ++ fr0) (looks ops o)) σ 0 o fun gd v nob => nob = none ∧ putE nt o.dst gd v fun x => getE es l = some x ∧ vcRe P tt nt ops ms fr0 es σ k r
    | none => False
def vcSt (P : Program) (tt : TT) (nt : Nat) (ops : List Oper) (ms : List Nat) (fr0 : Fr) (k : Fr → Sg → Prop) : List Stg → List En → Sg → Prop
  | [], es, σ => k (frs es ++ fr0) σ
  | ⟨w, mk, fz, re, fl⟩ :: r, es, σ => match ops[w]? with
    | none => False
    | some o =>
      bif mk then
        idFor σ o.dst fun id => opDr P tt ops true (selF (frs (pickE (ms.getD w 0) es) ++ fr0) (looks ops o)) σ id o fun gd v nob => putE nt o.dst gd v fun x =>
          FzGo fz (addOb nob σ) x fun x σ2 => vcRe P tt nt ops ms fr0 (⟨w, o.dst, x, none⟩ :: es) σ2 (vcFl P tt nt ops ms fr0 σ2 (fun es' => vcSt P tt nt ops ms fr0 k r es' σ2) fl (⟨w, o.dst, x, none⟩ :: es)) re
      else
        vcOps P tt nt ops (fun fr2 σ2 => LateGo o.dst fr2 (selF (frs (pickE (ms.getD w 0) es) ++ fr0) (looks ops o)) fun x => FzGo fz σ2 x fun x σ2 =>
          vcRe P tt nt ops ms fr0 (⟨w, o.dst, x, none⟩ :: es) σ2 (vcFl P tt nt ops ms fr0 σ2 (fun es' => vcSt P tt nt ops ms fr0 k r es' σ2) fl (⟨w, o.dst, x, none⟩ :: es)) re)
          [o] (selF (frs (pickE (ms.getD w 0) es) ++ fr0) (looks ops o)) σ
def inL (l : List Nat) (i : Nat) : Bool := l.any (Nat.beq i)
def okOne (ms : List Nat) (m i : Nat) (ls : List Nat) : Bool := Nat.blt i m && !inL ls i && (List.range m).all fun b => !Nat.testBit (ms.getD i 0) b || inL ls b
def okFl (ms : List Nat) (m : Nat) (k : List Nat → Bool) : List Nat → List Nat → Bool
  | [], ls => k ls
  | i :: r, ls => okOne ms m i ls && okFl ms m k r (i :: ls)
def okSt (ms : List Nat) (m : Nat) : List Stg → List Nat → Bool
  | [], ls => (List.range m).all (inL ls)
  | s :: r, ls => okOne ms m s.w ls && (ls.all fun i => Nat.testBit (ms.getD s.w 0) i || inL s.re i) && (s.re.all (inL ls)) &&
      ((List.range m).all fun i => inL ls i || Nat.beq i s.w || Nat.testBit (ms.getD i 0) s.w) && okFl ms m (okSt ms m r) s.fl (s.w :: ls)
theorem inL_iff {l : List Nat} {i : Nat} : inL l i = true ↔ i ∈ l := by
  unfold inL
  rw [List.any_eq_true]
  constructor
  · rintro ⟨x, hx, e⟩
    have := Nat.eq_of_beq_eq_true e
    subst this; exact hx
  · intro h; exact ⟨i, h, by simp⟩
theorem getE_mem {i : Nat} {x : AV} : ∀ {es : List En}, getE es i = some x → ∃ e ∈ es, e.i = i ∧ e.x = x
  | [], h => by cases h
  | ⟨j, d, y, ob⟩ :: r, h => by
    unfold getE at h
    cases hb : Nat.beq j i with
    | true =>
      rw [hb] at h; cases h
      exact ⟨_, List.mem_cons_self, Nat.eq_of_beq_eq_true hb, rfl⟩
    | false =>
      rw [hb] at h
      obtain ⟨e, he, h'⟩ := getE_mem (es := r) h
      exact ⟨e, List.mem_cons_of_mem _ he, h'⟩
section
variable {P : Program} {Γ : Cx} {fr : Fr} {σ : Sg} {Q : Exit → Fr → Sg → Prop}
structure GoodS (ops : List Oper) (ms : List Nat) (m nt : Nat) (es : List En) : Prop where
  idx : ∀ e ∈ es, ∀ e' ∈ es, e.i = e'.i → e = e'
  lt : ∀ e ∈ es, e.i < m
  op : ∀ e ∈ es, ∃ o, ops[e.i]? = some o ∧ e.d = o.dst ∧ ∀ t, o.dst = some t → t < nt
  cl : ∀ e ∈ es, ∀ b, (ms.getD e.i 0).testBit b = true → b < m → b ∈ es.map (·.i)
def SemF (P : Program) (Γ : Cx) (ops : List Oper) (ms : List Nat) (fr0 : Fr) (es : List En) (σ : Sg) (e : En) : Prop :=
  ∃ o, ops[e.i]? = some o ∧ SemE P Γ ops false (selF (frs (pickE (ms.getD e.i 0) es) ++ fr0) (looks ops o)) σ e.i o e.x none
theorem okOne_ok {ms : List Nat} {m i : Nat} {ls : List Nat} (h : okOne ms m i ls = true) : i < m ∧ i ∉ ls ∧ ∀ b, b < m → (ms.getD i 0).testBit b = true → b ∈ ls := by
  unfold okOne at h
  simp only [Bool.and_eq_true, List.all_eq_true] at h
  obtain ⟨⟨h1, h2⟩, h3⟩ := h
  refine ⟨Nat.le_of_ble_eq_true h1, fun hm => ?_, fun b hb hbit => ?_⟩
  · rw [inL_iff.2 hm] at h2; cases h2
  · have := h3 b (List.mem_range.2 hb)
    rw [hbit] at this
    exact inL_iff.1 (by simpa using this)
theorem GoodS.add {ops : List Oper} {ms : List Nat} {m nt : Nat} {es : List En} (hg : GoodS ops ms m nt es) {i : Nat} {o : Oper} {x : AV} {ob : Option (Nat × Ob)} (ho : ops[i]? = some o) (h1 : okOne ms m i (es.map (·.i)) = true) (hd : ∀ t, o.dst = some t → t < nt) :
    GoodS ops ms m nt (⟨i, o.dst, x, ob⟩ :: es) := by
  obtain ⟨h1, h2, h3⟩ := okOne_ok h1
  have hn : ∀ e ∈ es, e.i ≠ i := fun e he hi => h2 (List.mem_map.2 ⟨e, he, hi⟩)
  refine ⟨fun e he e' he' hii => ?_, fun e he => ?_, fun e he => ?_, fun e he b hb hbm => ?_⟩
  · rcases List.mem_cons.1 he with rfl | he <;> rcases List.mem_cons.1 he' with rfl | he'
    · rfl
    · exact absurd hii.symm (hn e' he')
    · exact absurd hii (hn e he)
    · exact hg.idx e he e' he' hii
  · rcases List.mem_cons.1 he with rfl | he
    · exact h1
    · exact hg.lt e he
  · rcases List.mem_cons.1 he with rfl | he
    · exact ⟨o, ho, rfl, hd⟩
    · exact hg.op e he
  · rcases List.mem_cons.1 he with rfl | he
    · exact List.mem_cons_of_mem _ (h3 b hbm hb)
    · exact List.mem_cons_of_mem _ (hg.cl e he b hb hbm)
theorem pickE_skip {ms k : Nat} {e : En} {es : List En} (h : ms.testBit e.i = false) : pickE ms (e :: es) = pickE ms es := by
  obtain ⟨i, d, x, ob⟩ := e
  show (bif bitOf ms i then _ else _) = _
  rw [bitOf_eq, h]; rfl
theorem SemF.add {ops : List Oper} {ms : List Nat} {m nt : Nat} {fr0 : Fr} {es : List En} {σ : Sg} (hg : GoodS ops ms m nt es) {en : En} (hen : en.i ∉ es.map (·.i)) (hm : en.i < m) {e : En} (he : e ∈ es) (h : SemF P Γ ops ms fr0 es σ e) : SemF P Γ ops ms fr0 (en :: es) σ e := by
  obtain ⟨o, ho, hs⟩ := h
  refine ⟨o, ho, ?_⟩
  rw [pickE_skip (k := 0)]
  · exact hs
  · cases hb : (ms.getD e.i 0).testBit en.i with
    | false => rfl
    | true => exact absurd (hg.cl e he en.i hb hm) hen
theorem vcFl_ok {tt : TT} (htt : tt.ok P) (hL : Laid P Γ.K0.K Γ.w0) {ops : List Oper} {ms : List Nat} {m : Nat} (hmk : MaskOK ops.toArray ms m) {fr0 : Fr} {σ : Sg} {k : List En → Prop} {kb : List Nat → Bool} : ∀ {l : List Nat} {es : List En},
    vcFl P tt Γ.nt ops ms fr0 σ k l es → okFl ms m kb l (es.map (·.i)) = true → GoodS ops ms m Γ.nt es →
    ∃ es', k es' ∧ kb (es'.map (·.i)) = true ∧ GoodS ops ms m Γ.nt es' ∧ (∀ e ∈ es, e ∈ es') ∧ (∀ e ∈ es', e ∈ es ∨ SemF P Γ ops ms fr0 es' σ e) ∧ (∀ e ∈ es, SemF P Γ ops ms fr0 es σ e → SemF P Γ ops ms fr0 es' σ e)
  | [], es, h, hb, hg => ⟨es, h, hb, hg, fun e he => he, fun e he => .inl he, fun e _ hs => hs⟩
  | i :: r, es, h, hb, hg => by
    unfold vcFl at h
    unfold okFl at hb
    rw [Bool.and_eq_true] at hb
    cases ho : ops[i]? with
    | none => rw [ho] at h; exact h.elim
    | some o =>
      rw [ho] at h
      simp only at h
      obtain ⟨gd, x, nob, ⟨hn, hk⟩, _, hsem⟩ := opDr_ok (Γ := Γ) htt hL h i
      subst hn
      obtain ⟨hk, hd⟩ := putE_ok hk
      obtain ⟨h1, h2, h3⟩ := okOne_ok hb.1
      have hg' := hg.add (x := wrapG gd x) (ob := none) ho hb.1 hd
      obtain ⟨es', k1, k2, k3, k4, k5, k6⟩ := vcFl_ok htt hL hmk hk hb.2 hg'
      have hself : SemF P Γ ops ms fr0 (⟨i, o.dst, wrapG gd x, none⟩ :: es) σ ⟨i, o.dst, wrapG gd x, none⟩ := by
        refine ⟨o, ho, ?_⟩
        rw [pickE_skip (k := 0)]
        · exact hsem
        · cases hbt : (ms.getD i 0).testBit i with
          | false => rfl
          | true => have := hmk.lt i o (by simpa using ho) i hbt; omega
      refine ⟨es', k1, k2, k3, fun e he => k4 e (List.mem_cons_of_mem _ he), fun e he => ?_, fun e he hs => k6 e (List.mem_cons_of_mem _ he) (hs.add hg h2 h1 he)⟩
      rcases k5 e he with he | hs
      · rcases List.mem_cons.1 he with rfl | he
        · exact .inr (k6 _ List.mem_cons_self hself)
        · exact .inl he
      · exact .inr hs
theorem vcRe_ok {tt : TT} (htt : tt.ok P) (hL : Laid P Γ.K0.K Γ.w0) {ops : List Oper} {ms : List Nat} {m : Nat} {fr0 : Fr} {es : List En} (hg : GoodS ops ms m Γ.nt es) {σ : Sg} {k : Prop} : ∀ {l : List Nat}, vcRe P tt Γ.nt ops ms fr0 es σ k l →
    k ∧ ∀ e ∈ es, e.i ∈ l → SemF P Γ ops ms fr0 es σ e
  | [], h => ⟨h, fun e _ he => by cases he⟩
  | i :: r, h => by
    unfold vcRe at h
    cases ho : ops[i]? with
    | none => rw [ho] at h; exact h.elim
    | some o =>
      rw [ho] at h
      simp only at h
      obtain ⟨gd, x, nob, ⟨hn, hk⟩, _, hsem⟩ := opDr_ok (Γ := Γ) htt hL h i
      subst hn
      obtain ⟨⟨hx, hr⟩, _⟩ := putE_ok hk
      obtain ⟨h1, h2⟩ := vcRe_ok htt hL hg hr
      refine ⟨h1, fun e he hi => ?_⟩
      rcases List.mem_cons.1 hi with hi | hi
      · obtain ⟨e', he', hi', hx'⟩ := getE_mem hx
        have := hg.idx e he e' he' (hi.trans hi'.symm)
        subst this
        refine ⟨o, by rw [hi]; exact ho, ?_⟩
        rw [hi, hx']; exact hsem
      · exact h2 e he hi
theorem AW_drawS {tt : TT} (htt : tt.ok P) (hmix : P.follows .mixedOrders = true) (m : Nat) (fl0 : List Nat) (sts : List Stg) (ms : List Nat) {id : Nat} {ops : List Oper} (hms : okMasks ms m ops 0 = true) (hlen : Nat.ble m ops.length = true)
    (hds : okDsts (ops.take m) [] = true) (hrd : okReads ops ms (ops.take m) (ops.take m) 0 = true) (hst : okFl ms m (okSt ms m sts) fl0 [] = true)
    (h : vcFl P tt Γ.nt ops ms fr σ (fun es => vcSt P tt Γ.nt ops ms fr (fun fr' σ' => vcOps P tt Γ.nt ops (Q .normal) (ops.drop m) fr' σ') sts es σ) fl0 []) : AW P Γ (.region id ops.toArray true) Q fr σ := by
  refine AW.mk fun hLd g a w hr => ?_
  have hm := MaskOK.of hms
  have hlen : m ≤ ops.length := Nat.le_of_ble_eq_true hlen
  obtain ⟨es0, hk0, hb0, hg0, _, hs0, _⟩ := vcFl_ok (Γ := Γ) htt hLd hm h hst ⟨fun e he => by simp at he, fun e he => by simp at he, fun e he => by simp at he, fun e he => by simp at he⟩
  have hs0 : ∀ e ∈ es0, SemF P Γ ops ms fr es0 σ e := fun e he => (hs0 e he).resolve_left (by simp)
  clear h hst
  obtain ⟨_, hd1⟩ := okDsts_ok hds
  have hrd := fun j o h => okReadsAt_ok (okReads_ok hrd j o h)
  simp only [Nat.zero_add] at hrd
  have htk : ∀ {i : Nat} {o : Oper}, i < m → ops[i]? = some o → (ops.take m)[i]? = some o := fun hi ho => by rw [List.getElem?_take, if_pos hi]; exact ho
  have hfF : ∀ es, GoodS ops ms m Γ.nt es → ∀ p ∈ frs es, ∀ q ∈ frs es, p.1 = q.1 → p = q := by
    intro es hg p hp q hq hpq
    obtain ⟨e, he, h1, h2⟩ := mem_frs.1 hp
    obtain ⟨e', he', h1', h2'⟩ := mem_frs.1 hq
    obtain ⟨o, ho, hd, _⟩ := hg.op e he
    obtain ⟨o', ho', hd', _⟩ := hg.op e' he'
    have := hd1 e.i e'.i o o' p.1 (htk (hg.lt e he) ho) (htk (hg.lt e' he') ho') (by rw [← hd, h1]) (by rw [← hd', h1', hpq])
    have := hg.idx e he e' he' this
    subst this
    obtain ⟨p1, p2⟩ := p; obtain ⟨q1, q2⟩ := q
    simp only at *
    subst hpq; subst h2; subst h2'; rfl
  let InvA : (Nat → Prop) → Act → World → Prop := fun L a w => ∃ (E es : List En) (σ1 : Sg) (rest : List Stg) (g : Gh), GoodS ops ms m Γ.nt es ∧ okSt ms m rest (es.map (·.i)) = true ∧
    vcSt P tt Γ.nt ops ms fr (fun fr' σ' => vcOps P tt Γ.nt ops (Q .normal) (ops.drop m) fr' σ') rest es σ1 ∧ (∀ e ∈ es, ¬ L e.i → SemF P Γ ops ms fr es σ1 e) ∧
    (∀ e ∈ E, e ∈ es) ∧ (∀ j, L j ↔ ∃ e ∈ E, e.i = j) ∧ (∀ k, L k → ∀ b, (ms.getD k 0).testBit b = true → L b) ∧ Rel Γ (frs E ++ fr) σ1 g a w
  let InvB : (Nat → Prop) → Act → World → Prop := fun L a w => ∃ j, m ≤ j ∧ j ≤ ops.length ∧ (∀ b, L b ↔ b < j) ∧ wpLs Γ.ro P ops.toArray (Lift Γ Q) (ops.drop j) a w
  have conv : ∀ L a w, InvA L a w → (∀ b, b < m → L b) → InvB L a w := by
    intro L a w ⟨E, es, σ1, rest, g, hg, hb, hk, _, h1, h2, _, h3⟩ hall
    cases rest with
    | cons s r =>
      unfold okSt at hb
      simp only [Bool.and_eq_true] at hb
      obtain ⟨k1, k2, _⟩ := okOne_ok hb.1.1.1.1
      obtain ⟨e, he, hi⟩ := (h2 s.w).1 (hall s.w k1)
      exact absurd (List.mem_map.2 ⟨e, h1 e he, hi⟩) k2
    | nil =>
      refine ⟨m, Nat.le_refl _, hlen, fun b => ⟨fun hb => ?_, hall b⟩, ?_⟩
      · obtain ⟨e, he, hi⟩ := (h2 b).1 hb
        rw [← hi]; exact hg.lt e (h1 e he)
      · have hsub : ∀ e ∈ es, e ∈ E := by
          intro e he
          obtain ⟨e', he', hi⟩ := (h2 e.i).1 (hall e.i (hg.lt e he))
          have := hg.idx e' (h1 e' he') e he hi
          subst this; exact he'
        have hf := hfF es hg
        have hr' : Rel Γ (frs es ++ fr) σ1 g a w := h3.subF (lk_app_same (fun p hp q hq => hf p ((mem_frs_sub h1) p hp) q ((mem_frs_sub h1) q hq)) (fun p => ⟨mem_frs_sub hsub p, mem_frs_sub h1 p⟩))
        exact vcOps_ok htt hLd (fun _ _ h => h) (ops.drop m) _ _ hk g a w hr'
  have look : ∀ (L : Nat → Prop) (E es : List En) (i : Nat) (o : Oper), GoodS ops ms m Γ.nt es → (∀ e ∈ E, e ∈ es) → (∀ j, L j ↔ ∃ e ∈ E, e.i = j) → (∀ k, L k → ∀ b, (ms.getD k 0).testBit b = true → L b) → ¬ L i → i < m → ops[i]? = some o →
      (∀ b, (ms.getD i 0).testBit b = true → L b) → Sup (selF (frs (pickE (ms.getD i 0) es) ++ fr) (looks ops o)) (frs E ++ fr) := by
    intro L E es i o hg h1 h2 hcl hL him ho hbits t v hl
    have hf := hfF es hg
    obtain ⟨ht, hl⟩ := selF_get hl
    have hpE : ∀ e ∈ pickE (ms.getD i 0) es, e ∈ E := fun e he => by
      obtain ⟨he, hbit⟩ := mem_pickE he
      obtain ⟨e', he', hi'⟩ := (h2 e.i).1 (hbits e.i hbit)
      have := hg.idx e' (h1 e' he') e he hi'
      subst this; exact he'
    rcases lk_app hl with hl | ⟨hn, hl⟩
    · exact lk_app_mem (fun p hp q hq => hf p (mem_frs_sub h1 p hp) q (mem_frs_sub h1 q hq)) (mem_frs_sub hpE _ hl)
    · rw [lk_app_none]
      · exact hl
      · intro p hp hpt
        obtain ⟨e, he, h1', h2'⟩ := mem_frs.1 hp
        obtain ⟨oe, hoe, hde, _⟩ := hg.op e (h1 e he)
        have hLe : L e.i := (h2 e.i).2 ⟨e, he, rfl⟩
        rcases hrd i o (htk him ho) e.i oe t (htk (hg.lt e (h1 e he)) hoe) (by rw [← hde, h1', hpt]) ht with hk | hk | hk
        · exact hL (hk ▸ hLe)
        · exact hn p (mem_frs.2 ⟨e, pickE_mem (h1 e he) hk, h1', h2'⟩) hpt
        · exact hL (hcl e.i hLe i hk)
  refine wpIn_region_any hmix ?_
  refine wpAny_inv hm (fun L a w => InvA L a w ∨ InvB L a w) ?_ ?_ _ _ _ _ (by simp) ?_ ?_ ?_
  · -- a step
    intro L a w hinv i hi hL hbits
    have hi' : i < ops.length := by simpa using hi
    have stepB : InvB L a w → wpOpIn (FX Γ.ro) 0 P ops.toArray (Lift Γ Q) i (fun a w => InvA (fun j => L j ∨ j = i) a w ∨ InvB (fun j => L j ∨ j = i) a w) a w := by
      intro ⟨j, hj1, hj2, hj3, hj4⟩
      have hji : j ≤ i := by
        rcases Nat.lt_or_ge i j with h' | h'
        · exact absurd ((hj3 i).2 h') hL
        · exact h'
      have hij : i = j := by
        rcases Nat.lt_or_ge j i with h' | h'
        · have := hm.tail i _ (Array.getElem?_eq_getElem (by simpa using hi')) (by omega) j h'
          have := (hj3 j).1 (hbits j this)
          omega
        · omega
      subst hij
      rw [List.drop_eq_getElem_cons hi'] at hj4
      have hoi : ops.toArray[i]? = some ops[i] := by simp [hi']
      have hnew : ∀ a w, wpLs Γ.ro P ops.toArray (Lift Γ Q) (ops.drop (i + 1)) a w → InvA (fun j => L j ∨ j = i) a w ∨ InvB (fun j => L j ∨ j = i) a w := by
        intro a w hw
        refine .inr ⟨i + 1, by omega, by omega, fun b => ?_, hw⟩
        show (L b ∨ b = i) ↔ b < i + 1
        rw [hj3 b]; omega
      unfold wpOpIn
      simp only [hoi]
      unfold wpLs wpLk at hj4
      split
      · rename_i hwant
        rw [if_pos hwant] at hj4
        exact Oper.wpIn_mono hnew hj4
      · rename_i hwant
        rw [if_neg hwant] at hj4
        exact ⟨fun _ _ => trivial, hnew _ _ hj4⟩
    rcases hinv with hA | hB
    · rcases Nat.lt_or_ge i m with him | him
      · obtain ⟨E, es, σ1, rest, g, hg, hb, hk, hsF, h1, h2, hcl, h3⟩ := hA
        have hcl' : ∀ k, (L k ∨ k = i) → ∀ b, (ms.getD k 0).testBit b = true → (L b ∨ b = i) := by
          intro k hk b hb
          rcases hk with hk | rfl
          · exact .inl (hcl k hk b hb)
          · exact .inl (hbits b hb)
        have hL2 : ∀ (en : En), en.i = i → ∀ j, (L j ∨ j = i) ↔ ∃ e ∈ en :: E, e.i = j := by
          intro en hen j
          rw [h2 j]
          constructor
          · rintro (⟨e, he, h'⟩ | rfl)
            · exact ⟨e, List.mem_cons_of_mem _ he, h'⟩
            · exact ⟨en, List.mem_cons_self, hen⟩
          · rintro ⟨e, he, h'⟩
            rcases List.mem_cons.1 he with rfl | he
            · exact .inr (h'.symm.trans hen)
            · exact .inl ⟨e, he, h'⟩
        by_cases hin : i ∈ es.map (·.i)
        · -- one that floats
          obtain ⟨en, hen, heni⟩ := List.mem_map.1 hin
          obtain ⟨o, ho, hsem⟩ := hsF en hen (by rw [heni]; exact hL)
          obtain ⟨o', ho', hd, hdn⟩ := hg.op en hen
          rw [ho] at ho'; cases ho'
          rw [heni] at ho hsem
          refine hsem _ (frs E ++ fr) σ1 g a w (look L E es i o hg h1 h2 hcl hL him ho hbits) (fun _ _ h => h) (fun _ => rfl) (fun p hp => by cases hp) h3 _ (fun v g' w' hr' hv => .inl ?_) (by simpa using ho)
          refine ⟨en :: E, es, σ1, rest, g', hg, hb, hk, fun e he hn => hsF e he (fun h => hn (.inl h)), fun e he => ?_, hL2 en heni, hcl', ?_⟩
          · rcases List.mem_cons.1 he with rfl | he
            · exact hen
            · exact h1 e he
          · rw [← addFr_eq, hd]
            have hr' : Rel Γ (frs E ++ fr) σ1 g' a w' := hr'
            cases hdd : o.dst with
            | none => exact hr'
            | some d => exact hr'.put (hdn d hdd) hv
        · -- the next one that writes
          cases rest with
          | nil =>
            unfold okSt at hb
            rw [List.all_eq_true] at hb
            exact absurd (inL_iff.1 (hb i (List.mem_range.2 him))) hin
          | cons s r =>
            obtain ⟨sw, mk, fz, re, fl⟩ := s
            unfold okSt at hb
            simp only [Bool.and_eq_true] at hb
            obtain ⟨⟨⟨⟨hone, hre⟩, _⟩, hrst⟩, hfl⟩ := hb
            obtain ⟨k1, k2, k3⟩ := okOne_ok hone
            have hiw : i = sw := by
              rw [List.all_eq_true] at hrst
              have := hrst i (List.mem_range.2 him)
              simp only [Bool.or_eq_true] at this
              rcases this with (h' | h') | h'
              · exact absurd (inL_iff.1 h') hin
              · exact Nat.eq_of_beq_eq_true h'
              · obtain ⟨e, he, hi2⟩ := (h2 sw).1 (hbits sw h')
                exact absurd (List.mem_map.2 ⟨e, h1 e he, hi2⟩) k2
            subst hiw
            unfold vcSt at hk
            have ho : ops[i]? = some ops[i] := List.getElem?_eq_getElem hi'
            rw [ho] at hk
            simp only at hk
            generalize ops[i] = o at ho hk
            have hoi : ops.toArray[i]? = some o := by simpa using ho
            have hsup := look L E es i o hg h1 h2 hcl hL him ho hbits
            have fin : ∀ (x : AV) (σ2 : Sg), (∀ t, o.dst = some t → t < Γ.nt) → (FzGo fz σ2 x fun x σ2 =>
                vcRe P tt Γ.nt ops ms fr (⟨i, o.dst, x, none⟩ :: es) σ2 (vcFl P tt Γ.nt ops ms fr σ2 (fun es' => vcSt P tt Γ.nt ops ms fr (fun fr' σ' => vcOps P tt Γ.nt ops (Q .normal) (ops.drop m) fr' σ') r es' σ2) fl (⟨i, o.dst, x, none⟩ :: es)) re) →
                ∀ g2 a2 w2, Rel Γ (addFr o.dst x (frs E ++ fr)) σ2 g2 a2 w2 → InvA (fun j => L j ∨ j = i) a2 w2 := by
              intro x1 σ3 hdn hk2 g3 a2 w2 hr3
              obtain ⟨x, σ2, hk2, hfz⟩ := FzGo_ok (P := P) (Γ := Γ) hk2
              obtain ⟨g2, hr2⟩ := hfz _ _ g3 a2 w2 hr3
              have hg' := hg.add (x := x) (ob := none) ho hone hdn
              obtain ⟨hk3, hre2⟩ := vcRe_ok (Γ := Γ) htt hLd hg' hk2
              obtain ⟨es', q1, q2, q3, q4, q5, q6⟩ := vcFl_ok (Γ := Γ) htt hLd hm hk3 hfl hg'
              refine ⟨⟨i, o.dst, x, none⟩ :: E, es', σ2, r, g2, q3, q2, q1, fun e he hn => ?_, fun e he => ?_, hL2 _ rfl, hcl', ?_⟩
              · rcases q5 e he with he' | hs
                · refine q6 e he' (hre2 e he' ?_)
                  rcases List.mem_cons.1 he' with rfl | he'
                  · exact absurd (.inr rfl) hn
                  · rw [List.all_eq_true] at hre
                    have := hre e.i (List.mem_map.2 ⟨e, he', rfl⟩)
                    rw [Bool.or_eq_true] at this
                    rcases this with h' | h'
                    · exact absurd (.inl (hbits e.i h')) hn
                    · exact inL_iff.1 h'
                · exact hs
              · rcases List.mem_cons.1 he with rfl | he
                · exact q4 _ List.mem_cons_self
                · exact q4 e (List.mem_cons_of_mem _ (h1 e he))
              · rw [← addFr_eq]; exact hr2
            cases mk with
            | true =>
              simp only [cond_true] at hk
              obtain ⟨id, hid, hk⟩ := idFor_ok hk
              obtain ⟨gd, x, nob, hk, hnob, hsem⟩ := opDr_ok (Γ := Γ) htt hLd hk i
              obtain ⟨hk, hdn⟩ := putE_ok hk
              refine hsem _ (frs E ++ fr) σ1 g a w hsup (fun _ _ h => h) (fun _ => rfl) (fun p hp => ?_) h3 _ (fun v g' w' hr' hv => .inl ?_) hoi
              · rcases hnob with hn | ⟨_, _, b, hb⟩
                · rw [hn] at hp; cases hp
                · rw [hb] at hp; cases hp; exact hid
              · refine fin (wrapG gd x) (addOb nob σ1) hdn hk g' _ w' ?_
                cases hdd : o.dst with
                | none => exact hr'
                | some d => exact hr'.put (hdn d hdd) hv
            | false =>
              simp only [cond_false] at hk
              generalize hF : selF (frs (pickE (ms.getD i 0) es) ++ fr) (looks ops o) = F at hk hsup
              have hr' : Rel Γ F σ1 g a w := h3.subF hsup
              let Γ' : Cx := ⟨Γ.w0, Γ.K0, Γ.nt, SR σ1 g w, σ1.map (·.1), Γ.ro, Γ.dfs⟩
              have hr2 : Rel Γ' F σ1 g a w := ⟨hr'.hp, hr'.fr, hr'.size, hr'.defers, fun s v hb => ⟨hb, SR.inI hb⟩⟩
              have hw := vcOps_okK (Γ := Γ') htt hLd (Qx := Lift Γ Q) (K := fun a w => ∃ g2 fr2 σ2, Rel Γ' fr2 σ2 g2 a w ∧ ∃ v, fr2 = addFr o.dst v F ∧ FzGo fz σ2 v fun v σ2 =>
                vcRe P tt Γ.nt ops ms fr (⟨i, o.dst, v, none⟩ :: es) σ2 (vcFl P tt Γ.nt ops ms fr σ2 (fun es' => vcSt P tt Γ.nt ops ms fr (fun fr' σ' => vcOps P tt Γ.nt ops (Q .normal) (ops.drop m) fr' σ') r es' σ2) fl (⟨i, o.dst, v, none⟩ :: es)) re)
                (fun fr2 σ2 g2 a2 w2 hr2 hk2 => ⟨g2, fr2, σ2, hr2, hk2.ex⟩) [o] _ _ hk g a w hr2
              have hw2 : wpOpIn (FX Γ.ro) 0 P ops.toArray (Lift Γ Q) i (fun a w => ∃ g2 fr2 σ2, Rel Γ' fr2 σ2 g2 a w ∧ ∃ v, fr2 = addFr o.dst v F ∧ FzGo fz σ2 v fun v σ2 =>
                vcRe P tt Γ.nt ops ms fr (⟨i, o.dst, v, none⟩ :: es) σ2 (vcFl P tt Γ.nt ops ms fr σ2 (fun es' => vcSt P tt Γ.nt ops ms fr (fun fr' σ' => vcOps P tt Γ.nt ops (Q .normal) (ops.drop m) fr' σ') r es' σ2) fl (⟨i, o.dst, v, none⟩ :: es)) re) a w := by
                unfold wpOpIn
                simp only [hoi]
                unfold wpLk at hw
                split
                · rename_i hwant
                  rw [if_pos hwant] at hw
                  exact hw
                · rename_i hwant
                  rw [if_neg hwant] at hw
                  exact ⟨fun _ _ => trivial, hw⟩
              refine wpOpIn_mono ?_ (wpOpIn_put hoi hw2)
              rintro a2 w2 ⟨⟨g2, fr2, σ2, hr2, v, rfl, hk2⟩, v', htm⟩
              have hdn : ∀ t, o.dst = some t → t < Γ.nt := fun t hd => (hr2.fr t v (by rw [hd]; show lk t ((t, v) :: F) = _; rw [lk_cons, if_pos rfl])).1
              refine .inl (fin v σ2 hdn hk2 g2 a2 w2 ?_)
              have keep : ∀ s u, SR σ1 g w s u → SR σ2 g2 w2 s u := fun s u hsu => (hr2.base s u hsu).1
              refine ⟨hr2.hp, fun t x ht => ?_, hr2.size, hr2.defers, fun s u hb => ⟨keep s u (h3.base s u hb).1, (h3.base s u hb).2⟩⟩
              by_cases hdt : o.dst = some t
              · have : lk t (addFr o.dst v F) = some x := by
                  rw [hdt] at ht ⊢
                  have ht : lk t ((t, v) :: (frs E ++ fr)) = some x := ht
                  show lk t ((t, v) :: _) = some x
                  rw [lk_cons, if_pos rfl] at ht ⊢; exact ht
                exact hr2.fr t x this
              · have ht : lk t (frs E ++ fr) = some x := by
                  cases hd : o.dst with
                  | none => rw [hd] at ht; exact ht
                  | some d =>
                    rw [hd] at ht
                    have ht : lk t ((d, v) :: (frs E ++ fr)) = some x := ht
                    rw [lk_cons, if_neg (fun e => hdt (by rw [hd, e]))] at ht
                    exact ht
                have h4 := h3.fr t x ht
                refine ⟨h4.1, ?_⟩
                have e : a2.tmps.getD t undef = a.tmps.getD t undef := by
                  rw [htm]
                  cases hd : o.dst with
                  | none => rfl
                  | some d =>
                    have : ¬ d = t := fun e => hdt (by rw [hd, e])
                    simp [Act.put, this]
                rw [e]
                exact h4.2.keep keep
      · have hall : ∀ b, b < i → L b := fun b hb => hbits b (hm.tail i _ (Array.getElem?_eq_getElem (by simpa using hi')) him b hb)
        exact stepB (conv L a w hA fun b hb => hall b (by omega))
    · exact stepB hB
  · -- the end
    intro L a w hinv hall
    have hB : InvB L a w := by
      rcases hinv with hA | hB
      · exact conv L a w hA fun b hb => hall b (by simp; omega)
      · exact hB
    obtain ⟨j, hj1, hj2, hj3, hj4⟩ := hB
    have : j = ops.length := by
      rcases Nat.lt_or_ge j ops.length with h' | h'
      · have := (hj3 j).1 (hall j (by simpa using h')); omega
      · omega
    subst this
    rw [List.drop_length] at hj4
    exact hj4
  · intro i hi
    have : (Array.replicate ops.length false)[i]?.getD false = false := by
      rw [Array.getElem?_replicate]; split <;> rfl
    simp [this] at hi
  · unfold unl
    refine Nat.le_trans (List.length_filter_le _ _) (by simp)
  · left
    refine ⟨[], es0, σ, sts, g, hg0, hb0, hk0, fun e he _ => hs0 e he, fun e he => by simp at he, fun j => ?_, fun k hk => ?_, hr.drawn _⟩
    rotate_left
    · have : (Array.replicate ops.length false)[k]?.getD false = false := by
        rw [Array.getElem?_replicate]; split <;> rfl
      simp [this] at hk
    have : (Array.replicate ops.length false)[j]?.getD false = false := by
      rw [Array.getElem?_replicate]; split <;> rfl
    simp [this]
end
end Go.QL
namespace Go.Proofs.YtnpleednkmhhhaaDoor
open Go Go.QL
set_option maxHeartbeats 3200000
attribute [local irreducible] ACall FnC YC
def lessOne (k : Nat) (r : List Int) : List Int := r.take k ++ r.drop (k + 1)
def lessR (rows : List (List Int)) (k : Nat) : List (List Int) := (rows.drop 1).map (lessOne k)
def detGo (D : List (List Int) → Int) (rows : List (List Int)) : Nat → Int × Int
  | 0 => (0, 1)
  | k + 1 => ((detGo D rows k).1 + (detGo D rows k).2 * (rows.getD 0 []).getD k 0 * D (lessR rows k), -(detGo D rows k).2)
def detF : Nat → List (List Int) → Int
  | 0, _ => 1
  | n + 1, rows => (detGo (detF n) rows rows.length).1
def sqr (n : Nat) (rows : List (List Int)) : Prop := rows.length = n ∧ ∀ r ∈ rows, r.length = n
def entB (rows : List (List Int)) : Prop := ∀ r ∈ rows, ∀ x ∈ r, -10000 ≤ x ∧ x ≤ 10000
def dB : Nat → Int
  | 0 => 1
  | n + 1 => ((n : Int) + 1) * (10000 * dB n)
theorem less_len {rows : List (List Int)} {n k : Nat} (h : sqr (n + 1) rows) (hk : k < n + 1) : sqr n (lessR rows k) := by
  refine ⟨by unfold lessR; rw [List.length_map, List.length_drop, h.1]; rfl, fun r hr => ?_⟩
  obtain ⟨q, hq, rfl⟩ := List.mem_map.1 hr
  have := h.2 q (List.mem_of_mem_drop hq)
  unfold lessOne
  rw [List.length_append, List.length_take, List.length_drop]
  omega
theorem less_ent {rows : List (List Int)} {k : Nat} (h : entB rows) : entB (lessR rows k) := by
  intro r hr x hx
  obtain ⟨q, hq, rfl⟩ := List.mem_map.1 hr
  unfold lessOne at hx
  rcases List.mem_append.1 hx with hx | hx
  · exact h q (List.mem_of_mem_drop hq) x (List.mem_of_mem_take hx)
  · exact h q (List.mem_of_mem_drop hq) x (List.mem_of_mem_drop hx)
theorem sgn_go (D : List (List Int) → Int) (rows : List (List Int)) : ∀ k, (detGo D rows k).2 = 1 ∨ (detGo D rows k).2 = -1
  | 0 => .inl rfl
  | k + 1 => by
    rcases sgn_go D rows k with h | h
    · right; simp only [detGo]; rw [h]
    · left; simp only [detGo]; rw [h]; rfl
theorem ent_get {rows : List (List Int)} (h : entB rows) (k : Nat) : -10000 ≤ (rows.getD 0 []).getD k 0 ∧ (rows.getD 0 []).getD k 0 ≤ 10000 := by
  rw [List.getD_eq_getElem?_getD (l := rows.getD 0 [])]
  cases hg : (rows.getD 0 [])[k]? with
  | none => exact ⟨by decide, by decide⟩
  | some x =>
    have hx := List.mem_of_getElem? hg
    rw [List.getD_eq_getElem?_getD] at hx
    cases hg2 : rows[0]? with
    | none => rw [hg2] at hx; cases hx
    | some l => rw [hg2] at hx; exact h l (List.mem_of_getElem? hg2) x hx
theorem dB_pos : ∀ n, 0 < dB n
  | 0 => by decide
  | n + 1 => by have := dB_pos n; exact Int.mul_pos (by omega) (by omega)
theorem term_bd {s x d B : Int} (hs : s = 1 ∨ s = -1) (hx : -10000 ≤ x ∧ x ≤ 10000) (hd : -B ≤ d ∧ d ≤ B) : (-10000 ≤ s * x ∧ s * x ≤ 10000) ∧ (-(10000 * B) ≤ s * x * d ∧ s * x * d ≤ 10000 * B) := by
  have h1 : -10000 ≤ s * x ∧ s * x ≤ 10000 := by rcases hs with rfl | rfl <;> omega
  exact ⟨h1, mul_bd h1 hd⟩
theorem det_bd : ∀ (n : Nat) (rows : List (List Int)), sqr n rows → entB rows → -dB n ≤ detF n rows ∧ detF n rows ≤ dB n
  | 0, _, _, _ => by simp [detF, dB]
  | n + 1, rows, hs, he => by
    have key : ∀ k : Nat, k ≤ n + 1 → -((k : Int) * (10000 * dB n)) ≤ (detGo (detF n) rows k).1 ∧ (detGo (detF n) rows k).1 ≤ (k : Int) * (10000 * dB n) := by
      intro k
      induction k with
      | zero => intro _; simp [detGo]
      | succ k ih =>
        intro hk
        have ih := ih (by omega)
        have := (term_bd (sgn_go (detF n) rows k) (ent_get he k) (det_bd n (lessR rows k) (less_len hs (by omega)) (less_ent he))).2
        simp only [detGo]
        rw [show ((k + 1 : Nat) : Int) = (k : Int) + 1 by omega, Int.add_mul, Int.one_mul]
        omega
    have := key rows.length (by rw [hs.1]; exact Nat.le_refl _)
    rw [hs.1] at this
    show -(((n : Int) + 1) * (10000 * dB n)) ≤ (detGo (detF n) rows rows.length).1 ∧ (detGo (detF n) rows rows.length).1 ≤ ((n : Int) + 1) * (10000 * dB n)
    rw [hs.1, show ((n : Int) + 1) = ((n + 1 : Nat) : Int) by omega]
    exact this
theorem go_bd {n : Nat} {rows : List (List Int)} (hs : sqr (n + 1) rows) (he : entB rows) : ∀ k : Nat, k ≤ n + 1 → -((k : Int) * (10000 * dB n)) ≤ (detGo (detF n) rows k).1 ∧ (detGo (detF n) rows k).1 ≤ (k : Int) * (10000 * dB n) := by
  intro k
  induction k with
  | zero => intro _; simp [detGo]
  | succ k ih =>
    intro hk
    have ih := ih (by omega)
    have := (term_bd (sgn_go (detF n) rows k) (ent_get he k) (det_bd n (lessR rows k) (less_len hs (by omega)) (less_ent he))).2
    simp only [detGo]
    rw [show ((k + 1 : Nat) : Int) = (k : Int) + 1 by omega, Int.add_mul, Int.one_mul]
    omega
theorem dB_le {n : Nat} (h : n ≤ 3) : (n : Int) * (10000 * dB n) ≤ 180000000000000000 ∧ dB n ≤ 6000000000000 := by
  match n, h with
  | 0, _ | 1, _ | 2, _ | 3, _ => decide
  | n + 4, h => omega
theorem go_rng {n : Nat} {rows : List (List Int)} (hn : n ≤ 3) (hs : sqr (n + 1) rows) (he : entB rows) {k : Nat} (hk : k ≤ n + 1) : -240000000000000000 ≤ (detGo (detF n) rows k).1 ∧ (detGo (detF n) rows k).1 ≤ 240000000000000000 := by
  have h1 := go_bd hs he k hk
  have h2 := (dB_le hn).2
  have h3 := dB_pos n
  have h4 := Int.mul_le_mul_of_nonneg_right (show (k : Int) ≤ 4 by omega) (show 0 ≤ 10000 * dB n by omega)
  omega
theorem less_len1 {rows : List (List Int)} {k : Nat} : (lessR rows k).length = rows.length - 1 := by unfold lessR; rw [List.length_map, List.length_drop]
theorem less_get {rows : List (List Int)} {k i : Nat} {r : List Int} (h : rows[i + 1]? = some r) : (lessR rows k)[i]? = some (lessOne k r) := by
  unfold lessR; rw [List.getElem?_map, List.getElem?_drop, Nat.add_comm 1 i, h]; rfl
end Go.Proofs.YtnpleednkmhhhaaDoor
namespace Go.Proofs.YtnpleednkmhhhaaDoor
open Go Go.QL
set_option maxHeartbeats 8000000
attribute [local irreducible] ACall FnC YC Imp
theorem less_one0 (r : List Int) : ([] : List (List PV)) ++ ((r.map fun n : Int => [PV.v (.int .i64 n)]).take (((r.map fun n : Int => [PV.v (.int .i64 n)]).length : Int)).toNat).drop (((0 : Nat) : Int) + 1).toNat = (lessOne 0 r).map fun n : Int => [PV.v (.int .i64 n)] := by
  rw [List.nil_append, Int.toNat_natCast, List.take_length, show (((0 : Nat) : Int) + 1).toNat = 1 by omega]
  unfold lessOne
  rw [List.take_zero, List.nil_append, List.map_drop]
theorem less_one1 (r : List Int) (k : Nat) : (((((r.map fun n : Int => [PV.v (.int .i64 n)]).take ((k : Int)).toNat).drop (Int.toNat 0)).take (((r.map fun n : Int => [PV.v (.int .i64 n)]).take ((k : Int)).toNat).drop (Int.toNat 0)).length ++
    ((r.map fun n : Int => [PV.v (.int .i64 n)]).take (((r.map fun n : Int => [PV.v (.int .i64 n)]).length : Int)).toNat).drop ((k : Int) + 1).toNat).take ((((r.map fun n : Int => [PV.v (.int .i64 n)]).take ((k : Int)).toNat).drop (Int.toNat 0)).length +
      (((r.map fun n : Int => [PV.v (.int .i64 n)]).take (((r.map fun n : Int => [PV.v (.int .i64 n)]).length : Int)).toNat).drop ((k : Int) + 1).toNat).length)) = (lessOne k r).map fun n : Int => [PV.v (.int .i64 n)] := by
  rw [List.take_length, ← List.length_append, List.take_length, Int.toNat_natCast, Int.toNat_natCast, List.take_length, show ((k : Int) + 1).toNat = k + 1 by omega]
  unfold lessOne
  rw [List.map_append, List.map_take, List.map_drop]; rfl
theorem det_fn : ∀ (n : Nat), n ≤ 4 → ∀ rows, sqr n rows → entB rows → FnC Tryd.prog 33 [rowsAV rows] (iv .i64 (detF n rows)) := by
  intro n
  induction n with
  | zero =>
    intro _ rows hs _
    have hr : rows = [] := List.eq_nil_of_length_eq_zero hs.1
    subst hr
    refine FnC_of_AW hTt Tryd.func33 rfl (by kernel_rfl) (res := [.tmp 2]) rfl Tryd.ntmps33 (by simp) fun w0 K0 => ?_
    dsimp only [entry]
    repeat' first | with_reducible refine AW_seq ?_ | ((first | with_reducible refine AW_ret ?_ | with_reducible refine AW_region hTt ?_ | fail); conv => whnf) | (refine AW_cond rfl (fun _ => ?_) (fun hb => absurd (show true = false from hb) (by decide))) | (refine fun hln => ?_; (try rw [List.length_map] at hln); unfold maxLen at hln; conv => whnf) | fail
    rfl
  | succ n ihn =>
    intro hn rows hs he
    have hrl : (rows.map (fun r : List Int => [intsPV r])).length = n + 1 := by rw [List.length_map, hs.1]
    have hll := hs.1
    refine FnC_of_AW hTt Tryd.func33 rfl (by kernel_rfl) (res := [.tmp 2]) rfl Tryd.ntmps33 (by simp) fun w0 K0 => ?_
    dsimp only [entry]
    repeat' first | with_reducible refine AW_seq ?_ | with_reducible refine AW_block ?_ | ((first | with_reducible refine AW_skip ?_ | with_reducible refine AW_ret ?_ | with_reducible refine AW_region hTt ?_ | fail); conv => whnf) | (exact absurd hb (by omega)) | (refine AW_cond rfl (fun hb => ?_) (fun hb => ?_) <;> first | (replace hb := of_decide_eq_true hb; try simp only [List.length_map] at hb) | (replace hb := of_decide_eq_false hb; try simp only [List.length_map] at hb) | (simp only [List.length_map, bne_iff_ne, ne_eq, beq_iff_eq, bne_eq_false_iff_eq, beq_eq_false_iff_ne, decide_eq_true_eq, decide_eq_false_iff_not, Bool.not_eq_true', Bool.not_eq_false', Int.natCast_inj] at hb) | skip) | (refine fun hln => ?_; (try rw [List.length_map] at hln); unfold maxLen at hln; conv => whnf) | fail
    refine AW_loop (fun k : Nat => [(5, iv .i64 k), (3, iv .i64 (detGo (detF n) rows k).1), (4, iv .i64 (detGo (detF n) rows k).2), (0, rowsAV rows)]) (fun _ => []) (fun k => k ≤ n + 1) (fun k => n + 1 - k) 0 (Nat.zero_le _) impA ?_
    intro k hk
    rcases Nat.lt_or_ge k (n + 1) with hkl | hkl
    · have ih := ihn (by omega) (lessR rows k) (less_len hs hkl) (less_ent he)
      have hnx : detGo (detF n) rows (k + 1) = ((detGo (detF n) rows k).1 + (detGo (detF n) rows k).2 * (rows.getD 0 []).getD k 0 * detF n (lessR rows k), -(detGo (detF n) rows k).2) := rfl
      have hsg := sgn_go (detF n) rows k
      have htb := term_bd hsg (ent_get he k) (det_bd n (lessR rows k) (less_len hs (by omega)) (less_ent he))
      have hdb := (dB_le (n := n) (by omega)).2
      have hgb := go_rng (by omega) hs he hk
      have e0 : rows[(0 : Int).toNat]? = some (rows.getD 0 []) := by
        show rows[0]? = _
        rw [List.getD_eq_getElem?_getD, List.getElem?_eq_getElem (by omega)]; rfl
      have h0l : (rows.getD 0 []).length = n + 1 := hs.2 _ (by rw [List.getD_eq_getElem?_getD, List.getElem?_eq_getElem (by omega)]; exact List.getElem_mem _)
      have e0k : (rows.getD 0 [])[k]? = some ((rows.getD 0 []).getD k 0) := by rw [List.getD_eq_getElem?_getD (l := rows.getD 0 []), List.getElem?_eq_getElem (by omega)]; rfl
      have hrows : ∀ i, i < n → ∃ r, rows[i + 1]? = some r ∧ r.length = n + 1 := fun i hi => ⟨rows[i + 1]'(by omega), List.getElem?_eq_getElem (by omega), hs.2 _ (List.getElem_mem _)⟩
      have hlg : ∀ i r, rows[i + 1]? = some r → (lessR rows k)[i]? = some (lessOne k r) := fun i r h => less_get h
      have hln : (lessR rows k).length = n := by rw [less_len1]; omega
      generalize hG1 : detGo (detF n) rows (k + 1) = G1 at hnx
      generalize detGo (detF n) rows k = G at *
      generalize rows.getD 0 [] = row0 at *
      generalize row0.getD k 0 = x0 at *
      generalize lessR rows k = L at *
      generalize detF n L = d at *
      generalize dB n = B at *
      obtain ⟨g1, g2⟩ := G
      dsimp only at *
      clear ihn he hs
      repeat' first | with_reducible refine AW_seq ?_ | with_reducible refine AW_block ?_ | ((first | with_reducible refine AW_skip ?_ | with_reducible refine AW_exit ?_ | with_reducible refine AW_ret ?_ | with_reducible refine AW_region hTt ?_ | fail); conv => whnf) | (exact absurd hb (by omega)) | (refine AW_cond rfl (fun hb => ?_) (fun hb => ?_) <;> first | (replace hb := of_decide_eq_true hb; try simp only [List.length_map] at hb) | (replace hb := of_decide_eq_false hb; try simp only [List.length_map] at hb) | (simp only [List.length_map, bne_iff_ne, ne_eq, beq_iff_eq, bne_eq_false_iff_eq, beq_eq_false_iff_ne, decide_eq_true_eq, decide_eq_false_iff_not, Bool.not_eq_true', Bool.not_eq_false', Int.natCast_inj] at hb) | skip) | (refine fun hln => ?_; (try rw [List.length_map] at hln); unfold maxLen at hln; conv => whnf) | fail
      refine AW_imp (Imp.nil 900 23 1 (fr' := [(7, iv .i64 1), (6, .x (.o 900 0 0)), (5, iv .i64 k), (3, iv .i64 g1), (4, iv .i64 g2), (0, rowsAV rows)]) (σ' := []) rfl ?_ trivial rfl rfl) ?_
      · exact ⟨⟨_, rfl, .inl rfl⟩, ⟨_, rfl, .inr ⟨rfl, rfl⟩⟩, ⟨_, rfl, .inl rfl⟩, ⟨_, rfl, .inl rfl⟩, ⟨_, rfl, .inl rfl⟩, ⟨_, rfl, .inl rfl⟩, trivial⟩
      refine AW_loop (fun i : Nat => [(7, iv .i64 ((i : Int) + 1)), (6, .x (.o 900 i i)), (5, iv .i64 k), (3, iv .i64 g1), (4, iv .i64 g2), (0, rowsAV rows)]) (fun i => [(900, .chain 23 1 i ((L.take i).map fun r => [intsPV r]))]) (fun i => i ≤ n) (fun i => n - i) 0 (Nat.zero_le _) impA ?_
      intro i hi
      have htl : ((L.take i).map fun r => [intsPV r]).length = i := by rw [List.length_map, List.length_take]; omega
      rcases Nat.lt_or_ge i n with hil | hil
      · obtain ⟨r, e1, hr1⟩ := hrows i hil
        have e2 := hlg i r e1
        have e1' : rows[((i : Int) + 1).toNat]? = some r := by rw [show ((i : Int) + 1).toNat = i + 1 by omega]; exact e1
        have hrm : (r.map fun n : Int => [PV.v (.int .i64 n)]).length = n + 1 := by rw [List.length_map, hr1]
        have hch : ∀ Y : List (List PV), Y = ((lessOne k r).map fun n : Int => [PV.v (.int .i64 n)]) → ((L.take i).map fun r => [intsPV r]).take i ++ [[PV.s 1 Y]] = (L.take (i + 1)).map fun r => [intsPV r] := fun Y hY => by
          rw [List.take_of_length_le (by rw [htl]; exact Nat.le_refl _), List.take_add_one, e2, List.map_append, hY]; rfl
        generalize hX : ((L.take i).map fun r => [intsPV r]) = X at *
        clear hrows hlg e2 e0 e0k ih
        by_cases hk0 : k = 0
        · subst hk0
          have hY := less_one0 r
          have hBl : (((r.map fun n : Int => [PV.v (.int .i64 n)]).take (((r.map fun n : Int => [PV.v (.int .i64 n)]).length : Int)).toNat).drop (((0 : Nat) : Int) + 1).toNat).length = n := by
            rw [Int.toNat_natCast, List.take_length, List.length_drop, hrm]; omega
          repeat' first | ((first | refine AW_drawS hTt hMix (id := 11) 18 [0, 1, 2, 3, 4, 5, 6, 7, 8, 9, 10, 11, 12, 13, 14, 15] [⟨16, false, false, [0], [17]⟩] [0, 0, 0, 0, 12, 28, 0, 124, 254, 0, 0, 1536, 3584, 0, 8192, 32256, 65534, 131070, 262143, 524287] (by kernel_rfl) rfl (by kernel_rfl) (by kernel_rfl) (by kernel_rfl) ?_ | refine LateGo.mk ⟨_, rfl, ?_⟩ | fail); conv => whnf) | with_reducible refine AW_seq ?_ | with_reducible refine AW_block ?_ | ((first | with_reducible refine AW_skip ?_ | with_reducible refine AW_exit ?_ | with_reducible refine AW_region hTt ?_ | refine AW_draw hTt hMix (id := 12) 16 false [0, 0, 0, 4, 12, 0, 60, 124, 254, 0, 512, 2046, 4095, 0, 8192, 8191, 65535] (by kernel_rfl) rfl rfl (by kernel_rfl) ?_ | fail); conv => whnf) | (exact absurd hb (by omega)) | ((first | with_reducible refine Exists.intro _ (And.intro (gd_any (And.intro (by omega) (map_some' e1'))) ?_) | refine Or.inl (And.intro rfl ?_) | refine And.intro (by rw [hBl]; exact ⟨rfl, by omega⟩) ?_ | fail); conv => whnf) | ((refine And.intro (by rw [hBl]; refine ⟨?_, ?_⟩ <;> simp [maxLen] <;> omega) ?_); conv => whnf) | ((refine And.intro (by rw [htl]; refine ⟨?_, ?_, ?_⟩ <;> simp [chunk, maxLen] <;> omega) ?_); conv => whnf) | (refine AW_cond rfl (fun hb => ?_) (fun hb => ?_) <;> first | (replace hb := of_decide_eq_true hb; try simp only [List.length_map] at hb) | (replace hb := of_decide_eq_false hb; try simp only [List.length_map] at hb) | (simp only [List.length_map, bne_iff_ne, ne_eq, beq_iff_eq, bne_eq_false_iff_eq, beq_eq_false_iff_ne, decide_eq_true_eq, decide_eq_false_iff_not, Bool.not_eq_true', Bool.not_eq_false', Int.natCast_inj] at hb) | skip) | ((first | refine ⟨_, wrap_of (by first | omega | (simp only [List.length_map]; omega)), ?_⟩ | refine andA ?_ | fail); conv => whnf) | (refine fun hln => ?_; (try rw [List.length_map] at hln); unfold maxLen at hln; conv => whnf) | fail
          exact ⟨i + 1, hil, by omega, (Imp.forget (by repeat' (first | exact trivial | refine And.intro ?_ ?_ | exact congrArg (fun xs : List (List PV) => some (Ob.chain 23 1 (i + 1) xs)) (hch _ hY) | rfl | exact ivE (by first | omega | (simp only [List.length_map, List.length_append, List.length_singleton] <;> omega)) | exact oE (by first | omega | (simp only [List.length_map, List.length_append, List.length_singleton] <;> omega)))) (by repeat' (first | exact trivial | refine And.intro ?_ ?_ | exact congrArg (fun xs : List (List PV) => some (Ob.chain 23 1 (i + 1) xs)) (hch _ hY) | rfl | exact ivE (by first | omega | (simp only [List.length_map, List.length_append, List.length_singleton] <;> omega)) | exact oE (by first | omega | (simp only [List.length_map, List.length_append, List.length_singleton] <;> omega)))) (by kernel_rfl) (by kernel_rfl) (by kernel_rfl))⟩
        · have hY := less_one1 r k
          have hAl : (((r.map fun n : Int => [PV.v (.int .i64 n)]).take ((k : Int)).toNat).drop (Int.toNat 0)).length = k := by
            show (((r.map fun n : Int => [PV.v (.int .i64 n)]).take ((k : Int)).toNat).drop 0).length = k
            rw [List.drop_zero, List.length_take, hrm, Int.toNat_natCast]; omega
          have hBl : (((r.map fun n : Int => [PV.v (.int .i64 n)]).take (((r.map fun n : Int => [PV.v (.int .i64 n)]).length : Int)).toNat).drop ((k : Int) + 1).toNat).length = n - k := by
            rw [Int.toNat_natCast, List.take_length, List.length_drop, hrm]; omega
          repeat' first | ((first | refine AW_drawS hTt hMix (id := 11) 18 [0, 1, 2, 3, 4, 5, 6, 7, 9, 10, 11, 12, 13, 14, 15] [⟨8, true, false, [0, 9, 10, 11, 12, 13, 14, 15], []⟩, ⟨16, false, true, [0], [17]⟩] [0, 0, 0, 0, 12, 28, 0, 124, 254, 0, 0, 1536, 3584, 0, 8192, 32256, 65534, 131070, 262143, 524287] (by kernel_rfl) rfl (by kernel_rfl) (by kernel_rfl) (by kernel_rfl) ?_ | refine LateGo.mk ⟨_, rfl, ?_⟩ | fail); conv => whnf) | with_reducible refine AW_seq ?_ | with_reducible refine AW_block ?_ | ((first | with_reducible refine AW_skip ?_ | with_reducible refine AW_exit ?_ | with_reducible refine AW_region hTt ?_ | refine AW_draw hTt hMix (id := 12) 16 false [0, 0, 0, 4, 12, 0, 60, 124, 254, 0, 512, 2046, 4095, 0, 8192, 8191, 65535] (by kernel_rfl) rfl rfl (by kernel_rfl) ?_ | fail); conv => whnf) | (exact absurd hb (by omega)) | ((with_reducible refine Exists.intro _ (And.intro (gd_any (And.intro (by omega) (map_some' e1'))) ?_)); conv => whnf) | ((refine Or.inr (And.intro (by rw [hAl]; omega) (And.intro (by rw [hAl]; refine ⟨?_, ?_⟩ <;> simp [maxLen] <;> omega) ?_))); conv => whnf) | ((refine And.intro (by refine ⟨Nat.le_refl _, ?_, ?_⟩ <;> rw [hAl, hBl] <;> simp [maxLen] <;> omega) ?_); conv => whnf) | ((refine And.intro (by refine ⟨rfl, ?_⟩; simp) ?_); conv => whnf) | ((refine And.intro (by rw [htl]; refine ⟨?_, ?_, ?_⟩ <;> simp [chunk, maxLen] <;> omega) ?_); conv => whnf) | (refine AW_cond rfl (fun hb => ?_) (fun hb => ?_) <;> first | (replace hb := of_decide_eq_true hb; try simp only [List.length_map] at hb) | (replace hb := of_decide_eq_false hb; try simp only [List.length_map] at hb) | (simp only [List.length_map, bne_iff_ne, ne_eq, beq_iff_eq, bne_eq_false_iff_eq, beq_eq_false_iff_ne, decide_eq_true_eq, decide_eq_false_iff_not, Bool.not_eq_true', Bool.not_eq_false', Int.natCast_inj] at hb) | skip) | ((first | refine ⟨_, wrap_of (by first | omega | (simp only [List.length_map]; omega)), ?_⟩ | refine andA ?_ | fail); conv => whnf) | (refine fun hln => ?_; (try rw [List.length_map] at hln); unfold maxLen at hln; conv => whnf) | fail
          exact ⟨i + 1, hil, by omega, (Imp.forget (by repeat' (first | exact trivial | refine And.intro ?_ ?_ | exact congrArg (fun xs : List (List PV) => some (Ob.chain 23 1 (i + 1) xs)) (hch _ hY) | rfl | exact ivE (by first | omega | (simp only [List.length_map, List.length_append, List.length_singleton] <;> omega)) | exact oE (by first | omega | (simp only [List.length_map, List.length_append, List.length_singleton] <;> omega)))) (by repeat' (first | exact trivial | refine And.intro ?_ ?_ | exact congrArg (fun xs : List (List PV) => some (Ob.chain 23 1 (i + 1) xs)) (hch _ hY) | rfl | exact ivE (by first | omega | (simp only [List.length_map, List.length_append, List.length_singleton] <;> omega)) | exact oE (by first | omega | (simp only [List.length_map, List.length_append, List.length_singleton] <;> omega)))) (by kernel_rfl) (by kernel_rfl) (by kernel_rfl))⟩
      · obtain rfl : i = n := by omega
        have hle : i ≤ ((L.take i).map fun r => [intsPV r]).length := by rw [htl]; exact Nat.le_refl _
        have hfz : rowsAV L = .x (.d (.s 1 (((L.take i).map fun r => [intsPV r]).take i))) := by
          rw [List.take_of_length_le (by rw [htl]; exact Nat.le_refl _), List.take_of_length_le (by omega)]; rfl
        have wa : IntKind.i64.wrap (0 - g2) = -g2 := by rw [Int.zero_sub]; exact wrap_of (by omega)
        have w1 : IntKind.i64.wrap (g2 * x0) = g2 * x0 := wrap_of (by omega)
        have w2 : IntKind.i64.wrap (g2 * x0 * d) = g2 * x0 * d := wrap_of (by omega)
        have w3 : IntKind.i64.wrap (g1 + g2 * x0 * d) = g1 + g2 * x0 * d := wrap_of (by omega)
        clear hrows hlg
        repeat' first | ((refine AW_imp (Imp.freeze 900 (fr' := [(6, rowsAV L), (5, iv .i64 k), (3, iv .i64 g1), (4, iv .i64 g2), (0, rowsAV rows)]) (σ' := []) rfl ⟨⟨_, rfl, .inr ⟨_, rfl, hle, hfz⟩⟩, ⟨_, rfl, .inl rfl⟩, ⟨_, rfl, .inl rfl⟩, ⟨_, rfl, .inl rfl⟩, ⟨_, rfl, .inl rfl⟩, trivial⟩ trivial rfl rfl) (AW_draw hTt hMix (id := 12) 16 false [0, 0, 0, 4, 12, 0, 60, 124, 254, 0, 512, 2046, 4095, 0, 8192, 8191, 65535] (by kernel_rfl) rfl rfl (by kernel_rfl) ?_)); conv => whnf) | with_reducible refine AW_seq ?_ | with_reducible refine AW_block ?_ | ((first | with_reducible refine AW_skip ?_ | with_reducible refine AW_exit ?_ | with_reducible refine AW_region hTt ?_ | refine AW_draw hTt hMix (id := 11) 18 true [0, 0, 0, 0, 12, 28, 0, 124, 254, 0, 0, 1536, 3584, 0, 8192, 32256, 65534, 131070, 262143, 524287] (by kernel_rfl) rfl rfl (by kernel_rfl) ?_ | fail); conv => whnf) | (exact absurd hb (by omega)) | ((first | with_reducible refine Exists.intro _ (And.intro (gd_any (And.intro (by omega) (map_some' e0))) ?_) | with_reducible refine Exists.intro _ (And.intro (gd_any (And.intro (by omega) (map_some e0k))) ?_) | refine ⟨_, fun _ => (ih).call rfl rfl, ?_⟩ | refine ⟨_, wa, ?_⟩ | refine ⟨_, w1, ?_⟩ | refine ⟨_, w2, ?_⟩ | refine ⟨_, w3, ?_⟩ | fail); conv => whnf) | (refine AW_cond rfl (fun hb => ?_) (fun hb => ?_) <;> first | (replace hb := of_decide_eq_true hb; try simp only [List.length_map] at hb) | (replace hb := of_decide_eq_false hb; try simp only [List.length_map] at hb) | (simp only [List.length_map, bne_iff_ne, ne_eq, beq_iff_eq, bne_eq_false_iff_eq, beq_eq_false_iff_ne, decide_eq_true_eq, decide_eq_false_iff_not, Bool.not_eq_true', Bool.not_eq_false', Int.natCast_inj] at hb) | skip) | ((first | refine ⟨_, wrap_of (by first | omega | (simp only [List.length_map]; omega)), ?_⟩ | refine andA ?_ | fail); conv => whnf) | (refine fun hln => ?_; (try rw [List.length_map] at hln); unfold maxLen at hln; conv => whnf) | fail
        refine ⟨k + 1, hkl, by omega, ?_⟩
        rw [hG1, hnx]
        exact impA
    · obtain rfl : k = n + 1 := by omega
      have hfin : detF (n + 1) rows = (detGo (detF n) rows (n + 1)).1 := by show (detGo (detF n) rows rows.length).1 = _; rw [hll]
      rw [hfin]
      repeat' first | with_reducible refine AW_seq ?_ | with_reducible refine AW_block ?_ | ((first | with_reducible refine AW_skip ?_ | with_reducible refine AW_exit ?_ | with_reducible refine AW_ret ?_ | with_reducible refine AW_region hTt ?_ | fail); conv => whnf) | (exact absurd hb (by omega)) | (refine AW_cond rfl (fun hb => ?_) (fun hb => ?_) <;> first | (replace hb := of_decide_eq_true hb; try simp only [List.length_map] at hb) | (replace hb := of_decide_eq_false hb; try simp only [List.length_map] at hb) | (simp only [List.length_map, bne_iff_ne, ne_eq, beq_iff_eq, bne_eq_false_iff_eq, beq_eq_false_iff_ne, decide_eq_true_eq, decide_eq_false_iff_not, Bool.not_eq_true', Bool.not_eq_false', Int.natCast_inj] at hb) | skip) | (refine fun hln => ?_; (try rw [List.length_map] at hln); unfold maxLen at hln; conv => whnf) | fail
      rfl
end Go.Proofs.YtnpleednkmhhhaaDoor
namespace Go.Proofs.YtnpleednkmhhhaaDoor
open Go Go.QL
set_option maxHeartbeats 1600000
attribute [local irreducible] ACall FnC YC
theorem outO1 {tt : TT} {a : Tmp} {fr : Fr} {σ : Sg} {c st n : Nat} {e : TypeId} {sz : Nat} {xs : List (List PV)} (h1 : lk a fr = some (.x (.o c st n))) (h3 : lk c σ = some (.chain e sz st xs)) (h4 : n ≤ xs.length) :
    outcome tt [.tmp a] fr σ = some (.x (.d (.s sz (xs.take n)))) := by
  simp [outcome, resAVs, resAV, h1, viewAV, viewAVs, viewAV1, viewSV, h3, h4]
theorem leS1 {sz : Nat} {xs ys : List (List PV)} (h : xs = ys) : LeAV (.x (.d (.s sz xs))) (.x (.d (.s sz ys))) := by
  rw [h]; exact LeAV.refl _
theorem rdiff_fn (l : List Int) (hl : l.length ≤ 1000) (hbd : ∀ x ∈ l, -1000000000000 ≤ x ∧ x ≤ 1000000000000) : ∀ k : Nat, k ≤ 10 → FnC Tryd.prog 71 [sl l, iv .i64 k] (sl (diffR k l)) := by
  intro k
  induction k with
  | zero =>
    intro _
    refine FnC_of_AWL hTt Tryd.func71 rfl (by kernel_rfl) (res := [.tmp 4]) rfl Tryd.ntmps71 (by simp) fun w0 K0 => ?_
    dsimp only [entry]
    repeat' first | with_reducible refine AW_seq ?_ | ((first | with_reducible refine AW_ret ?_ | with_reducible refine AW_region hTt ?_ | fail); conv => whnf) | (refine AW_cond rfl (fun _ => ?_) (fun hb => absurd (show true = false from hb) (by decide))) | ((refine andA ?_); conv => whnf) | ((refine And.intro (by refine ⟨?_, ?_, ?_⟩ <;> simp [chunk, maxLen] <;> omega) ?_); conv => whnf) | fail
    exact ⟨_, outO1 rfl rfl (by show 0 + (l.map _).length ≤ ([] ++ l.map _).length; rw [List.nil_append, Nat.zero_add]; exact Nat.le_refl _), leS1 (by show ([] ++ l.map _).take (0 + (l.map _).length) = l.map _; rw [List.nil_append, Nat.zero_add, List.take_length])⟩
  | succ k ih =>
    intro hk
    have ih := ih (by omega)
    have hzl := diffR_len l k
    have hzb := diffR_bd hbd k
    have hpw : (2 : Int) ^ k ≤ 1024 ∧ 0 < (2 : Int) ^ k := by
      have : k = 0 ∨ k = 1 ∨ k = 2 ∨ k = 3 ∨ k = 4 ∨ k = 5 ∨ k = 6 ∨ k = 7 ∨ k = 8 ∨ k = 9 := by omega
      rcases this with rfl | rfl | rfl | rfl | rfl | rfl | rfl | rfl | rfl | rfl <;> decide
    show FnC _ _ _ (sl (dif (diffR k l)))
    generalize diffR k l = z at *
    have hzB : ∀ x ∈ z, -1024000000000000 ≤ x ∧ x ≤ 1024000000000000 := fun x hx => by
      have := hzb x hx
      have h2 : (2 : Int) ^ k * 1000000000000 ≤ 1024 * 1000000000000 := Int.mul_le_mul_of_nonneg_right hpw.1 (by decide)
      omega
    clear hzb hpw hbd
    have hll : (z.map (fun n : Int => [PV.v (.int .i64 n)])).length = z.length := List.length_map _
    have wk : IntKind.i64.wrap (((k + 1 : Nat) : Int) - 1) = (k : Int) := by rw [show ((k + 1 : Nat) : Int) - 1 = k by omega]; exact wrap_of (by omega)
    refine FnC_of_AWL hTt Tryd.func71 rfl (by kernel_rfl) (res := [.tmp 4]) rfl Tryd.ntmps71 (by simp) fun w0 K0 => ?_
    dsimp only [entry]
    repeat' first | with_reducible refine AW_seq ?_ | with_reducible refine AW_block ?_ | ((first | with_reducible refine AW_skip ?_ | with_reducible refine AW_region hTt ?_ | refine ⟨_, wk, ?_⟩ | ((refine ⟨_, (ih).call rfl rfl, ?_⟩); (rintro _ _ ⟨rfl, rfl⟩)) | fail); conv => whnf) | (refine AW_cond rfl (fun hb => absurd (show false = true from hb) (by decide)) (fun _ => ?_)) | fail
    refine AW_imp (Imp.nil 900 3 1 (fr' := [(6, iv .i64 1), (5, .x (.o 900 0 0)), (0, sl z)]) (σ' := []) rfl ?_ ?_ rfl rfl) ?_
    · exact ⟨⟨_, rfl, .inl rfl⟩, ⟨_, rfl, .inr ⟨rfl, rfl⟩⟩, ⟨_, rfl, .inl rfl⟩, trivial⟩
    · exact trivial
    clear ih wk
    have hdl := dif_len z
    have hdt : ∀ i, i ≤ z.length - 1 → (((dif z).take i).map iPV).length = i := fun i hi => by rw [List.length_map, List.length_take]; omega
    refine AW_loop (fun i : Nat => [(6, iv .i64 ((i : Int) + 1)), (5, .x (.o 900 i i)), (0, sl z)]) (fun i => [(900, .chain 3 1 i (((dif z).take i).map iPV))])
      (fun i => i ≤ z.length - 1) (fun i => z.length - 1 - i) 0 (Nat.zero_le _) impA ?_
    intro i hi
    have hcl := hdt i hi
    rcases Nat.lt_or_ge (i + 1) z.length with hil | hil
    · have g0 := hzB _ (getD_mem (show i < z.length by omega))
      have g1 := hzB _ (getD_mem hil)
      have e0 : z[((i : Int) + 1 - 1).toNat]? = some (z.getD i 0) := by
        rw [show ((i : Int) + 1 - 1).toNat = i by omega, List.getD_eq_getElem?_getD, List.getElem?_eq_getElem (by omega)]; rfl
      have e1 : z[((i : Int) + 1).toNat]? = some (z.getD (i + 1) 0) := by
        rw [show ((i : Int) + 1).toNat = i + 1 by omega, List.getD_eq_getElem?_getD, List.getElem?_eq_getElem (by omega)]; rfl
      have hnx : (((dif z).take i).map iPV).take i ++ [iPV (z.getD (i + 1) 0 - z.getD i 0)] = ((dif z).take (i + 1)).map iPV := by
        rw [List.take_of_length_le (by omega), List.take_add_one, dif_get hil, List.map_append]; rfl
      generalize z.getD (i + 1) 0 = y1 at *
      generalize z.getD i 0 = y0 at *
      clear hzB hdt
      repeat' first | with_reducible refine AW_seq ?_ | with_reducible refine AW_block ?_ | ((first | with_reducible refine AW_skip ?_ | with_reducible refine AW_exit ?_ | with_reducible refine AW_ret ?_ | with_reducible refine AW_region hTt ?_ | refine AW_draw hTt hMix (id := 8) 12 true [0, 0, 0, 6, 14, 0, 0, 64, 224, 480, 1022, 2046, 4095, 8191] (by kernel_rfl) rfl rfl (by kernel_rfl) ?_ | fail); conv => whnf) | (exact absurd hb (by omega)) | ((first | with_reducible refine Exists.intro _ (And.intro (gd_any (And.intro (by omega) (map_some' e0))) ?_) | with_reducible refine Exists.intro _ (And.intro (gd_any (And.intro (by omega) (map_some' e1))) ?_) | fail); conv => whnf) | ((refine And.intro (by rw [hcl]; refine ⟨?_, ?_, ?_⟩ <;> simp [chunk, maxLen] <;> omega) ?_); conv => whnf) | (refine AW_cond rfl (fun hb => ?_) (fun hb => ?_) <;> first | (replace hb := of_decide_eq_true hb; try simp only [List.length_map] at hb) | (replace hb := of_decide_eq_false hb; try simp only [List.length_map] at hb) | (simp only [List.length_map, bne_iff_ne, ne_eq, beq_iff_eq, bne_eq_false_iff_eq, beq_eq_false_iff_ne, decide_eq_true_eq, decide_eq_false_iff_not, Bool.not_eq_true', Bool.not_eq_false', Int.natCast_inj] at hb) | skip) | ((first | refine ⟨_, wrap_of (by first | omega | (simp only [List.length_map]; omega)), ?_⟩ | refine andA ?_ | fail); conv => whnf) | (refine fun hln => ?_; (try rw [List.length_map] at hln); unfold maxLen at hln; conv => whnf) | fail
      exact ⟨i + 1, by omega, by omega, (Imp.forget (by repeat' (first | exact trivial | refine And.intro ?_ ?_ | exact congrArg (fun xs : List (List PV) => some (Ob.chain 3 1 (i + 1) xs)) hnx | rfl | exact ivE (by first | omega | (simp only [List.length_map, List.length_append, List.length_singleton] <;> omega)) | exact oE (by first | omega | (simp only [List.length_map, List.length_append, List.length_singleton] <;> omega)))) (by repeat' (first | exact trivial | refine And.intro ?_ ?_ | exact congrArg (fun xs : List (List PV) => some (Ob.chain 3 1 (i + 1) xs)) hnx | rfl | exact ivE (by first | omega | (simp only [List.length_map, List.length_append, List.length_singleton] <;> omega)) | exact oE (by first | omega | (simp only [List.length_map, List.length_append, List.length_singleton] <;> omega)))) (by kernel_rfl) (by kernel_rfl) (by kernel_rfl))⟩
    · repeat' first | with_reducible refine AW_seq ?_ | with_reducible refine AW_block ?_ | ((first | with_reducible refine AW_skip ?_ | with_reducible refine AW_exit ?_ | with_reducible refine AW_ret ?_ | with_reducible refine AW_region hTt ?_ | refine AW_draw hTt hMix (id := 8) 12 true [0, 0, 0, 6, 14, 0, 0, 64, 224, 480, 1022, 2046, 4095, 8191] (by kernel_rfl) rfl rfl (by kernel_rfl) ?_ | fail); conv => whnf) | (exact absurd hb (by omega)) | (refine AW_cond rfl (fun hb => ?_) (fun hb => ?_) <;> first | (replace hb := of_decide_eq_true hb; try simp only [List.length_map] at hb) | (replace hb := of_decide_eq_false hb; try simp only [List.length_map] at hb) | (simp only [List.length_map, bne_iff_ne, ne_eq, beq_iff_eq, bne_eq_false_iff_eq, beq_eq_false_iff_ne, decide_eq_true_eq, decide_eq_false_iff_not, Bool.not_eq_true', Bool.not_eq_false', Int.natCast_inj] at hb) | skip) | (refine fun hln => ?_; (try rw [List.length_map] at hln); unfold maxLen at hln; conv => whnf) | fail
      exact ⟨_, outO1 rfl rfl (by omega), leS1 (by rw [List.take_of_length_le (by omega), List.take_of_length_le (by omega)])⟩
theorem with_fn (l : List Int) (hl : l.length ≤ 1000) (i : Nat) (hi : i < l.length) (v : Int) : FnC Tryd.prog 77 [sl l, iv .i64 i, iv .i64 v] (sl (l.set i v)) := by
  refine FnC_of_AWL hTt Tryd.func77 rfl (by kernel_rfl) (res := [.tmp 6]) rfl Tryd.ntmps77 (by simp) fun w0 K0 => ?_
  dsimp only [entry]
  have hel : ([] ++ l.map (fun n : Int => [PV.v (.int .i64 n)]))[i]? = some [PV.v (.int .i64 l[i])] := by rw [List.nil_append, List.getElem?_map, List.getElem?_eq_getElem hi]; rfl
  repeat' first | with_reducible refine AW_seq ?_ | ((first | with_reducible refine AW_ret ?_ | with_reducible refine AW_region hTt ?_ | refine ⟨_, hel, Nat.le_refl _, ?_⟩ | refine andA ?_ | fail); conv => whnf) | ((refine And.intro (by refine ⟨?_, ?_, ?_⟩ <;> simp [chunk, maxLen] <;> omega) ?_); conv => whnf) | fail
  exact ⟨_, outO1 rfl rfl (by show 0 + (l.map _).length ≤ (([] ++ l.map _).set _ _).length; rw [List.length_set, List.nil_append, Nat.zero_add]; exact Nat.le_refl _), leS1 (by
    show (([] ++ l.map (fun n : Int => [PV.v (.int .i64 n)])).set i [PV.v (.int .i64 v)]).take (0 + (l.map _).length) = (l.set i v).map (fun n : Int => [PV.v (.int .i64 n)])
    rw [List.nil_append, Nat.zero_add, List.take_of_length_le (by rw [List.length_set]; exact Nat.le_refl _), List.map_set])⟩
theorem smooth_fn (l : List Int) (hl : l.length ≤ 1000) (hbd : ∀ x ∈ l, -1000000000000 ≤ x ∧ x ≤ 1000000000000) (k : Nat) (hk : k ≤ 9) : FnC Tryd.prog 76 [sl l, iv .i64 k] (bv (!outL 0 0 (diffR (k + 1) l))) := by
  have h1 := rdiff_fn l hl hbd (k + 1) (by omega)
  have h2 := rall_fn (diffR (k + 1) l) 0 (by decide)
  rw [Int.neg_zero] at h2
  have wk : IntKind.i64.wrap ((k : Int) + 1) = ((k + 1 : Nat) : Int) := wrap_of (by omega)
  refine FnC_of_AW hTt Tryd.func76 rfl (by kernel_rfl) (res := [.tmp 4]) rfl Tryd.ntmps76 (by simp) fun w0 K0 => ?_
  dsimp only [entry]
  repeat' first | with_reducible refine AW_seq ?_ | ((first | with_reducible refine AW_ret ?_ | with_reducible refine AW_region hTt ?_ | refine ⟨_, wk, ?_⟩ | ((refine ⟨_, (h1).call rfl rfl, ?_⟩); (rintro _ _ ⟨rfl, rfl⟩)) | ((refine ⟨_, (h2).call rfl rfl, ?_⟩); (rintro _ _ ⟨rfl, rfl⟩)) | fail); conv => whnf) | fail
  rfl
end Go.Proofs.YtnpleednkmhhhaaDoor
namespace Go.Proofs.YtnpleednkmhhhaaDoor
open Go Go.QL
set_option maxHeartbeats 8000000
attribute [local irreducible] ACall FnC YC Imp
def colR (rows : List (List Int)) (right : List Int) (k : Nat) : List (List Int) := (List.range rows.length).map fun i => (rows.getD i []).set k (right.getD i 0)
def crR (rows : List (List Int)) (right : List Int) (k : Nat) : R2 := redP (detF rows.length (colR rows right k)) (detF rows.length rows)
def rsolveP (s : SysT) : List R2 × Int :=
  if sysE s ≠ 0 then ([], sysE s)
  else if detF s.rows.length s.rows = 0 then ([], 8)
  else ((List.range s.rows.length).map (crR s.rows s.right), 0)
theorem col_len (rows : List (List Int)) (right : List Int) (k : Nat) : (colR rows right k).length = rows.length := by unfold colR; rw [List.length_map, List.length_range]
theorem col_get {rows : List (List Int)} {right : List Int} {k i : Nat} (h : i < rows.length) : (colR rows right k)[i]? = some ((rows.getD i []).set k (right.getD i 0)) := by
  unfold colR; rw [List.getElem?_map, List.getElem?_range h]; rfl
theorem rows_getD {rows : List (List Int)} {i : Nat} (h : i < rows.length) : rows[i]? = some (rows.getD i []) ∧ rows.getD i [] ∈ rows := by
  rw [List.getD_eq_getElem?_getD, List.getElem?_eq_getElem h]; exact ⟨rfl, List.getElem_mem _⟩
theorem col_sqr {rows : List (List Int)} {right : List Int} {k n : Nat} (h : sqr n rows) : sqr n (colR rows right k) := by
  refine ⟨by rw [col_len]; exact h.1, fun r hr => ?_⟩
  obtain ⟨i, hi, rfl⟩ := List.mem_map.1 hr
  rw [List.length_set]
  exact h.2 _ (rows_getD (List.mem_range.1 hi)).2
theorem col_ent {rows : List (List Int)} {right : List Int} {k : Nat} (h : entB rows) (hq : ∀ x ∈ right, -10000 ≤ x ∧ x ≤ 10000) (hl : right.length = rows.length) : entB (colR rows right k) := by
  intro r hr x hx
  obtain ⟨i, hi, rfl⟩ := List.mem_map.1 hr
  have hi := List.mem_range.1 hi
  rcases List.mem_or_eq_of_mem_set hx with hx | rfl
  · exact h _ (rows_getD hi).2 x hx
  · exact hq _ (by rw [List.getD_eq_getElem?_getD, List.getElem?_eq_getElem (by omega)]; exact List.getElem_mem _)
theorem sysE_ok {s : SysT} (h : sysE s = 0) : (1 ≤ s.rows.length ∧ s.rows.length ≤ 4) ∧ s.right.length = s.rows.length ∧ (∀ r ∈ s.rows, r.length = s.rows.length) ∧ entB s.rows ∧ (∀ x ∈ s.right, -10000 ≤ x ∧ x ≤ 10000) ∧ longE s = false ∧ rangeE s = false := by
  unfold sysE at h
  by_cases h1 : longE s = true
  · rw [if_pos h1] at h; cases h
  · rw [if_neg h1] at h
    by_cases h2 : rangeE s = true
    · rw [if_pos h2] at h; cases h
    · have h1 : longE s = false := by simpa using h1
      have h2 : rangeE s = false := by simpa using h2
      obtain ⟨a, b, c⟩ := long_ok h1
      have h3 := h2
      unfold rangeE at h3
      rw [Bool.or_eq_false_iff, List.any_eq_false] at h3
      refine ⟨a, b, c, fun r hr x hx => ?_, fun x hx => outL_false.1 h3.2 x hx, h1, h2⟩
      have := outL_false.1 (by simpa using h3.1 r hr) x hx
      omega
theorem rsolve_fn (s : SysT) : FnC Tryd.prog 14 [sysAV s] (.t [r2sAV (rsolveP s).1, iv .i64 (rsolveP s).2]) := by
  have o1 := rsystem_fn s
  have hok := @sysE_ok s
  unfold rsolveP
  by_cases he : sysE s ≠ 0
  · rw [if_pos he]
    generalize sysE s = e at *
    obtain ⟨rows, right⟩ := s
    refine FnC_of_AWL hTt Tryd.func14 rfl (by kernel_rfl) (res := [.tmp 2, .tmp 3]) rfl Tryd.ntmps14 (by simp) fun w0 K0 => ?_
    dsimp only [entry]
    repeat' first | with_reducible refine AW_seq ?_ | ((first | with_reducible refine AW_skip ?_ | with_reducible refine AW_ret ?_ | with_reducible refine AW_region hTt ?_ | ((refine ⟨_, (o1).call rfl rfl, ?_⟩); (rintro _ _ ⟨rfl, rfl⟩)) | fail); conv => whnf) | (exact absurd hb he) | (refine AW_cond rfl (fun hb => ?_) (fun hb => ?_) <;> first | (replace hb := of_decide_eq_true hb; try simp only [List.length_map] at hb) | (replace hb := of_decide_eq_false hb; try simp only [List.length_map] at hb) | (simp only [List.length_map, bne_iff_ne, ne_eq, beq_iff_eq, bne_eq_false_iff_eq, beq_eq_false_iff_ne, decide_eq_true_eq, decide_eq_false_iff_not, Bool.not_eq_true', Bool.not_eq_false', Int.natCast_inj] at hb) | skip) | fail
    exact ⟨_, rfl, leN⟩
  · rw [if_neg he]
    have he : sysE s = 0 := by simpa using he
    obtain ⟨hn, hrl, hsq, hent, hqb, _, _⟩ := hok he
    rw [he] at o1
    clear he hok
    obtain ⟨rows, right⟩ := s
    dsimp only at *
    have hs : sqr rows.length rows := ⟨rfl, hsq⟩
    have c1 := det_fn rows.length hn.2 rows hs hent
    have hcol := fun k => det_fn rows.length hn.2 (colR rows right k) (col_sqr hs) (col_ent hent hqb hrl)
    have hcb := fun k => det_bd rows.length (colR rows right k) (col_sqr hs) (col_ent hent hqb hrl)
    have hdb := det_bd rows.length rows hs hent
    have hB : dB rows.length ≤ 240000000000000000 := by
      have : rows.length = 1 ∨ rows.length = 2 ∨ rows.length = 3 ∨ rows.length = 4 := by omega
      rcases this with h | h | h | h <;> rw [h] <;> decide
    have hcr : ∀ k, crR rows right k = redP (detF rows.length (colR rows right k)) (detF rows.length rows) := fun _ => rfl
    generalize hD : detF rows.length rows = d at *
    by_cases hd : d = 0
    · rw [if_pos hd]
      subst hd
      refine FnC_of_AWL hTt Tryd.func14 rfl (by kernel_rfl) (res := [.tmp 2, .tmp 3]) rfl Tryd.ntmps14 (by simp) fun w0 K0 => ?_
      dsimp only [entry]
      repeat' first | with_reducible refine AW_seq ?_ | ((first | with_reducible refine AW_skip ?_ | with_reducible refine AW_ret ?_ | with_reducible refine AW_region hTt ?_ | ((refine ⟨_, (o1).call rfl rfl, ?_⟩); (rintro _ _ ⟨rfl, rfl⟩)) | ((refine ⟨_, (c1).call rfl rfl, ?_⟩); (rintro _ _ ⟨rfl, rfl⟩)) | fail); conv => whnf) | (refine AW_cond rfl (fun _ => ?_) (fun hb => absurd (show true = false from hb) (by decide))) | (refine AW_cond rfl (fun hb => absurd (show false = true from hb) (by decide)) (fun _ => ?_)) | ((refine andA ?_); conv => whnf) | fail
      exact ⟨_, rfl, leN⟩
    · rw [if_neg hd]
      have hrm : (rwPV rows).length = rows.length := List.length_map _
      refine FnC_of_AWL hTt Tryd.func14 rfl (by kernel_rfl) (res := [.tmp 2, .tmp 3]) rfl Tryd.ntmps14 (by simp) fun w0 K0 => ?_
      dsimp only [entry]
      repeat' first | with_reducible refine AW_seq ?_ | with_reducible refine AW_block ?_ | ((first | with_reducible refine AW_skip ?_ | with_reducible refine AW_ret ?_ | with_reducible refine AW_region hTt ?_ | ((refine ⟨_, (o1).call rfl rfl, ?_⟩); (rintro _ _ ⟨rfl, rfl⟩)) | ((refine ⟨_, (c1).call rfl rfl, ?_⟩); (rintro _ _ ⟨rfl, rfl⟩)) | fail); conv => whnf) | (exact absurd hb hd) | (refine AW_cond rfl (fun hb => absurd (show false = true from hb) (by decide)) (fun _ => ?_)) | (refine AW_cond rfl (fun hb => ?_) (fun hb => ?_) <;> first | (replace hb := of_decide_eq_true hb; try simp only [List.length_map] at hb) | (replace hb := of_decide_eq_false hb; try simp only [List.length_map] at hb) | (simp only [List.length_map, bne_iff_ne, ne_eq, beq_iff_eq, bne_eq_false_iff_eq, beq_eq_false_iff_ne, decide_eq_true_eq, decide_eq_false_iff_not, Bool.not_eq_true', Bool.not_eq_false', Int.natCast_inj] at hb) | skip) | ((refine andA ?_); conv => whnf) | fail
      clear o1 c1
      refine AW_imp (Imp.nil 901 34 2 (fr' := [(7, iv .i64 0), (6, .x (.o 901 0 0)), (5, iv .i64 d), (1, .x (.b 1 0))]) (σ' := [(1, .box [.d (.s 1 (rwPV rows)), .d (intsPV right)])]) rfl ?_ ?_ rfl rfl) ?_
      · exact ⟨⟨_, rfl, .inl rfl⟩, ⟨_, rfl, .inr ⟨rfl, rfl⟩⟩, ⟨_, rfl, .inl rfl⟩, ⟨_, rfl, .inl rfl⟩, trivial⟩
      · exact ⟨⟨_, rfl, .inl rfl⟩, trivial⟩
      refine AW_loop (fun k : Nat => [(7, iv .i64 k), (6, .x (.o 901 k k)), (5, iv .i64 d), (1, .x (.b 1 0))]) (fun k => [(901, .chain 34 2 k (((List.range k).map (crR rows right)).map r2PV)), (1, .box [.d (.s 1 (rwPV rows)), .d (intsPV right)])])
        (fun k => k ≤ rows.length) (fun k => rows.length - k) 0 (Nat.zero_le _) impA ?_
      intro k hk
      have hol : (((List.range k).map (crR rows right)).map r2PV).length = k := by rw [List.length_map, List.length_map, List.length_range]
      rcases Nat.lt_or_ge k rows.length with hkl | hkl
      · have c2 := hcol k
        have c2b := hcb k
        have hcrk := hcr k
        have c3 := reduced_fn (detF rows.length (colR rows right k)) d (by unfold lim; omega) (by unfold lim; omega) hd
        rw [← hcrk] at c3
        have hout : (((List.range k).map (crR rows right)).map r2PV).take k ++ [r2PV (crR rows right k)] = ((List.range (k + 1)).map (crR rows right)).map r2PV := by
          rw [List.take_of_length_le (by rw [hol]; exact Nat.le_refl _), List.range_succ, List.map_append, List.map_append]; rfl
        have hcg := fun i h => col_get (right := right) (k := k) (i := i) (rows := rows) h
        have hcl := col_len rows right k
        generalize hXo : ((List.range k).map (crR rows right)).map r2PV = Xo at *
        generalize colR rows right k = C at *
        generalize crR rows right k = cr at *
        generalize detF rows.length C = dc at *
        clear hcr hcol hcb hcrk c2b
        repeat' first | with_reducible refine AW_seq ?_ | with_reducible refine AW_block ?_ | ((first | with_reducible refine AW_skip ?_ | with_reducible refine AW_exit ?_ | with_reducible refine AW_ret ?_ | with_reducible refine AW_region hTt ?_ | fail); conv => whnf) | (exact absurd hb (by omega)) | (refine AW_cond rfl (fun hb => ?_) (fun hb => ?_) <;> first | (replace hb := of_decide_eq_true hb; try simp only [List.length_map] at hb) | (replace hb := of_decide_eq_false hb; try simp only [List.length_map] at hb) | (simp only [List.length_map, bne_iff_ne, ne_eq, beq_iff_eq, bne_eq_false_iff_eq, beq_eq_false_iff_ne, decide_eq_true_eq, decide_eq_false_iff_not, Bool.not_eq_true', Bool.not_eq_false', Int.natCast_inj] at hb) | skip) | ((refine andA ?_); conv => whnf) | (refine fun hln => ?_; (try rw [List.length_map] at hln); unfold maxLen at hln; conv => whnf) | fail
        refine AW_imp (Imp.nil 900 23 1 (fr' := [(9, iv .i64 0), (8, .x (.o 900 0 0)), (7, iv .i64 k), (6, .x (.o 901 k k)), (5, iv .i64 d), (1, .x (.b 1 0))]) (σ' := [(901, .chain 34 2 k Xo), (1, .box [.d (.s 1 (rwPV rows)), .d (intsPV right)])]) rfl ?_ ?_ rfl rfl) ?_
        · exact ⟨⟨_, rfl, .inl rfl⟩, ⟨_, rfl, .inr ⟨rfl, rfl⟩⟩, ⟨_, rfl, .inl rfl⟩, ⟨_, rfl, .inl rfl⟩, ⟨_, rfl, .inl rfl⟩, ⟨_, rfl, .inl rfl⟩, trivial⟩
        · exact ⟨⟨_, rfl, .inl rfl⟩, ⟨_, rfl, .inl rfl⟩, trivial⟩
        refine AW_loop (fun i : Nat => [(9, iv .i64 i), (8, .x (.o 900 i i)), (7, iv .i64 k), (6, .x (.o 901 k k)), (5, iv .i64 d), (1, .x (.b 1 0))])
          (fun i => [(900, .chain 23 1 i ((C.take i).map fun r => [intsPV r])), (901, .chain 34 2 k Xo), (1, .box [.d (.s 1 (rwPV rows)), .d (intsPV right)])])
          (fun i => i ≤ rows.length) (fun i => rows.length - i) 0 (Nat.zero_le _) impA ?_
        intro i hi
        have htl : ((C.take i).map fun r => [intsPV r]).length = i := by rw [List.length_map, List.length_take]; omega
        rcases Nat.lt_or_ge i rows.length with hil | hil
        · obtain ⟨e1, hrm1⟩ := rows_getD hil
          have hr1 := hsq _ hrm1
          have e2 := hcg i hil
          have e3 : right[i]? = some (right.getD i 0) := by rw [List.getD_eq_getElem?_getD, List.getElem?_eq_getElem (by omega)]; rfl
          generalize rows.getD i [] = r at *
          generalize right.getD i 0 = q at *
          have hrm2 : (r.map (fun n : Int => [PV.v (.int .i64 n)])).length = rows.length := by rw [List.length_map, hr1]
          have hel : ([] ++ r.map (fun n : Int => [PV.v (.int .i64 n)]))[k]? = some [PV.v (.int .i64 (r.getD k 0))] := by rw [List.nil_append, List.getElem?_map, List.getD_eq_getElem?_getD, List.getElem?_eq_getElem (by omega)]; rfl
          have hle : 0 + (r.map (fun n : Int => [PV.v (.int .i64 n)])).length ≤ (([] ++ r.map (fun n : Int => [PV.v (.int .i64 n)])).set k [PV.v (.int .i64 q)]).length := by rw [List.length_set, List.nil_append, Nat.zero_add]; exact Nat.le_refl _
          have hfz : AV.x (.d (intsPV (r.set k q))) = .x (.d (.s 1 ((([] ++ r.map (fun n : Int => [PV.v (.int .i64 n)])).set k [PV.v (.int .i64 q)]).take (0 + (r.map (fun n : Int => [PV.v (.int .i64 n)])).length)))) := by
            rw [List.nil_append, Nat.zero_add, List.take_of_length_le (by rw [List.length_set]; exact Nat.le_refl _)]
            unfold intsPV
            rw [List.map_set]
          have hch : ((C.take i).map fun r => [intsPV r]).take i ++ [[intsPV (r.set k q)]] = (C.take (i + 1)).map fun r => [intsPV r] := by
            rw [List.take_of_length_le (by rw [htl]; exact Nat.le_refl _), List.take_add_one, e2, List.map_append]; rfl
          generalize hX : ((C.take i).map fun r => [intsPV r]) = X at *
          clear hcg hsq hent e2 c2 c3
          repeat' first | ((refine AW_imp (Imp.freeze 35 (fr' := [(10, .x (.d (intsPV (r.set k q)))), (9, iv .i64 i), (8, .x (.o 900 i i)), (7, iv .i64 k), (6, .x (.o 901 k k)), (5, iv .i64 d), (1, .x (.b 1 0))]) (σ' := [(900, .chain 23 1 i X), (901, .chain 34 2 k Xo), (1, .box [.d (.s 1 (rwPV rows)), .d (intsPV right)])]) rfl ⟨⟨_, rfl, .inr ⟨_, rfl, hle, hfz⟩⟩, ⟨_, rfl, .inl rfl⟩, ⟨_, rfl, .inl rfl⟩, ⟨_, rfl, .inl rfl⟩, ⟨_, rfl, .inl rfl⟩, ⟨_, rfl, .inl rfl⟩, ⟨_, rfl, .inl rfl⟩, trivial⟩ ⟨rfl, rfl, rfl, trivial⟩ rfl rfl) (AW_region (id := 17) hTt ?_)); conv => whnf) | with_reducible refine AW_seq ?_ | with_reducible refine AW_block ?_ | ((first | with_reducible refine AW_skip ?_ | with_reducible refine AW_exit ?_ | with_reducible refine AW_region hTt ?_ | fail); conv => whnf) | (exact absurd hb (by omega)) | ((first | with_reducible refine Exists.intro _ (And.intro (gd_any (And.intro (by omega) (map_some e1))) ?_) | with_reducible refine Exists.intro _ (And.intro (gd_any (And.intro (by omega) (map_some e3))) ?_) | refine ⟨_, hel, Nat.le_refl _, ?_⟩ | fail); conv => whnf) | ((refine And.intro (by rw [htl]; refine ⟨?_, ?_, ?_⟩ <;> simp [chunk, maxLen] <;> omega) ?_); conv => whnf) | (refine AW_cond rfl (fun hb => ?_) (fun hb => ?_) <;> first | (replace hb := of_decide_eq_true hb; try simp only [List.length_map] at hb) | (replace hb := of_decide_eq_false hb; try simp only [List.length_map] at hb) | (simp only [List.length_map, bne_iff_ne, ne_eq, beq_iff_eq, bne_eq_false_iff_eq, beq_eq_false_iff_ne, decide_eq_true_eq, decide_eq_false_iff_not, Bool.not_eq_true', Bool.not_eq_false', Int.natCast_inj] at hb) | skip) | ((first | refine ⟨_, wrap_of (by first | omega | (simp only [List.length_map]; omega)), ?_⟩ | refine andA ?_ | fail); conv => whnf) | ((refine And.intro (by refine ⟨?_, ?_, ?_⟩ <;> simp [chunk, maxLen] <;> omega) ?_); conv => whnf) | (refine fun hln => ?_; (try rw [List.length_map] at hln); unfold maxLen at hln; conv => whnf) | fail
          refine ⟨i + 1, hil, by omega, ?_⟩
          rw [← hch]
          exact impA
        · obtain rfl : i = rows.length := by omega
          have hle : rows.length ≤ ((C.take rows.length).map fun r => [intsPV r]).length := by rw [htl]; exact Nat.le_refl _
          have hfz : rowsAV C = .x (.d (.s 1 (((C.take rows.length).map fun r => [intsPV r]).take rows.length))) := by
            rw [List.take_of_length_le (by rw [htl]; exact Nat.le_refl _), List.take_of_length_le (by omega)]; rfl
          clear hcg
          repeat' first | ((refine AW_imp (Imp.freeze 900 (fr' := [(8, rowsAV C), (7, iv .i64 k), (6, .x (.o 901 k k)), (5, iv .i64 d), (1, .x (.b 1 0))]) (σ' := [(901, .chain 34 2 k Xo), (1, .box [.d (.s 1 (rwPV rows)), .d (intsPV right)])]) rfl ⟨⟨_, rfl, .inr ⟨_, rfl, hle, hfz⟩⟩, ⟨_, rfl, .inl rfl⟩, ⟨_, rfl, .inl rfl⟩, ⟨_, rfl, .inl rfl⟩, ⟨_, rfl, .inl rfl⟩, trivial⟩ ⟨rfl, rfl, trivial⟩ rfl rfl) (AW_region (id := 18) hTt ?_)); conv => whnf) | with_reducible refine AW_seq ?_ | with_reducible refine AW_block ?_ | ((first | with_reducible refine AW_skip ?_ | with_reducible refine AW_exit ?_ | with_reducible refine AW_region hTt ?_ | fail); conv => whnf) | (exact absurd hb (by omega)) | ((first | ((refine ⟨_, (c2).call rfl rfl, ?_⟩); (rintro _ _ ⟨rfl, rfl⟩)) | ((refine ⟨_, (c3).call rfl rfl, ?_⟩); (rintro _ _ ⟨rfl, rfl⟩)) | fail); conv => whnf) | ((refine And.intro (by rw [hol]; refine ⟨?_, ?_, ?_⟩ <;> simp [chunk, maxLen] <;> omega) ?_); conv => whnf) | (refine AW_cond rfl (fun hb => ?_) (fun hb => ?_) <;> first | (replace hb := of_decide_eq_true hb; try simp only [List.length_map] at hb) | (replace hb := of_decide_eq_false hb; try simp only [List.length_map] at hb) | (simp only [List.length_map, bne_iff_ne, ne_eq, beq_iff_eq, bne_eq_false_iff_eq, beq_eq_false_iff_ne, decide_eq_true_eq, decide_eq_false_iff_not, Bool.not_eq_true', Bool.not_eq_false', Int.natCast_inj] at hb) | skip) | ((first | refine ⟨_, wrap_of (by first | omega | (simp only [List.length_map]; omega)), ?_⟩ | refine andA ?_ | fail); conv => whnf) | (refine fun hln => ?_; (try rw [List.length_map] at hln); unfold maxLen at hln; conv => whnf) | fail
          refine ⟨k + 1, hkl, by omega, ?_⟩
          rw [← hout]
          exact impA
      · obtain rfl : k = rows.length := by omega
        repeat' first | with_reducible refine AW_seq ?_ | with_reducible refine AW_block ?_ | ((first | with_reducible refine AW_skip ?_ | with_reducible refine AW_exit ?_ | with_reducible refine AW_ret ?_ | with_reducible refine AW_region hTt ?_ | fail); conv => whnf) | (exact absurd hb (by omega)) | (refine AW_cond rfl (fun hb => ?_) (fun hb => ?_) <;> first | (replace hb := of_decide_eq_true hb; try simp only [List.length_map] at hb) | (replace hb := of_decide_eq_false hb; try simp only [List.length_map] at hb) | (simp only [List.length_map, bne_iff_ne, ne_eq, beq_iff_eq, bne_eq_false_iff_eq, beq_eq_false_iff_ne, decide_eq_true_eq, decide_eq_false_iff_not, Bool.not_eq_true', Bool.not_eq_false', Int.natCast_inj] at hb) | skip) | ((refine andA ?_); conv => whnf) | (refine fun hln => ?_; (try rw [List.length_map] at hln); unfold maxLen at hln; conv => whnf) | fail
        exact ⟨_, outO2 rfl rfl rfl (by rw [hol]; exact Nat.le_refl _), leS (by rw [List.take_of_length_le (by rw [hol]; exact Nat.le_refl _)])⟩
end Go.Proofs.YtnpleednkmhhhaaDoor
namespace Go.Proofs.YtnpleednkmhhhaaDoor
open Go Go.QL
set_option maxHeartbeats 4000000
theorem det_Dm {rows : List (List Int)} {n : Nat} (h1 : 1 ≤ n) (h4 : n ≤ 4) (hs : sqr n rows) (B : Mat) (hB : ∀ r c, r < n → c < n → B r c = (rows.getD r []).getD c 0) : detF n rows = Dm B n id := by
  obtain ⟨hl, hr⟩ := hs
  have hn : n = 1 ∨ n = 2 ∨ n = 3 ∨ n = 4 := by omega
  rcases hn with rfl | rfl | rfl | rfl
  · match rows, hl, hr with
    | [r0], _, h =>
      have h0 := h r0 (by simp)
      match r0, h0 with
      | [a], _ =>
        have e := hB 0 0 (by omega) (by omega)
        simp at e
        simp [detF, detGo, Dm, e]
  · match rows, hl, hr with
    | [r0, r1], _, h =>
      have h0 := h r0 (by simp); have h1 := h r1 (by simp)
      match r0, r1, h0, h1 with
      | [a0, a1], [b0, b1], _, _ =>
        have e00 := hB 0 0 (by omega) (by omega); have e01 := hB 0 1 (by omega) (by omega)
        have e10 := hB 1 0 (by omega) (by omega); have e11 := hB 1 1 (by omega) (by omega)
        simp at e00 e01 e10 e11
        simp [detF, detGo, lessR, lessOne, Dm, d2, e00, e01, e10, e11]
        grind
  · match rows, hl, hr with
    | [r0, r1, r2], _, h =>
      have h0 := h r0 (by simp); have h1 := h r1 (by simp); have h2 := h r2 (by simp)
      match r0, r1, r2, h0, h1, h2 with
      | [a0, a1, a2], [b0, b1, b2], [c0, c1, c2], _, _, _ =>
        have e00 := hB 0 0 (by omega) (by omega); have e01 := hB 0 1 (by omega) (by omega); have e02 := hB 0 2 (by omega) (by omega)
        have e10 := hB 1 0 (by omega) (by omega); have e11 := hB 1 1 (by omega) (by omega); have e12 := hB 1 2 (by omega) (by omega)
        have e20 := hB 2 0 (by omega) (by omega); have e21 := hB 2 1 (by omega) (by omega); have e22 := hB 2 2 (by omega) (by omega)
        simp at e00 e01 e02 e10 e11 e12 e20 e21 e22
        simp [detF, detGo, lessR, lessOne, Dm, d2, d3, e00, e01, e02, e10, e11, e12, e20, e21, e22]
        grind
  · match rows, hl, hr with
    | [r0, r1, r2, r3], _, h =>
      have h0 := h r0 (by simp); have h1 := h r1 (by simp); have h2 := h r2 (by simp); have h3 := h r3 (by simp)
      match r0, r1, r2, r3, h0, h1, h2, h3 with
      | [a0, a1, a2, a3], [b0, b1, b2, b3], [c0, c1, c2, c3], [x0, x1, x2, x3], _, _, _, _ =>
        have e00 := hB 0 0 (by omega) (by omega); have e01 := hB 0 1 (by omega) (by omega); have e02 := hB 0 2 (by omega) (by omega); have e03 := hB 0 3 (by omega) (by omega)
        have e10 := hB 1 0 (by omega) (by omega); have e11 := hB 1 1 (by omega) (by omega); have e12 := hB 1 2 (by omega) (by omega); have e13 := hB 1 3 (by omega) (by omega)
        have e20 := hB 2 0 (by omega) (by omega); have e21 := hB 2 1 (by omega) (by omega); have e22 := hB 2 2 (by omega) (by omega); have e23 := hB 2 3 (by omega) (by omega)
        have e30 := hB 3 0 (by omega) (by omega); have e31 := hB 3 1 (by omega) (by omega); have e32 := hB 3 2 (by omega) (by omega); have e33 := hB 3 3 (by omega) (by omega)
        simp at e00 e01 e02 e03 e10 e11 e12 e13 e20 e21 e22 e23 e30 e31 e32 e33
        simp [detF, detGo, lessR, lessOne, Dm, d2, d3, d4, e00, e01, e02, e03, e10, e11, e12, e13, e20, e21, e22, e23, e30, e31, e32, e33]
        grind
def selM (B : Mat) (k x : Nat) : Mat := fun r c => B r (rep k x c)
theorem Dm_sel {n k x : Nat} (B : Mat) (h1 : 1 ≤ n) (h4 : n ≤ 4) : Dm B n (rep k x) = Dm (selM B k x) n id := by
  have hn : n = 1 ∨ n = 2 ∨ n = 3 ∨ n = 4 := by omega
  rcases hn with rfl | rfl | rfl | rfl <;> simp [Dm, selM, d2, d3, d4]
theorem sys_det {s : SysT} (h1 : 1 ≤ s.rows.length) (h4 : s.rows.length ≤ 4) (hs : sqr s.rows.length s.rows) : detF s.rows.length s.rows = detS s :=
  det_Dm h1 h4 hs _ fun r c hr hc => by unfold getM; rw [if_neg (by omega)]
theorem sys_num {s : SysT} (h1 : 1 ≤ s.rows.length) (h4 : s.rows.length ≤ 4) (hs : sqr s.rows.length s.rows) {k : Nat} (hk : k < s.rows.length) : detF s.rows.length (colR s.rows s.right k) = numS s k := by
  unfold numS
  rw [Dm_sel _ h1 h4]
  refine det_Dm h1 h4 (col_sqr hs) _ fun r c hr hc => ?_
  unfold selM rep getM
  rw [List.getD_eq_getElem?_getD (l := colR s.rows s.right k), col_get hr]
  simp only [Option.getD_some]
  have hrl := hs.2 _ (rows_getD hr).2
  rw [List.getD_eq_getElem?_getD (l := (s.rows.getD r []).set k _), List.getElem?_set]
  by_cases hck : c = k
  · subst hck
    rw [if_pos rfl, if_pos rfl, if_pos rfl, if_pos (by omega)]; rfl
  · rw [if_neg hck, if_neg (by omega), if_neg (fun h => hck h.symm), List.getD_eq_getElem?_getD (l := s.rows.getD r [])]
theorem inB_sys {s : SysT} (h : longE s = false) (h2 : rangeE s = false) : inB (getM s) := by
  unfold rangeE at h2
  rw [Bool.or_eq_false_iff, List.any_eq_false] at h2
  exact getM_in (fun l hl => by simpa using h2.1 l hl) h2.2
theorem det_lim {s : SysT} (h1 : 1 ≤ s.rows.length) (h4 : s.rows.length ≤ 4) (hB : inB (getM s)) {k : Nat} (hk : k < s.rows.length) : (-240000000000 ≤ numS s k ∧ numS s k ≤ 240000000000) ∧ (-240000000000 ≤ detS s ∧ detS s ≤ 240000000000) := by
  refine ⟨Dm_b hB h1 h4 hk (by omega), ?_⟩
  unfold detS
  rw [← rep_self k]
  exact Dm_b hB h1 h4 hk (by omega)
theorem solve_eq (s : SysT) : solveP s = rsolveP s := by
  unfold rsolveP
  by_cases hs : sysE s = 0
  · rw [if_neg (by simpa using hs)]
    obtain ⟨⟨h1, h4⟩, hrl, hsq, hent, hqb, hl, hr⟩ := sysE_ok hs
    have hq : sqr s.rows.length s.rows := ⟨rfl, hsq⟩
    rw [sys_det h1 h4 hq]
    unfold solveP
    rw [if_neg (by rw [hl]; decide), if_neg (by rw [hr]; decide)]
    rcases gauss_sys h1 h4 (inB_sys hl hr) with ⟨hg, hd⟩ | ⟨m, hg, hd, hm⟩
    · rw [hg, if_pos hd]
    · rw [hg, if_neg hd]
      show (_, (0 : Int)) = (_, (0 : Int))
      congr 1
      refine List.map_congr_left fun k hk => ?_
      have hk := List.mem_range.1 hk
      unfold crR
      rw [sys_num h1 h4 hq hk, sys_det h1 h4 hq]
      rcases hm k hk with ⟨a, b⟩ | ⟨a, b⟩
      · rw [a, b]
      · rw [a, b, redP_neg hd]
  · rw [if_pos hs]
    unfold sysE at *
    unfold solveP
    by_cases h1 : longE s = true
    · rw [if_pos h1, if_pos h1]
    · rw [if_neg h1, if_neg h1]
      by_cases h2 : rangeE s = true
      · rw [if_pos h2, if_pos h2]
      · rw [if_neg h1, if_neg h2] at hs; exact absurd rfl hs
theorem solve_ok (s : SysT) (hl : longE s = false) (hz : ∀ j, j < s.rows.length → outL (-100) 100 (s.rows.getD j []) = false) (hq : outL (-10000) 10000 s.right = false) : solveOK s := by
  obtain ⟨⟨h1, h4⟩, hrt, hrl⟩ := long_ok hl
  have hB : inB (getM s) := getM_in (fun l hl => by
    obtain ⟨j, hj, rfl⟩ := List.getElem_of_mem hl
    have := hz j hj
    rw [List.getD_eq_getElem?_getD, List.getElem?_eq_getElem hj] at this
    exact this) hq
  intro m hm r hr
  rw [mPart_all hrt] at hm
  rcases gauss_sys h1 h4 hB with ⟨hg, _⟩ | ⟨m', hg, hd, hmm⟩
  · rw [hg] at hm; cases hm
  · rw [hg] at hm; cases hm
    have hb := det_lim h1 h4 hB hr
    unfold lim
    rcases hmm r hr with ⟨a, b⟩ | ⟨a, b⟩ <;> rw [a, b] <;> refine ⟨by omega, by omega, by omega⟩
theorem psolve_fn (s : SysT) : FnC Tryd.prog 13 [sysAV s] (.t [r2sAV (rsolveP s).1, iv .i64 (rsolveP s).2]) := by
  rw [← solve_eq]
  exact solve_all s (solve_ok s)
end Go.Proofs.YtnpleednkmhhhaaDoor
namespace Go.Proofs.YtnpleednkmhhhaaDoor
open Go Go.QL
set_option maxHeartbeats 40000000
attribute [local irreducible] ACall FnC YC
theorem and_tt4 {a b : Bool} (h1 : a = true) (h2 : b = true) : (a && b) = true := by rw [h1, h2]; rfl
theorem lsolves_fn (s : SysT) : FnC Tryd.prog 3 [sysAV s] (bv true) := by
  have s1 := psolve_fn s
  have s2 := rsolve_fn s
  have haw := awake_fn
  generalize rsolveP s = R at *
  obtain ⟨l, e⟩ := R
  dsimp only at *
  have s3 := ratios_fn l l
  rw [decide_eq_true rfl] at s3
  obtain ⟨rows, right⟩ := s
  refine FnC_of_AW hTt Tryd.func3 rfl (by kernel_rfl) (res := [.tmp 2]) rfl Tryd.ntmps3 (by simp) fun w0 K0 => ?_
  dsimp only [entry]
  repeat' first | with_reducible refine AW_seq ?_ | ((first | with_reducible refine AW_ret ?_ | with_reducible refine AW_region hTt ?_ | ((refine ⟨_, (s1).call rfl rfl, ?_⟩); (rintro _ _ ⟨rfl, rfl⟩)) | ((refine ⟨_, (s2).call rfl rfl, ?_⟩); (rintro _ _ ⟨rfl, rfl⟩)) | ((refine ⟨_, (s3).call rfl rfl, ?_⟩); (rintro _ _ ⟨rfl, rfl⟩)) | refine ⟨_, fun _ => (haw).call rfl rfl, ?_⟩ | refine andA ?_ | fail); conv => whnf) | fail
  exact congrArg (fun b : Bool => some (bv b)) (show _ = true by simp)
end Go.Proofs.YtnpleednkmhhhaaDoor
namespace Go.Proofs.YtnpleednkmhhhaaDoor
open Go Go.QL
set_option maxHeartbeats 1600000
attribute [local irreducible] ACall FnC YC
theorem gcd_fn (n d : Int) (hn : lim n) (hd : lim d) : FnC Tryd.prog 81 [iv .i64 n, iv .i64 d] (iv .i64 (Int.gcd n d : Int)) := by
  have z1 := size_fn n hn
  have z2 := size_fn d hd
  have hgg : Int.gcd (n.natAbs : Int) (d.natAbs : Int) = Int.gcd n d := by unfold Int.gcd; simp
  have hln1 : (n.natAbs : Int) ≤ 4611686018427387904 := by unfold lim at hn; omega
  have hln2 : (d.natAbs : Int) ≤ 4611686018427387904 := by unfold lim at hd; omega
  refine FnC_of_AW hTt Tryd.func81 rfl (by kernel_rfl) (res := [.tmp 4]) rfl Tryd.ntmps81 (by simp) fun w0 K0 => ?_
  dsimp only [entry]
  repeat' first | with_reducible refine AW_seq ?_ | with_reducible refine AW_block ?_ | with_reducible refine AW_scope ?_ | ((first | with_reducible refine AW_skip ?_ | with_reducible refine AW_label ?_ | with_reducible refine AW_exit ?_ | with_reducible refine AW_ret ?_ | with_reducible refine AW_region hTt ?_ | refine AW_draw hTt hMix (id := 3) 5 false [0, 0, 0, 6, 3, 31] (by kernel_rfl) rfl rfl (by kernel_rfl) ?_ | refine LateGo.mk ⟨_, rfl, ?_⟩ | refine LateGo.mk ⟨.x .j, rfl, ?_⟩ | ((refine ⟨_, (z1).call rfl rfl, ?_⟩); (rintro _ _ ⟨rfl, rfl⟩)) | refine ⟨_, fun _ => (z1).call rfl rfl, ?_⟩ | refine ⟨_, fun _ _ => (z1).call rfl rfl, ?_⟩ | ((refine ⟨_, (z2).call rfl rfl, ?_⟩); (rintro _ _ ⟨rfl, rfl⟩)) | refine ⟨_, fun _ => (z2).call rfl rfl, ?_⟩ | refine ⟨_, fun _ _ => (z2).call rfl rfl, ?_⟩ | fail); conv => whnf) | (refine AW_cond rfl (fun _ => ?_) (fun hb => absurd (show true = false from hb) (by decide))) | (refine AW_cond rfl (fun hb => absurd (show false = true from hb) (by decide)) (fun _ => ?_)) | (refine AW_cond rfl (fun _ => ?_) (fun hb => absurd hb (by decide))) | (refine AW_cond rfl (fun hb => absurd hb (by decide)) (fun _ => ?_)) | (refine AW_cond rfl (fun hb => ?_) (fun hb => ?_) <;> first | (replace hb := of_decide_eq_true hb; try simp only [List.length_map] at hb) | (replace hb := of_decide_eq_false hb; try simp only [List.length_map] at hb) | (simp only [List.length_map, bne_iff_ne, ne_eq, beq_iff_eq, bne_eq_false_iff_eq, beq_eq_false_iff_ne, decide_eq_true_eq, decide_eq_false_iff_not, Bool.not_eq_true', Bool.not_eq_false', Int.natCast_inj] at hb) | skip) | ((first | refine ⟨_, wrap_of (by first | omega | (simp only [List.length_map]; omega)), ?_⟩ | refine ⟨IntKind.wrap _ _, rfl, ?_⟩ | refine andA ?_ | with_reducible refine Exists.intro _ (And.intro (gd_any (And.intro (by omega) (map_get (by omega)))) ?_) | with_reducible refine And.intro (gd_any (And.intro (by omega) (And.intro (by first | omega | (simp only [List.length_map]; omega)) (by first | omega | (simp only [List.length_map]; omega) | (simp only [List.length_set, List.length_map]; omega))))) ?_ | with_reducible refine Exists.intro _ (And.intro (gd_any (map_get' (by omega) (by omega))) (And.intro (And.intro (Nat.le_of_ble_eq_true rfl) rfl) ?_)) | with_reducible refine Exists.intro _ (And.intro (gd_any (And.intro (by omega) (map_get' (by omega) (by omega)))) ?_) | with_reducible refine And.intro (And.intro (by omega) (And.intro (by first | omega | (simp only [List.length_map]; omega)) (by first | omega | (simp only [List.length_map, List.length_set]; omega)))) ?_ | with_reducible refine Exists.intro _ (And.intro (map_get' (by omega) (by omega)) (And.intro (Nat.le_of_ble_eq_true rfl) ?_)) | fail); conv => whnf) | ((refine And.intro (by refine ⟨?_, ?_, ?_⟩ <;> simp [chunk, maxLen] <;> omega) ?_); conv => whnf) | (refine fun hln => ?_; (try rw [List.length_map] at hln); unfold maxLen at hln; conv => whnf) | fail
  clear z1 z2
  refine AW_loop (fun p : Int × Int => [(1, iv .i64 p.2), (0, iv .i64 p.1)]) (fun _ => [])
    (fun p => 0 ≤ p.1 ∧ p.1 ≤ 4611686018427387904 ∧ 0 ≤ p.2 ∧ p.2 ≤ 4611686018427387904 ∧ Int.gcd p.1 p.2 = Int.gcd n d) (fun p => p.2.natAbs) ((n.natAbs : Int), (d.natAbs : Int)) ⟨by show (0 : Int) ≤ (n.natAbs : Int); omega, hln1, by show (0 : Int) ≤ (d.natAbs : Int); omega, hln2, hgg⟩ impA ?_
  rintro ⟨a, b⟩ ⟨ha0, ha, hb0, hbl, hg⟩
  dsimp only at ha0 ha hb0 hbl hg ⊢
  clear hgg hln1 hln2
  by_cases hz : b = 0
  · subst hz
    rw [Int.gcd_zero_right] at hg
    rw [← hg, show (a.natAbs : Int) = a by omega]
    repeat' first | with_reducible refine AW_seq ?_ | with_reducible refine AW_block ?_ | with_reducible refine AW_scope ?_ | ((first | with_reducible refine AW_skip ?_ | with_reducible refine AW_label ?_ | with_reducible refine AW_exit ?_ | with_reducible refine AW_ret ?_ | with_reducible refine AW_region hTt ?_ | refine AW_draw hTt hMix (id := 3) 5 false [0, 0, 0, 6, 3, 31] (by kernel_rfl) rfl rfl (by kernel_rfl) ?_ | refine LateGo.mk ⟨_, rfl, ?_⟩ | refine LateGo.mk ⟨.x .j, rfl, ?_⟩ | fail); conv => whnf) | (exact absurd hb (by omega)) | (refine AW_cond rfl (fun _ => ?_) (fun hb => absurd (show true = false from hb) (by decide))) | (refine AW_cond rfl (fun hb => absurd (show false = true from hb) (by decide)) (fun _ => ?_)) | (refine AW_cond rfl (fun _ => ?_) (fun hb => absurd hb (by decide))) | (refine AW_cond rfl (fun hb => absurd hb (by decide)) (fun _ => ?_)) | (refine AW_cond rfl (fun hb => ?_) (fun hb => ?_) <;> first | (replace hb := of_decide_eq_true hb; try simp only [List.length_map] at hb) | (replace hb := of_decide_eq_false hb; try simp only [List.length_map] at hb) | (simp only [List.length_map, bne_iff_ne, ne_eq, beq_iff_eq, bne_eq_false_iff_eq, beq_eq_false_iff_ne, decide_eq_true_eq, decide_eq_false_iff_not, Bool.not_eq_true', Bool.not_eq_false', Int.natCast_inj] at hb) | skip) | ((first | refine ⟨_, wrap_of (by first | omega | (simp only [List.length_map]; omega)), ?_⟩ | refine ⟨IntKind.wrap _ _, rfl, ?_⟩ | refine andA ?_ | with_reducible refine Exists.intro _ (And.intro (gd_any (And.intro (by omega) (map_get (by omega)))) ?_) | with_reducible refine And.intro (gd_any (And.intro (by omega) (And.intro (by first | omega | (simp only [List.length_map]; omega)) (by first | omega | (simp only [List.length_map]; omega) | (simp only [List.length_set, List.length_map]; omega))))) ?_ | with_reducible refine Exists.intro _ (And.intro (gd_any (map_get' (by omega) (by omega))) (And.intro (And.intro (Nat.le_of_ble_eq_true rfl) rfl) ?_)) | with_reducible refine Exists.intro _ (And.intro (gd_any (And.intro (by omega) (map_get' (by omega) (by omega)))) ?_) | with_reducible refine And.intro (And.intro (by omega) (And.intro (by first | omega | (simp only [List.length_map]; omega)) (by first | omega | (simp only [List.length_map, List.length_set]; omega)))) ?_ | with_reducible refine Exists.intro _ (And.intro (map_get' (by omega) (by omega)) (And.intro (Nat.le_of_ble_eq_true rfl) ?_)) | fail); conv => whnf) | ((refine And.intro (by refine ⟨?_, ?_, ?_⟩ <;> simp [chunk, maxLen] <;> omega) ?_); conv => whnf) | (refine fun hln => ?_; (try rw [List.length_map] at hln); unfold maxLen at hln; conv => whnf) | fail
    rfl
  · have hm0 := Int.emod_nonneg a hz
    have hm1 := Int.emod_lt_of_pos a (show 0 < b by omega)
    have ht : a.tmod b = a % b := Int.tmod_eq_emod_of_nonneg ha0
    have hgm : Int.gcd b (a.tmod b) = Int.gcd n d := by rw [gcd_tmod]; exact hg
    rw [ht] at hgm
    repeat' first | with_reducible refine AW_seq ?_ | with_reducible refine AW_block ?_ | with_reducible refine AW_scope ?_ | ((first | with_reducible refine AW_skip ?_ | with_reducible refine AW_label ?_ | with_reducible refine AW_exit ?_ | with_reducible refine AW_ret ?_ | with_reducible refine AW_region hTt ?_ | refine AW_draw hTt hMix (id := 3) 5 false [0, 0, 0, 6, 3, 31] (by kernel_rfl) rfl rfl (by kernel_rfl) ?_ | refine LateGo.mk ⟨_, rfl, ?_⟩ | refine LateGo.mk ⟨.x .j, rfl, ?_⟩ | fail); conv => whnf) | (exact absurd hb (by omega)) | ((first | refine And.intro (gd_none hz) ?_ | refine ⟨a % b, ht, ?_⟩ | fail); conv => whnf) | (refine AW_cond rfl (fun _ => ?_) (fun hb => absurd (show true = false from hb) (by decide))) | (refine AW_cond rfl (fun hb => absurd (show false = true from hb) (by decide)) (fun _ => ?_)) | (refine AW_cond rfl (fun _ => ?_) (fun hb => absurd hb (by decide))) | (refine AW_cond rfl (fun hb => absurd hb (by decide)) (fun _ => ?_)) | (refine AW_cond rfl (fun hb => ?_) (fun hb => ?_) <;> first | (replace hb := of_decide_eq_true hb; try simp only [List.length_map] at hb) | (replace hb := of_decide_eq_false hb; try simp only [List.length_map] at hb) | (simp only [List.length_map, bne_iff_ne, ne_eq, beq_iff_eq, bne_eq_false_iff_eq, beq_eq_false_iff_ne, decide_eq_true_eq, decide_eq_false_iff_not, Bool.not_eq_true', Bool.not_eq_false', Int.natCast_inj] at hb) | skip) | ((first | refine ⟨_, wrap_of (by first | omega | (simp only [List.length_map]; omega)), ?_⟩ | refine ⟨IntKind.wrap _ _, rfl, ?_⟩ | refine andA ?_ | with_reducible refine Exists.intro _ (And.intro (gd_any (And.intro (by omega) (map_get (by omega)))) ?_) | with_reducible refine And.intro (gd_any (And.intro (by omega) (And.intro (by first | omega | (simp only [List.length_map]; omega)) (by first | omega | (simp only [List.length_map]; omega) | (simp only [List.length_set, List.length_map]; omega))))) ?_ | with_reducible refine Exists.intro _ (And.intro (gd_any (map_get' (by omega) (by omega))) (And.intro (And.intro (Nat.le_of_ble_eq_true rfl) rfl) ?_)) | with_reducible refine Exists.intro _ (And.intro (gd_any (And.intro (by omega) (map_get' (by omega) (by omega)))) ?_) | with_reducible refine And.intro (And.intro (by omega) (And.intro (by first | omega | (simp only [List.length_map]; omega)) (by first | omega | (simp only [List.length_map, List.length_set]; omega)))) ?_ | with_reducible refine Exists.intro _ (And.intro (map_get' (by omega) (by omega)) (And.intro (Nat.le_of_ble_eq_true rfl) ?_)) | fail); conv => whnf) | ((refine And.intro (by refine ⟨?_, ?_, ?_⟩ <;> simp [chunk, maxLen] <;> omega) ?_); conv => whnf) | (refine fun hln => ?_; (try rw [List.length_map] at hln); unfold maxLen at hln; conv => whnf) | fail
    exact ⟨(b, a % b), ⟨hb0, hbl, hm0, by show a % b ≤ 4611686018427387904; omega, hgm⟩, by show (a % b).natAbs < b.natAbs; omega, impA⟩
theorem lreduced_fn (x : R2) (hn : lim x.1) (hd : lim x.2) : FnC Tryd.prog 34 [r2AV x] (bv (bif decide (x.2 > 0) then ((Int.gcd x.1 x.2 : Nat) : Int) == 1 else false)) := by
  obtain ⟨n, d⟩ := x
  have h := gcd_fn n d hn hd
  dsimp only
  refine FnC_of_AW hTt Tryd.func34 rfl (by kernel_rfl) (res := [.tmp 2]) rfl Tryd.ntmps34 (by simp) fun w0 K0 => ?_
  dsimp only [entry]
  repeat' first | with_reducible refine AW_seq ?_ | with_reducible refine AW_block ?_ | with_reducible refine AW_scope ?_ | ((first | with_reducible refine AW_skip ?_ | with_reducible refine AW_label ?_ | with_reducible refine AW_exit ?_ | with_reducible refine AW_ret ?_ | with_reducible refine AW_region hTt ?_ | ((refine ⟨_, (h).call rfl rfl, ?_⟩); (rintro _ _ ⟨rfl, rfl⟩)) | refine ⟨_, fun _ => (h).call rfl rfl, ?_⟩ | refine ⟨_, fun _ _ => (h).call rfl rfl, ?_⟩ | fail); conv => whnf) | (refine AW_cond rfl (fun _ => ?_) (fun hb => absurd (show true = false from hb) (by decide))) | (refine AW_cond rfl (fun hb => absurd (show false = true from hb) (by decide)) (fun _ => ?_)) | (refine AW_cond rfl (fun _ => ?_) (fun hb => absurd hb (by decide))) | (refine AW_cond rfl (fun hb => absurd hb (by decide)) (fun _ => ?_)) | (refine AW_cond rfl (fun hb => ?_) (fun hb => ?_) <;> first | (replace hb := of_decide_eq_true hb; try simp only [List.length_map] at hb) | (replace hb := of_decide_eq_false hb; try simp only [List.length_map] at hb) | (simp only [List.length_map, bne_iff_ne, ne_eq, beq_iff_eq, bne_eq_false_iff_eq, beq_eq_false_iff_ne, decide_eq_true_eq, decide_eq_false_iff_not, Bool.not_eq_true', Bool.not_eq_false', Int.natCast_inj] at hb) | skip) | ((first | refine ⟨_, wrap_of (by first | omega | (simp only [List.length_map]; omega)), ?_⟩ | refine ⟨IntKind.wrap _ _, rfl, ?_⟩ | refine andA ?_ | with_reducible refine Exists.intro _ (And.intro (gd_any (And.intro (by omega) (map_get (by omega)))) ?_) | with_reducible refine And.intro (gd_any (And.intro (by omega) (And.intro (by first | omega | (simp only [List.length_map]; omega)) (by first | omega | (simp only [List.length_map]; omega) | (simp only [List.length_set, List.length_map]; omega))))) ?_ | with_reducible refine Exists.intro _ (And.intro (gd_any (map_get' (by omega) (by omega))) (And.intro (And.intro (Nat.le_of_ble_eq_true rfl) rfl) ?_)) | with_reducible refine Exists.intro _ (And.intro (gd_any (And.intro (by omega) (map_get' (by omega) (by omega)))) ?_) | with_reducible refine And.intro (And.intro (by omega) (And.intro (by first | omega | (simp only [List.length_map]; omega)) (by first | omega | (simp only [List.length_map, List.length_set]; omega)))) ?_ | with_reducible refine Exists.intro _ (And.intro (map_get' (by omega) (by omega)) (And.intro (Nat.le_of_ble_eq_true rfl) ?_)) | fail); conv => whnf) | ((refine And.intro (by refine ⟨?_, ?_, ?_⟩ <;> simp [chunk, maxLen] <;> omega) ?_); conv => whnf) | (refine fun hln => ?_; (try rw [List.length_map] at hln); unfold maxLen at hln; conv => whnf) | fail
  rfl
def squareB (s : SysT) : Bool := s.rows.all (fun r => decide (r.length = s.rows.length)) && (decide (s.rows.length ≤ 4) && decide (s.right.length = s.rows.length))
theorem eq_nat {a b : Nat} : ((a : Int) == (b : Int)) = decide (a = b) := by
  rw [Bool.eq_iff_iff, beq_iff_eq, decide_eq_true_iff]; omega
theorem square_f {s : SysT} {i : Nat} (hi : i < s.rows.length) (h : s.rows[i].length ≠ s.rows.length) : squareB s = false := by
  unfold squareB
  have : s.rows.all (fun r => decide (r.length = s.rows.length)) = false := List.all_eq_false.2 ⟨_, List.getElem_mem hi, by simpa using h⟩
  rw [this]; rfl
theorem square_t {s : SysT} (h : ∀ j (h : j < s.rows.length), j < s.rows.length → s.rows[j].length = s.rows.length) : squareB s = (bif decide ((s.rows.length : Int) ≤ 4) then (s.right.length : Int) == (s.rows.length : Int) else false) := by
  unfold squareB
  have : s.rows.all (fun r => decide (r.length = s.rows.length)) = true := List.all_eq_true.2 fun r hr => by
    obtain ⟨j, hj, rfl⟩ := List.getElem_of_mem hr
    simpa using h j hj hj
  rw [this, eq_nat, Bool.true_and]
  by_cases h4 : s.rows.length ≤ 4
  · rw [decide_eq_true h4, decide_eq_true (show (s.rows.length : Int) ≤ 4 by omega)]; rfl
  · rw [decide_eq_false h4, decide_eq_false (show ¬ (s.rows.length : Int) ≤ 4 by omega)]; rfl
theorem square_fn (s : SysT) : FnC Tryd.prog 32 [sysAV s] (bv (squareB s)) := by
  have e1 := @square_f s
  have e2 := @square_t s
  obtain ⟨rows, right⟩ := s
  dsimp only at e1 e2
  have hl1 : (rwPV rows).length = rows.length := List.length_map _
  have hl2 : (right.map fun n => [PV.v (.int .i64 n)]).length = right.length := List.length_map _
  have hl3 : ∀ r : List Int, (r.map fun n => [PV.v (.int .i64 n)]).length = r.length := fun r => List.length_map _
  change FnC _ _ [.a [.d (.s 1 (rwPV rows)), .d (intsPV right)]] _
  generalize squareB ⟨rows, right⟩ = R at *
  refine FnC_of_AW hTt Tryd.func32 rfl (by kernel_rfl) (res := [.tmp 2]) rfl Tryd.ntmps32 (by simp) fun w0 K0 => ?_
  dsimp only [entry]
  repeat' first | with_reducible refine AW_seq ?_ | with_reducible refine AW_block ?_ | with_reducible refine AW_scope ?_ | ((first | with_reducible refine AW_skip ?_ | with_reducible refine AW_label ?_ | with_reducible refine AW_exit ?_ | with_reducible refine AW_ret ?_ | with_reducible refine AW_region hTt ?_ | refine AW_draw hTt hMix (id := 4) 9 false [0, 1, 0, 7, 15, 31, 0, 64, 192, 511] (by kernel_rfl) rfl rfl (by kernel_rfl) ?_ | refine LateGo.mk ⟨_, rfl, ?_⟩ | refine LateGo.mk ⟨.x .j, rfl, ?_⟩ | fail); conv => whnf) | (refine AW_cond rfl (fun _ => ?_) (fun hb => absurd (show true = false from hb) (by decide))) | (refine AW_cond rfl (fun hb => absurd (show false = true from hb) (by decide)) (fun _ => ?_)) | (refine AW_cond rfl (fun _ => ?_) (fun hb => absurd hb (by decide))) | (refine AW_cond rfl (fun hb => absurd hb (by decide)) (fun _ => ?_)) | (refine AW_cond rfl (fun hb => ?_) (fun hb => ?_) <;> first | (replace hb := of_decide_eq_true hb; try simp only [List.length_map] at hb) | (replace hb := of_decide_eq_false hb; try simp only [List.length_map] at hb) | (simp only [List.length_map, bne_iff_ne, ne_eq, beq_iff_eq, bne_eq_false_iff_eq, beq_eq_false_iff_ne, decide_eq_true_eq, decide_eq_false_iff_not, Bool.not_eq_true', Bool.not_eq_false', Int.natCast_inj] at hb) | skip) | ((first | refine ⟨_, wrap_of (by first | omega | (simp only [List.length_map]; omega)), ?_⟩ | refine ⟨IntKind.wrap _ _, rfl, ?_⟩ | refine andA ?_ | with_reducible refine Exists.intro _ (And.intro (gd_any (And.intro (by omega) (map_get (by omega)))) ?_) | with_reducible refine And.intro (gd_any (And.intro (by omega) (And.intro (by first | omega | (simp only [List.length_map]; omega)) (by first | omega | (simp only [List.length_map]; omega) | (simp only [List.length_set, List.length_map]; omega))))) ?_ | with_reducible refine Exists.intro _ (And.intro (gd_any (map_get' (by omega) (by omega))) (And.intro (And.intro (Nat.le_of_ble_eq_true rfl) rfl) ?_)) | with_reducible refine Exists.intro _ (And.intro (gd_any (And.intro (by omega) (map_get' (by omega) (by omega)))) ?_) | with_reducible refine And.intro (And.intro (by omega) (And.intro (by first | omega | (simp only [List.length_map]; omega)) (by first | omega | (simp only [List.length_map, List.length_set]; omega)))) ?_ | with_reducible refine Exists.intro _ (And.intro (map_get' (by omega) (by omega)) (And.intro (Nat.le_of_ble_eq_true rfl) ?_)) | fail); conv => whnf) | ((refine And.intro (by refine ⟨?_, ?_, ?_⟩ <;> simp [chunk, maxLen] <;> omega) ?_); conv => whnf) | (refine fun hln => ?_; (try rw [List.length_map] at hln); unfold maxLen at hln; conv => whnf) | fail
  refine AW_loop (fun i : Nat => [(3, iv .i64 i), (1, .x (.b 1 0))]) (fun _ => [(1, .box [.d (.s 1 (rwPV rows)), .d (intsPV right)])])
    (fun i => i ≤ rows.length ∧ ∀ j (h : j < rows.length), j < i → rows[j].length = rows.length) (fun i => rows.length - i) 0 ⟨Nat.zero_le _, fun j _ h => absurd h (Nat.not_lt_zero _)⟩ impA ?_
  rintro i ⟨hi, hz⟩
  rcases Nat.lt_or_ge i rows.length with hil | hil
  · have hlr := hl3 rows[i]
    by_cases hrl : rows[i].length = rows.length
    · have hz1 : ∀ j (h : j < rows.length), j < i + 1 → rows[j].length = rows.length := fun j h hj => by
        by_cases e : j = i
        · subst e; exact hrl
        · exact hz j h (by omega)
      clear e1 e2 hz
      repeat' first | with_reducible refine AW_seq ?_ | with_reducible refine AW_block ?_ | with_reducible refine AW_scope ?_ | ((first | with_reducible refine AW_skip ?_ | with_reducible refine AW_label ?_ | with_reducible refine AW_exit ?_ | with_reducible refine AW_ret ?_ | with_reducible refine AW_region hTt ?_ | refine AW_draw hTt hMix (id := 4) 9 false [0, 1, 0, 7, 15, 31, 0, 64, 192, 511] (by kernel_rfl) rfl rfl (by kernel_rfl) ?_ | refine LateGo.mk ⟨_, rfl, ?_⟩ | refine LateGo.mk ⟨.x .j, rfl, ?_⟩ | fail); conv => whnf) | (exact absurd hb (by omega)) | (refine AW_cond rfl (fun _ => ?_) (fun hb => absurd (show true = false from hb) (by decide))) | (refine AW_cond rfl (fun hb => absurd (show false = true from hb) (by decide)) (fun _ => ?_)) | (refine AW_cond rfl (fun _ => ?_) (fun hb => absurd hb (by decide))) | (refine AW_cond rfl (fun hb => absurd hb (by decide)) (fun _ => ?_)) | (refine AW_cond rfl (fun hb => ?_) (fun hb => ?_) <;> first | (replace hb := of_decide_eq_true hb; try simp only [List.length_map] at hb) | (replace hb := of_decide_eq_false hb; try simp only [List.length_map] at hb) | (simp only [List.length_map, bne_iff_ne, ne_eq, beq_iff_eq, bne_eq_false_iff_eq, beq_eq_false_iff_ne, decide_eq_true_eq, decide_eq_false_iff_not, Bool.not_eq_true', Bool.not_eq_false', Int.natCast_inj] at hb) | skip) | ((first | refine ⟨_, wrap_of (by first | omega | (simp only [List.length_map]; omega)), ?_⟩ | refine ⟨IntKind.wrap _ _, rfl, ?_⟩ | refine andA ?_ | with_reducible refine Exists.intro _ (And.intro (gd_any (And.intro (by omega) (map_get (by omega)))) ?_) | with_reducible refine And.intro (gd_any (And.intro (by omega) (And.intro (by first | omega | (simp only [List.length_map]; omega)) (by first | omega | (simp only [List.length_map]; omega) | (simp only [List.length_set, List.length_map]; omega))))) ?_ | with_reducible refine Exists.intro _ (And.intro (gd_any (map_get' (by omega) (by omega))) (And.intro (And.intro (Nat.le_of_ble_eq_true rfl) rfl) ?_)) | with_reducible refine Exists.intro _ (And.intro (gd_any (And.intro (by omega) (map_get' (by omega) (by omega)))) ?_) | with_reducible refine And.intro (And.intro (by omega) (And.intro (by first | omega | (simp only [List.length_map]; omega)) (by first | omega | (simp only [List.length_map, List.length_set]; omega)))) ?_ | with_reducible refine Exists.intro _ (And.intro (map_get' (by omega) (by omega)) (And.intro (Nat.le_of_ble_eq_true rfl) ?_)) | fail); conv => whnf) | ((refine And.intro (by refine ⟨?_, ?_, ?_⟩ <;> simp [chunk, maxLen] <;> omega) ?_); conv => whnf) | (refine fun hln => ?_; (try rw [List.length_map] at hln); unfold maxLen at hln; conv => whnf) | fail
      exact ⟨i + 1, ⟨by omega, hz1⟩, by omega, impA⟩
    · obtain rfl := e1 hil hrl
      clear e1 e2 hz
      repeat' first | with_reducible refine AW_seq ?_ | with_reducible refine AW_block ?_ | with_reducible refine AW_scope ?_ | ((first | with_reducible refine AW_skip ?_ | with_reducible refine AW_label ?_ | with_reducible refine AW_exit ?_ | with_reducible refine AW_ret ?_ | with_reducible refine AW_region hTt ?_ | refine AW_draw hTt hMix (id := 4) 9 false [0, 1, 0, 7, 15, 31, 0, 64, 192, 511] (by kernel_rfl) rfl rfl (by kernel_rfl) ?_ | refine LateGo.mk ⟨_, rfl, ?_⟩ | refine LateGo.mk ⟨.x .j, rfl, ?_⟩ | fail); conv => whnf) | (exact absurd hb (by omega)) | (refine AW_cond rfl (fun _ => ?_) (fun hb => absurd (show true = false from hb) (by decide))) | (refine AW_cond rfl (fun hb => absurd (show false = true from hb) (by decide)) (fun _ => ?_)) | (refine AW_cond rfl (fun _ => ?_) (fun hb => absurd hb (by decide))) | (refine AW_cond rfl (fun hb => absurd hb (by decide)) (fun _ => ?_)) | (refine AW_cond rfl (fun hb => ?_) (fun hb => ?_) <;> first | (replace hb := of_decide_eq_true hb; try simp only [List.length_map] at hb) | (replace hb := of_decide_eq_false hb; try simp only [List.length_map] at hb) | (simp only [List.length_map, bne_iff_ne, ne_eq, beq_iff_eq, bne_eq_false_iff_eq, beq_eq_false_iff_ne, decide_eq_true_eq, decide_eq_false_iff_not, Bool.not_eq_true', Bool.not_eq_false', Int.natCast_inj] at hb) | skip) | ((first | refine ⟨_, wrap_of (by first | omega | (simp only [List.length_map]; omega)), ?_⟩ | refine ⟨IntKind.wrap _ _, rfl, ?_⟩ | refine andA ?_ | with_reducible refine Exists.intro _ (And.intro (gd_any (And.intro (by omega) (map_get (by omega)))) ?_) | with_reducible refine And.intro (gd_any (And.intro (by omega) (And.intro (by first | omega | (simp only [List.length_map]; omega)) (by first | omega | (simp only [List.length_map]; omega) | (simp only [List.length_set, List.length_map]; omega))))) ?_ | with_reducible refine Exists.intro _ (And.intro (gd_any (map_get' (by omega) (by omega))) (And.intro (And.intro (Nat.le_of_ble_eq_true rfl) rfl) ?_)) | with_reducible refine Exists.intro _ (And.intro (gd_any (And.intro (by omega) (map_get' (by omega) (by omega)))) ?_) | with_reducible refine And.intro (And.intro (by omega) (And.intro (by first | omega | (simp only [List.length_map]; omega)) (by first | omega | (simp only [List.length_map, List.length_set]; omega)))) ?_ | with_reducible refine Exists.intro _ (And.intro (map_get' (by omega) (by omega)) (And.intro (Nat.le_of_ble_eq_true rfl) ?_)) | fail); conv => whnf) | ((refine And.intro (by refine ⟨?_, ?_, ?_⟩ <;> simp [chunk, maxLen] <;> omega) ?_); conv => whnf) | (refine fun hln => ?_; (try rw [List.length_map] at hln); unfold maxLen at hln; conv => whnf) | fail
      rfl
  · obtain rfl : i = rows.length := by omega
    have e2 := e2 hz
    rw [← hl1, ← hl2] at e2
    clear e1 hz
    repeat' first | with_reducible refine AW_seq ?_ | with_reducible refine AW_block ?_ | with_reducible refine AW_scope ?_ | ((first | with_reducible refine AW_skip ?_ | with_reducible refine AW_label ?_ | with_reducible refine AW_exit ?_ | with_reducible refine AW_ret ?_ | with_reducible refine AW_region hTt ?_ | refine AW_draw hTt hMix (id := 4) 9 false [0, 1, 0, 7, 15, 31, 0, 64, 192, 511] (by kernel_rfl) rfl rfl (by kernel_rfl) ?_ | refine LateGo.mk ⟨_, rfl, ?_⟩ | refine LateGo.mk ⟨.x .j, rfl, ?_⟩ | fail); conv => whnf) | (exact absurd hb (by omega)) | (refine AW_cond rfl (fun _ => ?_) (fun hb => absurd (show true = false from hb) (by decide))) | (refine AW_cond rfl (fun hb => absurd (show false = true from hb) (by decide)) (fun _ => ?_)) | (refine AW_cond rfl (fun _ => ?_) (fun hb => absurd hb (by decide))) | (refine AW_cond rfl (fun hb => absurd hb (by decide)) (fun _ => ?_)) | (refine AW_cond rfl (fun hb => ?_) (fun hb => ?_) <;> first | (replace hb := of_decide_eq_true hb; try simp only [List.length_map] at hb) | (replace hb := of_decide_eq_false hb; try simp only [List.length_map] at hb) | (simp only [List.length_map, bne_iff_ne, ne_eq, beq_iff_eq, bne_eq_false_iff_eq, beq_eq_false_iff_ne, decide_eq_true_eq, decide_eq_false_iff_not, Bool.not_eq_true', Bool.not_eq_false', Int.natCast_inj] at hb) | skip) | ((first | refine ⟨_, wrap_of (by first | omega | (simp only [List.length_map]; omega)), ?_⟩ | refine ⟨IntKind.wrap _ _, rfl, ?_⟩ | refine andA ?_ | with_reducible refine Exists.intro _ (And.intro (gd_any (And.intro (by omega) (map_get (by omega)))) ?_) | with_reducible refine And.intro (gd_any (And.intro (by omega) (And.intro (by first | omega | (simp only [List.length_map]; omega)) (by first | omega | (simp only [List.length_map]; omega) | (simp only [List.length_set, List.length_map]; omega))))) ?_ | with_reducible refine Exists.intro _ (And.intro (gd_any (map_get' (by omega) (by omega))) (And.intro (And.intro (Nat.le_of_ble_eq_true rfl) rfl) ?_)) | with_reducible refine Exists.intro _ (And.intro (gd_any (And.intro (by omega) (map_get' (by omega) (by omega)))) ?_) | with_reducible refine And.intro (And.intro (by omega) (And.intro (by first | omega | (simp only [List.length_map]; omega)) (by first | omega | (simp only [List.length_map, List.length_set]; omega)))) ?_ | with_reducible refine Exists.intro _ (And.intro (map_get' (by omega) (by omega)) (And.intro (Nat.le_of_ble_eq_true rfl) ?_)) | fail); conv => whnf) | ((refine And.intro (by refine ⟨?_, ?_, ?_⟩ <;> simp [chunk, maxLen] <;> omega) ?_); conv => whnf) | (refine fun hln => ?_; (try rw [List.length_map] at hln); unfold maxLen at hln; conv => whnf) | fail
    rw [e2]; rfl
end Go.Proofs.YtnpleednkmhhhaaDoor
namespace Go.Proofs.YtnpleednkmhhhaaDoor
open Go Go.QL
set_option maxHeartbeats 1600000
def redQ (x : R2) : Prop := 0 < x.2 ∧ Int.gcd x.1 x.2 = 1
theorem redP_red {n d : Int} (h : d ≠ 0) : redQ (redP n d) := by
  refine ⟨(redP_pos h).1, ?_⟩
  have hg : 0 < Int.gcd n d := Int.gcd_pos_of_ne_zero_right n h
  have h1 : Int.gcd (n / (Int.gcd n d : Int)) (d / (Int.gcd n d : Int)) = 1 := Int.gcd_ediv_gcd_ediv_gcd hg
  unfold redP
  split
  · show Int.gcd (-_) (-_) = 1
    rw [Int.gcd_neg, Int.neg_gcd]; exact h1
  · exact h1
theorem red_dvd {a b c : Int} (hc : Int.gcd a b = 1) (h : b ∣ a * c) : b ∣ c := by
  have h1 : b.natAbs ∣ a.natAbs * c.natAbs := by rw [← Int.natAbs_mul]; exact Int.natAbs_dvd_natAbs.2 h
  have h2 : Nat.Coprime b.natAbs a.natAbs := by
    have : Nat.gcd a.natAbs b.natAbs = 1 := hc
    rw [Nat.gcd_comm] at this
    exact this
  exact Int.natAbs_dvd_natAbs.1 (h2.dvd_of_dvd_mul_left h1)
theorem red_eq {x y : R2} (hx : redQ x) (hy : redQ y) (h : x.1 * y.2 = y.1 * x.2) : x = y := by
  have h1 : x.2 ∣ y.2 := red_dvd hx.2 ⟨y.1, by rw [h]; exact Int.mul_comm ..⟩
  have h2 : y.2 ∣ x.2 := red_dvd hy.2 ⟨x.1, by rw [← h]; exact Int.mul_comm ..⟩
  have h3 : x.2 = y.2 := by
    have := Int.le_of_dvd hy.1 h1
    have := Int.le_of_dvd hx.1 h2
    omega
  obtain ⟨a, b⟩ := x
  obtain ⟨c, d⟩ := y
  dsimp only at *
  subst h3
  have : a = c := Int.eq_of_mul_eq_mul_right (by have := hx.1; dsimp only at this; omega) h
  rw [this]
end Go.Proofs.YtnpleednkmhhhaaDoor
namespace Go.Proofs.YtnpleednkmhhhaaDoor
open Go Go.QL
set_option maxHeartbeats 4000000
def exS (r : List Int) (N : Nat → Int) : Nat → Int
  | 0 => 0
  | k + 1 => exS r N k + r.getD k 0 * N k
def exM (B : Mat) (n i : Nat) : Nat → Int
  | 0 => 0
  | k + 1 => exM B n i k + B i k * Dm B n (rep k 4)
theorem cramer {n i : Nat} (B : Mat) (h1 : 1 ≤ n) (h4 : n ≤ 4) (hi : i < n) : exM B n i n = B i 4 * Dm B n id := by
  have hn : n = 1 ∨ n = 2 ∨ n = 3 ∨ n = 4 := by omega
  have hi' : i = 0 ∨ i = 1 ∨ i = 2 ∨ i = 3 := by omega
  rcases hn with rfl | rfl | rfl | rfl <;> rcases hi' with rfl | rfl | rfl | rfl <;> first | (exfalso; omega) | (simp [exM, Dm, rep, d2, d3, d4]; grind)
theorem ex_sys (s : SysT) (i : Nat) : ∀ k, k ≤ 4 → exS (s.rows.getD i []) (numS s) k = exM (getM s) s.rows.length i k
  | 0, _ => rfl
  | k + 1, h => by
    simp only [exS, exM]
    rw [ex_sys s i k (by omega)]
    have : getM s i k = (s.rows.getD i []).getD k 0 := by unfold getM; rw [if_neg (by omega)]
    rw [this]; rfl
theorem exact_law {s : SysT} (h1 : 1 ≤ s.rows.length) (h4 : s.rows.length ≤ 4) {i : Nat} (hi : i < s.rows.length) : exS (s.rows.getD i []) (numS s) s.rows.length = s.right.getD i 0 * detS s := by
  rw [ex_sys s i _ h4, cramer _ h1 h4 hi]
  show getM s i 4 * detS s = _
  congr 1
theorem exS_bd {r : List Int} {N : Nat → Int} (hr : ∀ k, -100 ≤ r.getD k 0 ∧ r.getD k 0 ≤ 100) {n : Nat} (hN : ∀ k, k < n → -240000000000 ≤ N k ∧ N k ≤ 240000000000) : ∀ k : Nat, k ≤ n → -((k : Int) * 24000000000000) ≤ exS r N k ∧ exS r N k ≤ (k : Int) * 24000000000000
  | 0, _ => by simp [exS]
  | k + 1, h => by
    have ih := exS_bd hr hN k (by omega)
    have m := mul_bd (hr k) (hN k (by omega))
    simp only [exS]
    omega
theorem ratio_of {n d : Int} (hd : d ≠ 0) : redQ (redP n d) ∧ d.tmod (redP n d).2 = 0 ∧ (redP n d).1 * d.tdiv (redP n d).2 = n ∧ (redP n d).1.natAbs ≤ n.natAbs ∧ (redP n d).2 ≤ d.natAbs := by
  have h1 := redP_red (n := n) hd
  have h2 := redP_val (n := n) hd
  have h3 := redP_pos (n := n) hd
  have h4 := redP_num (n := n) hd
  have h5 : (redP n d).2 ∣ d := by
    have h2 : (Int.gcd n d : Int) ∣ d := Int.gcd_dvd_right ..
    have k2 : d / (Int.gcd n d : Int) ∣ d := ⟨_, (Int.ediv_mul_cancel h2).symm⟩
    unfold redP
    split
    · exact Int.neg_dvd.2 k2
    · exact k2
  generalize redP n d = R at *
  refine ⟨h1, Int.tmod_eq_zero_of_dvd h5, ?_, h4, h3.2⟩
  obtain ⟨c, hc⟩ := h5
  have hne : R.2 ≠ 0 := by omega
  have e : d.tdiv R.2 = c := by rw [hc]; exact Int.mul_tdiv_cancel_left _ hne
  rw [e]
  refine Int.eq_of_mul_eq_mul_right hne ?_
  rw [← h2, hc]
  grind
theorem square_ok {s : SysT} : squareB s = false → sysE s = 3 := by
  intro h
  have : longE s = true := by
    cases hl : longE s with
    | true => rfl
    | false =>
      obtain ⟨a, b, c⟩ := long_ok hl
      have : squareB s = true := by
        unfold squareB
        rw [Bool.and_eq_true, Bool.and_eq_true, List.all_eq_true]
        exact ⟨fun r hr => decide_eq_true (c r hr), decide_eq_true a.2, decide_eq_true b⟩
      rw [this] at h; cases h
  unfold sysE; rw [if_pos this]
theorem sysE_v (s : SysT) : sysE s = 0 ∨ sysE s = 3 ∨ sysE s = 7 := by unfold sysE; split <;> (try split) <;> simp
theorem rows_100 {s : SysT} (h : rangeE s = false) (i k : Nat) : -100 ≤ (s.rows.getD i []).getD k 0 ∧ (s.rows.getD i []).getD k 0 ≤ 100 := by
  unfold rangeE at h
  rw [Bool.or_eq_false_iff, List.any_eq_false] at h
  rw [List.getD_eq_getElem?_getD (l := s.rows.getD i [])]
  cases hg : (s.rows.getD i [])[k]? with
  | none => exact ⟨by decide, by decide⟩
  | some x =>
    have hx := List.mem_of_getElem? hg
    rw [List.getD_eq_getElem?_getD] at hx
    cases hg2 : s.rows[i]? with
    | none => rw [hg2] at hx; cases hx
    | some l =>
      rw [hg2] at hx
      exact outL_false.1 (by simpa using h.1 l (List.mem_of_getElem? hg2)) x hx
end Go.Proofs.YtnpleednkmhhhaaDoor
namespace Go.Proofs.YtnpleednkmhhhaaDoor
open Go Go.QL
set_option maxHeartbeats 40000000
attribute [local irreducible] ACall FnC YC
theorem lred_t {x : R2} (h : redQ x) : (bif decide (x.2 > 0) then ((Int.gcd x.1 x.2 : Nat) : Int) == 1 else false) = true := by
  rw [decide_eq_true h.1, h.2]; rfl
theorem el_r2 {f : Nat → R2} {n k : Nat} (h : k < n) : ((List.range n).map f)[k]? = some (f k) := by rw [List.getElem?_map, List.getElem?_range h]; rfl
theorem lexact_fn (s : SysT) : FnC Tryd.prog 8 [sysAV s] (bv true) := by
  have s1 := psolve_fn s
  have s2 := square_fn s
  have haw := awake_fn
  have tf : ¬ (true = false) := by decide
  have ft : ¬ (false = true) := by decide
  by_cases he : sysE s = 0
  · obtain ⟨⟨h1, h4⟩, hrl, hsq, hent, hqb, hlE, hrE⟩ := sysE_ok he
    have hq : sqr s.rows.length s.rows := ⟨rfl, hsq⟩
    have hsqr : squareB s = true := by
      unfold squareB
      rw [Bool.and_eq_true, Bool.and_eq_true, List.all_eq_true]
      exact ⟨fun r hr => decide_eq_true (hsq r hr), decide_eq_true h4, decide_eq_true hrl⟩
    rw [hsqr] at s2
    have c1 := det_fn s.rows.length h4 s.rows hq hent
    have hP : rsolveP s = if detF s.rows.length s.rows = 0 then ([], 8) else ((List.range s.rows.length).map (crR s.rows s.right), 0) := by
      unfold rsolveP; rw [if_neg (by simpa using he)]
    have hdet := sys_det h1 h4 hq
    by_cases hd : detF s.rows.length s.rows = 0
    · rw [hP, if_pos hd] at s1
      rw [hd] at c1
      obtain ⟨rows, right⟩ := s
      dsimp only at *
      clear hP hent hqb hsq hq
      refine FnC_of_AW hTt Tryd.func8 rfl (by kernel_rfl) (res := [.tmp 2]) rfl Tryd.ntmps8 (by simp) fun w0 K0 => ?_
      dsimp only [entry]
      repeat' first | with_reducible refine AW_seq ?_ | ((first | with_reducible refine AW_skip ?_ | with_reducible refine AW_ret ?_ | with_reducible refine AW_region hTt ?_ | ((refine ⟨_, (s1).call rfl rfl, ?_⟩); (rintro _ _ ⟨rfl, rfl⟩)) | ((refine ⟨_, (s2).call rfl rfl, ?_⟩); (rintro _ _ ⟨rfl, rfl⟩)) | refine ⟨_, fun _ => (c1).call rfl rfl, ?_⟩ | refine ⟨_, fun _ => (haw).call rfl rfl, ?_⟩ | fail); conv => whnf) | (refine AW_cond rfl (fun _ => ?_) (fun hb => absurd (show true = false from hb) (by decide))) | (refine AW_cond rfl (fun hb => absurd (show false = true from hb) (by decide)) (fun _ => ?_)) | ((refine andA ?_); conv => whnf) | (refine fun hln => ?_; (try rw [List.length_map] at hln); unfold maxLen at hln; conv => whnf) | fail
      rfl
    · rw [hP, if_neg hd] at s1
      have hcr : ∀ k, k < s.rows.length → crR s.rows s.right k = redP (numS s k) (detS s) := fun k hk => by
        unfold crR; rw [sys_num h1 h4 hq hk, hdet]
      rw [hdet] at c1 hd
      have hlim := fun k (hk : k < s.rows.length) => det_lim h1 h4 (inB_sys hlE hrE) hk
      have hex := fun i (hi : i < s.rows.length) => exact_law h1 h4 hi
      have hR := rows_100 hrE
      have hexb := fun i => exS_bd (hR i) (fun k hk => (hlim k hk).1)
      have hrb : ∀ i, -10000 ≤ s.right.getD i 0 ∧ s.right.getD i 0 ≤ 10000 := fun i => by
        rw [List.getD_eq_getElem?_getD]
        cases hg : s.right[i]? with
        | none => exact ⟨by decide, by decide⟩
        | some x => exact hqb x (List.mem_of_getElem? hg)
      generalize numS s = N at *
      generalize detS s = d at *
      have hdl := (hlim 0 (by omega)).2
      obtain ⟨rows, right⟩ := s
      dsimp only at *
      have hrm : (rwPV rows).length = rows.length := List.length_map _
      have hlm : (((List.range rows.length).map (crR rows right)).map r2PV).length = rows.length := by rw [List.length_map, List.length_map, List.length_range]
      have hlm2 : ((List.range rows.length).map (crR rows right)).length = rows.length := by rw [List.length_map, List.length_range]
      have hrq : (right.map fun n : Int => [PV.v (.int .i64 n)]).length = right.length := List.length_map _
      have hel := fun k (hk : k < rows.length) => el_r2 (f := crR rows right) hk
      generalize hL : (List.range rows.length).map (crR rows right) = L at *
      have hc0 : (bif d == 0 then true else ((L.length : Int) != (rows.length : Int))) = false := by
        rw [hlm2, bne_self_eq_false, show (d == 0) = false from by rw [beq_eq_false_iff_ne]; exact hd]; rfl
      clear hP hent hqb hdet hlE hrE hL
      refine FnC_of_AW hTt Tryd.func8 rfl (by kernel_rfl) (res := [.tmp 2]) rfl Tryd.ntmps8 (by simp) fun w0 K0 => ?_
      dsimp only [entry]
      repeat' first | with_reducible refine AW_seq ?_ | with_reducible refine AW_block ?_ | ((first | with_reducible refine AW_skip ?_ | with_reducible refine AW_ret ?_ | with_reducible refine AW_region hTt ?_ | ((refine ⟨_, (s1).call rfl rfl, ?_⟩); (rintro _ _ ⟨rfl, rfl⟩)) | ((refine ⟨_, (s2).call rfl rfl, ?_⟩); (rintro _ _ ⟨rfl, rfl⟩)) | ((refine ⟨_, (c1).call rfl rfl, ?_⟩); (rintro _ _ ⟨rfl, rfl⟩)) | fail); conv => whnf) | (exact absurd (hc0.symm.trans hb) ft) | (refine AW_cond rfl (fun hb => absurd (show false = true from hb) (by decide)) (fun _ => ?_)) | (refine AW_cond rfl (fun hb => ?_) (fun hb => ?_) <;> first | (replace hb := of_decide_eq_true hb; try simp only [List.length_map] at hb) | (replace hb := of_decide_eq_false hb; try simp only [List.length_map] at hb) | (simp only [List.length_map, bne_iff_ne, ne_eq, beq_iff_eq, bne_eq_false_iff_eq, beq_eq_false_iff_ne, decide_eq_true_eq, decide_eq_false_iff_not, Bool.not_eq_true', Bool.not_eq_false', Int.natCast_inj] at hb) | skip) | ((refine andA ?_); conv => whnf) | fail
      clear s1 s2 c1 hc0
      refine AW_loop (fun i : Nat => [(6, iv .i64 i), (5, iv .i64 d), (3, r2sAV L), (1, .x (.b 1 0))]) (fun _ => [(1, .box [.d (.s 1 (rwPV rows)), .d (intsPV right)])]) (fun i => i ≤ rows.length) (fun i => rows.length - i) 0 (Nat.zero_le _) impA ?_
      intro i hi
      rcases Nat.lt_or_ge i rows.length with hil | hil
      · obtain ⟨e1, hrm1⟩ := rows_getD hil
        have hr1 := hsq _ hrm1
        have e3 : right[i]? = some (right.getD i 0) := by rw [List.getD_eq_getElem?_getD, List.getElem?_eq_getElem (by omega)]; rfl
        have hexi := hex i hil
        have hRi := hR i
        have hbi := hexb i
        have hq1 := hrb i
        generalize rows.getD i [] = r at *
        generalize right.getD i 0 = q at *
        clear hex hR hexb hrb hsq
        repeat' first | with_reducible refine AW_seq ?_ | with_reducible refine AW_block ?_ | ((first | with_reducible refine AW_skip ?_ | with_reducible refine AW_exit ?_ | with_reducible refine AW_region hTt ?_ | fail); conv => whnf) | (exact absurd hb (by omega)) | (refine AW_cond rfl (fun hb => ?_) (fun hb => ?_) <;> first | (replace hb := of_decide_eq_true hb; try simp only [List.length_map] at hb) | (replace hb := of_decide_eq_false hb; try simp only [List.length_map] at hb) | (simp only [List.length_map, bne_iff_ne, ne_eq, beq_iff_eq, bne_eq_false_iff_eq, beq_eq_false_iff_ne, decide_eq_true_eq, decide_eq_false_iff_not, Bool.not_eq_true', Bool.not_eq_false', Int.natCast_inj] at hb) | skip) | ((refine andA ?_); conv => whnf) | (refine fun hln => ?_; (try rw [List.length_map] at hln); unfold maxLen at hln; conv => whnf) | fail
        refine AW_loop (fun k : Nat => [(8, iv .i64 k), (7, iv .i64 (exS r N k)), (6, iv .i64 i), (5, iv .i64 d), (3, r2sAV L), (1, .x (.b 1 0))]) (fun _ => [(1, .box [.d (.s 1 (rwPV rows)), .d (intsPV right)])]) (fun k => k ≤ rows.length) (fun k => rows.length - k) 0 (Nat.zero_le _) impA ?_
        intro k hk
        rcases Nat.lt_or_ge k rows.length with hkl | hkl
        · have e2 := hel k hkl
          rw [hcr k hkl] at e2
          obtain ⟨r1, r2, r3, r4, r5⟩ := ratio_of (n := N k) hd
          have hNk := (hlim k hkl).1
          have e4 : r[k]? = some (r.getD k 0) := by rw [List.getD_eq_getElem?_getD, List.getElem?_eq_getElem (by omega)]; rfl
          have hx := hRi k
          have hb0 := hbi k (by omega)
          have hb1 := hbi (k + 1) (by omega)
          have n1 : exS r N (k + 1) = exS r N k + r.getD k 0 * N k := rfl
          generalize redP (N k) d = R at *
          generalize N k = nk at *
          generalize hS1 : exS r N (k + 1) = S1 at *
          generalize exS r N k = S at *
          generalize r.getD k 0 = x at *
          have t1 := r1.1
          have c2 := lreduced_fn R (by unfold lim; omega) (by unfold lim; omega)
          rw [lred_t r1] at c2
          obtain ⟨p, c⟩ := R
          dsimp only at *
          have hne : c ≠ 0 := by omega
          have m1 := mul_bd (a := x) (b := p) (A := 100) (B := 240000000000) (by omega) (by omega)
          have m2 := mul_bd (a := x) (b := nk) (A := 100) (B := 240000000000) (by omega) (by omega)
          have e5 : x * p * d.tdiv c = x * nk := by rw [Int.mul_assoc, r3]
          have htd := Int.natAbs_tdiv_le_natAbs d c
          have w1 : IntKind.i64.wrap (x * p) = x * p := wrap_of (by omega)
          have w2 : IntKind.i64.wrap (d.tdiv c) = d.tdiv c := wrap_of (by omega)
          have w3 : IntKind.i64.wrap (x * p * d.tdiv c) = x * nk := by rw [e5]; exact wrap_of (by omega)
          have w4 : IntKind.i64.wrap (S + x * nk) = S1 := by rw [n1]; exact wrap_of (by omega)
          have hmod : (d.tmod c != 0) = false := by rw [r2]; rfl
          clear hbi hRi hel hcr hlim hexi r3 r4 r5 htd m1 m2 e5
          repeat' first | with_reducible refine AW_seq ?_ | with_reducible refine AW_block ?_ | ((first | with_reducible refine AW_skip ?_ | with_reducible refine AW_exit ?_ | with_reducible refine AW_region hTt ?_ | refine AW_draw hTt hMix (id := 18) 23 false [0, 0, 2, 0, 14, 30, 0, 126, 254, 0, 0, 1536, 3584, 7680, 16382, 0, 0, 0, 196608, 458752, 983040, 2064384, 4194302, 8388607, 16777215] (by kernel_rfl) rfl rfl (by kernel_rfl) ?_ | fail); conv => whnf) | (exact absurd hb (by omega)) | ((first | with_reducible refine Exists.intro _ (And.intro (gd_any (And.intro (by omega) (map_some e2))) ?_) | with_reducible refine Exists.intro _ (And.intro (gd_any (And.intro (by omega) (map_some e1))) ?_) | with_reducible refine Exists.intro _ (And.intro (gd_any (And.intro (by omega) (map_some e4))) ?_) | ((refine ⟨_, (c2).call rfl rfl, ?_⟩); (rintro _ _ ⟨rfl, rfl⟩)) | refine And.intro (gd_any hne) ?_ | refine ⟨(0 : Int), r2, ?_⟩ | refine ⟨_, w1, ?_⟩ | refine ⟨_, w2, ?_⟩ | refine ⟨_, w3, ?_⟩ | refine ⟨_, w4, ?_⟩ | fail); conv => whnf) | (refine AW_cond rfl (fun hb => absurd (show false = true from hb) (by decide)) (fun _ => ?_)) | (refine AW_cond rfl (fun hb => ?_) (fun hb => ?_) <;> first | (replace hb := of_decide_eq_true hb; try simp only [List.length_map] at hb) | (replace hb := of_decide_eq_false hb; try simp only [List.length_map] at hb) | (simp only [List.length_map, bne_iff_ne, ne_eq, beq_iff_eq, bne_eq_false_iff_eq, beq_eq_false_iff_ne, decide_eq_true_eq, decide_eq_false_iff_not, Bool.not_eq_true', Bool.not_eq_false', Int.natCast_inj] at hb) | skip) | ((first | refine ⟨_, wrap_of (by first | omega | (simp only [List.length_map]; omega)), ?_⟩ | refine andA ?_ | fail); conv => whnf) | (refine fun hln => ?_; (try rw [List.length_map] at hln); unfold maxLen at hln; conv => whnf) | fail
          refine ⟨k + 1, hkl, by omega, ?_⟩
          rw [hS1]
          exact impA
        · obtain rfl : k = rows.length := by omega
          rw [hexi]
          have m1 := mul_bd (a := q) (b := d) (A := 10000) (B := 240000000000) (by omega) (by omega)
          have w1 : IntKind.i64.wrap (q * d) = q * d := wrap_of (by omega)
          have hne : (q * d != q * d) = false := bne_self_eq_false _
          clear hbi hRi hel hcr hlim hexi
          repeat' first | with_reducible refine AW_seq ?_ | with_reducible refine AW_block ?_ | ((first | with_reducible refine AW_skip ?_ | with_reducible refine AW_exit ?_ | with_reducible refine AW_ret ?_ | with_reducible refine AW_region hTt ?_ | fail); conv => whnf) | (exact absurd hb (by omega)) | (exact absurd trivial hb) | ((first | with_reducible refine Exists.intro _ (And.intro (gd_any (And.intro (by omega) (map_some e3))) ?_) | refine ⟨_, w1, ?_⟩ | fail); conv => whnf) | (refine AW_cond rfl (fun hb => ?_) (fun hb => ?_) <;> first | (replace hb := of_decide_eq_true hb; try simp only [List.length_map] at hb) | (replace hb := of_decide_eq_false hb; try simp only [List.length_map] at hb) | (simp only [List.length_map, bne_iff_ne, ne_eq, beq_iff_eq, bne_eq_false_iff_eq, beq_eq_false_iff_ne, decide_eq_true_eq, decide_eq_false_iff_not, Bool.not_eq_true', Bool.not_eq_false', Int.natCast_inj] at hb) | skip) | ((first | refine ⟨_, wrap_of (by first | omega | (simp only [List.length_map]; omega)), ?_⟩ | refine andA ?_ | fail); conv => whnf) | (refine fun hln => ?_; (try rw [List.length_map] at hln); unfold maxLen at hln; conv => whnf) | fail
          exact ⟨i + 1, hil, by omega, impA⟩
      · obtain rfl : i = rows.length := by omega
        repeat' first | with_reducible refine AW_seq ?_ | with_reducible refine AW_block ?_ | ((first | with_reducible refine AW_skip ?_ | with_reducible refine AW_exit ?_ | with_reducible refine AW_ret ?_ | with_reducible refine AW_region hTt ?_ | fail); conv => whnf) | (exact absurd hb (by omega)) | ((refine ⟨_, (haw).call rfl rfl, ?_⟩); (rintro _ _ ⟨rfl, rfl⟩); conv => whnf) | (refine AW_cond rfl (fun hb => ?_) (fun hb => ?_) <;> first | (replace hb := of_decide_eq_true hb; try simp only [List.length_map] at hb) | (replace hb := of_decide_eq_false hb; try simp only [List.length_map] at hb) | (simp only [List.length_map, bne_iff_ne, ne_eq, beq_iff_eq, bne_eq_false_iff_eq, beq_eq_false_iff_ne, decide_eq_true_eq, decide_eq_false_iff_not, Bool.not_eq_true', Bool.not_eq_false', Int.natCast_inj] at hb) | skip) | ((refine andA ?_); conv => whnf) | (refine fun hln => ?_; (try rw [List.length_map] at hln); unfold maxLen at hln; conv => whnf) | fail
        rfl
  · have hP : rsolveP s = ([], sysE s) := by unfold rsolveP; rw [if_pos he]
    rw [hP] at s1
    clear hP
    cases hsb : squareB s with
    | false =>
      have h3 := square_ok hsb
      rw [h3] at s1
      rw [hsb] at s2
      obtain ⟨rows, right⟩ := s
      refine FnC_of_AW hTt Tryd.func8 rfl (by kernel_rfl) (res := [.tmp 2]) rfl Tryd.ntmps8 (by simp) fun w0 K0 => ?_
      dsimp only [entry]
      repeat' first | with_reducible refine AW_seq ?_ | ((first | with_reducible refine AW_ret ?_ | with_reducible refine AW_region hTt ?_ | ((refine ⟨_, (s1).call rfl rfl, ?_⟩); (rintro _ _ ⟨rfl, rfl⟩)) | ((refine ⟨_, (s2).call rfl rfl, ?_⟩); (rintro _ _ ⟨rfl, rfl⟩)) | refine ⟨_, fun _ => (haw).call rfl rfl, ?_⟩ | fail); conv => whnf) | (refine AW_cond rfl (fun _ => ?_) (fun hb => absurd (show true = false from hb) (by decide))) | ((refine andA ?_); conv => whnf) | fail
      rfl
    | true =>
      rw [hsb] at s2
      rcases sysE_v s with h | h | h
      · exact absurd h he
      · rw [h] at s1
        obtain ⟨rows, right⟩ := s
        refine FnC_of_AW hTt Tryd.func8 rfl (by kernel_rfl) (res := [.tmp 2]) rfl Tryd.ntmps8 (by simp) fun w0 K0 => ?_
        dsimp only [entry]
        repeat' first | with_reducible refine AW_seq ?_ | ((first | with_reducible refine AW_skip ?_ | with_reducible refine AW_ret ?_ | with_reducible refine AW_region hTt ?_ | ((refine ⟨_, (s1).call rfl rfl, ?_⟩); (rintro _ _ ⟨rfl, rfl⟩)) | ((refine ⟨_, (s2).call rfl rfl, ?_⟩); (rintro _ _ ⟨rfl, rfl⟩)) | refine ⟨_, fun _ => (haw).call rfl rfl, ?_⟩ | refine ⟨iv .i64 0, fun h => absurd h (by decide), ?_⟩ | fail); conv => whnf) | (refine AW_cond rfl (fun _ => ?_) (fun hb => absurd (show true = false from hb) (by decide))) | (refine AW_cond rfl (fun hb => absurd (show false = true from hb) (by decide)) (fun _ => ?_)) | ((refine andA ?_); conv => whnf) | (refine fun hln => ?_; (try rw [List.length_map] at hln); unfold maxLen at hln; conv => whnf) | fail
        rfl
      · rw [h] at s1
        obtain ⟨rows, right⟩ := s
        refine FnC_of_AW hTt Tryd.func8 rfl (by kernel_rfl) (res := [.tmp 2]) rfl Tryd.ntmps8 (by simp) fun w0 K0 => ?_
        dsimp only [entry]
        repeat' first | with_reducible refine AW_seq ?_ | ((first | with_reducible refine AW_skip ?_ | with_reducible refine AW_ret ?_ | with_reducible refine AW_region hTt ?_ | ((refine ⟨_, (s1).call rfl rfl, ?_⟩); (rintro _ _ ⟨rfl, rfl⟩)) | ((refine ⟨_, (s2).call rfl rfl, ?_⟩); (rintro _ _ ⟨rfl, rfl⟩)) | refine ⟨_, fun _ => (haw).call rfl rfl, ?_⟩ | refine ⟨iv .i64 0, fun h => absurd h (by decide), ?_⟩ | fail); conv => whnf) | (refine AW_cond rfl (fun _ => ?_) (fun hb => absurd (show true = false from hb) (by decide))) | (refine AW_cond rfl (fun hb => absurd (show false = true from hb) (by decide)) (fun _ => ?_)) | ((refine andA ?_); conv => whnf) | (refine fun hln => ?_; (try rw [List.length_map] at hln); unfold maxLen at hln; conv => whnf) | fail
        rfl
end Go.Proofs.YtnpleednkmhhhaaDoor
namespace Go.Proofs.YtnpleednkmhhhaaDoor
open Go Go.QL
set_option maxHeartbeats 4000000
def xk (xs : List Int) (k : Nat) : Int := (xs.getD (k % xs.length) 0).tmod 25
def sumW (r xs : List Int) : Nat → Int
  | 0 => 0
  | k + 1 => IntKind.i64.wrap (sumW r xs k + r.getD k 0 * xk xs k)
def madeS (rows : List (List Int)) (xs : List Int) (n : Nat) : List Int := (List.range n).map fun i => sumW (rows.getD i []) xs (rows.getD i []).length
theorem xk_bd (xs : List Int) (k : Nat) : -24 ≤ xk xs k ∧ xk xs k ≤ 24 := by
  unfold xk
  have h1 := Int.tmod_lt_of_pos (xs.getD (k % xs.length) 0) (show (0 : Int) < 25 by decide)
  have h2 := Int.lt_tmod_of_pos (xs.getD (k % xs.length) 0) (show (0 : Int) < 25 by decide)
  omega
def sumX (r : List Int) (x : Nat → Int) : Nat → Int
  | 0 => 0
  | k + 1 => sumX r x k + r.getD k 0 * x k
theorem sumX_bd {r : List Int} {x : Nat → Int} (hr : ∀ k, -100 ≤ r.getD k 0 ∧ r.getD k 0 ≤ 100) (hx : ∀ k, -24 ≤ x k ∧ x k ≤ 24) : ∀ k : Nat, -((k : Int) * 2400) ≤ sumX r x k ∧ sumX r x k ≤ (k : Int) * 2400
  | 0 => by simp [sumX]
  | k + 1 => by
    have ih := sumX_bd hr hx k
    have m := mul_bd (hr k) (hx k)
    simp only [sumX]
    omega
theorem sumW_eq {r xs : List Int} (hr : ∀ k, -100 ≤ r.getD k 0 ∧ r.getD k 0 ≤ 100) : ∀ k : Nat, k ≤ 1000 → sumW r xs k = sumX r (xk xs) k
  | 0, _ => rfl
  | k + 1, h => by
    have ih := sumW_eq (xs := xs) hr k (by omega)
    have b := sumX_bd hr (xk_bd xs) (k + 1)
    simp only [sumW, sumX] at *
    rw [ih]
    exact wrap_of (by omega)
def sumB (B : Mat) (x : Nat → Int) (i : Nat) : Nat → Int
  | 0 => 0
  | k + 1 => sumB B x i k + B i k * x k
theorem cramer2 {n k : Nat} (B : Mat) (x : Nat → Int) (h1 : 1 ≤ n) (h4 : n ≤ 4) (hk : k < n) (h : ∀ i, i < n → B i 4 = sumB B x i n) : Dm B n (rep k 4) = x k * Dm B n id := by
  have hn : n = 1 ∨ n = 2 ∨ n = 3 ∨ n = 4 := by omega
  have hk' : k = 0 ∨ k = 1 ∨ k = 2 ∨ k = 3 := by omega
  rcases hn with rfl | rfl | rfl | rfl
  · have e0 := h 0 (by omega)
    simp [sumB] at e0
    rcases hk' with rfl | rfl | rfl | rfl <;> first | (exfalso; omega) | (simp [Dm, rep, e0]; grind)
  · have e0 := h 0 (by omega); have e1 := h 1 (by omega)
    simp [sumB] at e0 e1
    rcases hk' with rfl | rfl | rfl | rfl <;> first | (exfalso; omega) | (simp [Dm, rep, d2, e0, e1]; grind)
  · have e0 := h 0 (by omega); have e1 := h 1 (by omega); have e2 := h 2 (by omega)
    simp [sumB] at e0 e1 e2
    rcases hk' with rfl | rfl | rfl | rfl <;> first | (exfalso; omega) | (simp [Dm, rep, d2, d3, e0, e1, e2]; grind)
  · have e0 := h 0 (by omega); have e1 := h 1 (by omega); have e2 := h 2 (by omega); have e3 := h 3 (by omega)
    simp [sumB] at e0 e1 e2 e3
    rcases hk' with rfl | rfl | rfl | rfl <;> (simp [Dm, rep, d2, d3, d4, e0, e1, e2, e3]; grind)
theorem sum_sys (s : SysT) (x : Nat → Int) (i : Nat) : ∀ k, k ≤ 4 → sumX (s.rows.getD i []) x k = sumB (getM s) x i k
  | 0, _ => rfl
  | k + 1, h => by
    simp only [sumX, sumB]
    rw [sum_sys s x i k (by omega)]
    have : getM s i k = (s.rows.getD i []).getD k 0 := by unfold getM; rw [if_neg (by omega)]
    rw [this]
theorem redP_mul {x d : Int} (hd : d ≠ 0) : redP (x * d) d = (x, 1) := by
  have h1 := redP_red (n := x * d) hd
  have h2 := redP_val (n := x * d) hd
  refine red_eq h1 ⟨show (0 : Int) < 1 by decide, Int.gcd_one_right x⟩ ?_
  dsimp only
  generalize redP (x * d) d = R at *
  refine Int.eq_of_mul_eq_mul_right hd ?_
  rw [Int.mul_one, h2]
  grind
theorem made_law {rows : List (List Int)} {xs : List Int} (hr : ∀ i k, -100 ≤ (rows.getD i []).getD k 0 ∧ (rows.getD i []).getD k 0 ≤ 100) (he : sysE ⟨rows, madeS rows xs rows.length⟩ = 0) (hd : detF rows.length rows ≠ 0) {k : Nat} (hk : k < rows.length) :
    crR rows (madeS rows xs rows.length) k = (xk xs k, 1) := by
  obtain ⟨⟨h1, h4⟩, hrl, hsq, hent, hqb, hl, hR⟩ := sysE_ok he
  dsimp only at *
  have hq : sqr rows.length rows := ⟨rfl, hsq⟩
  have hdet := sys_det (s := ⟨rows, madeS rows xs rows.length⟩) h1 h4 hq
  have hnum := sys_num (s := ⟨rows, madeS rows xs rows.length⟩) h1 h4 hq hk
  dsimp only at hdet hnum
  unfold crR
  rw [hnum, hdet]
  rw [hdet] at hd
  have hc : numS ⟨rows, madeS rows xs rows.length⟩ k = xk xs k * detS ⟨rows, madeS rows xs rows.length⟩ := by
    refine cramer2 (getM ⟨rows, madeS rows xs rows.length⟩) (xk xs) h1 h4 hk fun i hi => ?_
    have hi : i < rows.length := hi
    have hri := hsq _ (rows_getD hi).2
    rw [← sum_sys ⟨rows, madeS rows xs rows.length⟩ (xk xs) i rows.length h4]
    show (madeS rows xs rows.length).getD i 0 = sumX (rows.getD i []) (xk xs) rows.length
    rw [← sumW_eq (hr i) rows.length (by omega)]
    unfold madeS
    rw [List.getD_eq_getElem?_getD, List.getElem?_map, List.getElem?_range hi]
    show sumW (rows.getD i []) xs (rows.getD i []).length = _
    rw [hri]
  rw [hc]
  exact redP_mul hd
theorem madeS_succ (rows : List (List Int)) (xs : List Int) (n : Nat) : madeS rows xs (n + 1) = madeS rows xs n ++ [sumW (rows.getD n []) xs (rows.getD n []).length] := by
  unfold madeS; rw [List.range_succ, List.map_append]; rfl
theorem madeS_len (rows : List (List Int)) (xs : List Int) (n : Nat) : (madeS rows xs n).length = n := by unfold madeS; rw [List.length_map, List.length_range]
end Go.Proofs.YtnpleednkmhhhaaDoor
namespace Go.Proofs.YtnpleednkmhhhaaDoor
open Go Go.QL
set_option maxHeartbeats 1600000
attribute [local irreducible] ACall FnC YC
def szV (n : Int) : Int := if n = -9223372036854775808 then n else n.natAbs
theorem sizeV_fn (n : Int) (h : i64 n) : FnC Tryd.prog 35 [iv .i64 n] (iv .i64 (szV n)) := by
  unfold szV i64 at *
  by_cases hm : n = -9223372036854775808
  · subst hm
    have w0 : IntKind.i64.wrap (0 - -9223372036854775808) = -9223372036854775808 := by decide
    refine FnC_of_AW hTt Tryd.func35 rfl (by kernel_rfl) (res := [.tmp 2]) rfl Tryd.ntmps35 (by simp) fun w0 K0 => ?_
    dsimp only [entry]
    repeat' first | with_reducible refine AW_seq ?_ | with_reducible refine AW_block ?_ | with_reducible refine AW_scope ?_ | ((first | with_reducible refine AW_skip ?_ | with_reducible refine AW_label ?_ | with_reducible refine AW_exit ?_ | with_reducible refine AW_ret ?_ | with_reducible refine AW_region hTt ?_ | refine ⟨_, w0, ?_⟩ | fail); conv => whnf) | (refine AW_cond rfl (fun _ => ?_) (fun hb => absurd (show true = false from hb) (by decide))) | (refine AW_cond rfl (fun hb => absurd (show false = true from hb) (by decide)) (fun _ => ?_)) | (refine AW_cond rfl (fun _ => ?_) (fun hb => absurd hb (by decide))) | (refine AW_cond rfl (fun hb => absurd hb (by decide)) (fun _ => ?_)) | (refine AW_cond rfl (fun hb => ?_) (fun hb => ?_) <;> first | (replace hb := of_decide_eq_true hb; try simp only [List.length_map] at hb) | (replace hb := of_decide_eq_false hb; try simp only [List.length_map] at hb) | (simp only [List.length_map, bne_iff_ne, ne_eq, beq_iff_eq, bne_eq_false_iff_eq, beq_eq_false_iff_ne, decide_eq_true_eq, decide_eq_false_iff_not, Bool.not_eq_true', Bool.not_eq_false', Int.natCast_inj] at hb) | skip) | ((first | refine ⟨_, wrap_of (by first | omega | (simp only [List.length_map]; omega)), ?_⟩ | refine ⟨IntKind.wrap _ _, rfl, ?_⟩ | refine andA ?_ | with_reducible refine Exists.intro _ (And.intro (gd_any (And.intro (by omega) (map_get (by omega)))) ?_) | with_reducible refine And.intro (gd_any (And.intro (by omega) (And.intro (by first | omega | (simp only [List.length_map]; omega)) (by first | omega | (simp only [List.length_map]; omega) | (simp only [List.length_set, List.length_map]; omega))))) ?_ | with_reducible refine Exists.intro _ (And.intro (gd_any (map_get' (by omega) (by omega))) (And.intro (And.intro (Nat.le_of_ble_eq_true rfl) rfl) ?_)) | with_reducible refine Exists.intro _ (And.intro (gd_any (And.intro (by omega) (map_get' (by omega) (by omega)))) ?_) | with_reducible refine And.intro (And.intro (by omega) (And.intro (by first | omega | (simp only [List.length_map]; omega)) (by first | omega | (simp only [List.length_map, List.length_set]; omega)))) ?_ | with_reducible refine Exists.intro _ (And.intro (map_get' (by omega) (by omega)) (And.intro (Nat.le_of_ble_eq_true rfl) ?_)) | fail); conv => whnf) | ((refine And.intro (by refine ⟨?_, ?_, ?_⟩ <;> simp [chunk, maxLen] <;> omega) ?_); conv => whnf) | (refine fun hln => ?_; (try rw [List.length_map] at hln); unfold maxLen at hln; conv => whnf) | fail
    rfl
  · rw [if_neg hm]
    have w0 : IntKind.i64.wrap (0 - n) = -n := by rw [Int.zero_sub]; exact wrap_of (by omega)
    refine FnC_of_AW hTt Tryd.func35 rfl (by kernel_rfl) (res := [.tmp 2]) rfl Tryd.ntmps35 (by simp) fun w0 K0 => ?_
    dsimp only [entry]
    repeat' first | with_reducible refine AW_seq ?_ | with_reducible refine AW_block ?_ | with_reducible refine AW_scope ?_ | ((first | with_reducible refine AW_skip ?_ | with_reducible refine AW_label ?_ | with_reducible refine AW_exit ?_ | with_reducible refine AW_ret ?_ | with_reducible refine AW_region hTt ?_ | refine ⟨_, w0, ?_⟩ | fail); conv => whnf) | (refine AW_cond rfl (fun _ => ?_) (fun hb => absurd (show true = false from hb) (by decide))) | (refine AW_cond rfl (fun hb => absurd (show false = true from hb) (by decide)) (fun _ => ?_)) | (refine AW_cond rfl (fun _ => ?_) (fun hb => absurd hb (by decide))) | (refine AW_cond rfl (fun hb => absurd hb (by decide)) (fun _ => ?_)) | (refine AW_cond rfl (fun hb => ?_) (fun hb => ?_) <;> first | (replace hb := of_decide_eq_true hb; try simp only [List.length_map] at hb) | (replace hb := of_decide_eq_false hb; try simp only [List.length_map] at hb) | (simp only [List.length_map, bne_iff_ne, ne_eq, beq_iff_eq, bne_eq_false_iff_eq, beq_eq_false_iff_ne, decide_eq_true_eq, decide_eq_false_iff_not, Bool.not_eq_true', Bool.not_eq_false', Int.natCast_inj] at hb) | skip) | ((first | refine ⟨_, wrap_of (by first | omega | (simp only [List.length_map]; omega)), ?_⟩ | refine ⟨IntKind.wrap _ _, rfl, ?_⟩ | refine andA ?_ | with_reducible refine Exists.intro _ (And.intro (gd_any (And.intro (by omega) (map_get (by omega)))) ?_) | with_reducible refine And.intro (gd_any (And.intro (by omega) (And.intro (by first | omega | (simp only [List.length_map]; omega)) (by first | omega | (simp only [List.length_map]; omega) | (simp only [List.length_set, List.length_map]; omega))))) ?_ | with_reducible refine Exists.intro _ (And.intro (gd_any (map_get' (by omega) (by omega))) (And.intro (And.intro (Nat.le_of_ble_eq_true rfl) rfl) ?_)) | with_reducible refine Exists.intro _ (And.intro (gd_any (And.intro (by omega) (map_get' (by omega) (by omega)))) ?_) | with_reducible refine And.intro (And.intro (by omega) (And.intro (by first | omega | (simp only [List.length_map]; omega)) (by first | omega | (simp only [List.length_map, List.length_set]; omega)))) ?_ | with_reducible refine Exists.intro _ (And.intro (map_get' (by omega) (by omega)) (And.intro (Nat.le_of_ble_eq_true rfl) ?_)) | fail); conv => whnf) | ((refine And.intro (by refine ⟨?_, ?_, ?_⟩ <;> simp [chunk, maxLen] <;> omega) ?_); conv => whnf) | (refine fun hln => ?_; (try rw [List.length_map] at hln); unfold maxLen at hln; conv => whnf) | fail
    exact congrArg (fun x : Int => some (iv .i64 x)) (show (if 0 - n > n then 0 - n else n) = _ by split <;> omega)
theorem szV_no {c : Int} (hi : i64 c) (h : ¬ (-100 ≤ c ∧ c ≤ 100)) : (bif decide (100 < szV c) then true else decide (c < -100)) = true := by
  unfold szV
  split
  · rename_i e; subst e; decide
  · unfold i64 at hi; rw [decide_eq_true (by omega)]; rfl
theorem szV_ok {c : Int} (h : -100 ≤ c ∧ c ≤ 100) : (bif decide (100 < szV c) then true else decide (c < -100)) = false := by
  unfold szV
  rw [if_neg (by omega), decide_eq_false (by omega), decide_eq_false (by omega)]; rfl
end Go.Proofs.YtnpleednkmhhhaaDoor
namespace Go.Proofs.YtnpleednkmhhhaaDoor
open Go Go.QL
set_option maxHeartbeats 40000000
attribute [local irreducible] ACall FnC YC
theorem cnd_t {a : Int} {m : Nat} (h : ¬ (a ≤ 4 ∧ m ≠ 0)) : (bif decide (a > 4) then true else ((m : Int) == 0)) = true := by
  by_cases h1 : a > 4
  · rw [decide_eq_true h1]; rfl
  · rw [decide_eq_false h1, show ((m : Int) == 0) = true from by rw [beq_iff_eq]; omega]; rfl
theorem cnd_f {a : Int} {m : Nat} (h : a ≤ 4 ∧ m ≠ 0) : (bif decide (a > 4) then true else ((m : Int) == 0)) = false := by
  rw [decide_eq_false (by omega), show ((m : Int) == 0) = false from by rw [beq_eq_false_iff_ne]; omega]; rfl
theorem lmade_fn (s : SysT) (xs : List Int) (h64 : ∀ r ∈ s.rows, ∀ x ∈ r, i64 x) (hx8 : ∀ x ∈ xs, -128 ≤ x ∧ x < 128) : FnC Tryd.prog 9 [sysAV s, i8sAV xs] (bv true) := by
  have haw := awake_fn
  have tf : ¬ (true = false) := by decide
  have ft : ¬ (false = true) := by decide
  obtain ⟨rows, right⟩ := s
  dsimp only at h64
  have hrm : (rwPV rows).length = rows.length := List.length_map _
  have hxl : (xs.map (fun n : Int => [PV.v (.int .i8 n)])).length = xs.length := List.length_map _
  by_cases hc : (rows.length : Int) ≤ 4 ∧ xs.length ≠ 0
  · have hcf := cnd_f hc
    obtain ⟨h4, hx0⟩ := hc
    have hne : ((xs.map (fun n : Int => [PV.v (.int .i8 n)])).length : Int) ≠ 0 := by omega
    have hj : ∀ k : Nat, ((k : Int)).tmod ((xs.map (fun n : Int => [PV.v (.int .i8 n)])).length : Int) = ((k % xs.length : Nat) : Int) := fun k => by
      rw [hxl, Int.tmod_eq_emod_of_nonneg (by omega)]; rfl
    have hjl : ∀ k : Nat, k % xs.length < xs.length := fun k => Nat.mod_lt _ (by omega)
    have he5 : ∀ k : Nat, xs[k % xs.length]? = some (xs.getD (k % xs.length) 0) := fun k => by rw [List.getD_eq_getElem?_getD, List.getElem?_eq_getElem (hjl k)]; rfl
    have hxk : ∀ k : Nat, (xs.getD (k % xs.length) 0).tmod 25 = xk xs k := fun _ => rfl
    have hxb := xk_bd xs
    refine FnC_of_AW hTt Tryd.func9 rfl (by kernel_rfl) (res := [.tmp 4]) rfl Tryd.ntmps9 (by simp) fun w0 K0 => ?_
    dsimp only [entry]
    repeat' first | with_reducible refine AW_seq ?_ | with_reducible refine AW_block ?_ | ((first | with_reducible refine AW_skip ?_ | with_reducible refine AW_region hTt ?_ | fail); conv => whnf) | (exact absurd (hcf.symm.trans hb) ft) | (refine AW_cond rfl (fun hb => ?_) (fun hb => ?_) <;> first | (replace hb := of_decide_eq_true hb; try simp only [List.length_map] at hb) | (replace hb := of_decide_eq_false hb; try simp only [List.length_map] at hb) | (simp only [List.length_map, bne_iff_ne, ne_eq, beq_iff_eq, bne_eq_false_iff_eq, beq_eq_false_iff_ne, decide_eq_true_eq, decide_eq_false_iff_not, Bool.not_eq_true', Bool.not_eq_false', Int.natCast_inj] at hb) | skip) | ((refine andA ?_); conv => whnf) | (refine fun hln => ?_; (try rw [List.length_map] at hln); unfold maxLen at hln; conv => whnf) | fail
    clear hcf
    refine AW_imp (Imp.nil 900 3 1 (fr' := [(5, iv .i64 0), (2, .x (.b 2 0)), (1, i8sAV xs)]) (σ' := [(2, .box [.d (.s 1 (rwPV rows)), .o 900 0 0])]) rfl ?_ ?_ rfl rfl) ?_
    · exact ⟨⟨_, rfl, .inl rfl⟩, ⟨_, rfl, .inl rfl⟩, ⟨_, rfl, .inl rfl⟩, trivial⟩
    · exact ⟨⟨_, rfl, .inr ⟨_, _, rfl, rfl, ⟨.inl rfl, .inr ⟨rfl, rfl⟩, trivial⟩⟩⟩, trivial⟩
    refine AW_loop (fun i : Nat => [(5, iv .i64 i), (2, .x (.b 2 0)), (1, i8sAV xs)]) (fun i => [(900, .chain 3 1 i ((madeS rows xs i).map iPV)), (2, .box [.d (.s 1 (rwPV rows)), .o 900 i i])])
      (fun i => i ≤ rows.length ∧ ∀ j, j < i → ∀ k, -100 ≤ (rows.getD j []).getD k 0 ∧ (rows.getD j []).getD k 0 ≤ 100) (fun i => rows.length - i) 0 ⟨Nat.zero_le _, fun j h => absurd h (Nat.not_lt_zero _)⟩ impA ?_
    rintro i ⟨hi, hR⟩
    have hml := madeS_len rows xs i
    have htl : ((madeS rows xs i).map iPV).length = i := by rw [List.length_map, hml]
    rcases Nat.lt_or_ge i rows.length with hil | hil
    · obtain ⟨e1, hrm1⟩ := rows_getD hil
      have h64r := h64 _ hrm1
      have hsc := madeS_succ rows xs i
      have hR2 : (∀ k, -100 ≤ (rows.getD i []).getD k 0 ∧ (rows.getD i []).getD k 0 ≤ 100) → ∀ j, j < i + 1 → ∀ k, -100 ≤ (rows.getD j []).getD k 0 ∧ (rows.getD j []).getD k 0 ≤ 100 := fun h j hj => by
        by_cases e : j = i
        · subst e; exact h
        · exact hR j (by omega)
      generalize hr : rows.getD i [] = r at *
      have hrl : (r.map (fun n : Int => [PV.v (.int .i64 n)])).length = r.length := List.length_map _
      have hch : ((madeS rows xs i).map iPV).take i ++ [iPV (sumW r xs r.length)] = (madeS rows xs (i + 1)).map iPV := by
        rw [hsc, List.take_of_length_le (by rw [htl]; exact Nat.le_refl _), List.map_append]; rfl
      generalize hM1 : madeS rows xs (i + 1) = M1 at *
      generalize hM : madeS rows xs i = M at *
      clear hR hsc
      repeat' first | with_reducible refine AW_seq ?_ | with_reducible refine AW_block ?_ | ((first | with_reducible refine AW_skip ?_ | with_reducible refine AW_exit ?_ | with_reducible refine AW_region hTt ?_ | fail); conv => whnf) | (exact absurd hb (by omega)) | (refine AW_cond rfl (fun hb => ?_) (fun hb => ?_) <;> first | (replace hb := of_decide_eq_true hb; try simp only [List.length_map] at hb) | (replace hb := of_decide_eq_false hb; try simp only [List.length_map] at hb) | (simp only [List.length_map, bne_iff_ne, ne_eq, beq_iff_eq, bne_eq_false_iff_eq, beq_eq_false_iff_ne, decide_eq_true_eq, decide_eq_false_iff_not, Bool.not_eq_true', Bool.not_eq_false', Int.natCast_inj] at hb) | skip) | ((refine andA ?_); conv => whnf) | (refine fun hln => ?_; (try rw [List.length_map] at hln); unfold maxLen at hln; conv => whnf) | fail
      refine AW_loop (fun k : Nat => [(7, iv .i64 k), (6, iv .i64 (sumW r xs k)), (5, iv .i64 i), (2, .x (.b 2 0)), (1, i8sAV xs)]) (fun _ => [(900, .chain 3 1 i (M.map iPV)), (2, .box [.d (.s 1 (rwPV rows)), .o 900 i i])])
        (fun k => k ≤ r.length ∧ ∀ j, j < k → -100 ≤ r.getD j 0 ∧ r.getD j 0 ≤ 100) (fun k => r.length - k) 0 ⟨Nat.zero_le _, fun j h => absurd h (Nat.not_lt_zero _)⟩ impA ?_
      rintro k ⟨hk, hkb⟩
      rcases Nat.lt_or_ge k r.length with hkl | hkl
      · have e4 : r[k]? = some (r.getD k 0) := by rw [List.getD_eq_getElem?_getD, List.getElem?_eq_getElem hkl]; rfl
        have hc64 := h64r _ (getD_mem hkl)
        have hkb2 : (-100 ≤ r.getD k 0 ∧ r.getD k 0 ≤ 100) → ∀ j, j < k + 1 → -100 ≤ r.getD j 0 ∧ r.getD j 0 ≤ 100 := fun h j hj => by
          by_cases e : j = k
          · subst e; exact h
          · exact hkb j (by omega)
        have n1 : sumW r xs (k + 1) = IntKind.i64.wrap (sumW r xs k + r.getD k 0 * xk xs k) := rfl
        have z1 := sizeV_fn (r.getD k 0) hc64
        have hxk := hxk k
        have hxb := hxb k
        have hj := hj k
        have hjl := hjl k
        have he5 := he5 k
        generalize hS1 : sumW r xs (k + 1) = S1 at *
        generalize sumW r xs k = S at *
        generalize r.getD k 0 = c at *
        generalize xk xs k = x at *
        generalize xs.getD (k % xs.length) 0 = y at *
        clear hkb hR2 hch h64r h64 hx8
        by_cases hcb : -100 ≤ c ∧ c ≤ 100
        · have hcn := szV_ok hcb
          have m1 := mul_bd (a := c) (b := x) (A := 100) (B := 24) (by omega) (by omega)
          have w1 : IntKind.i64.wrap (c * x) = c * x := wrap_of (by omega)
          generalize szV c = z at *
          repeat' first | with_reducible refine AW_seq ?_ | with_reducible refine AW_block ?_ | ((first | with_reducible refine AW_skip ?_ | with_reducible refine AW_exit ?_ | with_reducible refine AW_region hTt ?_ | refine AW_draw hTt hMix (id := 13) 19 false [0, 0, 2, 0, 14, 30, 0, 126, 254, 0, 0, 0, 2048, 7168, 15872, 32256, 65024, 130560, 262142, 524287, 1048575] (by kernel_rfl) rfl rfl (by kernel_rfl) ?_ | fail); conv => whnf) | (exact absurd hb (by omega)) | (exact absurd (hb.symm.trans hcn) tf) | ((first | with_reducible refine Exists.intro _ (And.intro (gd_any (And.intro (by omega) (map_some e1))) ?_) | with_reducible refine Exists.intro _ (And.intro (gd_any (And.intro (by omega) (map_some e4))) ?_) | with_reducible refine Exists.intro _ (And.intro (gd_any (And.intro (by omega) (map_some he5))) ?_) | ((refine ⟨_, (z1).call rfl rfl, ?_⟩); (rintro _ _ ⟨rfl, rfl⟩)) | refine And.intro (gd_none hne) ?_ | refine ⟨_, hj, ?_⟩ | refine ⟨x, hxk, ?_⟩ | refine ⟨_, w1, ?_⟩ | fail); conv => whnf) | (refine AW_cond rfl (fun hb => ?_) (fun hb => ?_) <;> first | (replace hb := of_decide_eq_true hb; try simp only [List.length_map] at hb) | (replace hb := of_decide_eq_false hb; try simp only [List.length_map] at hb) | (simp only [List.length_map, bne_iff_ne, ne_eq, beq_iff_eq, bne_eq_false_iff_eq, beq_eq_false_iff_ne, decide_eq_true_eq, decide_eq_false_iff_not, Bool.not_eq_true', Bool.not_eq_false', Int.natCast_inj] at hb) | skip) | ((first | refine ⟨_, wrap_of (by first | omega | (simp only [List.length_map]; omega)), ?_⟩ | refine ⟨IntKind.wrap _ _, rfl, ?_⟩ | refine andA ?_ | fail); conv => whnf) | (refine fun hln => ?_; (try rw [List.length_map] at hln); unfold maxLen at hln; conv => whnf) | fail
          refine ⟨k + 1, ⟨hkl, hkb2 hcb⟩, by omega, ?_⟩
          rw [hS1, n1]
          exact impA
        · have hcn := szV_no hc64 hcb
          generalize szV c = z at *
          repeat' first | with_reducible refine AW_seq ?_ | with_reducible refine AW_block ?_ | ((first | with_reducible refine AW_skip ?_ | with_reducible refine AW_exit ?_ | with_reducible refine AW_ret ?_ | with_reducible refine AW_region hTt ?_ | refine AW_draw hTt hMix (id := 13) 19 false [0, 0, 2, 0, 14, 30, 0, 126, 254, 0, 0, 0, 2048, 7168, 15872, 32256, 65024, 130560, 262142, 524287, 1048575] (by kernel_rfl) rfl rfl (by kernel_rfl) ?_ | fail); conv => whnf) | (exact absurd hb (by omega)) | (exact absurd (hcn.symm.trans hb) tf) | ((first | with_reducible refine Exists.intro _ (And.intro (gd_any (And.intro (by omega) (map_some e1))) ?_) | with_reducible refine Exists.intro _ (And.intro (gd_any (And.intro (by omega) (map_some e4))) ?_) | ((refine ⟨_, (z1).call rfl rfl, ?_⟩); (rintro _ _ ⟨rfl, rfl⟩)) | ((refine ⟨_, (haw).call rfl rfl, ?_⟩); (rintro _ _ ⟨rfl, rfl⟩)) | fail); conv => whnf) | (refine AW_cond rfl (fun hb => ?_) (fun hb => ?_) <;> first | (replace hb := of_decide_eq_true hb; try simp only [List.length_map] at hb) | (replace hb := of_decide_eq_false hb; try simp only [List.length_map] at hb) | (simp only [List.length_map, bne_iff_ne, ne_eq, beq_iff_eq, bne_eq_false_iff_eq, beq_eq_false_iff_ne, decide_eq_true_eq, decide_eq_false_iff_not, Bool.not_eq_true', Bool.not_eq_false', Int.natCast_inj] at hb) | skip) | ((refine andA ?_); conv => whnf) | (refine fun hln => ?_; (try rw [List.length_map] at hln); unfold maxLen at hln; conv => whnf) | fail
          rfl
      · obtain rfl : k = r.length := by omega
        have hrall : ∀ k, -100 ≤ r.getD k 0 ∧ r.getD k 0 ≤ 100 := fun k => by
          by_cases h : k < r.length
          · exact hkb k h
          · rw [List.getD_eq_getElem?_getD, List.getElem?_eq_none (by omega)]; decide
        have hR3 := hR2 hrall
        generalize sumW r xs r.length = S at *
        clear hkb hR2 hxb hxk hj he5 h64r h64 hx8
        repeat' first | with_reducible refine AW_seq ?_ | with_reducible refine AW_block ?_ | ((first | with_reducible refine AW_skip ?_ | with_reducible refine AW_exit ?_ | with_reducible refine AW_region hTt ?_ | fail); conv => whnf) | (exact absurd hb (by omega)) | ((with_reducible refine Exists.intro _ (And.intro (gd_any (And.intro (by omega) (map_some e1))) ?_)); conv => whnf) | ((refine And.intro (by rw [htl]; refine ⟨?_, ?_, ?_⟩ <;> simp [chunk, maxLen] <;> omega) ?_); conv => whnf) | (refine AW_cond rfl (fun hb => ?_) (fun hb => ?_) <;> first | (replace hb := of_decide_eq_true hb; try simp only [List.length_map] at hb) | (replace hb := of_decide_eq_false hb; try simp only [List.length_map] at hb) | (simp only [List.length_map, bne_iff_ne, ne_eq, beq_iff_eq, bne_eq_false_iff_eq, beq_eq_false_iff_ne, decide_eq_true_eq, decide_eq_false_iff_not, Bool.not_eq_true', Bool.not_eq_false', Int.natCast_inj] at hb) | skip) | ((first | refine ⟨_, wrap_of (by first | omega | (simp only [List.length_map]; omega)), ?_⟩ | refine andA ?_ | fail); conv => whnf) | (refine fun hln => ?_; (try rw [List.length_map] at hln); unfold maxLen at hln; conv => whnf) | fail
        refine ⟨i + 1, ⟨hil, hR3⟩, by omega, ?_⟩
        rw [hM1, ← hch]
        exact impA
    · obtain rfl : i = rows.length := by omega
      have hRa : ∀ i k, -100 ≤ (rows.getD i []).getD k 0 ∧ (rows.getD i []).getD k 0 ≤ 100 := fun i k => by
        by_cases h : i < rows.length
        · exact hR i h k
        · rw [List.getD_eq_getElem?_getD (l := rows), List.getElem?_eq_none (by omega)]; simp
      have hle : rows.length ≤ ((madeS rows xs rows.length).map iPV).length := by rw [htl]; exact Nat.le_refl _
      have hal : PV.s 1 (((madeS rows xs rows.length).map iPV).take rows.length) = intsPV (madeS rows xs rows.length) := by
        rw [List.take_of_length_le (by rw [htl]; exact Nat.le_refl _)]; rfl
      have s1 := psolve_fn ⟨rows, madeS rows xs rows.length⟩
      have s2 := square_fn ⟨rows, madeS rows xs rows.length⟩
      have hlaw := fun (he : sysE ⟨rows, madeS rows xs rows.length⟩ = 0) (hd : detF rows.length rows ≠ 0) k (hk : k < rows.length) => made_law (xs := xs) hRa he hd hk
      have hsE := @sysE_ok ⟨rows, madeS rows xs rows.length⟩
      have hP : rsolveP ⟨rows, madeS rows xs rows.length⟩ = if sysE ⟨rows, madeS rows xs rows.length⟩ ≠ 0 then ([], sysE ⟨rows, madeS rows xs rows.length⟩)
        else if detF rows.length rows = 0 then ([], 8) else ((List.range rows.length).map (crR rows (madeS rows xs rows.length)), 0) := rfl
      rw [hP] at s1
      have hsq : sysE ⟨rows, madeS rows xs rows.length⟩ = 0 → squareB ⟨rows, madeS rows xs rows.length⟩ = true := fun he => by
        obtain ⟨⟨h1, h4⟩, hrl, hsq, _⟩ := hsE he
        unfold squareB
        rw [Bool.and_eq_true, Bool.and_eq_true, List.all_eq_true]
        exact ⟨fun r hr => decide_eq_true (hsq r hr), decide_eq_true h4, decide_eq_true hrl⟩
      have hdt : sysE ⟨rows, madeS rows xs rows.length⟩ = 0 → FnC Tryd.prog 33 [rowsAV rows] (iv .i64 (detF rows.length rows)) := fun he => by
        obtain ⟨⟨h1, h4⟩, hrl, hsq, hent, _⟩ := hsE he
        exact det_fn rows.length h4 rows ⟨rfl, hsq⟩ hent
      clear hP hR h64 hx8 hsE hRa
      have hv := sysE_v ⟨rows, madeS rows xs rows.length⟩
      generalize sysE ⟨rows, madeS rows xs rows.length⟩ = e at *
      generalize squareB ⟨rows, madeS rows xs rows.length⟩ = sb at *
      dsimp only [sysAV] at s1 s2
      generalize hcl : (List.range rows.length).map (crR rows (madeS rows xs rows.length)) = L at *
      have hel : ∀ k, k < rows.length → L[k]? = some (crR rows (madeS rows xs rows.length) k) := fun k hk => by rw [← hcl]; exact el_r2 hk
      have hLl : L.length = rows.length := by rw [← hcl, List.length_map, List.length_range]
      clear hcl
      generalize crR rows (madeS rows xs rows.length) = cr at *
      generalize madeS rows xs rows.length = M at *
      rcases hv with rfl | rfl | rfl
      · rw [if_neg (by decide)] at s1
        obtain rfl := hsq rfl
        have c1 := hdt rfl
        have hlaw := hlaw rfl
        clear hdt hsq
        by_cases hd : detF rows.length rows = 0
        · rw [if_pos hd] at s1
          rw [hd] at c1
          clear hlaw hd hel
          repeat' first | ((refine AW_imp (Imp.freezeB 900 (fr' := [(2, .x (.b 2 0)), (1, i8sAV xs)]) (σ' := [(2, .box [.d (.s 1 (rwPV rows)), .d (intsPV M)])]) rfl ⟨⟨_, rfl, .inl rfl⟩, ⟨_, rfl, .inl rfl⟩, trivial⟩ ⟨⟨_, rfl, .inr ⟨_, _, rfl, rfl, ⟨.inl rfl, .inr ⟨_, rfl, hle, congrArg SV.d hal.symm⟩, trivial⟩⟩⟩, trivial⟩ rfl rfl) (AW_region (id := 15) hTt ?_)); conv => whnf) | with_reducible refine AW_seq ?_ | with_reducible refine AW_block ?_ | ((first | with_reducible refine AW_skip ?_ | with_reducible refine AW_exit ?_ | with_reducible refine AW_ret ?_ | with_reducible refine AW_region hTt ?_ | fail); conv => whnf) | (exact absurd hb (by omega)) | ((first | ((refine ⟨_, (s1).call rfl rfl, ?_⟩); (rintro _ _ ⟨rfl, rfl⟩)) | refine ⟨_, fun _ => (s2).call rfl rfl, ?_⟩ | refine ⟨_, fun _ => (c1).call rfl rfl, ?_⟩ | refine ⟨_, fun _ => (haw).call rfl rfl, ?_⟩ | fail); conv => whnf) | (refine AW_cond rfl (fun _ => ?_) (fun hb => absurd (show true = false from hb) (by decide))) | (refine AW_cond rfl (fun hb => ?_) (fun hb => ?_) <;> first | (replace hb := of_decide_eq_true hb; try simp only [List.length_map] at hb) | (replace hb := of_decide_eq_false hb; try simp only [List.length_map] at hb) | (simp only [List.length_map, bne_iff_ne, ne_eq, beq_iff_eq, bne_eq_false_iff_eq, beq_eq_false_iff_ne, decide_eq_true_eq, decide_eq_false_iff_not, Bool.not_eq_true', Bool.not_eq_false', Int.natCast_inj] at hb) | skip) | ((refine andA ?_); conv => whnf) | (refine fun hln => ?_; (try rw [List.length_map] at hln); unfold maxLen at hln; conv => whnf) | fail
          rfl
        · rw [if_neg hd] at s1
          have hlaw := hlaw hd
          clear hd c1
          have hend : ((L.length : Int) == (rows.length : Int)) = true := by rw [hLl, beq_self_eq_true]
          repeat' first | ((refine AW_imp (Imp.freezeB 900 (fr' := [(2, .x (.b 2 0)), (1, i8sAV xs)]) (σ' := [(2, .box [.d (.s 1 (rwPV rows)), .d (intsPV M)])]) rfl ⟨⟨_, rfl, .inl rfl⟩, ⟨_, rfl, .inl rfl⟩, trivial⟩ ⟨⟨_, rfl, .inr ⟨_, _, rfl, rfl, ⟨.inl rfl, .inr ⟨_, rfl, hle, congrArg SV.d hal.symm⟩, trivial⟩⟩⟩, trivial⟩ rfl rfl) (AW_region (id := 15) hTt ?_)); conv => whnf) | with_reducible refine AW_seq ?_ | with_reducible refine AW_block ?_ | ((first | with_reducible refine AW_skip ?_ | with_reducible refine AW_exit ?_ | with_reducible refine AW_region hTt ?_ | fail); conv => whnf) | (exact absurd hb (by omega)) | ((first | ((refine ⟨_, (s1).call rfl rfl, ?_⟩); (rintro _ _ ⟨rfl, rfl⟩)) | refine ⟨_, fun _ => (s2).call rfl rfl, ?_⟩ | fail); conv => whnf) | (refine AW_cond rfl (fun hb => absurd (show false = true from hb) (by decide)) (fun _ => ?_)) | (refine AW_cond rfl (fun hb => ?_) (fun hb => ?_) <;> first | (replace hb := of_decide_eq_true hb; try simp only [List.length_map] at hb) | (replace hb := of_decide_eq_false hb; try simp only [List.length_map] at hb) | (simp only [List.length_map, bne_iff_ne, ne_eq, beq_iff_eq, bne_eq_false_iff_eq, beq_eq_false_iff_ne, decide_eq_true_eq, decide_eq_false_iff_not, Bool.not_eq_true', Bool.not_eq_false', Int.natCast_inj] at hb) | skip) | ((refine andA ?_); conv => whnf) | (refine fun hln => ?_; (try rw [List.length_map] at hln); unfold maxLen at hln; conv => whnf) | fail
          refine AW_loop (fun k : Nat => [(10, iv .i64 k), (8, r2sAV L), (2, .x (.b 2 0)), (1, i8sAV xs)]) (fun _ => [(2, .box [.d (.s 1 (rwPV rows)), .d (intsPV M)])]) (fun k => k ≤ rows.length) (fun k => rows.length - k) 0 (Nat.zero_le _) impA ?_
          intro k hk
          clear hml htl hle hal s1 s2
          rcases Nat.lt_or_ge k rows.length with hkl | hkl
          · have e2 := hel k hkl
            rw [hlaw k hkl] at e2
            have hxk := hxk k
            have hxb := hxb k
            have hj := hj k
            have hjl := hjl k
            have he5 := he5 k
            generalize xk xs k = x at *
            generalize xs.getD (k % xs.length) 0 = y at *
            have heq1 : eqL [.int .i64 x, .int .i64 1] [.int .i64 x, .int .i64 1] = true := by simp [eqL, eqV]
            have hne2 : (!(eqL [.int .i64 x, .int .i64 1] [.int .i64 x, .int .i64 1])) = false := by simp [eqL, eqV]
            clear hel hlaw
            repeat' first | with_reducible refine AW_seq ?_ | with_reducible refine AW_block ?_ | ((first | with_reducible refine AW_skip ?_ | with_reducible refine AW_exit ?_ | with_reducible refine AW_ret ?_ | with_reducible refine AW_region hTt ?_ | refine AW_draw hTt hMix (id := 21) 14 false [0, 0, 3, 7, 0, 0, 0, 64, 224, 496, 1008, 2032, 4080, 8176, 16383] (by kernel_rfl) rfl rfl (by kernel_rfl) ?_ | fail); conv => whnf) | (exact absurd hb (by omega)) | (exact absurd (heq1.symm.trans hb) tf) | ((first | with_reducible refine Exists.intro _ (And.intro (gd_any (And.intro (by omega) (map_some e2))) ?_) | with_reducible refine Exists.intro _ (And.intro (gd_any (And.intro (by omega) (map_some he5))) ?_) | refine And.intro (gd_none hne) ?_ | refine ⟨_, hj, ?_⟩ | refine ⟨x, hxk, ?_⟩ | fail); conv => whnf) | (refine AW_cond rfl (fun hb => ?_) (fun hb => ?_) <;> first | (replace hb := of_decide_eq_true hb; try simp only [List.length_map] at hb) | (replace hb := of_decide_eq_false hb; try simp only [List.length_map] at hb) | (simp only [List.length_map, bne_iff_ne, ne_eq, beq_iff_eq, bne_eq_false_iff_eq, beq_eq_false_iff_ne, decide_eq_true_eq, decide_eq_false_iff_not, Bool.not_eq_true', Bool.not_eq_false', Int.natCast_inj] at hb) | skip) | ((first | refine ⟨_, wrap_of (by first | omega | (simp only [List.length_map]; omega)), ?_⟩ | refine andA ?_ | fail); conv => whnf) | (refine fun hln => ?_; (try rw [List.length_map] at hln); unfold maxLen at hln; conv => whnf) | fail
            exact ⟨k + 1, hkl, by omega, impA⟩
          · obtain rfl : k = rows.length := by omega
            clear hel hlaw
            repeat' first | with_reducible refine AW_seq ?_ | with_reducible refine AW_block ?_ | ((first | with_reducible refine AW_skip ?_ | with_reducible refine AW_exit ?_ | with_reducible refine AW_ret ?_ | with_reducible refine AW_region hTt ?_ | refine AW_draw hTt hMix (id := 21) 14 false [0, 0, 3, 7, 0, 0, 0, 64, 224, 496, 1008, 2032, 4080, 8176, 16383] (by kernel_rfl) rfl rfl (by kernel_rfl) ?_ | fail); conv => whnf) | (exact absurd hb (by omega)) | ((refine ⟨_, fun _ => (haw).call rfl rfl, ?_⟩); conv => whnf) | (refine AW_cond rfl (fun hb => ?_) (fun hb => ?_) <;> first | (replace hb := of_decide_eq_true hb; try simp only [List.length_map] at hb) | (replace hb := of_decide_eq_false hb; try simp only [List.length_map] at hb) | (simp only [List.length_map, bne_iff_ne, ne_eq, beq_iff_eq, bne_eq_false_iff_eq, beq_eq_false_iff_ne, decide_eq_true_eq, decide_eq_false_iff_not, Bool.not_eq_true', Bool.not_eq_false', Int.natCast_inj] at hb) | skip) | ((refine andA ?_); conv => whnf) | (refine fun hln => ?_; (try rw [List.length_map] at hln); unfold maxLen at hln; conv => whnf) | fail
            exact congrArg (fun b : Bool => some (bv b)) (show _ = true by simp [hLl])
      · rw [if_pos (by decide)] at s1
        clear hlaw hdt hsq hel
        repeat' first | ((refine AW_imp (Imp.freezeB 900 (fr' := [(2, .x (.b 2 0)), (1, i8sAV xs)]) (σ' := [(2, .box [.d (.s 1 (rwPV rows)), .d (intsPV M)])]) rfl ⟨⟨_, rfl, .inl rfl⟩, ⟨_, rfl, .inl rfl⟩, trivial⟩ ⟨⟨_, rfl, .inr ⟨_, _, rfl, rfl, ⟨.inl rfl, .inr ⟨_, rfl, hle, congrArg SV.d hal.symm⟩, trivial⟩⟩⟩, trivial⟩ rfl rfl) (AW_region (id := 15) hTt ?_)); conv => whnf) | with_reducible refine AW_seq ?_ | with_reducible refine AW_block ?_ | ((first | with_reducible refine AW_skip ?_ | with_reducible refine AW_exit ?_ | with_reducible refine AW_ret ?_ | with_reducible refine AW_region hTt ?_ | fail); conv => whnf) | (exact absurd hb (by omega)) | ((first | ((refine ⟨_, (s1).call rfl rfl, ?_⟩); (rintro _ _ ⟨rfl, rfl⟩)) | refine ⟨_, fun _ => (haw).call rfl rfl, ?_⟩ | refine ⟨iv .i64 0, (fun h => absurd h (by decide) : _ = true → ACall Tryd.prog 33 _ _ _), ?_⟩ | refine ⟨bv true, fun h => absurd h (by decide), ?_⟩ | fail); conv => whnf) | (refine AW_cond rfl (fun _ => ?_) (fun hb => absurd (show true = false from hb) (by decide))) | (refine AW_cond rfl (fun hb => ?_) (fun hb => ?_) <;> first | (replace hb := of_decide_eq_true hb; try simp only [List.length_map] at hb) | (replace hb := of_decide_eq_false hb; try simp only [List.length_map] at hb) | (simp only [List.length_map, bne_iff_ne, ne_eq, beq_iff_eq, bne_eq_false_iff_eq, beq_eq_false_iff_ne, decide_eq_true_eq, decide_eq_false_iff_not, Bool.not_eq_true', Bool.not_eq_false', Int.natCast_inj] at hb) | skip) | ((refine andA ?_); conv => whnf) | (refine fun hln => ?_; (try rw [List.length_map] at hln); unfold maxLen at hln; conv => whnf) | fail
        rfl
      · rw [if_pos (by decide)] at s1
        clear hlaw hdt hsq hel
        repeat' first | ((refine AW_imp (Imp.freezeB 900 (fr' := [(2, .x (.b 2 0)), (1, i8sAV xs)]) (σ' := [(2, .box [.d (.s 1 (rwPV rows)), .d (intsPV M)])]) rfl ⟨⟨_, rfl, .inl rfl⟩, ⟨_, rfl, .inl rfl⟩, trivial⟩ ⟨⟨_, rfl, .inr ⟨_, _, rfl, rfl, ⟨.inl rfl, .inr ⟨_, rfl, hle, congrArg SV.d hal.symm⟩, trivial⟩⟩⟩, trivial⟩ rfl rfl) (AW_region (id := 15) hTt ?_)); conv => whnf) | with_reducible refine AW_seq ?_ | with_reducible refine AW_block ?_ | ((first | with_reducible refine AW_skip ?_ | with_reducible refine AW_exit ?_ | with_reducible refine AW_ret ?_ | with_reducible refine AW_region hTt ?_ | fail); conv => whnf) | (exact absurd hb (by omega)) | ((first | ((refine ⟨_, (s1).call rfl rfl, ?_⟩); (rintro _ _ ⟨rfl, rfl⟩)) | refine ⟨_, fun _ => (haw).call rfl rfl, ?_⟩ | refine ⟨iv .i64 0, (fun h => absurd h (by decide) : _ = true → ACall Tryd.prog 33 _ _ _), ?_⟩ | refine ⟨bv true, fun h => absurd h (by decide), ?_⟩ | fail); conv => whnf) | (refine AW_cond rfl (fun _ => ?_) (fun hb => absurd (show true = false from hb) (by decide))) | (refine AW_cond rfl (fun hb => ?_) (fun hb => ?_) <;> first | (replace hb := of_decide_eq_true hb; try simp only [List.length_map] at hb) | (replace hb := of_decide_eq_false hb; try simp only [List.length_map] at hb) | (simp only [List.length_map, bne_iff_ne, ne_eq, beq_iff_eq, bne_eq_false_iff_eq, beq_eq_false_iff_ne, decide_eq_true_eq, decide_eq_false_iff_not, Bool.not_eq_true', Bool.not_eq_false', Int.natCast_inj] at hb) | skip) | ((refine andA ?_); conv => whnf) | (refine fun hln => ?_; (try rw [List.length_map] at hln); unfold maxLen at hln; conv => whnf) | fail
        rfl
  · have hct := cnd_t hc
    refine FnC_of_AW hTt Tryd.func9 rfl (by kernel_rfl) (res := [.tmp 4]) rfl Tryd.ntmps9 (by simp) fun w0 K0 => ?_
    dsimp only [entry]
    repeat' first | with_reducible refine AW_seq ?_ | ((first | with_reducible refine AW_skip ?_ | with_reducible refine AW_ret ?_ | with_reducible refine AW_region hTt ?_ | fail); conv => whnf) | (exact absurd (hct.symm.trans hb) tf) | ((refine ⟨_, (haw).call rfl rfl, ?_⟩); (rintro _ _ ⟨rfl, rfl⟩); conv => whnf) | (refine AW_cond rfl (fun hb => ?_) (fun hb => ?_) <;> first | (replace hb := of_decide_eq_true hb; try simp only [List.length_map] at hb) | (replace hb := of_decide_eq_false hb; try simp only [List.length_map] at hb) | (simp only [List.length_map, bne_iff_ne, ne_eq, beq_iff_eq, bne_eq_false_iff_eq, beq_eq_false_iff_ne, decide_eq_true_eq, decide_eq_false_iff_not, Bool.not_eq_true', Bool.not_eq_false', Int.natCast_inj] at hb) | skip) | ((refine andA ?_); conv => whnf) | (refine fun hln => ?_; (try rw [List.length_map] at hln); unfold maxLen at hln; conv => whnf) | fail
    rfl
end Go.Proofs.YtnpleednkmhhhaaDoor
