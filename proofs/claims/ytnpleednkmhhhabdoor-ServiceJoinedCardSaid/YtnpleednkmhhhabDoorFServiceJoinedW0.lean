/- What the functions that this law reaches return: part 0. No condition. -/
import Derived.Test.YtnpleednkmhhhabDoorB04
set_option linter.all false
namespace Go.Proofs.YtnpleednkmhhhabDoor
open Go Go.QL
set_option maxHeartbeats 1600000
attribute [local irreducible] ACall FnC YC
theorem in_eq {lo hi n : Int} : (bif decide (n ≥ lo) then decide (n ≤ hi) else false) = !outB lo hi n := by
  cases h : outB lo hi n with
  | false => have := outB_false.1 h; simp [this.1, this.2]
  | true =>
    have : ¬ (lo ≤ n ∧ n ≤ hi) := fun e => by rw [outB_false.2 e] at h; cases h
    cases h1 : decide (n ≥ lo) with
    | false => rfl
    | true => have := of_decide_eq_true h1; simp; omega
theorem rin_fn (n lo hi : Int) : FnC Tryd.prog 61 [iv .i64 n, iv .i64 lo, iv .i64 hi] (bv (!outB lo hi n)) := by
  rw [← in_eq]
  refine FnC_of_AW hTt Tryd.func61 rfl (by kernel_rfl) (res := [.tmp 6]) rfl Tryd.ntmps61 (by simp) fun w0 K0 => ?_
  dsimp only [entry]
  repeat' first | with_reducible refine AW_seq ?_ | ((first | with_reducible refine AW_ret ?_ | with_reducible refine AW_region hTt ?_ | refine andA ?_ | fail); conv => whnf) | fail
  rfl
theorem rall_fn (l : List Int) (hi : Int) (h : -4611686018427387904 ≤ hi ∧ hi ≤ 4611686018427387904) : FnC Tryd.prog 46 [sl l, iv .i64 hi] (bv (!outL (-hi) hi l)) := by
  have hll : (l.map (fun n : Int => [PV.v (.int .i64 n)])).length = l.length := List.length_map _
  rw [← Int.zero_sub hi]
  have hin := fun n => rin_fn n (0 - hi) hi
  refine FnC_of_AW hTt Tryd.func46 rfl (by kernel_rfl) (res := [.tmp 4]) rfl Tryd.ntmps46 (by simp) fun w0 K0 => ?_
  dsimp only [entry]
  repeat' first | with_reducible refine AW_seq ?_ | with_reducible refine AW_block ?_ | ((with_reducible refine AW_region hTt ?_); conv => whnf) | fail
  refine AW_loop (fun i : Nat => [(5, iv .i64 i), (0, sl l), (1, iv .i64 hi)]) (fun _ => [])
    (fun i => i ≤ l.length ∧ ∀ j (h1 : j < l.length), j < i → outB (0 - hi) hi l[j] = false) (fun i => l.length - i) 0 ⟨Nat.zero_le _, fun j _ h => absurd h (Nat.not_lt_zero _)⟩ impA ?_
  rintro i ⟨hi1, hz⟩
  rcases Nat.lt_or_ge i l.length with hil | hil
  · have ho := hin l[i]
    generalize hb0 : outB (0 - hi) hi l[i] = b at ho
    cases b with
    | true =>
      have hr : outL (0 - hi) hi l = true := List.any_eq_true.2 ⟨_, List.getElem_mem hil, hb0⟩
      rw [hr]
      clear hin hz hb0 hr
      repeat' first | with_reducible refine AW_seq ?_ | with_reducible refine AW_block ?_ | ((first | with_reducible refine AW_skip ?_ | with_reducible refine AW_exit ?_ | with_reducible refine AW_ret ?_ | with_reducible refine AW_region hTt ?_ | fail); conv => whnf) | (exact absurd hb (by omega)) | ((refine ⟨_, (ho).call rfl rfl, ?_⟩); (rintro _ _ ⟨rfl, rfl⟩); conv => whnf) | (refine AW_cond rfl (fun _ => ?_) (fun hb => absurd (show true = false from hb) (by decide))) | (refine AW_cond rfl (fun hb => ?_) (fun hb => ?_) <;> first | (replace hb := of_decide_eq_true hb; try simp only [List.length_map] at hb) | (replace hb := of_decide_eq_false hb; try simp only [List.length_map] at hb)) | ((first | refine ⟨_, wrap_of (by first | omega | (simp only [List.length_map]; omega)), ?_⟩ | refine andA ?_ | with_reducible refine Exists.intro _ (And.intro (gd_any (And.intro (by omega) (map_get (by omega)))) ?_) | fail); conv => whnf) | (refine fun hln => ?_; (try rw [List.length_map] at hln); unfold maxLen at hln; conv => whnf) | fail
      rfl
    | false =>
      clear hin
      repeat' first | with_reducible refine AW_seq ?_ | with_reducible refine AW_block ?_ | ((first | with_reducible refine AW_skip ?_ | with_reducible refine AW_exit ?_ | with_reducible refine AW_ret ?_ | with_reducible refine AW_region hTt ?_ | fail); conv => whnf) | (exact absurd hb (by omega)) | ((refine ⟨_, (ho).call rfl rfl, ?_⟩); (rintro _ _ ⟨rfl, rfl⟩); conv => whnf) | (refine AW_cond rfl (fun hb => absurd (show false = true from hb) (by decide)) (fun _ => ?_)) | (refine AW_cond rfl (fun hb => ?_) (fun hb => ?_) <;> first | (replace hb := of_decide_eq_true hb; try simp only [List.length_map] at hb) | (replace hb := of_decide_eq_false hb; try simp only [List.length_map] at hb)) | ((first | refine ⟨_, wrap_of (by first | omega | (simp only [List.length_map]; omega)), ?_⟩ | refine andA ?_ | with_reducible refine Exists.intro _ (And.intro (gd_any (And.intro (by omega) (map_get (by omega)))) ?_) | fail); conv => whnf) | (refine fun hln => ?_; (try rw [List.length_map] at hln); unfold maxLen at hln; conv => whnf) | fail
      exact ⟨i + 1, ⟨by omega, fun j h1 h3 => by
        by_cases e : j = i
        · subst e; exact hb0
        · exact hz j h1 (by omega)⟩, by omega, impA⟩
  · have hr : outL (0 - hi) hi l = false := outL_false.2 fun n hn => by
      obtain ⟨j, hj, rfl⟩ := List.getElem_of_mem hn
      exact outB_false.1 (hz j hj (by omega))
    rw [hr]
    repeat' first | with_reducible refine AW_seq ?_ | with_reducible refine AW_block ?_ | ((first | with_reducible refine AW_skip ?_ | with_reducible refine AW_exit ?_ | with_reducible refine AW_ret ?_ | with_reducible refine AW_region hTt ?_ | fail); conv => whnf) | (exact absurd hb (by omega)) | (refine AW_cond rfl (fun hb => ?_) (fun hb => ?_) <;> first | (replace hb := of_decide_eq_true hb; try simp only [List.length_map] at hb) | (replace hb := of_decide_eq_false hb; try simp only [List.length_map] at hb)) | (refine fun hln => ?_; (try rw [List.length_map] at hln); unfold maxLen at hln; conv => whnf) | fail
    rfl
theorem size_fn (n : Int) (h : lim n) : FnC Tryd.prog 13 [iv .i64 n] (iv .i64 (n.natAbs : Int)) := by
  unfold lim at h
  have w0 : IntKind.i64.wrap (0 - n) = -n := by rw [Int.zero_sub]; exact wrap_of (by omega)
  refine FnC_of_AW hTt Tryd.func13 rfl (by kernel_rfl) (res := [.tmp 2]) rfl Tryd.ntmps13 (by simp) fun w0 K0 => ?_
  dsimp only [entry]
  repeat' first | with_reducible refine AW_seq ?_ | ((first | with_reducible refine AW_ret ?_ | with_reducible refine AW_region hTt ?_ | refine ⟨_, wrap_of (by first | omega | (simp only [List.length_map]; omega)), ?_⟩ | fail); conv => whnf) | fail
  exact congrArg (fun x : Int => some (iv .i64 x)) (show (if 0 - n > n then 0 - n else n) = _ by split <;> omega)
theorem power_fn (x : Int) (n : Nat) (hn : n ≤ 1000) (h : ∀ k, k ≤ n → lim (x ^ k)) : FnC Tryd.prog 58 [iv .i64 x, iv .i64 n] (iv .i64 (x ^ n)) := by
  refine FnC_of_AW hTt Tryd.func58 rfl (by kernel_rfl) (res := [.tmp 4]) rfl Tryd.ntmps58 (by simp) fun w0 K0 => ?_
  dsimp only [entry]
  repeat' first | with_reducible refine AW_seq ?_ | with_reducible refine AW_block ?_ | ((with_reducible refine AW_region hTt ?_); conv => whnf) | fail
  refine AW_loop (fun i : Nat => [(6, iv .i64 i), (5, iv .i64 (x ^ i)), (0, iv .i64 x), (1, iv .i64 n)]) (fun _ => [])
    (fun i => i ≤ n) (fun i => n - i) 0 (Nat.zero_le _) (Imp.forget (by repeat' (first | exact trivial | refine And.intro ?_ ?_ | exact ivE (Int.pow_zero x).symm | rfl | exact ivE (by first | omega | (simp only [List.length_map, List.length_append, List.length_singleton] <;> omega)) | exact oE (by first | omega | (simp only [List.length_map, List.length_append, List.length_singleton] <;> omega)))) (by repeat' (first | exact trivial | refine And.intro ?_ ?_ | exact ivE (Int.pow_zero x).symm | rfl | exact ivE (by first | omega | (simp only [List.length_map, List.length_append, List.length_singleton] <;> omega)) | exact oE (by first | omega | (simp only [List.length_map, List.length_append, List.length_singleton] <;> omega)))) (by kernel_rfl) (by kernel_rfl) (by kernel_rfl)) ?_
  intro i hi
  rcases Nat.lt_or_ge i n with hil | hil
  · have w0 : IntKind.i64.wrap (x ^ i * x) = x ^ (i + 1) := by
      have e : x ^ (i + 1) = x ^ i * x := Int.pow_succ x i
      have := h (i + 1) hil
      rw [e] at this ⊢
      unfold lim at this
      exact wrap_of (by omega)
    clear h
    repeat' first | with_reducible refine AW_seq ?_ | with_reducible refine AW_block ?_ | ((first | with_reducible refine AW_skip ?_ | with_reducible refine AW_exit ?_ | with_reducible refine AW_ret ?_ | with_reducible refine AW_region hTt ?_ | fail); conv => whnf) | (exact absurd hb (by omega)) | ((refine ⟨_, w0, ?_⟩); conv => whnf) | (refine AW_cond rfl (fun hb => ?_) (fun hb => ?_) <;> first | (replace hb := of_decide_eq_true hb; try simp only [List.length_map] at hb) | (replace hb := of_decide_eq_false hb; try simp only [List.length_map] at hb)) | ((refine ⟨_, wrap_of (by first | omega | (simp only [List.length_map]; omega)), ?_⟩); conv => whnf) | fail
    exact ⟨i + 1, by omega, by omega, impA⟩
  · obtain rfl : i = n := by omega
    repeat' first | with_reducible refine AW_seq ?_ | with_reducible refine AW_block ?_ | ((first | with_reducible refine AW_skip ?_ | with_reducible refine AW_exit ?_ | with_reducible refine AW_ret ?_ | with_reducible refine AW_region hTt ?_ | fail); conv => whnf) | (exact absurd hb (by omega)) | (refine AW_cond rfl (fun hb => ?_) (fun hb => ?_) <;> first | (replace hb := of_decide_eq_true hb; try simp only [List.length_map] at hb) | (replace hb := of_decide_eq_false hb; try simp only [List.length_map] at hb)) | fail
    rfl
theorem poly_fn (p : List Int) : FnC Tryd.prog 78 [sl p] (iv .i64 (checkE p)) := by
  have hll : (p.map (fun n : Int => [PV.v (.int .i64 n)])).length = p.length := List.length_map _
  have h1 := rin_fn ((p.map (fun n : Int => [PV.v (.int .i64 n)])).length : Int) 1 5
  have h2 := rall_fn p 100 (by decide)
  unfold checkE
  rw [outL_one, ← hll]
  generalize outB 1 5 ((p.map (fun n : Int => [PV.v (.int .i64 n)])).length : Int) = b1 at h1
  rw [show (-100 : Int) = -100 from rfl] at h2
  generalize outL (-100) 100 p = b2 at h2
  cases b1 <;> cases b2 <;> (
    refine FnC_of_AW hTt Tryd.func78 rfl (by kernel_rfl) (res := [.tmp 2]) rfl Tryd.ntmps78 (by simp) fun w0 K0 => ?_
    dsimp only [entry]
    repeat' first | with_reducible refine AW_seq ?_ | ((first | with_reducible refine AW_skip ?_ | with_reducible refine AW_ret ?_ | with_reducible refine AW_region hTt ?_ | ((refine ⟨_, (h1).call rfl rfl, ?_⟩); (rintro _ _ ⟨rfl, rfl⟩)) | ((refine ⟨_, (h2).call rfl rfl, ?_⟩); (rintro _ _ ⟨rfl, rfl⟩)) | fail); conv => whnf) | (refine AW_cond rfl (fun _ => ?_) (fun hb => absurd (show true = false from hb) (by decide))) | (refine AW_cond rfl (fun hb => absurd (show false = true from hb) (by decide)) (fun _ => ?_)) | (refine fun hln => ?_; (try rw [List.length_map] at hln); unfold maxLen at hln; conv => whnf) | fail
    rfl)
theorem interval_fn (a b : Int) : FnC Tryd.prog 79 [iv .i64 a, iv .i64 b] (iv .i64 (judgeE a b)) := by
  have h1 := rin_fn a (-10) 10
  have h2 := rin_fn b (-10) 10
  unfold judgeE
  rw [show outL (-10) 10 [a, b] = (outB (-10) 10 a || outB (-10) 10 b) by unfold outL; simp]
  generalize outB (-10) 10 a = b1 at h1
  generalize outB (-10) 10 b = b2 at h2
  cases b1 <;> cases b2 <;> by_cases hba : b ≤ a <;> simp only [hba, Bool.or_true, Bool.or_false, Bool.or_self, if_true, if_false, ite_true, ite_false, reduceIte] <;> (
    refine FnC_of_AW hTt Tryd.func79 rfl (by kernel_rfl) (res := [.tmp 4]) rfl Tryd.ntmps79 (by simp) fun w0 K0 => ?_
    dsimp only [entry]
    repeat' first | with_reducible refine AW_seq ?_ | ((first | with_reducible refine AW_skip ?_ | with_reducible refine AW_ret ?_ | with_reducible refine AW_region hTt ?_ | fail); conv => whnf) | (exact absurd hb (by omega)) | ((first | ((refine ⟨_, (h1).call rfl rfl, ?_⟩); (rintro _ _ ⟨rfl, rfl⟩)) | refine ⟨_, fun _ => (h2).call rfl rfl, ?_⟩ | fail); conv => whnf) | (refine AW_cond rfl (fun _ => ?_) (fun hb => absurd (show true = false from hb) (by decide))) | (refine AW_cond rfl (fun hb => absurd (show false = true from hb) (by decide)) (fun _ => ?_)) | (refine AW_cond rfl (fun hb => ?_) (fun hb => ?_) <;> first | (replace hb := of_decide_eq_true hb; try simp only [List.length_map] at hb) | (replace hb := of_decide_eq_false hb; try simp only [List.length_map] at hb)) | ((refine andA ?_); conv => whnf) | fail
    rfl)
end Go.Proofs.YtnpleednkmhhhabDoor
namespace Go.Proofs.YtnpleednkmhhhabDoor
open Go Go.QL
set_option maxHeartbeats 1600000
attribute [local irreducible] ACall FnC YC
theorem reduced_fn (n d : Int) (hn : lim n) (hd : lim d) (h0 : d ≠ 0) : FnC Tryd.prog 28 [iv .i64 n, iv .i64 d] (r2AV (redP n d)) := by
  have z1 := size_fn n hn
  have z2 := size_fn d hd
  have key : ∀ c : Int, c.natAbs = Int.gcd n d → decide (c < 0) = decide (d < 0) → lim (n.tdiv c) ∧ lim (d.tdiv c) ∧ c ≠ 0 ∧ (n.tdiv c, d.tdiv c) = redP n d := by
    intro c h1 h2
    have hg0 : 0 < Int.gcd n d := Int.gcd_pos_of_ne_zero_right n h0
    have h3 := Int.natAbs_tdiv_le_natAbs n c
    have h4 := Int.natAbs_tdiv_le_natAbs d c
    unfold lim at *
    exact ⟨by omega, by omega, by omega, tdiv_gcd h0 h1 h2⟩
  have hgg : Int.gcd (n.natAbs : Int) (d.natAbs : Int) = Int.gcd n d := by unfold Int.gcd; simp
  have hln1 : (n.natAbs : Int) ≤ 4611686018427387904 := by unfold lim at hn; omega
  have hln2 : (d.natAbs : Int) ≤ 4611686018427387904 := by unfold lim at hd; omega
  refine FnC_of_AW hTt Tryd.func28 rfl (by kernel_rfl) (res := [.cell 4 63]) rfl Tryd.ntmps28 (by simp) fun w0 K0 => ?_
  dsimp only [entry]
  repeat' first | with_reducible refine AW_seq ?_ | with_reducible refine AW_block ?_ | ((first | with_reducible refine AW_region hTt ?_ | ((refine ⟨_, (z1).call rfl rfl, ?_⟩); (rintro _ _ ⟨rfl, rfl⟩)) | ((refine ⟨_, (z2).call rfl rfl, ?_⟩); (rintro _ _ ⟨rfl, rfl⟩)) | fail); conv => whnf) | fail
  clear z1 z2
  refine AW_loop (fun p : Int × Int => [(6, iv .i64 p.2), (5, iv .i64 p.1), (0, iv .i64 n), (1, iv .i64 d), (4, .x (.b 4 0))]) (fun _ => [(4, .box [.d (.v (.int .i64 0)), .d (.v (.int .i64 0))])])
    (fun p => 0 ≤ p.1 ∧ p.1 ≤ 4611686018427387904 ∧ 0 ≤ p.2 ∧ p.2 ≤ 4611686018427387904 ∧ Int.gcd p.1 p.2 = Int.gcd n d) (fun p => p.2.natAbs) ((n.natAbs : Int), (d.natAbs : Int)) ⟨by show (0 : Int) ≤ (n.natAbs : Int); omega, hln1, by show (0 : Int) ≤ (d.natAbs : Int); omega, hln2, hgg⟩ impA ?_
  rintro ⟨a, b⟩ ⟨ha0, ha, hb0, hbl, hg⟩
  dsimp only at ha0 ha hb0 hbl hg ⊢
  clear hgg hln1 hln2
  by_cases hz : b = 0
  · subst hz
    rw [Int.gcd_zero_right] at hg
    by_cases hs : d < 0
    · obtain ⟨k1, k2, k3, k4⟩ := key (-a) (by omega) (by rw [decide_eq_true hs]; have := Int.gcd_pos_of_ne_zero_right n h0; exact decide_eq_true (by omega))
      rw [← k4]
      unfold lim at k1 k2
      clear key hg k4
      have w0 : IntKind.i64.wrap (0 - a) = -a := by rw [Int.zero_sub]; exact wrap_of (by omega)
      have w1 : IntKind.i64.wrap (n.tdiv (-a)) = n.tdiv (-a) := wrap_of (by omega)
      have w2 : IntKind.i64.wrap (d.tdiv (-a)) = d.tdiv (-a) := wrap_of (by omega)
      repeat' first | with_reducible refine AW_seq ?_ | ((first | with_reducible refine AW_skip ?_ | with_reducible refine AW_exit ?_ | with_reducible refine AW_ret ?_ | with_reducible refine AW_region hTt ?_ | refine AW_draw hTt hMix (id := 6) 6 false [0, 0, 3, 0, 0, 24, 63, 127] (by kernel_rfl) rfl rfl (by kernel_rfl) ?_ | fail); conv => whnf) | (exact absurd hb (by omega)) | ((first | refine And.intro (gd_none k3) ?_ | refine ⟨_, w0, ?_⟩ | refine ⟨_, w1, ?_⟩ | refine ⟨_, w2, ?_⟩ | fail); conv => whnf) | (refine AW_cond rfl (fun hb => absurd (show false = true from hb) (by decide)) (fun _ => ?_)) | (refine AW_cond rfl (fun hb => ?_) (fun hb => ?_) <;> first | (replace hb := of_decide_eq_true hb; try simp only [List.length_map] at hb) | (replace hb := of_decide_eq_false hb; try simp only [List.length_map] at hb) | (simp only [List.length_map, bne_iff_ne, ne_eq, beq_iff_eq, bne_eq_false_iff_eq, beq_eq_false_iff_ne, decide_eq_true_eq, decide_eq_false_iff_not, Bool.not_eq_true', Bool.not_eq_false', Int.natCast_inj] at hb) | skip) | ((refine andA ?_); conv => whnf) | fail
      rfl
    · obtain ⟨k1, k2, k3, k4⟩ := key a hg (by rw [decide_eq_false hs]; exact decide_eq_false (by omega))
      rw [← k4]
      unfold lim at k1 k2
      clear key hg k4
      have w1 : IntKind.i64.wrap (n.tdiv a) = n.tdiv a := wrap_of (by omega)
      have w2 : IntKind.i64.wrap (d.tdiv a) = d.tdiv a := wrap_of (by omega)
      repeat' first | with_reducible refine AW_seq ?_ | ((first | with_reducible refine AW_skip ?_ | with_reducible refine AW_exit ?_ | with_reducible refine AW_ret ?_ | with_reducible refine AW_region hTt ?_ | refine AW_draw hTt hMix (id := 6) 6 false [0, 0, 3, 0, 0, 24, 63, 127] (by kernel_rfl) rfl rfl (by kernel_rfl) ?_ | fail); conv => whnf) | (exact absurd hb (by omega)) | ((first | refine And.intro (gd_none k3) ?_ | refine ⟨_, w1, ?_⟩ | refine ⟨_, w2, ?_⟩ | fail); conv => whnf) | (refine AW_cond rfl (fun hb => absurd (show false = true from hb) (by decide)) (fun _ => ?_)) | (refine AW_cond rfl (fun hb => ?_) (fun hb => ?_) <;> first | (replace hb := of_decide_eq_true hb; try simp only [List.length_map] at hb) | (replace hb := of_decide_eq_false hb; try simp only [List.length_map] at hb) | (simp only [List.length_map, bne_iff_ne, ne_eq, beq_iff_eq, bne_eq_false_iff_eq, beq_eq_false_iff_ne, decide_eq_true_eq, decide_eq_false_iff_not, Bool.not_eq_true', Bool.not_eq_false', Int.natCast_inj] at hb) | skip) | ((refine andA ?_); conv => whnf) | fail
      rfl
  · have hm0 := Int.emod_nonneg a hz
    have hm1 := Int.emod_lt_of_pos a (show 0 < b by omega)
    have ht : a.tmod b = a % b := Int.tmod_eq_emod_of_nonneg ha0
    have hgm : Int.gcd b (a.tmod b) = Int.gcd n d := by rw [gcd_tmod]; exact hg
    rw [ht] at hgm
    have w0 : IntKind.i64.wrap (a.tmod b) = a % b := by rw [ht]; exact wrap_of (by omega)
    clear key
    repeat' first | with_reducible refine AW_seq ?_ | with_reducible refine AW_block ?_ | ((first | with_reducible refine AW_skip ?_ | with_reducible refine AW_exit ?_ | with_reducible refine AW_region hTt ?_ | refine AW_draw hTt hMix (id := 3) 5 false [0, 0, 0, 6, 3, 31] (by kernel_rfl) rfl rfl (by kernel_rfl) ?_ | fail); conv => whnf) | (exact absurd hb (by omega)) | ((first | refine And.intro (gd_none hz) ?_ | refine ⟨a % b, ht, ?_⟩ | fail); conv => whnf) | (refine AW_cond rfl (fun hb => ?_) (fun hb => ?_) <;> first | (replace hb := of_decide_eq_true hb; try simp only [List.length_map] at hb) | (replace hb := of_decide_eq_false hb; try simp only [List.length_map] at hb) | (simp only [List.length_map, bne_iff_ne, ne_eq, beq_iff_eq, bne_eq_false_iff_eq, beq_eq_false_iff_ne, decide_eq_true_eq, decide_eq_false_iff_not, Bool.not_eq_true', Bool.not_eq_false', Int.natCast_inj] at hb) | skip) | ((refine andA ?_); conv => whnf) | fail
    exact ⟨(b, a % b), ⟨hb0, hbl, hm0, by show a % b ≤ 4611686018427387904; omega, hgm⟩, by show (a % b).natAbs < b.natAbs; omega, impA⟩
def sysE (s : SysT) : Int := if longE s = true then 3 else if rangeE s = true then 7 else 0
theorem sysE_1 {s : SysT} (h : outB 1 4 (s.rows.length : Int) = true) : sysE s = 3 := by
  have : longE s = true := by unfold longE; rw [outL_one, h]; rfl
  unfold sysE; rw [if_pos this]
theorem sysE_2 {s : SysT} (h : s.right.length ≠ s.rows.length) : sysE s = 3 := by
  have : longE s = true := by unfold longE; rw [decide_eq_true h]; simp
  unfold sysE; rw [if_pos this]
theorem sysE_3 {s : SysT} {i : Nat} (hi : i < s.rows.length) (h : s.rows[i].length ≠ s.rows.length) : sysE s = 3 := by
  have : longE s = true := by
    unfold longE
    rw [List.any_eq_true.2 ⟨_, List.getElem_mem hi, decide_eq_true h⟩]; simp
  unfold sysE; rw [if_pos this]
theorem sysE_4 {s : SysT} (h1 : outB 1 4 (s.rows.length : Int) = false) (h2 : s.right.length = s.rows.length) (h3 : ∀ j (h : j < s.rows.length), j < s.rows.length → s.rows[j].length = s.rows.length) :
    sysE s = if (!outL (-10000) 10000 s.right && !(s.rows.take s.rows.length).any (outL (-100) 100)) = true then 0 else 7 := by
  have : longE s = false := by
    unfold longE
    rw [outL_one, h1, decide_eq_false (by simpa using h2), Bool.or_false, Bool.false_or, List.any_eq_false]
    intro r hr
    obtain ⟨j, hj, rfl⟩ := List.getElem_of_mem hr
    simpa using h3 j hj hj
  unfold sysE
  rw [if_neg (by rw [this]; decide), List.take_length]
  unfold rangeE
  cases outL (-10000) 10000 s.right <;> cases s.rows.any (outL (-100) 100) <;> rfl
end Go.Proofs.YtnpleednkmhhhabDoor
namespace Go.Proofs.YtnpleednkmhhhabDoor
open Go Go.QL
set_option maxHeartbeats 1600000
attribute [local irreducible] ACall FnC YC
theorem gcd_fn (n d : Int) (hn : lim n) (hd : lim d) : FnC Tryd.prog 67 [iv .i64 n, iv .i64 d] (iv .i64 (Int.gcd n d : Int)) := by
  have z1 := size_fn n hn
  have z2 := size_fn d hd
  have hgg : Int.gcd (n.natAbs : Int) (d.natAbs : Int) = Int.gcd n d := by unfold Int.gcd; simp
  have hln1 : (n.natAbs : Int) ≤ 4611686018427387904 := by unfold lim at hn; omega
  have hln2 : (d.natAbs : Int) ≤ 4611686018427387904 := by unfold lim at hd; omega
  refine FnC_of_AW hTt Tryd.func67 rfl (by kernel_rfl) (res := [.tmp 4]) rfl Tryd.ntmps67 (by simp) fun w0 K0 => ?_
  dsimp only [entry]
  repeat' first | with_reducible refine AW_seq ?_ | with_reducible refine AW_block ?_ | with_reducible refine AW_scope ?_ | ((first | with_reducible refine AW_skip ?_ | with_reducible refine AW_label ?_ | with_reducible refine AW_exit ?_ | with_reducible refine AW_ret ?_ | with_reducible refine AW_region hTt ?_ | refine AW_draw hTt hMix (id := 3) 5 false [0, 0, 0, 6, 3, 31] (by kernel_rfl) rfl rfl (by kernel_rfl) ?_ | refine LateGo.mk ⟨_, rfl, ?_⟩ | refine LateGo.mk ⟨.x .j, rfl, ?_⟩ | ((refine ⟨_, (z1).call rfl rfl, ?_⟩); (rintro _ _ ⟨rfl, rfl⟩)) | refine ⟨_, fun _ => (z1).call rfl rfl, ?_⟩ | refine ⟨_, fun _ _ => (z1).call rfl rfl, ?_⟩ | ((refine ⟨_, (z2).call rfl rfl, ?_⟩); (rintro _ _ ⟨rfl, rfl⟩)) | refine ⟨_, fun _ => (z2).call rfl rfl, ?_⟩ | refine ⟨_, fun _ _ => (z2).call rfl rfl, ?_⟩ | fail); conv => whnf) | (refine AW_cond rfl (fun _ => ?_) (fun hb => absurd (show true = false from hb) (by decide))) | (refine AW_cond rfl (fun hb => absurd (show false = true from hb) (by decide)) (fun _ => ?_)) | (refine AW_cond rfl (fun _ => ?_) (fun hb => absurd hb (by decide))) | (refine AW_cond rfl (fun hb => absurd hb (by decide)) (fun _ => ?_)) | (refine AW_cond rfl (fun hb => ?_) (fun hb => ?_) <;> first | (replace hb := of_decide_eq_true hb; try simp only [List.length_map] at hb) | (replace hb := of_decide_eq_false hb; try simp only [List.length_map] at hb) | (simp only [List.length_map, bne_iff_ne, ne_eq, beq_iff_eq, bne_eq_false_iff_eq, beq_eq_false_iff_ne, decide_eq_true_eq, decide_eq_false_iff_not, Bool.not_eq_true', Bool.not_eq_false', Int.natCast_inj] at hb) | skip) | ((first | refine ⟨_, wrap_of (by first | omega | (simp only [List.length_map]; omega)), ?_⟩ | refine ⟨IntKind.wrap _ _, rfl, ?_⟩ | refine andA ?_ | with_reducible refine Exists.intro _ (And.intro (gd_any (And.intro (by omega) (map_get (by omega)))) ?_) | with_reducible refine And.intro (gd_any (And.intro (by omega) (And.intro (by first | omega | (simp only [List.length_map]; omega)) (by first | omega | (simp only [List.length_map]; omega) | (simp only [List.length_set, List.length_map]; omega))))) ?_ | with_reducible refine Exists.intro _ (And.intro (gd_any (map_get' (by omega) (by omega))) (And.intro (And.intro (Nat.le_of_ble_eq_true rfl) rfl) ?_)) | with_reducible refine Exists.intro _ (And.intro (gd_any (And.intro (by omega) (map_get' (by omega) (by omega)))) ?_) | with_reducible refine And.intro (And.intro (by omega) (And.intro (by first | omega | (simp only [List.length_map]; omega)) (by first | omega | (simp only [List.length_map, List.length_set]; omega)))) ?_ | with_reducible refine Exists.intro _ (And.intro (map_get' (by omega) (by omega)) (And.intro (Nat.le_of_ble_eq_true rfl) ?_)) | fail); conv => whnf) | ((refine And.intro (by refine ⟨?_, ?_, ?_⟩ <;> simp [chunk, maxLen] <;> omega) ?_); conv => whnf) | (refine fun hln => ?_; (try rw [List.length_map] at hln); unfold maxLen at hln; conv => whnf) | fail
  clear z1 z2
  refine AW_loop (fun p : Int × Int => [(1, iv .i64 p.2), (0, iv .i64 p.1)]) (fun _ => [])
    (fun p => 0 ≤ p.1 ∧ p.1 ≤ 4611686018427387904 ∧ 0 ≤ p.2 ∧ p.2 ≤ 4611686018427387904 ∧ Int.gcd p.1 p.2 = Int.gcd n d) (fun p => p.2.natAbs) ((n.natAbs : Int), (d.natAbs : Int)) ⟨by show (0 : Int) ≤ (n.natAbs : Int); omega, hln1, by show (0 : Int) ≤ (d.natAbs : Int); omega, hln2, hgg⟩ impA ?_
  rintro ⟨a, b⟩ ⟨ha0, ha, hb0, hbl, hg⟩
  dsimp only at ha0 ha hb0 hbl hg ⊢
  clear hgg hln1 hln2
  by_cases hz : b = 0
  · subst hz
    rw [Int.gcd_zero_right] at hg
    rw [← hg, show (a.natAbs : Int) = a by omega]
    repeat' first | with_reducible refine AW_seq ?_ | with_reducible refine AW_block ?_ | with_reducible refine AW_scope ?_ | ((first | with_reducible refine AW_skip ?_ | with_reducible refine AW_label ?_ | with_reducible refine AW_exit ?_ | with_reducible refine AW_ret ?_ | with_reducible refine AW_region hTt ?_ | refine AW_draw hTt hMix (id := 3) 5 false [0, 0, 0, 6, 3, 31] (by kernel_rfl) rfl rfl (by kernel_rfl) ?_ | refine LateGo.mk ⟨_, rfl, ?_⟩ | refine LateGo.mk ⟨.x .j, rfl, ?_⟩ | fail); conv => whnf) | (exact absurd hb (by omega)) | (refine AW_cond rfl (fun _ => ?_) (fun hb => absurd (show true = false from hb) (by decide))) | (refine AW_cond rfl (fun hb => absurd (show false = true from hb) (by decide)) (fun _ => ?_)) | (refine AW_cond rfl (fun _ => ?_) (fun hb => absurd hb (by decide))) | (refine AW_cond rfl (fun hb => absurd hb (by decide)) (fun _ => ?_)) | (refine AW_cond rfl (fun hb => ?_) (fun hb => ?_) <;> first | (replace hb := of_decide_eq_true hb; try simp only [List.length_map] at hb) | (replace hb := of_decide_eq_false hb; try simp only [List.length_map] at hb) | (simp only [List.length_map, bne_iff_ne, ne_eq, beq_iff_eq, bne_eq_false_iff_eq, beq_eq_false_iff_ne, decide_eq_true_eq, decide_eq_false_iff_not, Bool.not_eq_true', Bool.not_eq_false', Int.natCast_inj] at hb) | skip) | ((first | refine ⟨_, wrap_of (by first | omega | (simp only [List.length_map]; omega)), ?_⟩ | refine ⟨IntKind.wrap _ _, rfl, ?_⟩ | refine andA ?_ | with_reducible refine Exists.intro _ (And.intro (gd_any (And.intro (by omega) (map_get (by omega)))) ?_) | with_reducible refine And.intro (gd_any (And.intro (by omega) (And.intro (by first | omega | (simp only [List.length_map]; omega)) (by first | omega | (simp only [List.length_map]; omega) | (simp only [List.length_set, List.length_map]; omega))))) ?_ | with_reducible refine Exists.intro _ (And.intro (gd_any (map_get' (by omega) (by omega))) (And.intro (And.intro (Nat.le_of_ble_eq_true rfl) rfl) ?_)) | with_reducible refine Exists.intro _ (And.intro (gd_any (And.intro (by omega) (map_get' (by omega) (by omega)))) ?_) | with_reducible refine And.intro (And.intro (by omega) (And.intro (by first | omega | (simp only [List.length_map]; omega)) (by first | omega | (simp only [List.length_map, List.length_set]; omega)))) ?_ | with_reducible refine Exists.intro _ (And.intro (map_get' (by omega) (by omega)) (And.intro (Nat.le_of_ble_eq_true rfl) ?_)) | fail); conv => whnf) | ((refine And.intro (by refine ⟨?_, ?_, ?_⟩ <;> simp [chunk, maxLen] <;> omega) ?_); conv => whnf) | (refine fun hln => ?_; (try rw [List.length_map] at hln); unfold maxLen at hln; conv => whnf) | fail
    rfl
  · have hm0 := Int.emod_nonneg a hz
    have hm1 := Int.emod_lt_of_pos a (show 0 < b by omega)
    have ht : a.tmod b = a % b := Int.tmod_eq_emod_of_nonneg ha0
    have hgm : Int.gcd b (a.tmod b) = Int.gcd n d := by rw [gcd_tmod]; exact hg
    rw [ht] at hgm
    repeat' first | with_reducible refine AW_seq ?_ | with_reducible refine AW_block ?_ | with_reducible refine AW_scope ?_ | ((first | with_reducible refine AW_skip ?_ | with_reducible refine AW_label ?_ | with_reducible refine AW_exit ?_ | with_reducible refine AW_ret ?_ | with_reducible refine AW_region hTt ?_ | refine AW_draw hTt hMix (id := 3) 5 false [0, 0, 0, 6, 3, 31] (by kernel_rfl) rfl rfl (by kernel_rfl) ?_ | refine LateGo.mk ⟨_, rfl, ?_⟩ | refine LateGo.mk ⟨.x .j, rfl, ?_⟩ | fail); conv => whnf) | (exact absurd hb (by omega)) | ((first | refine And.intro (gd_none hz) ?_ | refine ⟨a % b, ht, ?_⟩ | fail); conv => whnf) | (refine AW_cond rfl (fun _ => ?_) (fun hb => absurd (show true = false from hb) (by decide))) | (refine AW_cond rfl (fun hb => absurd (show false = true from hb) (by decide)) (fun _ => ?_)) | (refine AW_cond rfl (fun _ => ?_) (fun hb => absurd hb (by decide))) | (refine AW_cond rfl (fun hb => absurd hb (by decide)) (fun _ => ?_)) | (refine AW_cond rfl (fun hb => ?_) (fun hb => ?_) <;> first | (replace hb := of_decide_eq_true hb; try simp only [List.length_map] at hb) | (replace hb := of_decide_eq_false hb; try simp only [List.length_map] at hb) | (simp only [List.length_map, bne_iff_ne, ne_eq, beq_iff_eq, bne_eq_false_iff_eq, beq_eq_false_iff_ne, decide_eq_true_eq, decide_eq_false_iff_not, Bool.not_eq_true', Bool.not_eq_false', Int.natCast_inj] at hb) | skip) | ((first | refine ⟨_, wrap_of (by first | omega | (simp only [List.length_map]; omega)), ?_⟩ | refine ⟨IntKind.wrap _ _, rfl, ?_⟩ | refine andA ?_ | with_reducible refine Exists.intro _ (And.intro (gd_any (And.intro (by omega) (map_get (by omega)))) ?_) | with_reducible refine And.intro (gd_any (And.intro (by omega) (And.intro (by first | omega | (simp only [List.length_map]; omega)) (by first | omega | (simp only [List.length_map]; omega) | (simp only [List.length_set, List.length_map]; omega))))) ?_ | with_reducible refine Exists.intro _ (And.intro (gd_any (map_get' (by omega) (by omega))) (And.intro (And.intro (Nat.le_of_ble_eq_true rfl) rfl) ?_)) | with_reducible refine Exists.intro _ (And.intro (gd_any (And.intro (by omega) (map_get' (by omega) (by omega)))) ?_) | with_reducible refine And.intro (And.intro (by omega) (And.intro (by first | omega | (simp only [List.length_map]; omega)) (by first | omega | (simp only [List.length_map, List.length_set]; omega)))) ?_ | with_reducible refine Exists.intro _ (And.intro (map_get' (by omega) (by omega)) (And.intro (Nat.le_of_ble_eq_true rfl) ?_)) | fail); conv => whnf) | ((refine And.intro (by refine ⟨?_, ?_, ?_⟩ <;> simp [chunk, maxLen] <;> omega) ?_); conv => whnf) | (refine fun hln => ?_; (try rw [List.length_map] at hln); unfold maxLen at hln; conv => whnf) | fail
    exact ⟨(b, a % b), ⟨hb0, hbl, hm0, by show a % b ≤ 4611686018427387904; omega, hgm⟩, by show (a % b).natAbs < b.natAbs; omega, impA⟩
theorem lreduced_fn (x : R2) (hn : lim x.1) (hd : lim x.2) : FnC Tryd.prog 27 [r2AV x] (bv (bif decide (x.2 > 0) then ((Int.gcd x.1 x.2 : Nat) : Int) == 1 else false)) := by
  obtain ⟨n, d⟩ := x
  have h := gcd_fn n d hn hd
  dsimp only
  refine FnC_of_AW hTt Tryd.func27 rfl (by kernel_rfl) (res := [.tmp 2]) rfl Tryd.ntmps27 (by simp) fun w0 K0 => ?_
  dsimp only [entry]
  repeat' first | with_reducible refine AW_seq ?_ | with_reducible refine AW_block ?_ | with_reducible refine AW_scope ?_ | ((first | with_reducible refine AW_skip ?_ | with_reducible refine AW_label ?_ | with_reducible refine AW_exit ?_ | with_reducible refine AW_ret ?_ | with_reducible refine AW_region hTt ?_ | ((refine ⟨_, (h).call rfl rfl, ?_⟩); (rintro _ _ ⟨rfl, rfl⟩)) | refine ⟨_, fun _ => (h).call rfl rfl, ?_⟩ | refine ⟨_, fun _ _ => (h).call rfl rfl, ?_⟩ | fail); conv => whnf) | (refine AW_cond rfl (fun _ => ?_) (fun hb => absurd (show true = false from hb) (by decide))) | (refine AW_cond rfl (fun hb => absurd (show false = true from hb) (by decide)) (fun _ => ?_)) | (refine AW_cond rfl (fun _ => ?_) (fun hb => absurd hb (by decide))) | (refine AW_cond rfl (fun hb => absurd hb (by decide)) (fun _ => ?_)) | (refine AW_cond rfl (fun hb => ?_) (fun hb => ?_) <;> first | (replace hb := of_decide_eq_true hb; try simp only [List.length_map] at hb) | (replace hb := of_decide_eq_false hb; try simp only [List.length_map] at hb) | (simp only [List.length_map, bne_iff_ne, ne_eq, beq_iff_eq, bne_eq_false_iff_eq, beq_eq_false_iff_ne, decide_eq_true_eq, decide_eq_false_iff_not, Bool.not_eq_true', Bool.not_eq_false', Int.natCast_inj] at hb) | skip) | ((first | refine ⟨_, wrap_of (by first | omega | (simp only [List.length_map]; omega)), ?_⟩ | refine ⟨IntKind.wrap _ _, rfl, ?_⟩ | refine andA ?_ | with_reducible refine Exists.intro _ (And.intro (gd_any (And.intro (by omega) (map_get (by omega)))) ?_) | with_reducible refine And.intro (gd_any (And.intro (by omega) (And.intro (by first | omega | (simp only [List.length_map]; omega)) (by first | omega | (simp only [List.length_map]; omega) | (simp only [List.length_set, List.length_map]; omega))))) ?_ | with_reducible refine Exists.intro _ (And.intro (gd_any (map_get' (by omega) (by omega))) (And.intro (And.intro (Nat.le_of_ble_eq_true rfl) rfl) ?_)) | with_reducible refine Exists.intro _ (And.intro (gd_any (And.intro (by omega) (map_get' (by omega) (by omega)))) ?_) | with_reducible refine And.intro (And.intro (by omega) (And.intro (by first | omega | (simp only [List.length_map]; omega)) (by first | omega | (simp only [List.length_map, List.length_set]; omega)))) ?_ | with_reducible refine Exists.intro _ (And.intro (map_get' (by omega) (by omega)) (And.intro (Nat.le_of_ble_eq_true rfl) ?_)) | fail); conv => whnf) | ((refine And.intro (by refine ⟨?_, ?_, ?_⟩ <;> simp [chunk, maxLen] <;> omega) ?_); conv => whnf) | (refine fun hln => ?_; (try rw [List.length_map] at hln); unfold maxLen at hln; conv => whnf) | fail
  rfl
def squareB (s : SysT) : Bool := s.rows.all (fun r => decide (r.length = s.rows.length)) && (decide (s.rows.length ≤ 4) && decide (s.right.length = s.rows.length))
theorem eq_nat {a b : Nat} : ((a : Int) == (b : Int)) = decide (a = b) := by
  rw [Bool.eq_iff_iff, beq_iff_eq, decide_eq_true_iff]; omega
theorem square_f {s : SysT} {i : Nat} (hi : i < s.rows.length) (h : s.rows[i].length ≠ s.rows.length) : squareB s = false := by
  unfold squareB
  have : s.rows.all (fun r => decide (r.length = s.rows.length)) = false := List.all_eq_false.2 ⟨_, List.getElem_mem hi, by simpa using h⟩
  rw [this]; rfl
theorem square_t {s : SysT} (h : ∀ j (h : j < s.rows.length), j < s.rows.length → s.rows[j].length = s.rows.length) : squareB s = (bif decide ((s.rows.length : Int) ≤ 4) then (s.right.length : Int) == (s.rows.length : Int) else false) := by
  unfold squareB
  have : s.rows.all (fun r => decide (r.length = s.rows.length)) = true := List.all_eq_true.2 fun r hr => by
    obtain ⟨j, hj, rfl⟩ := List.getElem_of_mem hr
    simpa using h j hj hj
  rw [this, eq_nat, Bool.true_and]
  by_cases h4 : s.rows.length ≤ 4
  · rw [decide_eq_true h4, decide_eq_true (show (s.rows.length : Int) ≤ 4 by omega)]; rfl
  · rw [decide_eq_false h4, decide_eq_false (show ¬ (s.rows.length : Int) ≤ 4 by omega)]; rfl
end Go.Proofs.YtnpleednkmhhhabDoor
namespace Go.Proofs.YtnpleednkmhhhabDoor
open Go Go.QL
set_option maxHeartbeats 1600000
attribute [local irreducible] ACall FnC
theorem plus_fn (x y : R2) (hx : okR x) (hy : okR y) : FnC Tryd.prog 56 [r2AV x, r2AV y] (r2AV (plusP x y)) := by
  obtain ⟨xn, xd⟩ := x
  obtain ⟨yn, yd⟩ := y
  obtain ⟨hx1, hx2, hx3⟩ := hx
  obtain ⟨hy1, hy2, hy3⟩ := hy
  dsimp only at *
  have hr1 := reduce_fn xd yd (by unfold lim; omega) (by unfold lim; omega) (by omega)
  have hg : 0 < Int.gcd xd yd := Int.gcd_pos_of_ne_zero_right xd (by omega)
  have e1 : redP xd yd = (xd / (Int.gcd xd yd : Int), yd / (Int.gcd xd yd : Int)) := if_neg (by omega)
  unfold plusP
  dsimp only
  obtain ⟨v, hv⟩ : (Int.gcd xd yd : Int) ∣ xd := Int.gcd_dvd_left ..
  obtain ⟨u, hu⟩ : (Int.gcd xd yd : Int) ∣ yd := Int.gcd_dvd_right ..
  have ev : xd / (Int.gcd xd yd : Int) = v := by
    conv => lhs; lhs; rw [hv]
    exact Int.mul_ediv_cancel_left _ (by omega)
  have eu : yd / (Int.gcd xd yd : Int) = u := by
    conv => lhs; lhs; rw [hu]
    exact Int.mul_ediv_cancel_left _ (by omega)
  rw [e1, ev, eu] at hr1
  rw [ev, eu]
  clear e1 ev eu
  generalize (Int.gcd xd yd) = g at *
  have hv0 : 0 < v := by
    rcases Int.lt_or_le 0 v with h | h
    · exact h
    · have := Int.mul_nonneg (show (0 : Int) ≤ (g : Int) by omega) (show 0 ≤ -v by omega)
      rw [Int.mul_neg] at this; omega
  have hu0 : 0 < u := by
    rcases Int.lt_or_le 0 u with h | h
    · exact h
    · have := Int.mul_nonneg (show (0 : Int) ≤ (g : Int) by omega) (show 0 ≤ -u by omega)
      rw [Int.mul_neg] at this; omega
  have hvx : v ≤ xd := by
    have := Int.mul_le_mul_of_nonneg_right (show (1 : Int) ≤ (g : Int) by omega) (show 0 ≤ v by omega)
    omega
  have huy : u ≤ yd := by
    have := Int.mul_le_mul_of_nonneg_right (show (1 : Int) ≤ (g : Int) by omega) (show 0 ≤ u by omega)
    omega
  have hgx : (g : Int) ≤ xd := by
    have := Int.mul_le_mul_of_nonneg_left (show (1 : Int) ≤ v by omega) (show 0 ≤ (g : Int) by omega)
    omega
  have dg : xd.tdiv v = g := by rw [hv]; exact Int.mul_tdiv_cancel _ (by omega)
  have du : yd.tdiv g = u := by rw [hu]; exact Int.mul_tdiv_cancel_left _ (by omega)
  have dv : xd.tdiv g = v := by rw [hv]; exact Int.mul_tdiv_cancel_left _ (by omega)
  have m1 := mul_bd (a := xn) (b := u) (A := 1000000000000) (B := 100000) (by omega) (by omega)
  have m2 := mul_bd (a := yn) (b := v) (A := 1000000000000) (B := 100000) (by omega) (by omega)
  have m3 := mul_bd (a := v) (b := yd) (A := 100000) (B := 100000) (by omega) (by omega)
  have m4 : 0 < v * yd := Int.mul_pos hv0 hy2
  have hr2 := reduce_fn (xn * u + yn * v) (v * yd) (by unfold lim; omega) (by unfold lim; omega) (by omega)
  have w1 : IntKind.i64.wrap (xd.tdiv v) = g := by rw [dg]; exact wrap_of (by omega)
  have w2 : IntKind.i64.wrap (yd.tdiv g) = u := by rw [du]; exact wrap_of (by omega)
  have w3 : IntKind.i64.wrap (xd.tdiv g) = v := by rw [dv]; exact wrap_of (by omega)
  have w4 : IntKind.i64.wrap (xn * u) = xn * u := wrap_of (by omega)
  have w5 : IntKind.i64.wrap (yn * v) = yn * v := wrap_of (by omega)
  have w6 : IntKind.i64.wrap (v * yd) = v * yd := wrap_of (by omega)
  have w7 : IntKind.i64.wrap (xn * u + yn * v) = xn * u + yn * v := wrap_of (by omega)
  have hv1 : v ≠ 0 := by omega
  have hg1 : (g : Int) ≠ 0 := by omega
  generalize redP (xn * u + yn * v) (v * yd) = R at hr2 ⊢
  clear hv hu
  dsimp only [r2AV] at hr1 hr2 ⊢
  refine FnC_of_AW hTt Tryd.func56 rfl (by kernel_rfl) (res := [.cell 4 105]) rfl Tryd.ntmps56 (by simp) fun w0 K0 => ?_
  dsimp only [entry]
  repeat' first | with_reducible refine AW_seq ?_ | with_reducible refine AW_block ?_ | with_reducible refine AW_scope ?_ | ((first | with_reducible refine AW_skip ?_ | with_reducible refine AW_label ?_ | with_reducible refine AW_exit ?_ | with_reducible refine AW_ret ?_ | with_reducible refine AW_region hTt ?_ | refine AW_draw hTt hMix (id := 1) 8 false [0, 1, 0, 4, 0, 16, 60, 124, 255, 511] (by kernel_rfl) rfl rfl (by kernel_rfl) ?_ | refine AW_draw hTt hMix (id := 2) 22 false [0, 1, 0, 4, 0, 28, 63, 0, 128, 0, 512, 0, 3584, 8064, 16383, 0, 32768, 0, 229376, 0, 524288, 2064384, 4194303, 8388607] (by kernel_rfl) rfl rfl (by kernel_rfl) ?_ | refine LateGo.mk ⟨_, rfl, ?_⟩ | refine LateGo.mk ⟨.x .j, rfl, ?_⟩ | ((refine ⟨_, (hr1).call rfl rfl, ?_⟩); (rintro _ _ ⟨rfl, rfl⟩)) | refine ⟨_, fun _ => (hr1).call rfl rfl, ?_⟩ | refine ⟨_, fun _ _ => (hr1).call rfl rfl, ?_⟩ | ((refine ⟨_, (hr2).call rfl rfl, ?_⟩); (rintro _ _ ⟨rfl, rfl⟩)) | refine ⟨_, fun _ => (hr2).call rfl rfl, ?_⟩ | refine ⟨_, fun _ _ => (hr2).call rfl rfl, ?_⟩ | refine And.intro (gd_none hv1) ?_ | refine And.intro (gd_none hg1) ?_ | refine ⟨_, w1, ?_⟩ | refine ⟨_, w2, ?_⟩ | refine ⟨_, w3, ?_⟩ | refine ⟨_, w4, ?_⟩ | refine ⟨_, w5, ?_⟩ | refine ⟨_, w6, ?_⟩ | refine ⟨_, w7, ?_⟩ | fail); conv => whnf) | (refine AW_cond rfl (fun _ => ?_) (fun hb => absurd (show true = false from hb) (by decide))) | (refine AW_cond rfl (fun hb => absurd (show false = true from hb) (by decide)) (fun _ => ?_)) | (refine AW_cond rfl (fun _ => ?_) (fun hb => absurd hb (by decide))) | (refine AW_cond rfl (fun hb => absurd hb (by decide)) (fun _ => ?_)) | (refine AW_cond rfl (fun hb => ?_) (fun hb => ?_) <;> first | (replace hb := of_decide_eq_true hb; try simp only [List.length_map] at hb) | (replace hb := of_decide_eq_false hb; try simp only [List.length_map] at hb) | (simp only [List.length_map, bne_iff_ne, ne_eq, beq_iff_eq, bne_eq_false_iff_eq, beq_eq_false_iff_ne, decide_eq_true_eq, decide_eq_false_iff_not, Bool.not_eq_true', Bool.not_eq_false', Int.natCast_inj] at hb) | skip) | ((first | refine ⟨_, wrap_of (by first | omega | (simp only [List.length_map]; omega)), ?_⟩ | refine ⟨IntKind.wrap _ _, rfl, ?_⟩ | refine andA ?_ | with_reducible refine Exists.intro _ (And.intro (gd_any (And.intro (by omega) (map_get (by omega)))) ?_) | with_reducible refine And.intro (gd_any (And.intro (by omega) (And.intro (by first | omega | (simp only [List.length_map]; omega)) (by first | omega | (simp only [List.length_map]; omega) | (simp only [List.length_set, List.length_map]; omega))))) ?_ | with_reducible refine Exists.intro _ (And.intro (gd_any (map_get' (by omega) (by omega))) (And.intro (And.intro (Nat.le_of_ble_eq_true rfl) rfl) ?_)) | with_reducible refine Exists.intro _ (And.intro (gd_any (And.intro (by omega) (map_get' (by omega) (by omega)))) ?_) | with_reducible refine And.intro (And.intro (by omega) (And.intro (by first | omega | (simp only [List.length_map]; omega)) (by first | omega | (simp only [List.length_map, List.length_set]; omega)))) ?_ | with_reducible refine Exists.intro _ (And.intro (map_get' (by omega) (by omega)) (And.intro (Nat.le_of_ble_eq_true rfl) ?_)) | fail); conv => whnf) | ((refine And.intro (by refine ⟨?_, ?_, ?_⟩ <;> simp [chunk, maxLen] <;> omega) ?_); conv => whnf) | (refine fun hln => ?_; (try rw [List.length_map] at hln); unfold maxLen at hln; conv => whnf) | fail
  rfl
end Go.Proofs.YtnpleednkmhhhabDoor
namespace Go.Proofs.YtnpleednkmhhhabDoor
open Go Go.QL
set_option maxHeartbeats 1600000
attribute [local irreducible] ACall FnC YC
theorem area_join {p : List Int} (hp : pOK p) {a b : Int} (ha : -10 ≤ a ∧ a ≤ 10) (hb : -10 ≤ b ∧ b ≤ 10) : FnC Tryd.prog 55 [.x (.f (.func 56) [] []), r2sAV ((0, 1) :: areaL p a b p.length)] (r2AV ((areaL p a b p.length).foldl plusP (0, 1))) := by
  refine join_fn _ plusP (0, 1) _ (by rw [areaL_len]; have := hp.1; omega) fun i hi => ?_
  rw [areaL_len] at hi
  have h5 := hp.1
  have e1 : (areaL p a b p.length).take i = areaL p a b i := by
    unfold areaL
    rw [← List.map_take, List.take_range]
    congr 2; omega
  have e2 : (areaL p a b p.length)[i]'(by rw [areaL_len]; exact hi) = areaPart p a b i := by simp [areaL]
  rw [e1, e2]
  exact plus_fn _ _ (vb_okR (V := (i : Int) * 20000000) (D := fac i) (area_vb hp ha hb i (by omega)) (by omega) (by omega) (by have := fac_le (show i ≤ 5 by omega); omega)) (vb_okR (V := 20000000) (D := 5) (areaPart_vb hp ha hb i (by omega)) (by omega) (by omega) (by omega))
theorem area_fn (p : List Int) (a b : Int) : FnC Tryd.prog 22 [sl p, iv .i64 a, iv .i64 b] (.t [r2AV (areaP p a b).1, iv .i64 (areaP p a b).2]) := by
  have o1 := check_fn p
  have o2 := judge_fn a b
  have o3 := or_fn [checkE p, judgeE a b]
  unfold areaP
  by_cases he : firstNZ [checkE p, judgeE a b] ≠ 0
  · rw [if_pos he]
    generalize firstNZ [checkE p, judgeE a b] = e at *
    refine FnC_of_AW hTt Tryd.func22 rfl (by kernel_rfl) (res := [.cell 6 63, .tmp 7]) rfl Tryd.ntmps22 (by simp) fun w0 K0 => ?_
    dsimp only [entry]
    repeat' first | with_reducible refine AW_seq ?_ | with_reducible refine AW_block ?_ | with_reducible refine AW_scope ?_ | ((first | with_reducible refine AW_skip ?_ | with_reducible refine AW_label ?_ | with_reducible refine AW_exit ?_ | with_reducible refine AW_ret ?_ | with_reducible refine AW_region hTt ?_ | ((refine ⟨_, (o1).call rfl rfl, ?_⟩); (rintro _ _ ⟨rfl, rfl⟩)) | refine ⟨_, fun _ => (o1).call rfl rfl, ?_⟩ | refine ⟨_, fun _ _ => (o1).call rfl rfl, ?_⟩ | ((refine ⟨_, (o2).call rfl rfl, ?_⟩); (rintro _ _ ⟨rfl, rfl⟩)) | refine ⟨_, fun _ => (o2).call rfl rfl, ?_⟩ | refine ⟨_, fun _ _ => (o2).call rfl rfl, ?_⟩ | ((refine ⟨_, (o3).call rfl rfl, ?_⟩); (rintro _ _ ⟨rfl, rfl⟩)) | refine ⟨_, fun _ => (o3).call rfl rfl, ?_⟩ | refine ⟨_, fun _ _ => (o3).call rfl rfl, ?_⟩ | fail); conv => whnf) | (exfalso; exact he hb) | (refine AW_cond rfl (fun _ => ?_) (fun hb => absurd (show true = false from hb) (by decide))) | (refine AW_cond rfl (fun hb => absurd (show false = true from hb) (by decide)) (fun _ => ?_)) | (refine AW_cond rfl (fun _ => ?_) (fun hb => absurd hb (by decide))) | (refine AW_cond rfl (fun hb => absurd hb (by decide)) (fun _ => ?_)) | (refine AW_cond rfl (fun hb => ?_) (fun hb => ?_) <;> first | (replace hb := of_decide_eq_true hb; try simp only [List.length_map] at hb) | (replace hb := of_decide_eq_false hb; try simp only [List.length_map] at hb) | (simp only [List.length_map, bne_iff_ne, ne_eq, beq_iff_eq, bne_eq_false_iff_eq, beq_eq_false_iff_ne, decide_eq_true_eq, decide_eq_false_iff_not, Bool.not_eq_true', Bool.not_eq_false', Int.natCast_inj] at hb) | skip) | ((first | refine ⟨_, wrap_of (by first | omega | (simp only [List.length_map]; omega)), ?_⟩ | refine ⟨IntKind.wrap _ _, rfl, ?_⟩ | refine andA ?_ | with_reducible refine Exists.intro _ (And.intro (gd_any (And.intro (by omega) (map_get (by omega)))) ?_) | with_reducible refine And.intro (gd_any (And.intro (by omega) (And.intro (by first | omega | (simp only [List.length_map]; omega)) (by first | omega | (simp only [List.length_map]; omega) | (simp only [List.length_set, List.length_map]; omega))))) ?_ | with_reducible refine Exists.intro _ (And.intro (gd_any (map_get' (by omega) (by omega))) (And.intro (And.intro (Nat.le_of_ble_eq_true rfl) rfl) ?_)) | with_reducible refine Exists.intro _ (And.intro (gd_any (And.intro (by omega) (map_get' (by omega) (by omega)))) ?_) | with_reducible refine And.intro (And.intro (by omega) (And.intro (by first | omega | (simp only [List.length_map]; omega)) (by first | omega | (simp only [List.length_map, List.length_set]; omega)))) ?_ | with_reducible refine Exists.intro _ (And.intro (map_get' (by omega) (by omega)) (And.intro (Nat.le_of_ble_eq_true rfl) ?_)) | fail); conv => whnf) | ((refine And.intro (by refine ⟨?_, ?_, ?_⟩ <;> simp [chunk, maxLen] <;> omega) ?_); conv => whnf) | (refine fun hln => ?_; (try rw [List.length_map] at hln); unfold maxLen at hln; conv => whnf) | fail
    rfl
  · rw [if_neg he]
    obtain ⟨h1, h2⟩ := firstNZ_two he
    have he0 : firstNZ [checkE p, judgeE a b] = 0 := by simpa using he
    obtain ⟨hp, hp1⟩ := check_pOK h1
    obtain ⟨ha, hb, hab⟩ := judge_ok h2
    rw [he0] at o3
    have o4 := whole_fn 0
    have hj := area_join hp ha hb
    have hnum := fun j h => area_num hp ha hb j h
    have hbnd : ∀ j, j ≤ 6 → (-1000000 ≤ b ^ j ∧ b ^ j ≤ 1000000) ∧ (-1000000 ≤ a ^ j ∧ a ^ j ≤ 1000000) := fun j h => by
      have q1 := pow_bd ha j
      have q2 := pow_bd hb j
      have q3 := ten_le h
      omega
    have hp5 := hp.1
    have hal := areaL_len p a b
    clear he he0 h1 h2 hp
    generalize (areaL p a b p.length).foldl plusP (0, 1) = R at hj
    refine FnC_of_AW hTt Tryd.func22 rfl (by kernel_rfl) (res := [.cell 6 63, .tmp 7]) rfl Tryd.ntmps22 (by simp) fun w0 K0 => ?_
    dsimp only [entry]
    repeat' first | with_reducible refine AW_seq ?_ | with_reducible refine AW_block ?_ | with_reducible refine AW_scope ?_ | ((first | with_reducible refine AW_skip ?_ | with_reducible refine AW_label ?_ | with_reducible refine AW_exit ?_ | with_reducible refine AW_ret ?_ | with_reducible refine AW_region hTt ?_ | ((refine ⟨_, (o1).call rfl rfl, ?_⟩); (rintro _ _ ⟨rfl, rfl⟩)) | refine ⟨_, fun _ => (o1).call rfl rfl, ?_⟩ | refine ⟨_, fun _ _ => (o1).call rfl rfl, ?_⟩ | ((refine ⟨_, (o2).call rfl rfl, ?_⟩); (rintro _ _ ⟨rfl, rfl⟩)) | refine ⟨_, fun _ => (o2).call rfl rfl, ?_⟩ | refine ⟨_, fun _ _ => (o2).call rfl rfl, ?_⟩ | ((refine ⟨_, (o3).call rfl rfl, ?_⟩); (rintro _ _ ⟨rfl, rfl⟩)) | refine ⟨_, fun _ => (o3).call rfl rfl, ?_⟩ | refine ⟨_, fun _ _ => (o3).call rfl rfl, ?_⟩ | ((refine ⟨_, (o4).call rfl rfl, ?_⟩); (rintro _ _ ⟨rfl, rfl⟩)) | refine ⟨_, fun _ => (o4).call rfl rfl, ?_⟩ | refine ⟨_, fun _ _ => (o4).call rfl rfl, ?_⟩ | fail); conv => whnf) | (refine AW_cond rfl (fun _ => ?_) (fun hb => absurd (show true = false from hb) (by decide))) | (refine AW_cond rfl (fun hb => absurd (show false = true from hb) (by decide)) (fun _ => ?_)) | (refine AW_cond rfl (fun _ => ?_) (fun hb => absurd hb (by decide))) | (refine AW_cond rfl (fun hb => absurd hb (by decide)) (fun _ => ?_)) | (refine AW_cond rfl (fun hb => ?_) (fun hb => ?_) <;> first | (replace hb := of_decide_eq_true hb; try simp only [List.length_map] at hb) | (replace hb := of_decide_eq_false hb; try simp only [List.length_map] at hb) | (simp only [List.length_map, bne_iff_ne, ne_eq, beq_iff_eq, bne_eq_false_iff_eq, beq_eq_false_iff_ne, decide_eq_true_eq, decide_eq_false_iff_not, Bool.not_eq_true', Bool.not_eq_false', Int.natCast_inj] at hb) | skip) | ((first | refine ⟨_, wrap_of (by first | omega | (simp only [List.length_map]; omega)), ?_⟩ | refine ⟨IntKind.wrap _ _, rfl, ?_⟩ | refine andA ?_ | with_reducible refine Exists.intro _ (And.intro (gd_any (And.intro (by omega) (map_get (by omega)))) ?_) | with_reducible refine And.intro (gd_any (And.intro (by omega) (And.intro (by first | omega | (simp only [List.length_map]; omega)) (by first | omega | (simp only [List.length_map]; omega) | (simp only [List.length_set, List.length_map]; omega))))) ?_ | with_reducible refine Exists.intro _ (And.intro (gd_any (map_get' (by omega) (by omega))) (And.intro (And.intro (Nat.le_of_ble_eq_true rfl) rfl) ?_)) | with_reducible refine Exists.intro _ (And.intro (gd_any (And.intro (by omega) (map_get' (by omega) (by omega)))) ?_) | with_reducible refine And.intro (And.intro (by omega) (And.intro (by first | omega | (simp only [List.length_map]; omega)) (by first | omega | (simp only [List.length_map, List.length_set]; omega)))) ?_ | with_reducible refine Exists.intro _ (And.intro (map_get' (by omega) (by omega)) (And.intro (Nat.le_of_ble_eq_true rfl) ?_)) | fail); conv => whnf) | ((refine And.intro (by refine ⟨?_, ?_, ?_⟩ <;> simp [chunk, maxLen] <;> omega) ?_); conv => whnf) | (refine fun hln => ?_; (try rw [List.length_map] at hln); unfold maxLen at hln; conv => whnf) | fail
    clear o1 o2 o3 o4
    refine AW_loop (fun i : Nat => [(31, iv .i64 i), (30, iv .i64 p.length), (29, sl p), (9, .x (.o 26 i (i + 1))), (10, iv .i64 (b ^ (i + 1))), (11, iv .i64 (a ^ (i + 1))), (1, iv .i64 a), (2, iv .i64 b), (6, .x (.b 6 0))])
      (fun i => [(26, .chain 105 2 i (((0, 1) :: areaL p a b i).map r2PV)), (6, .box [.d (.v (.int .i64 0)), .d (.v (.int .i64 0))])])
      (fun i => i ≤ p.length) (fun i => p.length - i) 0 (Nat.zero_le _) (Imp.forget (by repeat' (first | exact trivial | refine And.intro ?_ ?_ | exact ivE (Int.pow_succ _ 0 |>.symm ▸ by simp) | rfl | exact ivE (by first | omega | (simp only [List.length_map, List.length_append, List.length_singleton] <;> omega)) | exact oE (by first | omega | (simp only [List.length_map, List.length_append, List.length_singleton] <;> omega)))) (by repeat' (first | exact trivial | refine And.intro ?_ ?_ | exact ivE (Int.pow_succ _ 0 |>.symm ▸ by simp) | rfl | exact ivE (by first | omega | (simp only [List.length_map, List.length_append, List.length_singleton] <;> omega)) | exact oE (by first | omega | (simp only [List.length_map, List.length_append, List.length_singleton] <;> omega)))) (by kernel_rfl) (by kernel_rfl) (by kernel_rfl)) ?_
    intro i hi
    rcases Nat.lt_or_ge i p.length with hil | hil
    · obtain ⟨q1, q2⟩ := hnum i (by omega)
      obtain ⟨q3, q4⟩ := hbnd (i + 1) (by omega)
      obtain ⟨q5, q6⟩ := hbnd (i + 1 + 1) (by omega)
      have hget : p.getD i 0 = p[i] := by rw [List.getD_eq_getElem?_getD, List.getElem?_eq_getElem hil]; rfl
      have hs := areaL_succ p a b i
      have hlen := hal i
      unfold areaPart at hs
      rw [hget] at q2 hs
      have hr := reduce_fn (p[i] * (b ^ (i + 1) - a ^ (i + 1))) ((i : Int) + 1) (by unfold lim; omega) (by unfold lim; omega) (by omega)
      have e5 : b ^ (i + 1) * b = b ^ (i + 1 + 1) := (Int.pow_succ ..).symm
      have e6 : a ^ (i + 1) * a = a ^ (i + 1 + 1) := (Int.pow_succ ..).symm
      have w1 : IntKind.i64.wrap (b ^ (i + 1) - a ^ (i + 1)) = b ^ (i + 1) - a ^ (i + 1) := wrap_of (by omega)
      have w2 : IntKind.i64.wrap (p[i] * (b ^ (i + 1) - a ^ (i + 1))) = p[i] * (b ^ (i + 1) - a ^ (i + 1)) := wrap_of (by omega)
      have w3 : IntKind.i64.wrap (b ^ (i + 1) * b) = b ^ (i + 1 + 1) := by rw [e5]; exact wrap_of (by omega)
      have w4 : IntKind.i64.wrap (a ^ (i + 1) * a) = a ^ (i + 1 + 1) := by rw [e6]; exact wrap_of (by omega)
      generalize redP (p[i] * (b ^ (i + 1) - a ^ (i + 1))) ((i : Int) + 1) = x at hr hs
      have hch : (((0, 1) :: areaL p a b i).map r2PV).take (i + 1) ++ [r2PV x] = ((0, 1) :: areaL p a b (i + 1)).map r2PV := by
        rw [hs, List.take_of_length_le (by rw [List.length_map, List.length_cons, hlen]; exact Nat.le_refl _), ← List.cons_append, List.map_append]; rfl
      have hcl : (((0, 1) :: areaL p a b i).map r2PV).length = i + 1 := by rw [List.length_map, List.length_cons, hlen]
      clear hj hnum hbnd hal hs e5 e6
      repeat' first | with_reducible refine AW_seq ?_ | with_reducible refine AW_block ?_ | with_reducible refine AW_scope ?_ | ((first | with_reducible refine AW_skip ?_ | with_reducible refine AW_label ?_ | with_reducible refine AW_exit ?_ | with_reducible refine AW_ret ?_ | with_reducible refine AW_region hTt ?_ | fail); conv => whnf) | (exact absurd hb_1 (by omega)) | (exact absurd hb (by omega)) | ((first | ((refine ⟨_, (hr).call rfl rfl, ?_⟩); (rintro _ _ ⟨rfl, rfl⟩)) | refine ⟨_, fun _ => (hr).call rfl rfl, ?_⟩ | refine ⟨_, fun _ _ => (hr).call rfl rfl, ?_⟩ | refine ⟨_, w1, ?_⟩ | refine ⟨_, w2, ?_⟩ | refine ⟨_, w3, ?_⟩ | refine ⟨_, w4, ?_⟩ | fail); conv => whnf) | ((refine And.intro (by rw [hcl]; refine ⟨?_, ?_, ?_⟩ <;> simp [chunk, maxLen] <;> omega) ?_); conv => whnf) | (refine AW_cond rfl (fun _ => ?_) (fun hb => absurd (show true = false from hb) (by decide))) | (refine AW_cond rfl (fun hb => absurd (show false = true from hb) (by decide)) (fun _ => ?_)) | (refine AW_cond rfl (fun _ => ?_) (fun hb => absurd hb (by decide))) | (refine AW_cond rfl (fun hb => absurd hb (by decide)) (fun _ => ?_)) | (refine AW_cond rfl (fun hb => ?_) (fun hb => ?_) <;> first | (replace hb := of_decide_eq_true hb; try simp only [List.length_map] at hb) | (replace hb := of_decide_eq_false hb; try simp only [List.length_map] at hb) | (simp only [List.length_map, bne_iff_ne, ne_eq, beq_iff_eq, bne_eq_false_iff_eq, beq_eq_false_iff_ne, decide_eq_true_eq, decide_eq_false_iff_not, Bool.not_eq_true', Bool.not_eq_false', Int.natCast_inj] at hb) | skip) | ((first | refine ⟨_, wrap_of (by first | omega | (simp only [List.length_map]; omega)), ?_⟩ | refine ⟨IntKind.wrap _ _, rfl, ?_⟩ | refine andA ?_ | with_reducible refine Exists.intro _ (And.intro (gd_any (And.intro (by omega) (map_get (by omega)))) ?_) | with_reducible refine And.intro (gd_any (And.intro (by omega) (And.intro (by first | omega | (simp only [List.length_map]; omega)) (by first | omega | (simp only [List.length_map]; omega) | (simp only [List.length_set, List.length_map]; omega))))) ?_ | with_reducible refine Exists.intro _ (And.intro (gd_any (map_get' (by omega) (by omega))) (And.intro (And.intro (Nat.le_of_ble_eq_true rfl) rfl) ?_)) | with_reducible refine Exists.intro _ (And.intro (gd_any (And.intro (by omega) (map_get' (by omega) (by omega)))) ?_) | with_reducible refine And.intro (And.intro (by omega) (And.intro (by first | omega | (simp only [List.length_map]; omega)) (by first | omega | (simp only [List.length_map, List.length_set]; omega)))) ?_ | with_reducible refine Exists.intro _ (And.intro (map_get' (by omega) (by omega)) (And.intro (Nat.le_of_ble_eq_true rfl) ?_)) | fail); conv => whnf) | ((refine And.intro (by refine ⟨?_, ?_, ?_⟩ <;> simp [chunk, maxLen] <;> omega) ?_); conv => whnf) | (refine fun hln => ?_; (try rw [List.length_map] at hln); unfold maxLen at hln; conv => whnf) | fail
      exact ⟨i + 1, hil, by omega, (Imp.forget (by repeat' (first | exact trivial | refine And.intro ?_ ?_ | exact congrArg (fun xs : List (List PV) => some (Ob.chain 105 2 (i + 1) xs)) hch | rfl | exact ivE (by first | omega | (simp only [List.length_map, List.length_append, List.length_singleton] <;> omega)) | exact oE (by first | omega | (simp only [List.length_map, List.length_append, List.length_singleton] <;> omega)))) (by repeat' (first | exact trivial | refine And.intro ?_ ?_ | exact congrArg (fun xs : List (List PV) => some (Ob.chain 105 2 (i + 1) xs)) hch | rfl | exact ivE (by first | omega | (simp only [List.length_map, List.length_append, List.length_singleton] <;> omega)) | exact oE (by first | omega | (simp only [List.length_map, List.length_append, List.length_singleton] <;> omega)))) (by kernel_rfl) (by kernel_rfl) (by kernel_rfl))⟩
    · obtain rfl : i = p.length := by omega
      have hle : p.length + 1 ≤ (((0, 1) :: areaL p a b p.length).map r2PV).length := by rw [List.length_map, List.length_cons, hal]; exact Nat.le_refl _
      have hfz : r2sAV ((0, 1) :: areaL p a b p.length) = .x (.d (.s 2 ((((0, 1) :: areaL p a b p.length).map r2PV).take (p.length + 1)))) := by
        rw [List.take_of_length_le (by rw [List.length_map, List.length_cons, hal]; exact Nat.le_refl _)]; rfl
      clear hnum hbnd hal
      repeat' first | ((refine AW_imp (Imp.freeze 26 (fr' := [(9, r2sAV ((0, 1) :: areaL p a b p.length)), (6, .x (.b 6 0))]) (σ' := [(6, .box [.d (.v (.int .i64 0)), .d (.v (.int .i64 0))])]) rfl ⟨⟨_, rfl, .inr ⟨_, rfl, hle, hfz⟩⟩, ⟨_, rfl, .inl rfl⟩, trivial⟩ ⟨rfl, trivial⟩ rfl rfl) (AW_region (id := 12) hTt ?_)); conv => whnf) | with_reducible refine AW_seq ?_ | with_reducible refine AW_block ?_ | with_reducible refine AW_scope ?_ | ((first | with_reducible refine AW_skip ?_ | with_reducible refine AW_label ?_ | with_reducible refine AW_exit ?_ | with_reducible refine AW_ret ?_ | with_reducible refine AW_region hTt ?_ | fail); conv => whnf) | (exact absurd hb (by omega)) | ((first | ((refine ⟨_, (hj).call rfl rfl, ?_⟩); (rintro _ _ ⟨rfl, rfl⟩)) | refine ⟨_, fun _ => (hj).call rfl rfl, ?_⟩ | refine ⟨_, fun _ _ => (hj).call rfl rfl, ?_⟩ | fail); conv => whnf) | (refine AW_cond rfl (fun _ => ?_) (fun hb => absurd (show true = false from hb) (by decide))) | (refine AW_cond rfl (fun hb => absurd (show false = true from hb) (by decide)) (fun _ => ?_)) | (refine AW_cond rfl (fun _ => ?_) (fun hb => absurd hb (by decide))) | (refine AW_cond rfl (fun hb => absurd hb (by decide)) (fun _ => ?_)) | (refine AW_cond rfl (fun hb => ?_) (fun hb => ?_) <;> first | (replace hb := of_decide_eq_true hb; try simp only [List.length_map] at hb) | (replace hb := of_decide_eq_false hb; try simp only [List.length_map] at hb) | (simp only [List.length_map, bne_iff_ne, ne_eq, beq_iff_eq, bne_eq_false_iff_eq, beq_eq_false_iff_ne, decide_eq_true_eq, decide_eq_false_iff_not, Bool.not_eq_true', Bool.not_eq_false', Int.natCast_inj] at hb) | skip) | ((first | refine ⟨_, wrap_of (by first | omega | (simp only [List.length_map]; omega)), ?_⟩ | refine ⟨IntKind.wrap _ _, rfl, ?_⟩ | refine andA ?_ | with_reducible refine Exists.intro _ (And.intro (gd_any (And.intro (by omega) (map_get (by omega)))) ?_) | with_reducible refine And.intro (gd_any (And.intro (by omega) (And.intro (by first | omega | (simp only [List.length_map]; omega)) (by first | omega | (simp only [List.length_map]; omega) | (simp only [List.length_set, List.length_map]; omega))))) ?_ | with_reducible refine Exists.intro _ (And.intro (gd_any (map_get' (by omega) (by omega))) (And.intro (And.intro (Nat.le_of_ble_eq_true rfl) rfl) ?_)) | with_reducible refine Exists.intro _ (And.intro (gd_any (And.intro (by omega) (map_get' (by omega) (by omega)))) ?_) | with_reducible refine And.intro (And.intro (by omega) (And.intro (by first | omega | (simp only [List.length_map]; omega)) (by first | omega | (simp only [List.length_map, List.length_set]; omega)))) ?_ | with_reducible refine Exists.intro _ (And.intro (map_get' (by omega) (by omega)) (And.intro (Nat.le_of_ble_eq_true rfl) ?_)) | fail); conv => whnf) | ((refine And.intro (by refine ⟨?_, ?_, ?_⟩ <;> simp [chunk, maxLen] <;> omega) ?_); conv => whnf) | (refine fun hln => ?_; (try rw [List.length_map] at hln); unfold maxLen at hln; conv => whnf) | fail
      rfl
end Go.Proofs.YtnpleednkmhhhabDoor
namespace Go.Proofs.YtnpleednkmhhhabDoor
open Go Go.QL
set_option maxHeartbeats 1600000
def redQ (x : R2) : Prop := 0 < x.2 ∧ Int.gcd x.1 x.2 = 1
theorem redP_red {n d : Int} (h : d ≠ 0) : redQ (redP n d) := by
  refine ⟨(redP_pos h).1, ?_⟩
  have hg : 0 < Int.gcd n d := Int.gcd_pos_of_ne_zero_right n h
  have h1 : Int.gcd (n / (Int.gcd n d : Int)) (d / (Int.gcd n d : Int)) = 1 := Int.gcd_ediv_gcd_ediv_gcd hg
  unfold redP
  split
  · show Int.gcd (-_) (-_) = 1
    rw [Int.gcd_neg, Int.neg_gcd]; exact h1
  · exact h1
theorem red_dvd {a b c : Int} (hc : Int.gcd a b = 1) (h : b ∣ a * c) : b ∣ c := by
  have h1 : b.natAbs ∣ a.natAbs * c.natAbs := by rw [← Int.natAbs_mul]; exact Int.natAbs_dvd_natAbs.2 h
  have h2 : Nat.Coprime b.natAbs a.natAbs := by
    have : Nat.gcd a.natAbs b.natAbs = 1 := hc
    rw [Nat.gcd_comm] at this
    exact this
  exact Int.natAbs_dvd_natAbs.1 (h2.dvd_of_dvd_mul_left h1)
theorem red_eq {x y : R2} (hx : redQ x) (hy : redQ y) (h : x.1 * y.2 = y.1 * x.2) : x = y := by
  have h1 : x.2 ∣ y.2 := red_dvd hx.2 ⟨y.1, by rw [h]; exact Int.mul_comm ..⟩
  have h2 : y.2 ∣ x.2 := red_dvd hy.2 ⟨x.1, by rw [← h]; exact Int.mul_comm ..⟩
  have h3 : x.2 = y.2 := by
    have := Int.le_of_dvd hy.1 h1
    have := Int.le_of_dvd hx.1 h2
    omega
  obtain ⟨a, b⟩ := x
  obtain ⟨c, d⟩ := y
  dsimp only at *
  subst h3
  have : a = c := Int.eq_of_mul_eq_mul_right (by have := hx.1; dsimp only at this; omega) h
  rw [this]
def val60 (N : Int) (x : R2) : Prop := x.1 * 60 = N * x.2
theorem plus_red {x y : R2} (hx : 0 < x.2) (hy : 0 < y.2) : redQ (plusP x y) ∧ ∀ N M, val60 N x → val60 M y → val60 (N + M) (plusP x y) := by
  have hg : 0 < Int.gcd x.2 y.2 := Int.gcd_pos_of_ne_zero_right _ (by omega)
  obtain ⟨u, hu⟩ : (Int.gcd x.2 y.2 : Int) ∣ x.2 := Int.gcd_dvd_left ..
  obtain ⟨v, hv⟩ : (Int.gcd x.2 y.2 : Int) ∣ y.2 := Int.gcd_dvd_right ..
  unfold plusP val60
  obtain ⟨a, b⟩ := x
  obtain ⟨c, d⟩ := y
  dsimp only at *
  generalize hgg : (Int.gcd b d : Int) = g at *
  have hg0 : 0 < g := by omega
  have e1 : b / g = u := by rw [hu]; exact Int.mul_ediv_cancel_left _ (by omega)
  have e2 : d / g = v := by rw [hv]; exact Int.mul_ediv_cancel_left _ (by omega)
  rw [e1, e2]
  have hu0 : u ≠ 0 := fun e => by rw [e] at hu; omega
  have hv0 : v ≠ 0 := fun e => by rw [e] at hv; omega
  have hne : u * d ≠ 0 := Int.mul_ne_zero hu0 (by omega)
  refine ⟨redP_red hne, fun N M h1 h2 => ?_⟩
  have hval := redP_val (n := a * v + c * u) (d := u * d) hne
  generalize redP (a * v + c * u) (u * d) = R at *
  refine Int.eq_of_mul_eq_mul_right hne ?_
  subst hv
  subst hu
  clear hgg hg hx hy e1 e2 hne
  grind
def areaN (p : List Int) (a b : Int) : Nat → Int
  | 0 => 0
  | k + 1 => areaN p a b k + p.getD k 0 * (b ^ (k + 1) - a ^ (k + 1)) * (60 / ((k : Int) + 1))
theorem areaN_add (p : List Int) (a b c : Int) : ∀ k, areaN p a b k + areaN p b c k = areaN p a c k
  | 0 => rfl
  | k + 1 => by
    have ih := areaN_add p a b c k
    simp only [areaN]
    rw [← ih]
    generalize areaN p a b k = x
    generalize areaN p b c k = y
    generalize a ^ (k + 1) = A
    generalize b ^ (k + 1) = B
    generalize c ^ (k + 1) = C
    generalize p.getD k 0 = q
    generalize (60 : Int) / ((k : Int) + 1) = t
    grind
theorem areaN_neg (p : List Int) (a b : Int) : ∀ k, areaN (p.map fun n => -n) a b k = -areaN p a b k
  | 0 => rfl
  | k + 1 => by
    simp only [areaN]
    rw [areaN_neg p a b k]
    have : (p.map fun n => -n).getD k 0 = -p.getD k 0 := by
      rw [List.getD_eq_getElem?_getD, List.getD_eq_getElem?_getD, List.getElem?_map]
      cases p[k]? <;> simp
    rw [this, Int.neg_mul, Int.neg_mul, Int.neg_add]
theorem part_red (p : List Int) (a b : Int) (k : Nat) (hk : k < 5) : 0 < (areaPart p a b k).2 ∧ val60 (p.getD k 0 * (b ^ (k + 1) - a ^ (k + 1)) * (60 / ((k : Int) + 1))) (areaPart p a b k) := by
  unfold areaPart val60
  have hne : (k : Int) + 1 ≠ 0 := by omega
  have hval := redP_val (n := p.getD k 0 * (b ^ (k + 1) - a ^ (k + 1))) hne
  refine ⟨(redP_pos hne).1, ?_⟩
  have h60 : ((k : Int) + 1) * (60 / ((k : Int) + 1)) = 60 := by
    have : k = 0 ∨ k = 1 ∨ k = 2 ∨ k = 3 ∨ k = 4 := by omega
    rcases this with rfl | rfl | rfl | rfl | rfl <;> decide
  generalize redP (p.getD k 0 * (b ^ (k + 1) - a ^ (k + 1))) ((k : Int) + 1) = R at *
  generalize p.getD k 0 * (b ^ (k + 1) - a ^ (k + 1)) = n at *
  generalize (60 : Int) / ((k : Int) + 1) = t at *
  generalize (k : Int) + 1 = d at *
  rw [← h60]
  grind
theorem area_red (p : List Int) (a b : Int) : ∀ k, k ≤ 5 → redQ ((areaL p a b k).foldl plusP (0, 1)) ∧ val60 (areaN p a b k) ((areaL p a b k).foldl plusP (0, 1))
  | 0, _ => (show redQ ((0 : Int), (1 : Int)) ∧ val60 0 ((0 : Int), (1 : Int)) from ⟨⟨by decide, by decide⟩, rfl⟩)
  | k + 1, hk => by
    obtain ⟨h1, h2⟩ := area_red p a b k (by omega)
    obtain ⟨h3, h4⟩ := part_red p a b k (by omega)
    rw [areaL_succ, List.foldl_append]
    obtain ⟨h5, h6⟩ := plus_red h1.1 h3
    exact ⟨h5, h6 _ _ h2 h4⟩
theorem joined_plain (p : List Int) (a b c : Int) (hp : p.length ≤ 5) :
    redP (((areaL p a b p.length).foldl plusP (0, 1)).1 * ((areaL p b c p.length).foldl plusP (0, 1)).2 + ((areaL p b c p.length).foldl plusP (0, 1)).1 * ((areaL p a b p.length).foldl plusP (0, 1)).2) (((areaL p a b p.length).foldl plusP (0, 1)).2 * ((areaL p b c p.length).foldl plusP (0, 1)).2) = (areaL p a c p.length).foldl plusP (0, 1) := by
  obtain ⟨r1, v1⟩ := area_red p a b p.length hp
  obtain ⟨r2, v2⟩ := area_red p b c p.length hp
  obtain ⟨r3, v3⟩ := area_red p a c p.length hp
  rw [← areaN_add p a b c] at v3
  generalize (areaL p a b p.length).foldl plusP (0, 1) = A at *
  generalize (areaL p b c p.length).foldl plusP (0, 1) = B at *
  generalize (areaL p a c p.length).foldl plusP (0, 1) = C at *
  generalize areaN p a b p.length = N at *
  generalize areaN p b c p.length = M at *
  have hne : A.2 * B.2 ≠ 0 := Int.mul_ne_zero (by have := r1.1; omega) (by have := r2.1; omega)
  refine red_eq (redP_red hne) r3 ?_
  have hval := redP_val (n := A.1 * B.2 + B.1 * A.2) hne
  generalize redP (A.1 * B.2 + B.1 * A.2) (A.2 * B.2) = R at *
  unfold val60 at *
  have hne2 : A.2 * B.2 * 60 ≠ 0 := Int.mul_ne_zero hne (by decide)
  refine Int.eq_of_mul_eq_mul_right hne2 ?_
  clear r1 r2 r3 hne hne2
  grind
theorem neg_plain (p : List Int) (a c : Int) (hp : p.length ≤ 5) :
    (areaL (p.map fun n => -n) a c p.length).foldl plusP (0, 1) = (-((areaL p a c p.length).foldl plusP (0, 1)).1, ((areaL p a c p.length).foldl plusP (0, 1)).2) := by
  obtain ⟨r1, v1⟩ := area_red p a c p.length hp
  obtain ⟨r2, v2⟩ := area_red (p.map fun n => -n) a c p.length hp
  rw [areaN_neg] at v2
  generalize (areaL p a c p.length).foldl plusP (0, 1) = C at *
  generalize (areaL (p.map fun n => -n) a c p.length).foldl plusP (0, 1) = D at *
  generalize areaN p a c p.length = N at *
  refine red_eq r2 ⟨r1.1, by dsimp only; rw [Int.neg_gcd]; exact r1.2⟩ ?_
  unfold val60 at *
  dsimp only
  refine Int.eq_of_mul_eq_mul_right (show (60 : Int) ≠ 0 by decide) ?_
  clear r1 r2
  grind
theorem areaP_ok {p : List Int} {a b : Int} (h : (areaP p a b).2 = 0) : pOK p ∧ 1 ≤ p.length ∧ ((-10 ≤ a ∧ a ≤ 10) ∧ (-10 ≤ b ∧ b ≤ 10) ∧ a < b) ∧ areaP p a b = ((areaL p a b p.length).foldl plusP (0, 1), 0) := by
  unfold areaP at *
  by_cases he : firstNZ [checkE p, judgeE a b] ≠ 0
  · rw [if_pos he] at h; exact absurd h he
  · rw [if_neg he]
    obtain ⟨h1, h2⟩ := firstNZ_two he
    exact ⟨(check_pOK h1).1, (check_pOK h1).2, judge_ok h2, rfl⟩
theorem areaP_is {p : List Int} {a b : Int} (hp : pOK p) (h1 : 1 ≤ p.length) (ha : -10 ≤ a ∧ a ≤ 10) (hb : -10 ≤ b ∧ b ≤ 10) (hab : a < b) : areaP p a b = ((areaL p a b p.length).foldl plusP (0, 1), 0) := by
  have e1 : checkE p = 0 := by
    unfold checkE
    rw [if_neg, if_neg]
    · rw [outL_false.2 (fun x hx => hp.2 x hx)]; decide
    · rw [outL_false.2 (fun x hx => by rw [List.mem_singleton] at hx; subst hx; have := hp.1; omega)]; decide
  have e2 : judgeE a b = 0 := by
    unfold judgeE
    rw [if_neg, if_neg (by omega)]
    rw [outL_false.2 (fun x hx => by
      rcases List.mem_cons.1 hx with rfl | hx
      · exact ha
      · rw [List.mem_singleton] at hx; subst hx; exact hb)]
    decide
  unfold areaP
  rw [e1, e2, if_neg (by decide)]
theorem area_bd {p : List Int} (hp : pOK p) {a b : Int} (ha : -10 ≤ a ∧ a ≤ 10) (hb : -10 ≤ b ∧ b ≤ 10) : (-20000000000 ≤ ((areaL p a b p.length).foldl plusP (0, 1)).1 ∧ ((areaL p a b p.length).foldl plusP (0, 1)).1 ≤ 20000000000) ∧ 0 < ((areaL p a b p.length).foldl plusP (0, 1)).2 ∧ ((areaL p a b p.length).foldl plusP (0, 1)).2 ≤ 120 := by
  have h := area_vb hp ha hb p.length hp.1
  rw [show areaL p a b p.length = areaL p a b p.length from rfl] at h
  have hf := fac_le hp.1
  have h5 := hp.1
  generalize (areaL p a b p.length).foldl plusP (0, 1) = R at *
  obtain ⟨⟨q1, q2⟩, q3, q4⟩ := h
  have := mul_bd (a := (p.length : Int) * 20000000) (b := R.2) (A := 100000000) (B := 120) (by omega) (by omega)
  exact ⟨by omega, q3, by omega⟩
end Go.Proofs.YtnpleednkmhhhabDoor
namespace Go.Proofs.YtnpleednkmhhhabDoor
open Go Go.QL
set_option maxHeartbeats 40000000
attribute [local irreducible] ACall FnC YC
theorem nt_f2 {c : Bool} (h : c = false) : (!c) = true := by subst h; rfl
theorem and_tt2 {a b : Bool} (h1 : a = true) (h2 : b = true) : (a && b) = true := by rw [h1, h2]; rfl
theorem lredT {x : R2} (h : redQ x) : (bif decide (x.2 > 0) then ((Int.gcd x.1 x.2 : Nat) : Int) == 1 else false) = true := by
  rw [decide_eq_true h.1, h.2]; rfl
theorem ljoined_fn (p : List Int) (a b c : Int) : FnC Tryd.prog 11 [sl p, a3AV a b c] (bv true) := by
  have s1 := area_fn p a b
  have s2 := area_fn p b c
  have s3 := area_fn p a c
  have haw := awake_fn
  have tf : ¬ (true = false) := by decide
  have ft : ¬ (false = true) := by decide
  by_cases hok : (areaP p a b).2 = 0 ∧ (areaP p b c).2 = 0
  · obtain ⟨hp, h1, ⟨ha, hb, hab⟩, q1⟩ := areaP_ok hok.1
    obtain ⟨_, _, ⟨_, hc, hbc⟩, q2⟩ := areaP_ok hok.2
    have q3 := areaP_is hp h1 ha hc (by omega)
    have hpn : pOK (p.map fun n => -n) := ⟨by rw [List.length_map]; exact hp.1, fun x hx => by
      obtain ⟨y, hy, rfl⟩ := List.mem_map.1 hx
      have := hp.2 y hy
      omega⟩
    have q4 := areaP_is hpn (by rw [List.length_map]; exact h1) ha hc (by omega)
    rw [List.length_map, neg_plain p a c hp.1] at q4
    have s4 := area_fn (p.map fun n => -n) a c
    rw [q1] at s1; rw [q2] at s2; rw [q3] at s3; rw [q4] at s4
    have hj := joined_plain p a b c hp.1
    have r1 := (area_red p a b p.length hp.1).1
    have r2 := (area_red p b c p.length hp.1).1
    have b1 := area_bd hp ha hb
    have b2 := area_bd hp hb hc
    have b3 := area_bd hp ha hc
    clear q1 q2 q3 q4 hok hpn
    dsimp only at s1 s2 s3 s4
    generalize (areaL p a b p.length).foldl plusP (0, 1) = A at *
    generalize (areaL p b c p.length).foldl plusP (0, 1) = B at *
    generalize (areaL p a c p.length).foldl plusP (0, 1) = C at *
    have k1 := lreduced_fn A (by unfold lim; omega) (by unfold lim; omega)
    have k2 := lreduced_fn B (by unfold lim; omega) (by unfold lim; omega)
    rw [lredT r1] at k1
    rw [lredT r2] at k2
    clear r1 r2
    obtain ⟨an, ad⟩ := A
    obtain ⟨bn, bd⟩ := B
    obtain ⟨cn, cd⟩ := C
    dsimp only at *
    have m1 := mul_bd (a := an) (b := bd) (A := 20000000000) (B := 120) (by omega) (by omega)
    have m2 := mul_bd (a := bn) (b := ad) (A := 20000000000) (B := 120) (by omega) (by omega)
    have m3 := mul_bd (a := ad) (b := bd) (A := 120) (B := 120) (by omega) (by omega)
    have k3 := reduced_fn (an * bd + bn * ad) (ad * bd) (by unfold lim; omega) (by unfold lim; omega) (Int.mul_ne_zero (by omega) (by omega))
    rw [hj] at k3
    have x1 : IntKind.i64.wrap (an * bd) = an * bd := wrap_of (by omega)
    have x2 : IntKind.i64.wrap (bn * ad) = bn * ad := wrap_of (by omega)
    have x3 : IntKind.i64.wrap (an * bd + bn * ad) = an * bd + bn * ad := wrap_of (by omega)
    have x4 : IntKind.i64.wrap (ad * bd) = ad * bd := wrap_of (by omega)
    have x5 : IntKind.i64.wrap (0 - cn) = -cn := by rw [Int.zero_sub]; exact wrap_of (by omega)
    have hpl : (p.map (fun n : Int => [PV.v (.int .i64 n)])).length = p.length := List.length_map _
    clear hj m1 m2 m3
    refine FnC_of_AW hTt Tryd.func11 rfl (by kernel_rfl) (res := [.tmp 4]) rfl Tryd.ntmps11 (by simp) fun w0 K0 => ?_
    dsimp only [entry]
    repeat' first | with_reducible refine AW_seq ?_ | with_reducible refine AW_block ?_ | ((first | with_reducible refine AW_skip ?_ | with_reducible refine AW_region hTt ?_ | ((refine ⟨_, (s1).call rfl rfl, ?_⟩); (rintro _ _ ⟨rfl, rfl⟩)) | ((refine ⟨_, (s2).call rfl rfl, ?_⟩); (rintro _ _ ⟨rfl, rfl⟩)) | ((refine ⟨_, (s3).call rfl rfl, ?_⟩); (rintro _ _ ⟨rfl, rfl⟩)) | ((refine ⟨_, (k1).call rfl rfl, ?_⟩); (rintro _ _ ⟨rfl, rfl⟩)) | refine ⟨_, fun _ => (k2).call rfl rfl, ?_⟩ | fail); conv => whnf) | (refine AW_cond rfl (fun hb => absurd (show false = true from hb) (by decide)) (fun _ => ?_)) | ((refine andA ?_); conv => whnf) | fail
    refine AW_imp (Imp.nil 900 3 1 (fr' := [(12, iv .i64 0), (11, .x (.o 900 0 0)), (10, iv .i64 0), (9, .x (.b 9 0)), (7, .x (.b 7 0)), (5, .x (.b 5 0)), (3, .x (.b 3 0)), (0, sl p)])
      (σ' := [(9, .box [.d (.v (.int .i64 cn)), .d (.v (.int .i64 cd))]), (7, .box [.d (.v (.int .i64 bn)), .d (.v (.int .i64 bd))]), (5, .box [.d (.v (.int .i64 an)), .d (.v (.int .i64 ad))]), (3, .box [.d (.v (.int .i64 a)), .d (.v (.int .i64 b)), .d (.v (.int .i64 c))])]) rfl ?_ ?_ rfl rfl) ?_
    · exact ⟨⟨_, rfl, .inl rfl⟩, ⟨_, rfl, .inr ⟨rfl, rfl⟩⟩, ⟨_, rfl, .inl rfl⟩, ⟨_, rfl, .inl rfl⟩, ⟨_, rfl, .inl rfl⟩, ⟨_, rfl, .inl rfl⟩, ⟨_, rfl, .inl rfl⟩, ⟨_, rfl, .inl rfl⟩, trivial⟩
    · exact ⟨⟨_, rfl, .inl rfl⟩, ⟨_, rfl, .inl rfl⟩, ⟨_, rfl, .inl rfl⟩, ⟨_, rfl, .inl rfl⟩, trivial⟩
    clear s1 s2 s3 k1 k2
    have hct : ∀ i, i ≤ p.length → (((p.take i).map (fun n => -n)).map iPV).length = i := fun i hi => by rw [List.length_map, List.length_map, List.length_take]; omega
    refine AW_loop (fun i : Nat => [(12, iv .i64 i), (11, .x (.o 900 i i)), (10, iv .i64 0), (9, .x (.b 9 0)), (7, .x (.b 7 0)), (5, .x (.b 5 0)), (3, .x (.b 3 0)), (0, sl p)])
      (fun i => [(900, .chain 3 1 i (((p.take i).map (fun n => -n)).map iPV)), (9, .box [.d (.v (.int .i64 cn)), .d (.v (.int .i64 cd))]), (7, .box [.d (.v (.int .i64 bn)), .d (.v (.int .i64 bd))]), (5, .box [.d (.v (.int .i64 an)), .d (.v (.int .i64 ad))]), (3, .box [.d (.v (.int .i64 a)), .d (.v (.int .i64 b)), .d (.v (.int .i64 c))])])
      (fun i => i ≤ p.length) (fun i => p.length - i) 0 (Nat.zero_le _) impA ?_
    intro i hi
    have hcl := hct i hi
    rcases Nat.lt_or_ge i p.length with hil | hil
    · have e1 : p[i]? = some p[i] := List.getElem?_eq_getElem hil
      have hbx := hp.2 p[i] (List.getElem_mem hil)
      have hnx : (((p.take i).map (fun n => -n)).map iPV).take i ++ [iPV (-p[i])] = ((p.take (i + 1)).map (fun n => -n)).map iPV := by
        rw [List.take_of_length_le (by omega), List.take_add_one, List.getElem?_eq_getElem hil, List.map_append, List.map_append]; rfl
      have h5 := hp.1
      clear hct s4 k3
      generalize p[i] = x at *
      have wn : IntKind.i64.wrap (0 - x) = -x := by rw [Int.zero_sub]; exact wrap_of (by omega)
      repeat' first | with_reducible refine AW_seq ?_ | with_reducible refine AW_block ?_ | ((first | with_reducible refine AW_skip ?_ | with_reducible refine AW_exit ?_ | with_reducible refine AW_region hTt ?_ | fail); conv => whnf) | (exact absurd hb (by omega)) | ((first | refine Exists.intro _ (And.intro (gd_any (And.intro (by omega) (map_some e1))) ?_) | refine ⟨_, wn, ?_⟩ | fail); conv => whnf) | ((refine And.intro (by rw [hcl]; refine ⟨?_, ?_, ?_⟩ <;> simp [chunk, maxLen] <;> omega) ?_); conv => whnf) | (refine AW_cond rfl (fun hb => ?_) (fun hb => ?_) <;> first | (replace hb := of_decide_eq_true hb; try simp only [List.length_map] at hb) | (replace hb := of_decide_eq_false hb; try simp only [List.length_map] at hb) | (simp only [List.length_map, bne_iff_ne, ne_eq, beq_iff_eq, bne_eq_false_iff_eq, beq_eq_false_iff_ne, decide_eq_true_eq, decide_eq_false_iff_not, Bool.not_eq_true', Bool.not_eq_false', Int.natCast_inj] at hb) | skip) | ((first | refine ⟨_, wrap_of (by first | omega | (simp only [List.length_map]; omega)), ?_⟩ | refine andA ?_ | fail); conv => whnf) | (refine fun hln => ?_; (try rw [List.length_map] at hln); unfold maxLen at hln; conv => whnf) | fail
      exact ⟨i + 1, by omega, by omega, (Imp.forget (by repeat' (first | exact trivial | refine And.intro ?_ ?_ | exact congrArg (fun xs : List (List PV) => some (Ob.chain 3 1 (i + 1) xs)) hnx | rfl | exact ivE (by first | omega | (simp only [List.length_map, List.length_append, List.length_singleton] <;> omega)) | exact oE (by first | omega | (simp only [List.length_map, List.length_append, List.length_singleton] <;> omega)))) (by repeat' (first | exact trivial | refine And.intro ?_ ?_ | exact congrArg (fun xs : List (List PV) => some (Ob.chain 3 1 (i + 1) xs)) hnx | rfl | exact ivE (by first | omega | (simp only [List.length_map, List.length_append, List.length_singleton] <;> omega)) | exact oE (by first | omega | (simp only [List.length_map, List.length_append, List.length_singleton] <;> omega)))) (by kernel_rfl) (by kernel_rfl) (by kernel_rfl))⟩
    · obtain rfl : i = p.length := by omega
      have hle : p.length ≤ (((p.take p.length).map (fun n => -n)).map iPV).length := by rw [hcl]; exact Nat.le_refl _
      have hfz : sl (p.map fun n => -n) = .x (.d (.s 1 ((((p.take p.length).map (fun n => -n)).map iPV).take p.length))) := by
        rw [List.take_of_length_le (by rw [hcl]; exact Nat.le_refl _), List.take_length]; rfl
      clear hct
      repeat' first | ((refine AW_imp (Imp.freeze 900 (fr' := [(11, sl (p.map fun n => -n)), (10, iv .i64 0), (9, .x (.b 9 0)), (7, .x (.b 7 0)), (5, .x (.b 5 0)), (3, .x (.b 3 0))]) (σ' := [(9, .box [.d (.v (.int .i64 cn)), .d (.v (.int .i64 cd))]), (7, .box [.d (.v (.int .i64 bn)), .d (.v (.int .i64 bd))]), (5, .box [.d (.v (.int .i64 an)), .d (.v (.int .i64 ad))]), (3, .box [.d (.v (.int .i64 a)), .d (.v (.int .i64 b)), .d (.v (.int .i64 c))])]) rfl ⟨⟨_, rfl, .inr ⟨_, rfl, hle, hfz⟩⟩, ⟨_, rfl, .inl rfl⟩, ⟨_, rfl, .inl rfl⟩, ⟨_, rfl, .inl rfl⟩, ⟨_, rfl, .inl rfl⟩, ⟨_, rfl, .inl rfl⟩, trivial⟩ ⟨rfl, rfl, rfl, rfl, trivial⟩ rfl rfl) (AW_region (id := 13) hTt ?_)); conv => whnf) | with_reducible refine AW_seq ?_ | with_reducible refine AW_block ?_ | ((first | with_reducible refine AW_skip ?_ | with_reducible refine AW_exit ?_ | with_reducible refine AW_ret ?_ | with_reducible refine AW_region hTt ?_ | refine AW_draw hTt hMix (id := 14) 35 false [0, 1, 3, 7, 15, 31, 63, 127, 255, 127, 639, 2047, 127, 4223, 127, 16511, 61567, 131071, 127, 262271, 127, 1048703, 3932287, 8388607, 127, 33554431, 67108863, 134217727, 268435455, 268435455, 805306367, 1879048191, 268435455, 4563402751, 16911433727, 34359738367, 68719476735, 137438953471, 274877906943, 549755813887, 1099511627775] (by kernel_rfl) rfl rfl (by kernel_rfl) ?_ | fail); conv => whnf) | (exact absurd hb (by omega)) | ((first | ((refine ⟨_, (s4).call rfl rfl, ?_⟩); (rintro _ _ ⟨rfl, rfl⟩)) | refine ⟨_, fun _ _ => (k3).call rfl rfl, ?_⟩ | refine ⟨_, fun _ => (haw).call rfl rfl, ?_⟩ | refine ⟨_, x1, ?_⟩ | refine ⟨_, x2, ?_⟩ | refine ⟨_, x3, ?_⟩ | refine ⟨_, x4, ?_⟩ | refine ⟨_, x5, ?_⟩ | fail); conv => whnf) | (refine AW_cond rfl (fun hb => ?_) (fun hb => ?_) <;> first | (replace hb := of_decide_eq_true hb; try simp only [List.length_map] at hb) | (replace hb := of_decide_eq_false hb; try simp only [List.length_map] at hb) | (simp only [List.length_map, bne_iff_ne, ne_eq, beq_iff_eq, bne_eq_false_iff_eq, beq_eq_false_iff_ne, decide_eq_true_eq, decide_eq_false_iff_not, Bool.not_eq_true', Bool.not_eq_false', Int.natCast_inj] at hb) | skip) | ((refine andA ?_); conv => whnf) | (refine fun hln => ?_; (try rw [List.length_map] at hln); unfold maxLen at hln; conv => whnf) | fail
      exact congrArg (fun b : Bool => some (bv b)) (show _ = true by simp [eqL, eqV])
  · generalize areaP p a b = RA at *
    generalize areaP p b c = RB at *
    generalize areaP p a c = RC at *
    obtain ⟨A, e⟩ := RA
    obtain ⟨B, f⟩ := RB
    obtain ⟨C, g⟩ := RC
    dsimp only at *
    have hcn : (bif e != 0 then true else f != 0) = true := by
      by_cases h : e = 0
      · have : (f != 0) = true := by simpa using fun h2 => hok ⟨h, h2⟩
        rw [this]; simp
      · rw [show (e != 0) = true by simpa using h]; rfl
    refine FnC_of_AW hTt Tryd.func11 rfl (by kernel_rfl) (res := [.tmp 4]) rfl Tryd.ntmps11 (by simp) fun w0 K0 => ?_
    dsimp only [entry]
    repeat' first | with_reducible refine AW_seq ?_ | ((first | with_reducible refine AW_skip ?_ | with_reducible refine AW_ret ?_ | with_reducible refine AW_region hTt ?_ | ((refine ⟨_, (s1).call rfl rfl, ?_⟩); (rintro _ _ ⟨rfl, rfl⟩)) | ((refine ⟨_, (s2).call rfl rfl, ?_⟩); (rintro _ _ ⟨rfl, rfl⟩)) | ((refine ⟨_, (s3).call rfl rfl, ?_⟩); (rintro _ _ ⟨rfl, rfl⟩)) | fail); conv => whnf) | (exact absurd (hcn.symm.trans hb) tf) | ((first | ((refine ⟨_, (haw).call rfl rfl, ?_⟩); (rintro _ _ ⟨rfl, rfl⟩)) | refine And.intro (fun h => nt_f2 h) ?_ | fail); conv => whnf) | (refine AW_cond rfl (fun hb => ?_) (fun hb => ?_) <;> first | (replace hb := of_decide_eq_true hb; try simp only [List.length_map] at hb) | (replace hb := of_decide_eq_false hb; try simp only [List.length_map] at hb) | (simp only [List.length_map, bne_iff_ne, ne_eq, beq_iff_eq, bne_eq_false_iff_eq, beq_eq_false_iff_ne, decide_eq_true_eq, decide_eq_false_iff_not, Bool.not_eq_true', Bool.not_eq_false', Int.natCast_inj] at hb) | skip) | ((refine andA ?_); conv => whnf) | fail
    rfl
end Go.Proofs.YtnpleednkmhhhabDoor
