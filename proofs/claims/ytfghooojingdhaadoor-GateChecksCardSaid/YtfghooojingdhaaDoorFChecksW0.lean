/- What the functions that this law reaches return: part 0. No condition. -/
import Derived.Test.YtfghooojingdhaaDoorB05
set_option linter.all false
namespace Go.Proofs.YtfghooojingdhaaDoor
open Go Go.QL
set_option maxHeartbeats 3200000
attribute [local irreducible] ACall FnC
theorem eqL3 {a b c d e f : Int} : eqL [.int .i64 a, .int .i64 b, .int .i64 c] [.int .i64 d, .int .i64 e, .int .i64 f] = true ↔ a = d ∧ b = e ∧ c = f := by simp [eqL, eqV]
theorem nets_fn (a b : NetT) : FnC Tryd.prog 19 [netAV a, netAV b] (bv (decide (a = b))) := by
  refine FnC_of_AW hTt Tryd.func19 rfl (by kernel_rfl) (res := [.tmp 4]) rfl Tryd.ntmps19 (by simp) fun w0 K0 => ?_
  dsimp only [entry]
  have hin := ints_fn a.out b.out
  by_cases h1 : a.inn = b.inn
  · by_cases h2 : a.out = b.out
    · rw [show sameInts a.out b.out = true from decide_eq_true h2] at hin
      by_cases h3 : a.gates.length = b.gates.length
      · repeat' first | with_reducible refine AW_seq ?_ | with_reducible refine AW_block ?_ | ((first | with_reducible refine AW_skip ?_ | with_reducible refine AW_ret ?_ | with_reducible refine AW_region hTt ?_ | fail); conv => whnf) | (exfalso; simp [h1, h3] at hb; done) | ((refine ⟨_, fun _ => (hin).call rfl rfl, ?_⟩); conv => whnf) | (refine AW_cond rfl (fun hb => ?_) (fun hb => ?_) <;> first | (replace hb := of_decide_eq_true hb; try simp only [List.length_map] at hb) | (replace hb := of_decide_eq_false hb; try simp only [List.length_map] at hb) | (simp only [List.length_map, bne_iff_ne, ne_eq, beq_iff_eq, bne_eq_false_iff_eq, beq_eq_false_iff_ne, decide_eq_true_eq, decide_eq_false_iff_not, Bool.not_eq_true', Bool.not_eq_false', Int.natCast_inj] at hb) | skip) | ((refine And.intro (by first | exact trivial | rfl | exact gd_self | exact gd_any (by omega) | exact fun h => h | decide | (constructor <;> simp [chunk, maxLen]; done) | (intro h; simpa using h)) ?_); conv => whnf) | fail
        refine AW_loop (fun i : Nat => [(5, iv .i64 i), (2, .x (.b 2 0)), (3, .x (.b 3 0))]) (fun _ => [(2, netCells a), (3, netCells b)]) (fun i => i ≤ a.gates.length ∧ a.gates.take i = b.gates.take i) (fun i => a.gates.length - i) 0 (by simp) (Imp.forget (by repeat' (first | exact trivial | refine And.intro ?_ ?_ | rfl | exact ivE (by first | omega | (simp only [List.length_map, List.length_append, List.length_singleton] <;> omega)) | exact oE (by first | omega | (simp only [List.length_map, List.length_append, List.length_singleton] <;> omega)))) (by repeat' (first | exact trivial | refine And.intro ?_ ?_ | rfl | exact ivE (by first | omega | (simp only [List.length_map, List.length_append, List.length_singleton] <;> omega)) | exact oE (by first | omega | (simp only [List.length_map, List.length_append, List.length_singleton] <;> omega)))) (by kernel_rfl) (by kernel_rfl) (by kernel_rfl)) ?_
        rintro i ⟨hi, htk⟩
        rcases Nat.lt_or_ge i a.gates.length with hil | hil
        · obtain ⟨⟨k1, a1, b1⟩, hx⟩ : ∃ x, a.gates[i]? = some x := ⟨_, List.getElem?_eq_getElem hil⟩
          obtain ⟨⟨k2, a2, b2⟩, hy⟩ : ∃ y, b.gates[i]? = some y := ⟨_, List.getElem?_eq_getElem (by omega)⟩
          repeat' first | with_reducible refine AW_seq ?_ | with_reducible refine AW_block ?_ | ((first | with_reducible refine AW_skip ?_ | with_reducible refine AW_exit ?_ | with_reducible refine AW_ret ?_ | with_reducible refine AW_region hTt ?_ | refine AW_draw hTt hMix (id := 6) 10 false [0, 1, 0, 7, 15, 0, 32, 0, 224, 480, 1023] (by kernel_rfl) rfl rfl (by kernel_rfl) ?_ | fail); conv => whnf) | (exact absurd hb (by omega)) | ((first | with_reducible refine Exists.intro _ (And.intro (gd_any (And.intro (by omega) (gate_some hx))) ?_) | with_reducible refine Exists.intro _ (And.intro (gd_any (And.intro (by omega) (gate_some hy))) ?_) | fail); conv => whnf) | (refine AW_cond rfl (fun hb => ?_) (fun hb => ?_) <;> first | (replace hb := of_decide_eq_true hb; try simp only [List.length_map] at hb) | (replace hb := of_decide_eq_false hb; try simp only [List.length_map] at hb) | (simp only [List.length_map, bne_iff_ne, ne_eq, beq_iff_eq, bne_eq_false_iff_eq, beq_eq_false_iff_ne, decide_eq_true_eq, decide_eq_false_iff_not, Bool.not_eq_true', Bool.not_eq_false', Int.natCast_inj] at hb) | skip) | ((refine ⟨_, wrap_of (by first | omega | (simp only [List.length_map]; omega)), ?_⟩); conv => whnf) | ((refine And.intro (by first | exact trivial | rfl | exact gd_self | exact gd_any (by omega) | exact fun h => h | decide | (constructor <;> simp [chunk, maxLen]; done) | (intro h; simpa using h)) ?_); conv => whnf) | (refine fun hln => ?_; (try rw [List.length_map] at hln); unfold maxLen at hln; conv => whnf) | fail
          · have hne : a ≠ b := fun h => by
              subst h
              rw [hx] at hy
              cases hy
              rw [eqL3.2 ⟨rfl, rfl, rfl⟩] at hb; cases hb
            rw [show decide (a = b) = false from decide_eq_false hne]; rfl
          · obtain ⟨rfl, rfl, rfl⟩ := eqL3.1 hb
            refine ⟨i + 1, ⟨by omega, ?_⟩, by omega, (Imp.forget (by repeat' (first | exact trivial | refine And.intro ?_ ?_ | rfl | exact ivE (by first | omega | (simp only [List.length_map, List.length_append, List.length_singleton] <;> omega)) | exact oE (by first | omega | (simp only [List.length_map, List.length_append, List.length_singleton] <;> omega)))) (by repeat' (first | exact trivial | refine And.intro ?_ ?_ | rfl | exact ivE (by first | omega | (simp only [List.length_map, List.length_append, List.length_singleton] <;> omega)) | exact oE (by first | omega | (simp only [List.length_map, List.length_append, List.length_singleton] <;> omega)))) (by kernel_rfl) (by kernel_rfl) (by kernel_rfl))⟩
            rw [List.take_add_one, List.take_add_one, htk, hx, hy]
        · repeat' first | with_reducible refine AW_seq ?_ | with_reducible refine AW_block ?_ | ((first | with_reducible refine AW_skip ?_ | with_reducible refine AW_exit ?_ | with_reducible refine AW_ret ?_ | with_reducible refine AW_region hTt ?_ | refine AW_draw hTt hMix (id := 6) 10 false [0, 1, 0, 7, 15, 0, 32, 0, 224, 480, 1023] (by kernel_rfl) rfl rfl (by kernel_rfl) ?_ | fail); conv => whnf) | (exact absurd hb (by omega)) | (refine AW_cond rfl (fun hb => ?_) (fun hb => ?_) <;> first | (replace hb := of_decide_eq_true hb; try simp only [List.length_map] at hb) | (replace hb := of_decide_eq_false hb; try simp only [List.length_map] at hb) | (simp only [List.length_map, bne_iff_ne, ne_eq, beq_iff_eq, bne_eq_false_iff_eq, beq_eq_false_iff_ne, decide_eq_true_eq, decide_eq_false_iff_not, Bool.not_eq_true', Bool.not_eq_false', Int.natCast_inj] at hb) | skip) | ((refine And.intro (by first | exact trivial | rfl | exact gd_self | exact gd_any (by omega) | exact fun h => h | decide | (constructor <;> simp [chunk, maxLen]; done) | (intro h; simpa using h)) ?_); conv => whnf) | (refine fun hln => ?_; (try rw [List.length_map] at hln); unfold maxLen at hln; conv => whnf) | fail
          have : decide (a = b) = true := decide_eq_true (by
            have e1 := List.take_of_length_le (l := a.gates) (i := i) (by omega)
            have e2 := List.take_of_length_le (l := b.gates) (i := i) (by omega)
            have e3 : a.gates = b.gates := by rw [← e1, ← e2, htk]
            obtain ⟨x1, x2, x3⟩ := a
            obtain ⟨y1, y2, y3⟩ := b
            dsimp only at h1 h2 e3
            subst h1; subst h2; subst e3; rfl)
          rw [this]; rfl
      · rw [show decide (a = b) = false from decide_eq_false fun h => h3 (by rw [h])]
        repeat' first | with_reducible refine AW_seq ?_ | with_reducible refine AW_block ?_ | ((first | with_reducible refine AW_skip ?_ | with_reducible refine AW_ret ?_ | with_reducible refine AW_region hTt ?_ | fail); conv => whnf) | (exfalso; simp [h1] at hb; omega) | ((refine ⟨_, fun _ => (hin).call rfl rfl, ?_⟩); conv => whnf) | (refine AW_cond rfl (fun hb => ?_) (fun hb => ?_) <;> first | (replace hb := of_decide_eq_true hb; try simp only [List.length_map] at hb) | (replace hb := of_decide_eq_false hb; try simp only [List.length_map] at hb) | (simp only [List.length_map, bne_iff_ne, ne_eq, beq_iff_eq, bne_eq_false_iff_eq, beq_eq_false_iff_ne, decide_eq_true_eq, decide_eq_false_iff_not, Bool.not_eq_true', Bool.not_eq_false', Int.natCast_inj] at hb) | skip) | ((refine And.intro (by first | exact trivial | rfl | exact gd_self | exact gd_any (by omega) | exact fun h => h | decide | (constructor <;> simp [chunk, maxLen]; done) | (intro h; simpa using h)) ?_); conv => whnf) | fail
        rfl
    · rw [show sameInts a.out b.out = false from decide_eq_false h2] at hin
      rw [show decide (a = b) = false from decide_eq_false fun h => h2 (by rw [h])]
      repeat' first | with_reducible refine AW_seq ?_ | with_reducible refine AW_block ?_ | ((first | with_reducible refine AW_skip ?_ | with_reducible refine AW_ret ?_ | with_reducible refine AW_region hTt ?_ | fail); conv => whnf) | (exfalso; simp at hb; done) | ((refine ⟨_, fun _ => (hin).call rfl rfl, ?_⟩); conv => whnf) | (refine AW_cond rfl (fun hb => ?_) (fun hb => ?_) <;> first | (replace hb := of_decide_eq_true hb; try simp only [List.length_map] at hb) | (replace hb := of_decide_eq_false hb; try simp only [List.length_map] at hb) | (simp only [List.length_map, bne_iff_ne, ne_eq, beq_iff_eq, bne_eq_false_iff_eq, beq_eq_false_iff_ne, decide_eq_true_eq, decide_eq_false_iff_not, Bool.not_eq_true', Bool.not_eq_false', Int.natCast_inj] at hb) | skip) | ((refine And.intro (by first | exact trivial | rfl | exact gd_self | exact gd_any (by omega) | exact fun h => h | decide | (constructor <;> simp [chunk, maxLen]; done) | (intro h; simpa using h)) ?_); conv => whnf) | fail
      rfl
  · rw [show decide (a = b) = false from decide_eq_false fun h => h1 (by rw [h])]
    repeat' first | with_reducible refine AW_seq ?_ | with_reducible refine AW_block ?_ | ((first | with_reducible refine AW_skip ?_ | with_reducible refine AW_ret ?_ | with_reducible refine AW_region hTt ?_ | fail); conv => whnf) | (exfalso; simp [h1] at hb; done) | ((refine ⟨_, fun _ => (hin).call rfl rfl, ?_⟩); conv => whnf) | (refine AW_cond rfl (fun hb => ?_) (fun hb => ?_) <;> first | (replace hb := of_decide_eq_true hb; try simp only [List.length_map] at hb) | (replace hb := of_decide_eq_false hb; try simp only [List.length_map] at hb) | (simp only [List.length_map, bne_iff_ne, ne_eq, beq_iff_eq, bne_eq_false_iff_eq, beq_eq_false_iff_ne, decide_eq_true_eq, decide_eq_false_iff_not, Bool.not_eq_true', Bool.not_eq_false', Int.natCast_inj] at hb) | skip) | ((refine And.intro (by first | exact trivial | rfl | exact gd_self | exact gd_any (by omega) | exact fun h => h | decide | (constructor <;> simp [chunk, maxLen]; done) | (intro h; simpa using h)) ?_); conv => whnf) | fail
    rfl
end Go.Proofs.YtfghooojingdhaaDoor
namespace Go.Proofs.YtfghooojingdhaaDoor
open Go Go.QL
set_option maxHeartbeats 3200000
attribute [local irreducible] ACall FnC YC
theorem gchecks_fn (n : NetT) (hi : i64 n.inn) : FnC Tryd.prog 3 [netAV n] (bv true) := by
  have h1 := pcheck_fn n hi
  have h2 := check_fn n
  have h3 := nets_fn adder adder
  rw [decide_eq_true rfl] at h3
  generalize checkR n = c at h1 h2
  obtain ⟨p, i, e⟩ := c
  try dsimp only at h1 h2
  refine FnC_of_AW hTt Tryd.func3 rfl (by kernel_rfl) (res := [.tmp 2]) rfl Tryd.ntmps3 (by simp) fun w0 K0 => ?_
  dsimp only [entry]
  repeat' first | with_reducible refine AW_seq ?_ | ((first | with_reducible refine AW_ret ?_ | with_reducible refine AW_region hTt ?_ | ((refine ⟨_, (h1).call rfl rfl, ?_⟩); (rintro _ _ ⟨rfl, rfl⟩)) | ((refine ⟨_, (h2).call rfl rfl, ?_⟩); (rintro _ _ ⟨rfl, rfl⟩)) | refine ⟨_, fun _ => (padder_fn).call rfl rfl, ?_⟩ | refine ⟨_, fun _ => (adder_fn).call rfl rfl, ?_⟩ | refine ⟨_, fun _ => (h3).call rfl rfl, ?_⟩ | refine ⟨_, fun _ => (awake_fn).call rfl rfl, ?_⟩ | fail); conv => whnf) | ((refine And.intro (by first | exact trivial | rfl | exact gd_self | exact gd_any (by omega) | exact fun h => h | decide | (constructor <;> simp [chunk, maxLen]; done) | (intro h; simpa using h)) ?_); conv => whnf) | fail
  exact (show ∀ b, b = true → some (bv b) = some (bv true) from fun b h => by rw [h]) _ (by simp)
end Go.Proofs.YtfghooojingdhaaDoor
