/- What the functions that this law reaches return: part 0. No condition. -/
import Derived.Test.YtfghooojingdhaaDoorB05
set_option linter.all false
namespace Go.Proofs.YtfghooojingdhaaDoor
open Go Go.QL
set_option maxHeartbeats 3200000
attribute [local irreducible] ACall FnC YC
def beatsAV (st x : Int) (xs : List Int) (f : FaultT) : AV := .a [.d (.v (.int .i64 st)), .d (.v (.int .i64 x)), .d (intsPV xs), .d (.v (.int .i64 f.sig)), .d (.v (.int .i64 f.at_))]
theorem gruns_fn (n : NetT) (hi : i64 n.inn) (st x : Int) (hs : i64 st) (xs : List Int) (f : FaultT) : FnC Tryd.prog 10 [netAV n, beatsAV st x xs f] (bv true) := by
  have h1 := pstep_fn n hi st x
  rw [step_eq n st x hs] at h1
  have h2 := step_ref n st x
  have h3 := prun_fn n hi xs
  have h4 := run_ref n xs
  have h5 := pstuck_fn n hi f xs
  have h6 := stuck_ref n f xs
  generalize stepR n st x = c at h1 h2
  obtain ⟨p, i, e⟩ := c
  generalize runR n xs = r at h3 h4
  obtain ⟨r, re⟩ := r
  generalize stuckR n f xs = s at h5 h6
  obtain ⟨s, se⟩ := s
  have i1 := ints_fn r r
  rw [show sameInts r r = true from decide_eq_true rfl] at i1
  have i2 := ints_fn s s
  rw [show sameInts s s = true from decide_eq_true rfl] at i2
  try dsimp only at h1 h2 h3 h4 h5 h6
  obtain ⟨fs, fa⟩ := f
  refine FnC_of_AW hTt Tryd.func10 rfl (by kernel_rfl) (res := [.tmp 4]) rfl Tryd.ntmps10 (by simp) fun w0 K0 => ?_
  dsimp only [entry]
  repeat' first | with_reducible refine AW_seq ?_ | ((first | with_reducible refine AW_skip ?_ | with_reducible refine AW_ret ?_ | with_reducible refine AW_region hTt ?_ | fail); conv => whnf) | (exfalso; simp at hb; done) | ((first | ((refine ⟨_, (h1).call rfl rfl, ?_⟩); (rintro _ _ ⟨rfl, rfl⟩)) | ((refine ⟨_, (h2).call rfl rfl, ?_⟩); (rintro _ _ ⟨rfl, rfl⟩)) | ((refine ⟨_, (h3).call rfl rfl, ?_⟩); (rintro _ _ ⟨rfl, rfl⟩)) | ((refine ⟨_, (h4).call rfl rfl, ?_⟩); (rintro _ _ ⟨rfl, rfl⟩)) | ((refine ⟨_, (h5).call rfl rfl, ?_⟩); (rintro _ _ ⟨rfl, rfl⟩)) | ((refine ⟨_, (h6).call rfl rfl, ?_⟩); (rintro _ _ ⟨rfl, rfl⟩)) | ((refine ⟨_, (i1).call rfl rfl, ?_⟩); (rintro _ _ ⟨rfl, rfl⟩)) | ((refine ⟨_, (i2).call rfl rfl, ?_⟩); (rintro _ _ ⟨rfl, rfl⟩)) | refine ⟨_, fun _ => (awake_fn).call rfl rfl, ?_⟩ | fail); conv => whnf) | (refine AW_cond rfl (fun hb => ?_) (fun hb => ?_) <;> first | (replace hb := of_decide_eq_true hb; try simp only [List.length_map] at hb) | (replace hb := of_decide_eq_false hb; try simp only [List.length_map] at hb) | (simp only [List.length_map, bne_iff_ne, ne_eq, beq_iff_eq, bne_eq_false_iff_eq, beq_eq_false_iff_ne, decide_eq_true_eq, decide_eq_false_iff_not, Bool.not_eq_true', Bool.not_eq_false', Int.natCast_inj] at hb) | skip) | ((refine And.intro (by first | exact trivial | rfl | exact gd_self | exact gd_any (by omega) | exact fun h => h | decide | (constructor <;> simp [chunk, maxLen]; done) | (intro h; simpa using h)) ?_); conv => whnf) | fail
  exact (show ∀ b, b = true → some (bv b) = some (bv true) from fun b h => by rw [h]) _ (by simp)
end Go.Proofs.YtfghooojingdhaaDoor
