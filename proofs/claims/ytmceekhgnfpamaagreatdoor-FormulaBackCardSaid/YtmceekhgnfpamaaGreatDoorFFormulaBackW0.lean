/- What the functions that this law reaches return: part 0. No condition. -/
import Derived.Test.YtmceekhgnfpamaaGreatDoorB05
set_option linter.all false
namespace Go.Proofs.YtmceekhgnfpamaaGreatDoor
open Go Go.QL FoT
set_option maxHeartbeats 3200000
attribute [local irreducible] ACall FnC zbH zeL zD
theorem zgN (s : Bs8) : (∃ g, zbH s = (g, 0, 0) ∧ zD g = 0) ∨ ∃ a e, zbH s = (zdw, a, e) ∧ e ≠ 0 := by
 unfold zbH
 split
 ·exact .inr ⟨_, _, rfl, by decide⟩
 ·split
  ·exact .inr ⟨_, _, rfl, by decide⟩
  ·exact .inr ⟨_, _, rfl, by decide⟩
  ·split
   ·exact .inr ⟨_, _, rfl, by decide⟩
   ·split
    ·rename_i h; exact .inl ⟨_, rfl, h⟩
    ·exact .inr ⟨_, _, rfl, by decide⟩
theorem zg9 {f : FormT} (h : zD f = 0) : zd0 f = (zeL f, 0) := by unfold zd0; rw [if_neg (by omega)]
theorem zk9 {f : FormT} (h : zD f ≠ 0) : zd0 f = ([], zD f) := by unfold zd0; rw [if_pos h]
theorem zse (f : FormT) (s : Bs8) : FnC Tryz.prog 8 [zaB f, sv (bs s)] (bv true) := by
 have aw := zcK
 have rs := zbK s
 have wf := zcX f
 have ff := zdu f
 by_cases hf : zD f = 0
 ·obtain ⟨hrw, hl⟩ := zeT hf
  have rf := zbK (zeL f)
  rw [hrw] at rf
  rw [zg9 hf] at wf
  have hsz := zbj (zeL f)
  rcases zgN s with ⟨g, hg, hcg⟩ | ⟨a, e, hg, he⟩
  ·rw [hg] at rs
   have wg := zcX g
   rw [zg9 hcg] at wg
   obtain ⟨hrg, hlg⟩ := zeT hcg
   have rg := zbK (zeL g)
   rw [hrg] at rg
   have fg := zdu g
   dsimp only at rs rf wf wg rg
   refine zj hTt Tryz.func8 rfl (by kernel_rfl) (res := [.tmp 4]) rfl Tryz.ntmps8 (by simp) fun w0 K0 => ?_
   dsimp only [entry]
   repeat' first | refine zd ?_ | ((first | refine zf ?_ | refine zi ?_ | refine zb hTt ?_ | fail); conv => whnf) | (exact absurd hb (by omega)) | ((first | ((refine ⟨_, (wf).call rfl rfl, ?_⟩); (rintro _ _ ⟨rfl, rfl⟩)) | ((refine ⟨_, (rf).call rfl rfl, ?_⟩); (rintro _ _ ⟨rfl, rfl⟩)) | refine ⟨_, fun _ => (ff).call rfl rfl, ?_⟩ | ((refine ⟨_, (rs).call rfl rfl, ?_⟩); (rintro _ _ ⟨rfl, rfl⟩)) | ((refine ⟨_, (wg).call rfl rfl, ?_⟩); (rintro _ _ ⟨rfl, rfl⟩)) | ((refine ⟨_, (rg).call rfl rfl, ?_⟩); (rintro _ _ ⟨rfl, rfl⟩)) | refine ⟨_, fun _ => (fg).call rfl rfl, ?_⟩ | refine ⟨_, fun _ => (aw).call rfl rfl, ?_⟩ | refine And.intro ?_ ?_; focus (first | (exact trivial) | (exact fun h => h) | (exact zu) | (exact zw) | (exact zx) | (exact zE) | (exact fun h _ => h) | fail) | fail); conv => whnf) | (refine za rfl (fun _ => ?_) (fun hb => absurd (show true = false from hb) (by decide))) | (refine za rfl (fun hb => absurd (show false = true from hb) (by decide)) (fun _ => ?_)) | (refine za rfl (fun hb => ?_) (fun hb => ?_) <;> first | (replace hb := of_decide_eq_true hb; try simp only [List.length_map] at hb) | (replace hb := of_decide_eq_false hb; try simp only [List.length_map] at hb)) | fail
   rfl
  ·rw [hg] at rs
   dsimp only at rs rf wf
   refine zj hTt Tryz.func8 rfl (by kernel_rfl) (res := [.tmp 4]) rfl Tryz.ntmps8 (by simp) fun w0 K0 => ?_
   dsimp only [entry]
   repeat' first | refine zd ?_ | ((first | refine zf ?_ | refine zi ?_ | refine zb hTt ?_ | fail); conv => whnf) | (exact absurd hb (by omega)) | ((first | ((refine ⟨_, (wf).call rfl rfl, ?_⟩); (rintro _ _ ⟨rfl, rfl⟩)) | ((refine ⟨_, (rf).call rfl rfl, ?_⟩); (rintro _ _ ⟨rfl, rfl⟩)) | refine ⟨_, fun _ => (ff).call rfl rfl, ?_⟩ | ((refine ⟨_, (rs).call rfl rfl, ?_⟩); (rintro _ _ ⟨rfl, rfl⟩)) | refine ⟨_, fun _ => (aw).call rfl rfl, ?_⟩ | refine And.intro ?_ ?_; focus (first | (exact trivial) | (exact fun h => h) | (exact zu) | (exact zw) | (exact zx) | (exact zE) | (exact fun h _ => h) | fail) | fail); conv => whnf) | (refine za rfl (fun _ => ?_) (fun hb => absurd (show true = false from hb) (by decide))) | (refine za rfl (fun hb => ?_) (fun hb => ?_) <;> first | (replace hb := of_decide_eq_true hb; try simp only [List.length_map] at hb) | (replace hb := of_decide_eq_false hb; try simp only [List.length_map] at hb) | (simp only [List.length_map, bne_iff_ne, ne_eq, beq_iff_eq, bne_eq_false_iff_eq, beq_eq_false_iff_ne, decide_eq_true_eq, decide_eq_false_iff_not, Bool.not_eq_true', Bool.not_eq_false', Int.natCast_inj] at hb)) | (refine fun hln => ?_; (try rw [List.length_map] at hln); unfold maxLen at hln; conv => whnf) | fail
   rfl
 ·rw [zk9 hf] at wf
  rcases zgN s with ⟨g, hg, hcg⟩ | ⟨a, e, hg, he⟩
  ·rw [hg] at rs
   have wg := zcX g
   rw [zg9 hcg] at wg
   obtain ⟨hrg, hlg⟩ := zeT hcg
   have rg := zbK (zeL g)
   rw [hrg] at rg
   have fg := zdu g
   dsimp only at rs wf wg rg
   refine zj hTt Tryz.func8 rfl (by kernel_rfl) (res := [.tmp 4]) rfl Tryz.ntmps8 (by simp) fun w0 K0 => ?_
   dsimp only [entry]
   repeat' first | refine zd ?_ | ((first | refine zf ?_ | refine zi ?_ | refine zb hTt ?_ | fail); conv => whnf) | (exact absurd hb (by omega)) | ((first | ((refine ⟨_, (wf).call rfl rfl, ?_⟩); (rintro _ _ ⟨rfl, rfl⟩)) | ((refine ⟨_, (rs).call rfl rfl, ?_⟩); (rintro _ _ ⟨rfl, rfl⟩)) | ((refine ⟨_, (wg).call rfl rfl, ?_⟩); (rintro _ _ ⟨rfl, rfl⟩)) | ((refine ⟨_, (rg).call rfl rfl, ?_⟩); (rintro _ _ ⟨rfl, rfl⟩)) | refine ⟨_, fun _ => (fg).call rfl rfl, ?_⟩ | refine ⟨_, fun _ => (aw).call rfl rfl, ?_⟩ | refine And.intro ?_ ?_; focus (first | (exact trivial) | (exact fun h => h) | (exact zu) | (exact zw) | (exact zx) | (exact zE) | (exact fun h _ => h) | fail) | fail); conv => whnf) | (refine za rfl (fun hb => absurd (show false = true from hb) (by decide)) (fun _ => ?_)) | (refine za rfl (fun hb => ?_) (fun hb => ?_) <;> first | (replace hb := of_decide_eq_true hb; try simp only [List.length_map] at hb) | (replace hb := of_decide_eq_false hb; try simp only [List.length_map] at hb)) | fail
   rfl
  ·rw [hg] at rs
   dsimp only at rs wf
   refine zj hTt Tryz.func8 rfl (by kernel_rfl) (res := [.tmp 4]) rfl Tryz.ntmps8 (by simp) fun w0 K0 => ?_
   dsimp only [entry]
   repeat' first | refine zd ?_ | ((first | refine zf ?_ | refine zi ?_ | refine zb hTt ?_ | fail); conv => whnf) | (exact absurd hb (by omega)) | ((first | ((refine ⟨_, (wf).call rfl rfl, ?_⟩); (rintro _ _ ⟨rfl, rfl⟩)) | ((refine ⟨_, (rs).call rfl rfl, ?_⟩); (rintro _ _ ⟨rfl, rfl⟩)) | refine ⟨_, fun _ => (aw).call rfl rfl, ?_⟩ | refine And.intro ?_ ?_; focus (first | (exact trivial) | (exact fun h => h) | (exact zu) | (exact zw) | (exact zx) | (exact zE) | (exact fun h _ => h) | fail) | fail); conv => whnf) | (refine za rfl (fun hb => ?_) (fun hb => ?_) <;> first | (replace hb := of_decide_eq_true hb; try simp only [List.length_map] at hb) | (replace hb := of_decide_eq_false hb; try simp only [List.length_map] at hb) | (simp only [List.length_map, bne_iff_ne, ne_eq, beq_iff_eq, bne_eq_false_iff_eq, beq_eq_false_iff_ne, decide_eq_true_eq, decide_eq_false_iff_not, Bool.not_eq_true', Bool.not_eq_false', Int.natCast_inj] at hb)) | (refine fun hln => ?_; (try rw [List.length_map] at hln); unfold maxLen at hln; conv => whnf) | fail
   rfl
end Go.Proofs.YtmceekhgnfpamaaGreatDoor
