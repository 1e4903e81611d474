/- What the functions that this law reaches return: part 0. No condition. -/
import Derived.Test.YtmceekhgnfpamaaGreatDoorB05
set_option linter.all false
namespace Go.Proofs.YtmceekhgnfpamaaGreatDoor
open Go Go.QL FoT
set_option maxHeartbeats 3200000
attribute [local irreducible] ACall FnC
theorem zoA {regs : List FloT} {steps : List StepT} (h : (zaC regs steps).2.2 ≠ 0) : (zaC regs steps).1 = [] := by
 unfold zaC at h ⊢
 by_cases h1 : ¬ (1 ≤ regs.length ∧ regs.length ≤ 8) ∨ 40 < steps.length
 ·rw [if_pos h1]
 rw [if_neg h1] at h ⊢
 cases h2 : za8 regs 0 with
 | some i => rfl
 | none =>
  rw [h2] at h
  dsimp only at h ⊢
  cases h3 : zag regs.length steps 0 with
  | some p => rfl
  | none =>
   rw [h3] at h
   dsimp only at h ⊢
   cases h4 : runS steps 0 regs with
   | error p => rfl
   | ok l => rw [h4] at h; exact absurd rfl h
theorem zc8 {x : FloT} (h : zG x) : i64 x.mant := by
 have := zI h
 unfold zau at this
 unfold i64
 omega
theorem zpg {n : Nat} (h : n ≤ 2 ^ 63 - 1) : IntKind.i64.wrap ((n : Int) + 1) ≠ 0 := by
 rcases Nat.lt_or_ge n (2 ^ 63 - 1) with h1 | h1
 ·rw [zg (by omega)]; omega
 ·obtain rfl : n = 2 ^ 63 - 1 := by omega
  decide
theorem cut_fn (regs : List FloT) (steps : List StepT) (c : UInt8) (hr : ∀ x ∈ regs, i64 x.mant) : FnC Tryz.prog 14 [zdT regs, zhW steps, iv .u8 c.toNat] (bv true) := by
 have aw := zcK
 have k1 := za5 regs steps hr
 have hls : (steps.map stPV).length = steps.length := List.length_map _
 by_cases he : (zaC regs steps).2.2 = 0
 ·obtain ⟨h1, h2, h3, h4, _⟩ := zgu he
  obtain ⟨k, hk⟩ : ∃ k : Nat, k = c.toNat % (steps.length + 1) := ⟨_, rfl⟩
  have hkl : k ≤ steps.length := by have := Nat.mod_lt c.toNat (show 0 < steps.length + 1 by omega); omega
  have hki : Int.tmod (c.toNat : Int) ((steps.length : Int) + 1) = k := by rw [hk]; rfl
  obtain ⟨m, l, c1, c2, c3⟩ := zoz he k
  rw [c3] at k1
  have k2 := za5 regs (steps.take k) hr
  rw [c1] at k2
  have k3 := za5 m (steps.drop k) (fun x hx => zc8 ((zgu (show (zaC m (steps.drop k)).2.2 = 0 by rw [c2])).2.2.1 x hx))
  rw [c2] at k3
  have fl := zfC l
  have q2 : PV.s 4 (List.drop (Int.toNat 0) (List.take (k : Int).toNat (steps.map stPV))) = .s 4 ((steps.take k).map stPV) := by
   rw [Int.toNat_natCast, List.map_take]; rfl
  have q3 : PV.s 4 (List.drop (k : Int).toNat (List.take (((steps.map stPV).length : Int)).toNat (steps.map stPV))) = .s 4 ((steps.drop k).map stPV) := by
   rw [Int.toNat_natCast, Int.toNat_natCast, List.take_length, List.map_drop]
  have k2 : FnC Tryz.prog 32 [zdT regs, .x (.d (.s 4 (List.drop (Int.toNat 0) (List.take (k : Int).toNat (steps.map stPV)))))] (cAV (m, 0, 0)) := by rw [q2]; exact k2
  have k3 : FnC Tryz.prog 32 [zdT m, .x (.d (.s 4 (List.drop (k : Int).toNat (List.take (((steps.map stPV).length : Int)).toNat (steps.map stPV)))))] (cAV (l, 0, 0)) := by rw [q3]; exact k3
  have hc8 := c.toNat_lt
  have hkw : (c.toNat : Int).tmod (((steps.map stPV).length : Int) + 1) = k := by rw [hls, hki]
  refine zj hTt Tryz.func14 rfl (by kernel_rfl) (res := [.tmp 6]) rfl Tryz.ntmps14 (by simp) fun w0 K0 => ?_
  dsimp only [entry]
  repeat' first | refine zd ?_ | ((first | refine zf ?_ | refine zi ?_ | refine zb hTt ?_ | fail); conv => whnf) | (exact absurd hb (by omega)) | ((first | ((refine ⟨_, (k1).call rfl rfl, ?_⟩); (rintro _ _ ⟨rfl, rfl⟩)) | ((refine ⟨_, (k2).call rfl rfl, ?_⟩); (rintro _ _ ⟨rfl, rfl⟩)) | ((refine ⟨_, (k3).call rfl rfl, ?_⟩); (rintro _ _ ⟨rfl, rfl⟩)) | refine ⟨_, fun _ => (fl).call rfl rfl, ?_⟩ | refine ⟨_, fun _ => (aw).call rfl rfl, ?_⟩ | refine And.intro ?_ ?_; focus (first | (exact trivial) | (exact fun h => h) | (exact zu) | (exact zw) | (exact zx) | (exact zE) | (exact fun h _ => h) | fail) | refine ⟨_, hkw, ?_⟩ | fail); conv => whnf) | (refine za rfl (fun hb => absurd (show false = true from hb) (by decide)) (fun _ => ?_)) | (refine za rfl (fun hb => ?_) (fun hb => ?_) <;> first | (replace hb := of_decide_eq_true hb; try simp only [List.length_map] at hb) | (replace hb := of_decide_eq_false hb; try simp only [List.length_map] at hb)) | ((first | refine ⟨_, zg (by first | omega | (simp only [List.length_map]; omega)), ?_⟩ | refine andA ?_ | fail); conv => whnf) | (refine fun hln => ?_; (try rw [List.length_map] at hln); unfold maxLen at hln; conv => whnf) | fail
  rfl
 ·have hl := zoA he
  obtain ⟨⟨l, i, e⟩, hR⟩ : ∃ p, zaC regs steps = p := ⟨_, rfl⟩
  rw [hR] at he hl k1
  dsimp only at he hl k1
  subst hl
  have hcf : (bif (bif (e != 0) then decide ((((([] : List FloT).map flPV).length : Nat) : Int) > 0) else false) then true else (bif e == 0 then i != 0 else false)) = false := by simp [he]
  have hct : (bif (e != 0) then true else decide (((steps.map stPV).length : Int) > 40)) = true := by simp [he]
  refine zj hTt Tryz.func14 rfl (by kernel_rfl) (res := [.tmp 6]) rfl Tryz.ntmps14 (by simp) fun w0 K0 => ?_
  dsimp only [entry]
  repeat' first | refine zd ?_ | ((first | refine zf ?_ | refine zi ?_ | refine zb hTt ?_ | fail); conv => whnf) | (refine za rfl (zM hcf) (fun _ => ?_)) | (refine za rfl (fun _ => ?_) (zaf hct)) | ((first | ((refine ⟨_, (k1).call rfl rfl, ?_⟩); (rintro _ _ ⟨rfl, rfl⟩)) | ((refine ⟨_, (aw).call rfl rfl, ?_⟩); (rintro _ _ ⟨rfl, rfl⟩)) | refine And.intro ?_ ?_; focus (first | (exact trivial) | (exact fun h => h) | (exact zu) | (exact zw) | (exact zx) | (exact zE) | (exact fun h _ => h) | fail) | refine And.intro (ze (zpg (by rw [hls]; exact hln))) ?_ | refine ⟨_, rfl, ?_⟩ | fail); conv => whnf) | (refine fun hln => ?_; (try rw [List.length_map] at hln); unfold maxLen at hln; conv => whnf) | fail
  rfl
end Go.Proofs.YtmceekhgnfpamaaGreatDoor
