/- What the functions that this law reaches return: part 0. No condition. -/
import Derived.Test.YtmceekhgnfpamaaGreatDoorB05
set_option linter.all false
namespace Go.Proofs.YtmceekhgnfpamaaGreatDoor
open Go Go.QL FoT
set_option maxHeartbeats 3200000
attribute [local irreducible] ACall FnC
theorem zoA {regs : List FloT} {steps : List StepT} (h : (zaC regs steps).2.2 ≠ 0) : (zaC regs steps).1 = [] := by
 unfold zaC at h ⊢
 by_cases h1 : ¬ (1 ≤ regs.length ∧ regs.length ≤ 8) ∨ 40 < steps.length
 ·rw [if_pos h1]
 rw [if_neg h1] at h ⊢
 cases h2 : za8 regs 0 with
 | some i => rfl
 | none =>
  rw [h2] at h
  dsimp only at h ⊢
  cases h3 : zag regs.length steps 0 with
  | some p => rfl
  | none =>
   rw [h3] at h
   dsimp only at h ⊢
   cases h4 : runS steps 0 regs with
   | error p => rfl
   | ok l => rw [h4] at h; exact absurd rfl h
theorem zc8 {x : FloT} (h : zG x) : i64 x.mant := by
 have := zI h
 unfold zau at this
 unfold i64
 omega
theorem zpg {n : Nat} (h : n ≤ 2 ^ 63 - 1) : IntKind.i64.wrap ((n : Int) + 1) ≠ 0 := by
 rcases Nat.lt_or_ge n (2 ^ 63 - 1) with h1 | h1
 ·rw [zg (by omega)]; omega
 ·obtain rfl : n = 2 ^ 63 - 1 := by omega
  decide
theorem cut_fn (regs : List FloT) (steps : List StepT) (c : UInt8) (hr : ∀ x ∈ regs, i64 x.mant) : FnC Tryz.prog 14 [zdT regs, zhW steps, iv .u8 c.toNat] (bv true) := by
 have aw := zcK
 have k1 := za5 regs steps hr
 have hls : (steps.map stPV).length = steps.length := List.length_map _
 by_cases he : (zaC regs steps).2.2 = 0
 ·obtain ⟨h1, h2, h3, h4, _⟩ := zgu he
  obtain ⟨k, hk⟩ : ∃ k : Nat, k = c.toNat % (steps.length + 1) := ⟨_, rfl⟩
  have hkl : k ≤ steps.length := by have := Nat.mod_lt c.toNat (show 0 < steps.length + 1 by omega); omega
  have hki : Int.tmod (c.toNat : Int) ((steps.length : Int) + 1) = k := by rw [hk]; rfl
  obtain ⟨m, l, c1, c2, c3⟩ := zoz he k
  rw [c3] at k1
  have k2 := za5 regs (steps.take k) hr
  rw [c1] at k2
  have k3 := za5 m (steps.drop k) (fun x hx => zc8 ((zgu (show (zaC m (steps.drop k)).2.2 = 0 by rw [c2])).2.2.1 x hx))
  rw [c2] at k3
  have fl := zfC l
  have q2 : PV.s 4 (List.drop (Int.toNat 0) (List.take (k : Int).toNat (steps.map stPV))) = .s 4 ((steps.take k).map stPV) := by
   rw [Int.toNat_natCast, List.map_take]; rfl
  have q3 : PV.s 4 (List.drop (k : Int).toNat (List.take (((steps.map stPV).length : Int)).toNat (steps.map stPV))) = .s 4 ((steps.drop k).map stPV) := by
   rw [Int.toNat_natCast, Int.toNat_natCast, List.take_length, List.map_drop]
  have k2 : FnC Tryz.prog 32 [zdT regs, .x (.d (.s 4 (List.drop (Int.toNat 0) (List.take (k : Int).toNat (steps.map stPV)))))] (cAV (m, 0, 0)) := by rw [q2]; exact k2
  have k3 : FnC Tryz.prog 32 [zdT m, .x (.d (.s 4 (List.drop (k : Int).toNat (List.take (((steps.map stPV).length : Int)).toNat (steps.map stPV)))))] (cAV (l, 0, 0)) := by rw [q3]; exact k3
  have hc8 := c.toNat_lt
  have hkw : (c.toNat : Int).tmod (((steps.map stPV).length : Int) + 1) = k := by rw [hls, hki]
  refine zj hTt Tryz.func14 rfl (by kernel_rfl) (res := [.tmp 6]) rfl Tryz.ntmps14 (by simp) fun w0 K0 => ?_
  dsimp only [entry]
  repeat' first | refine zd ?_ | ((first | refine zf ?_ | refine zi ?_ | refine zb hTt ?_ | fail); conv => whnf) | (exact absurd hb (by omega)) | ((first | ((refine ⟨_, (k1).call rfl rfl, ?_⟩); (rintro _ _ ⟨rfl, rfl⟩)) | ((refine ⟨_, (k2).call rfl rfl, ?_⟩); (rintro _ _ ⟨rfl, rfl⟩)) | ((refine ⟨_, (k3).call rfl rfl, ?_⟩); (rintro _ _ ⟨rfl, rfl⟩)) | refine ⟨_, fun _ => (fl).call rfl rfl, ?_⟩ | refine ⟨_, fun _ => (aw).call rfl rfl, ?_⟩ | refine And.intro ?_ ?_; focus (first | (exact trivial) | (exact fun h => h) | (exact zu) | (exact zw) | (exact zx) | (exact zE) | (exact fun h _ => h) | fail) | refine ⟨_, hkw, ?_⟩ | fail); conv => whnf) | (refine za rfl (fun hb => absurd (show false = true from hb) (by decide)) (fun _ => ?_)) | (refine za rfl (fun hb => ?_) (fun hb => ?_) <;> first | (replace hb := of_decide_eq_true hb; try simp only [List.length_map] at hb) | (replace hb := of_decide_eq_false hb; try simp only [List.length_map] at hb)) | ((first | refine ⟨_, zg (by first | omega | (simp only [List.length_map]; omega)), ?_⟩ | refine andA ?_ | fail); conv => whnf) | (refine fun hln => ?_; (try rw [List.length_map] at hln); unfold maxLen at hln; conv => whnf) | fail
  rfl
 ·have hl := zoA he
  obtain ⟨⟨l, i, e⟩, hR⟩ : ∃ p, zaC regs steps = p := ⟨_, rfl⟩
  rw [hR] at he hl k1
  dsimp only at he hl k1
  subst hl
  have hcf : (bif (bif (e != 0) then decide ((((([] : List FloT).map flPV).length : Nat) : Int) > 0) else false) then true else (bif e == 0 then i != 0 else false)) = false := by simp [he]
  have hct : (bif (e != 0) then true else decide (((steps.map stPV).length : Int) > 40)) = true := by simp [he]
  refine zj hTt Tryz.func14 rfl (by kernel_rfl) (res := [.tmp 6]) rfl Tryz.ntmps14 (by simp) fun w0 K0 => ?_
  dsimp only [entry]
  repeat' first | refine zd ?_ | ((first | refine zf ?_ | refine zi ?_ | refine zb hTt ?_ | fail); conv => whnf) | (refine za rfl (zM hcf) (fun _ => ?_)) | (refine za rfl (fun _ => ?_) (zaf hct)) | ((first | ((refine ⟨_, (k1).call rfl rfl, ?_⟩); (rintro _ _ ⟨rfl, rfl⟩)) | ((refine ⟨_, (aw).call rfl rfl, ?_⟩); (rintro _ _ ⟨rfl, rfl⟩)) | refine And.intro ?_ ?_; focus (first | (exact trivial) | (exact fun h => h) | (exact zu) | (exact zw) | (exact zx) | (exact zE) | (exact fun h _ => h) | fail) | refine And.intro (ze (zpg (by rw [hls]; exact hln))) ?_ | refine ⟨_, rfl, ?_⟩ | fail); conv => whnf) | (refine fun hln => ?_; (try rw [List.length_map] at hln); unfold maxLen at hln; conv => whnf) | fail
  rfl
end Go.Proofs.YtmceekhgnfpamaaGreatDoor
namespace Go.Proofs.YtmceekhgnfpamaaGreatDoor
open Go Go.QL FoT
set_option maxHeartbeats 1600000
attribute [local irreducible] ACall FnC
theorem zoS (n lo hi : Int) : FnC Tryz.prog 61 [iv .i64 n, iv .i64 lo, iv .i64 hi] (bv (bif decide (lo ≤ n) then decide (n ≤ hi) else false)) := by
 refine zj hTt Tryz.func61 rfl (by kernel_rfl) (res := [.tmp 6]) rfl Tryz.ntmps61 (by simp) fun w0 K0 => ?_
 dsimp only [entry]
 repeat' first | refine zd ?_ | ((first | refine zi ?_ | refine zb hTt ?_ | refine And.intro ?_ ?_; focus (first | (exact trivial) | (exact fun h => h) | (exact zu) | (exact zw) | (exact zx) | (exact zE) | (exact fun h _ => h) | fail) | fail); conv => whnf) | fail
 rfl
theorem b3 (a b c : Prop) [Decidable a] [Decidable b] [Decidable c] : (bif (bif decide a then decide b else false) then decide c else false) = decide (a ∧ b ∧ c) := by
 by_cases a <;> by_cases b <;> by_cases c <;> simp [*]
end Go.Proofs.YtmceekhgnfpamaaGreatDoor
namespace Go.Proofs.YtmceekhgnfpamaaGreatDoor
open Go Go.QL FoT
set_option maxHeartbeats 3200000
attribute [local irreducible] ACall FnC
theorem znT : FnC Tryz.prog 101 [] (iv .i64 4194304) := by
 refine zj hTt Tryz.func101 rfl (by kernel_rfl) (res := [.tmp 0]) rfl Tryz.ntmps101 (by simp) fun w0 K0 => ?_
 dsimp only [entry]
 repeat' first | refine zd ?_ | ((first | refine zi ?_ | refine zb hTt ?_ | fail); conv => whnf) | fail
 rfl
theorem zpN : FnC Tryz.prog 102 [] (iv .i64 8388607) := by
 refine zj hTt Tryz.func102 rfl (by kernel_rfl) (res := [.tmp 0]) rfl Tryz.ntmps102 (by simp) fun w0 K0 => ?_
 dsimp only [entry]
 repeat' first | refine zd ?_ | ((first | refine zi ?_ | refine zb hTt ?_ | fail); conv => whnf) | fail
 rfl
theorem flB (m e : Int) (h : i64 m) : (bif eqL [Value.int .i64 m, Value.int .i64 e] [Value.int .i64 0, Value.int .i64 0] then true else bif (bif decide (4194304 ≤ (bif true then (if IntKind.i64.wrap (0 - m) > m then IntKind.i64.wrap (0 - m) else m) else (if IntKind.i64.wrap (0 - m) < m then IntKind.i64.wrap (0 - m) else m))) then
  decide ((bif true then (if IntKind.i64.wrap (0 - m) > m then IntKind.i64.wrap (0 - m) else m) else (if IntKind.i64.wrap (0 - m) < m then IntKind.i64.wrap (0 - m) else m)) ≤ 8388607) else false) then (bif decide (-64 ≤ e) then decide (e ≤ 63) else false) else false) = decide (zG ⟨m, e⟩) := by
 have hM : ∃ M : Int, (bif true then (if IntKind.i64.wrap (0 - m) > m then IntKind.i64.wrap (0 - m) else m) else (if IntKind.i64.wrap (0 - m) < m then IntKind.i64.wrap (0 - m) else m)) = M ∧ ((M = m.natAbs) ∨ (m = -9223372036854775808 ∧ M = m)) := by
  refine ⟨_, rfl, ?_⟩
  rw [cond_true]
  by_cases hm : m = -9223372036854775808
  ·right; subst hm; exact ⟨rfl, by decide⟩
  ·left
   unfold i64 at h
   rw [zg (by omega)]
   split <;> omega
 obtain ⟨M, hM, hc⟩ := hM
 rw [hM, zrh, Bool.eq_iff_iff, decide_eq_true_iff]
 unfold zG zeroFl
 simp only [FloT.mk.injEq, Bool.cond_eq_ite]
 have e1 : (decide (m = 0) && decide (e = 0)) = true ↔ m = 0 ∧ e = 0 := by simp
 by_cases h0 : m = 0 ∧ e = 0
 ·rw [if_pos (e1.2 h0)]; simp [h0]
 ·rw [if_neg (fun h => h0 (e1.1 h))]
  by_cases a1 : 4194304 ≤ M <;> by_cases a2 : M ≤ 8388607 <;> by_cases a3 : -64 ≤ e <;> by_cases a4 : e ≤ 63 <;> simp [a1, a2, a3, a4, h0] <;> omega
theorem zbu (x : FloT) (h : i64 x.mant) : FnC Tryz.prog 41 [flAV x] (bv (decide (zG x))) := by
 have ri := zoS
 have le := znT
 have mo := zpN
 refine zj hTt Tryz.func41 rfl (by kernel_rfl) (res := [.tmp 2]) rfl Tryz.ntmps41 (by simp) fun w0 K0 => ?_
 dsimp only [entry]
 repeat' first | refine zd ?_ | ((first | refine zi ?_ | refine zb hTt ?_ | refine zl hTt hMix (id := 1) 12 false [0, 0, 3, 7, 15, 31, 15, 79, 207, 511, 15, 1039, 4095, 8191, 16383, 32767, 65535, 131071, 262143, 524287] (by kernel_rfl) rfl rfl (by kernel_rfl) ?_ | refine ⟨_, fun _ => ((ri _ _ _)).call rfl rfl, ?_⟩ | refine ⟨_, fun _ _ => (le).call rfl rfl, ?_⟩ | refine ⟨_, fun _ _ => (mo).call rfl rfl, ?_⟩ | refine And.intro ?_ ?_; focus (first | (exact trivial) | (exact fun h => h) | (exact zu) | (exact zw) | (exact zx) | (exact zE) | (exact fun h _ => h) | fail) | refine ⟨_, rfl, ?_⟩ | refine andA ?_ | fail); conv => whnf) | fail
 exact congrArg some (congrArg bv (flB x.mant x.exp h))
end Go.Proofs.YtmceekhgnfpamaaGreatDoor
namespace Go.Proofs.YtmceekhgnfpamaaGreatDoor
open Go Go.QL FoT
set_option maxHeartbeats 3200000
attribute [local irreducible] ACall FnC
theorem zm1 {op : Int} (ho : op = 3 ∨ op = 5) {a b : FloT} (ha : zG a) (hb : zG b) : zaC [a, b] [⟨op, 1, 0, 0⟩] = zaC [a, b] [⟨op, 0, 1, 0⟩] := by
 have hs := zlk ho ha hb
 have h1 : za8 [a, b] 0 = none := zbk.2 (by intro x hx; simp at hx; rcases hx with rfl | rfl <;> assumption)
 have h2 : zag ([a, b].length : Int) [⟨op, 1, 0, 0⟩] 0 = none := zaz.2 (by
  intro s hs; simp at hs; subst hs; rcases ho with rfl | rfl <;> rfl)
 have h3 : zag ([a, b].length : Int) [⟨op, 0, 1, 0⟩] 0 = none := zaz.2 (by
  intro s hs; simp at hs; subst hs; rcases ho with rfl | rfl <;> rfl)
 have h4 : runS [⟨op, 1, 0, 0⟩] 0 [a, b] = runS [⟨op, 0, 1, 0⟩] 0 [a, b] := by
  show (if (FoT.stepM op b a).2 = 0 then runS [] 1 ([a, b].set 0 (FoT.stepM op b a).1) else .error (0, (FoT.stepM op b a).2)) = (if (FoT.stepM op a b).2 = 0 then runS [] 1 ([a, b].set 0 (FoT.stepM op a b).1) else .error (0, (FoT.stepM op a b).2))
  rw [hs]
 unfold zaC
 rw [if_neg (by simp), if_neg (by simp), h1, h2, h3, h4]
theorem zm0 {a : FloT} (ha : zG a) : zaC [a, ⟨4194304, 1⟩, zeroFl, zeroFl, zeroFl] [⟨4, 0, 0, 3⟩, ⟨5, 0, 1, 4⟩, ⟨3, 4, 2, 2⟩] = ([a, ⟨4194304, 1⟩, a, zeroFl, a], 0, 0) := by
 refine zjL ⟨by simp, by simp⟩ (by simp) ?_ ?_ ?_
 ·intro x hx
  simp at hx
  rcases hx with rfl | rfl | rfl
  ·exact ha
  ·decide
  ·exact .inl rfl
 ·intro s hs
  simp at hs
  rcases hs with rfl | rfl | rfl <;> rfl
 ·have s1 : FoT.stepM 4 a a = (zeroFl, 0) := sub_self ha
  have s2 : FoT.stepM 5 a ⟨4194304, 1⟩ = (a, 0) := mul_one ha
  have s3 : FoT.stepM 3 a zeroFl = (a, 0) := add_zero ha
  rw [runS]
  show (if (FoT.stepM 4 a a).2 = 0 then runS _ _ [a, ⟨4194304, 1⟩, zeroFl, (FoT.stepM 4 a a).1, zeroFl] else _) = _
  rw [s1, if_pos rfl, runS]
  show (if (FoT.stepM 5 a ⟨4194304, 1⟩).2 = 0 then runS _ _ [a, ⟨4194304, 1⟩, zeroFl, zeroFl, (FoT.stepM 5 a ⟨4194304, 1⟩).1] else _) = _
  rw [s2, if_pos rfl, runS]
  show (if (FoT.stepM 3 a zeroFl).2 = 0 then runS _ _ [a, ⟨4194304, 1⟩, (FoT.stepM 3 a zeroFl).1, zeroFl, a] else _) = _
  rw [s3, if_pos rfl, runS]
theorem zr4 (a b : FloT) (ha64 : i64 a.mant) (hb64 : i64 b.mant) : FnC Tryz.prog 13 [flAV a, flAV b] (bv true) := by
 have aw := zcK
 have fa := zbu a ha64
 have fb := zbu b hb64
 have h64 : ∀ x ∈ [a, b], i64 x.mant := by intro x hx; simp at hx; rcases hx with rfl | rfl <;> assumption
 by_cases hab : zG a ∧ zG b
 ·obtain ⟨ha, hb'⟩ := hab
  rw [decide_eq_true ha] at fa
  rw [decide_eq_true hb'] at fb
  have k1 := fun op => za5 [a, b] [⟨op, 0, 1, 0⟩] h64
  have k2 := fun op => za5 [a, b] [⟨op, 1, 0, 0⟩] h64
  have k3 := za5 [a, ⟨4194304, 1⟩, zeroFl, zeroFl, zeroFl] [⟨4, 0, 0, 3⟩, ⟨5, 0, 1, 4⟩, ⟨3, 4, 2, 2⟩] (by
   intro x hx; simp at hx; rcases hx with rfl | rfl | rfl
   ·exact ha64
   ·unfold i64; decide
   ·unfold i64; decide)
  rw [zm0 ha] at k3
  have fl := zfC [a, ⟨4194304, 1⟩, a, zeroFl, a]
  refine zj hTt Tryz.func13 rfl (by kernel_rfl) (res := [.tmp 4]) rfl Tryz.ntmps13 (by simp) fun w0 K0 => ?_
  dsimp only [entry]
  repeat' first | refine zd ?_ | refine zc ?_ | ((first | refine zf ?_ | refine zb hTt ?_ | ((refine ⟨_, (fa).call rfl rfl, ?_⟩); (rintro _ _ ⟨rfl, rfl⟩)) | refine ⟨_, fun _ => (fb).call rfl rfl, ?_⟩ | refine And.intro ?_ ?_; focus (first | (exact trivial) | (exact fun h => h) | (exact zu) | (exact zw) | (exact zx) | (exact zE) | (exact fun h _ => h) | fail) | fail); conv => whnf) | (refine za rfl (fun hb => absurd (show false = true from hb) (by decide)) (fun _ => ?_)) | fail
  refine zJ (fun op : Nat => [(9, iv .i64 op), (8, .x (.b 8 0)), (4, bv false), (3, .x (.b 3 0)), (2, .x (.b 2 0))]) (fun _ => [(8, .box [.d (.v (.int .i64 4194304)), .d (.v (.int .i64 1))]), (3, .box [.d (.v (.int .i64 b.mant)), .d (.v (.int .i64 b.exp))]), (2, .box [.d (.v (.int .i64 a.mant)), .d (.v (.int .i64 a.exp))])]) (fun op => op = 3 ∨ op = 5 ∨ op = 7) (fun op => 8 - op) 3 (.inl rfl) impA ?_
  intro op ho
  rcases Nat.lt_or_ge op 6 with ho2 | ho2
  ·have ho3 : (op : Int) = 3 ∨ (op : Int) = 5 := by omega
   have k1 := k1 op
   have k2 := k2 op
   rw [zm1 ho3 ha hb'] at k2
   generalize zaC [a, b] [⟨op, 0, 1, 0⟩] = R at k1 k2
   obtain ⟨l, i, e⟩ := R
   have fl := zfC l
   clear k3
   have hcf : (bif !true then true else (e != e)) = false := by simp
   repeat' first | refine zd ?_ | refine zc ?_ | ((first | refine zf ?_ | refine zk ?_ | refine zb hTt ?_ | fail); conv => whnf) | (exact absurd hb (by omega)) | (refine za rfl (zM hcf) (fun _ => ?_)) | ((first | ((refine ⟨_, (k1).call rfl rfl, ?_⟩); (rintro _ _ ⟨rfl, rfl⟩)) | ((refine ⟨_, (k2).call rfl rfl, ?_⟩); (rintro _ _ ⟨rfl, rfl⟩)) | ((refine ⟨_, (fl).call rfl rfl, ?_⟩); (rintro _ _ ⟨rfl, rfl⟩)) | refine And.intro ?_ ?_; focus (first | (exact trivial) | (exact fun h => h) | (exact zu) | (exact zw) | (exact zx) | (exact zE) | (exact fun h _ => h) | fail) | fail); conv => whnf) | (refine za rfl (fun hb => ?_) (fun hb => ?_) <;> first | (replace hb := of_decide_eq_true hb; try simp only [List.length_map] at hb) | (replace hb := of_decide_eq_false hb; try simp only [List.length_map] at hb)) | ((refine ⟨_, zg (by first | omega | (simp only [List.length_map]; omega)), ?_⟩); conv => whnf) | fail
   exact ⟨op + 2, by omega, by omega, impA⟩
  ·have : op = 7 := by omega
   subst this
   clear k1 k2
   repeat' first | refine zd ?_ | ((first | refine zk ?_ | refine zi ?_ | refine zb hTt ?_ | ((refine ⟨_, (k3).call rfl rfl, ?_⟩); (rintro _ _ ⟨rfl, rfl⟩)) | refine ⟨_, fun _ => (fl).call rfl rfl, ?_⟩ | refine ⟨_, fun _ => (aw).call rfl rfl, ?_⟩ | refine And.intro ?_ ?_; focus (first | (exact trivial) | (exact fun h => h) | (exact zu) | (exact zw) | (exact zx) | (exact zE) | (exact fun h _ => h) | fail) | fail); conv => whnf) | (refine za rfl (fun hb => absurd (show false = true from hb) (by decide)) (fun _ => ?_)) | fail
   rfl
 ·have k0 := za5 [a, b] [] h64
  have hne : (zaC [a, b] []).2.2 ≠ 0 := fun h => hab ⟨(zgu h).2.2.1 a (by simp), (zgu h).2.2.1 b (by simp)⟩
  generalize zaC [a, b] [] = R at k0 hne
  obtain ⟨l, i, e⟩ := R
  dsimp only at hne
  have hfin : (bif (e != 0) then true else false) = true := by simp [hne]
  by_cases ha : zG a
  ·have hb' : ¬ zG b := fun h => hab ⟨ha, h⟩
   rw [decide_eq_true ha] at fa
   rw [decide_eq_false hb'] at fb
   refine zj hTt Tryz.func13 rfl (by kernel_rfl) (res := [.tmp 4]) rfl Tryz.ntmps13 (by simp) fun w0 K0 => ?_
   dsimp only [entry]
   repeat' first | refine zd ?_ | ((first | refine zi ?_ | refine zb hTt ?_ | ((refine ⟨_, (fa).call rfl rfl, ?_⟩); (rintro _ _ ⟨rfl, rfl⟩)) | refine ⟨_, fun _ => (fb).call rfl rfl, ?_⟩ | refine And.intro ?_ ?_; focus (first | (exact trivial) | (exact fun h => h) | (exact zu) | (exact zw) | (exact zx) | (exact zE) | (exact fun h _ => h) | fail) | ((refine ⟨_, ((k0).leA (by repeat' (first | exact trivial | exact LeAV1.refl _ | exact LeAV1.nil _ | refine And.intro ?_ ?_))).call rfl rfl, ?_⟩); (rintro _ _ ⟨rfl, rfl⟩)) | refine ⟨_, fun _ => (aw).call rfl rfl, ?_⟩ | fail); conv => whnf) | (refine za rfl (fun _ => ?_) (fun hb => absurd (show true = false from hb) (by decide))) | fail
   exact congrArg some (congrArg bv hfin)
  ·rw [decide_eq_false ha] at fa
   refine zj hTt Tryz.func13 rfl (by kernel_rfl) (res := [.tmp 4]) rfl Tryz.ntmps13 (by simp) fun w0 K0 => ?_
   dsimp only [entry]
   repeat' first | refine zd ?_ | ((first | refine zi ?_ | refine zb hTt ?_ | ((refine ⟨_, (fa).call rfl rfl, ?_⟩); (rintro _ _ ⟨rfl, rfl⟩)) | refine ⟨_, fun _ => (fb).call rfl rfl, ?_⟩ | refine And.intro ?_ ?_; focus (first | (exact trivial) | (exact fun h => h) | (exact zu) | (exact zw) | (exact zx) | (exact zE) | (exact fun h _ => h) | fail) | ((refine ⟨_, ((k0).leA (by repeat' (first | exact trivial | exact LeAV1.refl _ | exact LeAV1.nil _ | refine And.intro ?_ ?_))).call rfl rfl, ?_⟩); (rintro _ _ ⟨rfl, rfl⟩)) | refine ⟨_, fun _ => (aw).call rfl rfl, ?_⟩ | fail); conv => whnf) | (refine za rfl (fun _ => ?_) (fun hb => absurd (show true = false from hb) (by decide))) | fail
   exact congrArg some (congrArg bv hfin)
end Go.Proofs.YtmceekhgnfpamaaGreatDoor
namespace Go.Proofs.YtmceekhgnfpamaaGreatDoor
open Go Go.QL FoT
set_option maxHeartbeats 3200000
attribute [local irreducible] ACall FnC
theorem zcV (n : Nat) (hn : n ≤ 62) : FnC Tryz.prog 42 [iv .i64 n] (iv .i64 ((2 : Int) ^ n)) := by
 have hp : ∀ i : Nat, i ≤ 62 → (2 : Int) ^ i ≤ 4611686018427387904 ∧ 1 ≤ (2 : Int) ^ i := by
  intro i hi
  have h1 : (2 : Nat) ^ i ≤ 2 ^ 62 := Nat.pow_le_pow_right (by decide) hi
  have h2 : 1 ≤ (2 : Nat) ^ i := Nat.one_le_two_pow
  have e : (2 : Int) ^ i = ((2 ^ i : Nat) : Int) := by norm_cast
  rw [e]
  omega
 refine zj hTt Tryz.func42 rfl (by kernel_rfl) (res := [.tmp 2]) rfl Tryz.ntmps42 (by simp) fun w0 K0 => ?_
 dsimp only [entry]
 repeat' first | refine zd ?_ | refine zc ?_ | ((refine zb hTt ?_); conv => whnf) | fail
 refine zJ (fun i : Nat => [(4, iv .i64 i), (3, iv .i64 ((2 : Int) ^ i)), (0, iv .i64 n)]) (fun _ => []) (fun i => i ≤ n) (fun i => n - i) 0 (Nat.zero_le _) impA ?_
 intro i hi
 rcases Nat.lt_or_ge i n with hil | hil
 ·have h1 := hp (i + 1) (by omega)
  have e1 : (2 : Int) ^ (i + 1) = 2 * 2 ^ i := by rw [Int.pow_succ, Int.mul_comm]
  rw [e1] at h1
  generalize (2 : Int) ^ i = p at h1 e1
  repeat' first | refine zd ?_ | refine zc ?_ | ((first | refine zf ?_ | refine zk ?_ | refine zi ?_ | refine zb hTt ?_ | fail); conv => whnf) | (exact absurd hb (by omega)) | (refine za rfl (fun hb => ?_) (fun hb => ?_) <;> first | (replace hb := of_decide_eq_true hb; try simp only [List.length_map] at hb) | (replace hb := of_decide_eq_false hb; try simp only [List.length_map] at hb)) | ((refine ⟨_, zg (by first | omega | (simp only [List.length_map]; omega)), ?_⟩); conv => whnf) | fail
  exact ⟨i + 1, by omega, by omega, (Imp.forget (by repeat' (first | exact trivial | refine And.intro ?_ ?_ | exact ivE e1.symm | rfl | exact ivE (by first | omega | (simp only [List.length_map, List.length_append, List.length_singleton] <;> omega)) | exact oE (by first | omega | (simp only [List.length_map, List.length_append, List.length_singleton] <;> omega)))) (by repeat' (first | exact trivial | refine And.intro ?_ ?_ | exact ivE e1.symm | rfl | exact ivE (by first | omega | (simp only [List.length_map, List.length_append, List.length_singleton] <;> omega)) | exact oE (by first | omega | (simp only [List.length_map, List.length_append, List.length_singleton] <;> omega)))) (by kernel_rfl) (by kernel_rfl) (by kernel_rfl))⟩
 ·obtain rfl : i = n := by omega
  repeat' first | refine zd ?_ | refine zc ?_ | ((first | refine zf ?_ | refine zk ?_ | refine zi ?_ | refine zb hTt ?_ | fail); conv => whnf) | (exact absurd hb (by omega)) | (refine za rfl (fun hb => ?_) (fun hb => ?_) <;> first | (replace hb := of_decide_eq_true hb; try simp only [List.length_map] at hb) | (replace hb := of_decide_eq_false hb; try simp only [List.length_map] at hb)) | fail
  rfl
end Go.Proofs.YtmceekhgnfpamaaGreatDoor
namespace Go.Proofs.YtmceekhgnfpamaaGreatDoor
open Go Go.QL FoT
set_option maxHeartbeats 3200000
attribute [local irreducible] ACall FnC
theorem zlZ (x : FloT) (n exp : Int) (h0 : x.mant = 0) (he : -1000 ≤ exp ∧ exp ≤ 1000) (hx : -1000 ≤ x.exp ∧ x.exp ≤ 1000) : FnC Tryz.prog 43 [flAV x, iv .i64 n, iv .i64 exp] (bv (decide (n = 0))) := by
 have hct : (bif (bif (x.mant == 0) then true else decide (x.exp - 23 - exp < 0)) then true else decide (x.exp - 23 - exp > 40)) = true := by simp [h0]
 have hfin : (bif (x.mant == 0) then (n == 0) else false) = decide (n = 0) := by rw [h0]; rfl
 refine zj hTt Tryz.func43 rfl (by kernel_rfl) (res := [.tmp 6]) rfl Tryz.ntmps43 (by simp) fun w0 K0 => ?_
 dsimp only [entry]
 repeat' first | refine zd ?_ | ((first | refine zi ?_ | refine zb hTt ?_ | fail); conv => whnf) | (refine za rfl (fun _ => ?_) (zaf hct)) | ((first | refine And.intro ?_ ?_; focus (first | (exact trivial) | (exact fun h => h) | (exact zu) | (exact zw) | (exact zx) | (exact zE) | (exact fun h _ => h) | fail) | refine ⟨_, zg (by first | omega | (simp only [List.length_map]; omega)), ?_⟩ | fail); conv => whnf) | fail
 exact congrArg some (congrArg bv hfin)
theorem zoZ (x : FloT) (n exp : Int) (hx : zG x) (hn : n.natAbs < 4611686018427387904) (he : -1000 ≤ exp ∧ exp ≤ 1000) (h : zij x n exp) : FnC Tryz.prog 43 [flAV x, iv .i64 n, iv .i64 exp] (bv true) := by
 have hxe : -1000 ≤ x.exp ∧ x.exp ≤ 1000 := by
  rcases hx with rfl | h
  ·exact ⟨by decide, by decide⟩
  ·omega
 have hxm : -8388607 ≤ x.mant ∧ x.mant ≤ 8388607 := by
  rcases hx with rfl | h
  ·exact ⟨by decide, by decide⟩
  ·omega
 unfold zij at h
 dsimp only at h
 by_cases h0 : x.mant = 0
 ·rw [if_pos (.inl h0)] at h
  have := zlZ x n exp h0 he hxe
  rw [decide_eq_true h.2] at this
  exact this
 ·by_cases h1 : x.exp - 23 - exp < 0 ∨ 40 < x.exp - 23 - exp
  ·rw [if_pos (.inr h1)] at h; exact absurd h.1 h0
  ·rw [if_neg (fun hc => hc.elim h0 h1)] at h
   obtain ⟨k, hk⟩ : ∃ k : Nat, x.exp - 23 - exp = k := ⟨(x.exp - 23 - exp).toNat, by omega⟩
   have t2 := zcV k (by omega)
   rw [hk, Int.toNat_natCast] at h
   rw [← hk] at t2
   have t21 : FnC Tryz.prog 42 [iv .i64 21] (iv .i64 2097152) := zcV 21 (by decide)
   have hp : 1 ≤ (2 : Int) ^ k ∧ (2 : Int) ^ k ≤ 1099511627776 := by
    have h1 : (2 : Nat) ^ k ≤ 2 ^ 40 := Nat.pow_le_pow_right (by decide) (by omega)
    have h2 : 1 ≤ (2 : Nat) ^ k := Nat.one_le_two_pow
    have e : (2 : Int) ^ k = ((2 ^ k : Nat) : Int) := by norm_cast
    rw [e]; omega
   generalize (2 : Int) ^ k = p at h t2 hp
   have hq : -9223370937343148032 ≤ x.mant * p ∧ x.mant * p ≤ 9223370937343148032 := by
    constructor
    ·have h1 : (-8388607) * p ≤ x.mant * p := Int.mul_le_mul_of_nonneg_right hxm.1 (by omega)
     omega
    ·have h1 : x.mant * p ≤ 8388607 * p := Int.mul_le_mul_of_nonneg_right hxm.2 (by omega)
     omega
   have hcf : (bif (bif (x.mant == 0) then true else decide (x.exp - 23 - exp < 0)) then true else decide (x.exp - 23 - exp > 40)) = false := by
    rw [beq_eq_false_iff_ne.2 h0, decide_eq_false (by omega), decide_eq_false (by omega)]; rfl
   generalize hqq : x.mant * p = q at h hq
   have hw : IntKind.i64.wrap (x.mant * p) = q := by rw [hqq, zg (by omega)]
   refine zj hTt Tryz.func43 rfl (by kernel_rfl) (res := [.tmp 6]) rfl Tryz.ntmps43 (by simp) fun w0 K0 => ?_
   dsimp only [entry]
   repeat' first | refine zd ?_ | ((first | refine zf ?_ | refine zi ?_ | refine zb hTt ?_ | refine zl hTt hMix (id := 4) 6 false [0, 1, 0, 4, 15, 0, 63, 127] (by kernel_rfl) rfl rfl (by kernel_rfl) ?_ | fail); conv => whnf) | (refine za rfl (zM hcf) (fun _ => ?_)) | ((first | refine ⟨_, hw, ?_⟩ | refine ⟨_, fun _ => (t2).call rfl rfl, ?_⟩ | ((refine ⟨_, (t21).call rfl rfl, ?_⟩); (rintro _ _ ⟨rfl, rfl⟩)) | refine And.intro ?_ ?_; focus (first | (exact trivial) | (exact fun h => h) | (exact zu) | (exact zw) | (exact zx) | (exact zE) | (exact fun h _ => h) | fail) | refine ⟨_, zg (by first | omega | (simp only [List.length_map]; omega)), ?_⟩ | refine ⟨IntKind.wrap _ _, rfl, ?_⟩ | refine andA ?_ | fail); conv => whnf) | fail
   refine congrArg some (congrArg bv (decide_eq_true ?_))
   show (if 0 - (q - n) > q - n then 0 - (q - n) else q - n) ≤ IntKind.i64.wrap ((if 0 - n > n then 0 - n else n).tdiv 2097152)
   have e1 : (if 0 - (q - n) > q - n then 0 - (q - n) else q - n) = max (q - n) (-(q - n)) := by split <;> omega
   have e2 : (if 0 - n > n then 0 - n else n) = max n (-n) := by split <;> omega
   rw [e1, e2, Int.tdiv_eq_ediv_of_nonneg (by omega), zg (by omega)]
   exact h
end Go.Proofs.YtmceekhgnfpamaaGreatDoor
namespace Go.Proofs.YtmceekhgnfpamaaGreatDoor
open Go Go.QL FoT
set_option maxHeartbeats 3200000
attribute [local irreducible] ACall FnC zaj
theorem zqc (n exp : Int) (hn64 : i64 n) : FnC Tryz.prog 11 [iv .i64 n, iv .i64 exp] (bv true) := by
 have aw := zcK
 have pf := zei n exp
 have t46 : FnC Tryz.prog 42 [iv .i64 46] (iv .i64 70368744177664) := zcV 46 (by decide)
 by_cases hr : n.natAbs ≤ 70368744177664 ∧ -200 ≤ exp ∧ exp ≤ 200
 ·rw [if_pos hr] at pf
  obtain ⟨hn, he1, he2⟩ := hr
  have fm := zbf (n := n) (exp := exp) (by omega)
  rcases made_err (n := n) (exp := exp) with h | ⟨h, hz⟩
  ·obtain ⟨l1, l2⟩ := zmF hn h
   have hf64 := zc8 fm
   have ff := zbu _ hf64
   rw [decide_eq_true fm] at ff
   rw [h] at pf
   generalize (zaj n exp).1 = x at *
   have hxe : -1000 ≤ x.exp ∧ x.exp ≤ 1000 := by
    rcases fm with rfl | h
    ·exact ⟨by decide, by decide⟩
    ·omega
   by_cases h0 : x.mant = 0
   ·have hl := l1 h0
    refine zj hTt Tryz.func11 rfl (by kernel_rfl) (res := [.tmp 4]) rfl Tryz.ntmps11 (by simp) fun w0 K0 => ?_
    dsimp only [entry]
    repeat' first | refine zd ?_ | refine zc ?_ | ((first | refine zf ?_ | refine zb hTt ?_ | fail); conv => whnf) | (exact absurd hb (by omega)) | ((first | ((refine ⟨_, (pf).call rfl rfl, ?_⟩); (rintro _ _ ⟨rfl, rfl⟩)) | ((refine ⟨_, (ff).call rfl rfl, ?_⟩); (rintro _ _ ⟨rfl, rfl⟩)) | refine ⟨_, fun _ => (t46).call rfl rfl, ?_⟩ | refine And.intro ?_ ?_; focus (first | (exact trivial) | (exact fun h => h) | (exact zu) | (exact zw) | (exact zx) | (exact zE) | (exact fun h _ => h) | fail) | fail); conv => whnf) | (refine za rfl (zM (by rw [decide_eq_false (by omega), decide_eq_false (by omega)]; rfl)) (fun _ => ?_)) | (refine za rfl (fun hb => absurd (show false = true from hb) (by decide)) (fun _ => ?_)) | (refine za rfl (fun hb => ?_) (fun hb => ?_) <;> first | (replace hb := of_decide_eq_true hb; try simp only [List.length_map] at hb) | (replace hb := of_decide_eq_false hb; try simp only [List.length_map] at hb)) | ((refine ⟨_, zg (by first | omega | (simp only [List.length_map]; omega)), ?_⟩); conv => whnf) | fail
    have eM : (bif true then (if 0 - n > n then 0 - n else n) else (if 0 - n < n then 0 - n else n)) = ((n.natAbs / 2 ^ 0 : Nat) : Int) := by
     rw [cond_true, Nat.pow_zero, Nat.div_one]; split <;> omega
    refine zJ (fun i : Nat => [(7, iv .i64 ((n.natAbs / 2 ^ i : Nat) : Int)), (8, iv .i64 (exp + i)), (4, bv false), (0, iv .i64 n)]) (fun _ => [])
     (fun i => i ≤ 64 ∧ (0 < i → 2 ^ (i - 1) ≤ n.natAbs)) (fun i => n.natAbs / 2 ^ i) 0 ⟨by omega, fun h => absurd h (by omega)⟩ (Imp.forget (by repeat' (first | exact trivial | refine And.intro ?_ ?_ | exact ivE eM | exact ivE (show exp = exp + ((0 : Nat) : Int) by omega) | rfl | exact ivE (by first | omega | (simp only [List.length_map, List.length_append, List.length_singleton] <;> omega)) | exact oE (by first | omega | (simp only [List.length_map, List.length_append, List.length_singleton] <;> omega)))) (by repeat' (first | exact trivial | refine And.intro ?_ ?_ | exact ivE eM | exact ivE (show exp = exp + ((0 : Nat) : Int) by omega) | rfl | exact ivE (by first | omega | (simp only [List.length_map, List.length_append, List.length_singleton] <;> omega)) | exact oE (by first | omega | (simp only [List.length_map, List.length_append, List.length_singleton] <;> omega)))) (by kernel_rfl) (by kernel_rfl) (by kernel_rfl)) ?_
    rintro i ⟨hi, hpow⟩
    rcases Nat.eq_zero_or_pos (n.natAbs / 2 ^ i) with hz | hz
    ·have hcf : decide (((n.natAbs / 2 ^ i : Nat) : Int) > 0) = false := decide_eq_false (by omega)
     have hfin : (bif (bif (n == 0) then true else decide (exp + i ≤ -65)) then true else false) = true := by
      by_cases hn0 : n = 0
      ·rw [hn0]; rfl
      ·have hi0 : 0 < i := by
        rcases Nat.eq_zero_or_pos i with h | h
        ·subst h; rw [Nat.pow_zero, Nat.div_one] at hz; omega
        ·exact h
       have := (hl.resolve_left hn0) (i - 1) (hpow hi0)
       rw [decide_eq_true (show exp + (i : Int) ≤ -65 by omega)]
       cases (n == 0) <;> rfl
     repeat' first | refine zd ?_ | ((first | refine zk ?_ | refine zi ?_ | refine zb hTt ?_ | fail); conv => whnf) | (refine za rfl (zM hcf) (fun _ => ?_)) | ((first | refine ⟨_, fun _ => (aw).call rfl rfl, ?_⟩ | refine And.intro ?_ ?_; focus (first | (exact trivial) | (exact fun h => h) | (exact zu) | (exact zw) | (exact zx) | (exact zE) | (exact fun h _ => h) | fail) | fail); conv => whnf) | fail
     exact congrArg some (congrArg bv hfin)
    ·have hge : 2 ^ i ≤ n.natAbs := by
      rcases Nat.lt_or_ge n.natAbs (2 ^ i) with h | h
      ·rw [Nat.div_eq_of_lt h] at hz; omega
      ·exact h
     have hi63 : i < 63 := by
      rcases Nat.lt_or_ge i 63 with h | h
      ·exact h
      ·have : 2 ^ 63 ≤ 2 ^ i := Nat.pow_le_pow_right (by decide) h
       omega
     have hle : n.natAbs / 2 ^ i ≤ n.natAbs := Nat.div_le_self _ _
     have hhalf : n.natAbs / 2 ^ (i + 1) = n.natAbs / 2 ^ i / 2 := by rw [Nat.pow_succ, Nat.div_div_eq_div_mul]
     generalize n.natAbs / 2 ^ i = s at hz hle hhalf
     have hct : decide ((s : Int) > 0) = true := decide_eq_true (by omega)
     have hq : IntKind.i64.wrap ((s : Int).tdiv 2) = ((n.natAbs / 2 ^ (i + 1) : Nat) : Int) := by
      rw [hhalf, Int.tdiv_eq_ediv_of_nonneg (by omega), zg (by omega)]; omega
     repeat' first | refine zd ?_ | refine zc ?_ | ((first | refine zf ?_ | refine zb hTt ?_ | fail); conv => whnf) | (refine za rfl (fun _ => ?_) (zaf hct)) | ((first | refine ⟨_, hq, ?_⟩ | refine ⟨_, zg (by first | omega | (simp only [List.length_map]; omega)), ?_⟩ | refine andA ?_ | fail); conv => whnf) | fail
     exact ⟨i + 1, ⟨by omega, fun _ => hge⟩, by omega, (Imp.forget (by repeat' (first | exact trivial | refine And.intro ?_ ?_ | exact ivE (by push_cast; omega) | rfl | exact ivE (by first | omega | (simp only [List.length_map, List.length_append, List.length_singleton] <;> omega)) | exact oE (by first | omega | (simp only [List.length_map, List.length_append, List.length_singleton] <;> omega)))) (by repeat' (first | exact trivial | refine And.intro ?_ ?_ | exact ivE (by push_cast; omega) | rfl | exact ivE (by first | omega | (simp only [List.length_map, List.length_append, List.length_singleton] <;> omega)) | exact oE (by first | omega | (simp only [List.length_map, List.length_append, List.length_singleton] <;> omega)))) (by kernel_rfl) (by kernel_rfl) (by kernel_rfl))⟩
   ·obtain ⟨s1, s2, l3, l4⟩ := l2 h0
    have hxm : -8388607 ≤ x.mant ∧ x.mant ≤ 8388607 := by
     rcases fm with rfl | h
     ·exact ⟨by decide, by decide⟩
     ·omega
    have h46 : (bif (bif !true then true else decide (n < 0 - 70368744177664)) then true else decide (n > 70368744177664)) = false := by
     rw [decide_eq_false (show ¬ n < 0 - 70368744177664 by omega), decide_eq_false (show ¬ n > 70368744177664 by omega)]; rfl
    have hsh : (bif decide (x.exp - 23 - exp < -23) then true else decide (x.exp - 23 - exp > 30)) = false := by
     rw [decide_eq_false (by omega), decide_eq_false (by omega)]; rfl
    by_cases hs : x.exp - 23 - exp ≤ 0
    ·have hm := l3 hs
     obtain ⟨k, hk⟩ : ∃ k : Nat, 0 - (x.exp - 23 - exp) = k := ⟨(-(x.exp - 23 - exp)).toNat, by omega⟩
     have t2 := zcV k (by omega)
     rw [show (-(x.exp - 23 - exp)).toNat = k by omega] at hm
     rw [← hk] at t2
     generalize (2 : Int) ^ k = p at hm t2
     have hw : IntKind.i64.wrap (n * p) = x.mant := by rw [← hm, zg (by omega)]
     have hfin : (bif (x.mant == x.mant) then true else false) = true := by simp
     refine zj hTt Tryz.func11 rfl (by kernel_rfl) (res := [.tmp 4]) rfl Tryz.ntmps11 (by simp) fun w0 K0 => ?_
     dsimp only [entry]
     repeat' first | refine zd ?_ | ((first | refine zf ?_ | refine zi ?_ | refine zb hTt ?_ | refine zl hTt hMix (id := 15) 7 false [0, 1, 0, 0, 8, 24, 60, 127, 255, 511, 1023, 2047] (by kernel_rfl) rfl rfl (by kernel_rfl) ?_ | refine zl hTt hMix (id := 16) 6 false [0, 0, 2, 0, 8, 30, 63, 127] (by kernel_rfl) rfl rfl (by kernel_rfl) ?_ | fail); conv => whnf) | (exact absurd hb (by omega)) | (refine za rfl (zM h46) (fun _ => ?_)) | (refine za rfl (zM hsh) (fun _ => ?_)) | ((first | refine ⟨_, hw, ?_⟩ | ((refine ⟨_, (pf).call rfl rfl, ?_⟩); (rintro _ _ ⟨rfl, rfl⟩)) | ((refine ⟨_, (ff).call rfl rfl, ?_⟩); (rintro _ _ ⟨rfl, rfl⟩)) | refine ⟨_, fun _ => (t46).call rfl rfl, ?_⟩ | refine ⟨_, fun _ => (t2).call rfl rfl, ?_⟩ | refine ⟨_, fun _ => (aw).call rfl rfl, ?_⟩ | refine And.intro ?_ ?_; focus (first | (exact trivial) | (exact fun h => h) | (exact zu) | (exact zw) | (exact zx) | (exact zE) | (exact fun h _ => h) | fail) | fail); conv => whnf) | (refine za rfl (fun hb => absurd (show false = true from hb) (by decide)) (fun _ => ?_)) | (refine za rfl (fun hb => ?_) (fun hb => ?_) <;> first | (replace hb := of_decide_eq_true hb; try simp only [List.length_map] at hb) | (replace hb := of_decide_eq_false hb; try simp only [List.length_map] at hb)) | ((first | refine ⟨_, zg (by first | omega | (simp only [List.length_map]; omega)), ?_⟩ | refine andA ?_ | fail); conv => whnf) | fail
     exact congrArg some (congrArg bv hfin)
    ·obtain ⟨k, hk⟩ : ∃ k : Nat, x.exp - 23 - exp = k := ⟨(x.exp - 23 - exp).toNat, by omega⟩
     have hd := l4 (by omega)
     dsimp only at hd
     rw [hk, Int.toNat_natCast] at hd
     have t2 := zcV k (by omega)
     rw [← hk] at t2
     have hp : 1 ≤ (2 : Int) ^ k ∧ (2 : Int) ^ k ≤ 1073741824 := by
      have h1 : (2 : Nat) ^ k ≤ 2 ^ 30 := Nat.pow_le_pow_right (by decide) (by omega)
      have h2 : 1 ≤ (2 : Nat) ^ k := Nat.one_le_two_pow
      have e : (2 : Int) ^ k = ((2 ^ k : Nat) : Int) := by norm_cast
      rw [e]; omega
     have t16 : FnC Tryz.prog 42 [iv .i64 16] (iv .i64 65536) := zcV 16 (by decide)
     have t6 : FnC Tryz.prog 42 [iv .i64 6] (iv .i64 64) := zcV 6 (by decide)
     generalize (2 : Int) ^ k = p at hd t2 hp
     have hq : -9007199254740992 ≤ x.mant * p ∧ x.mant * p ≤ 9007199254740992 := by
      constructor
      ·have h1 : (-8388607) * p ≤ x.mant * p := Int.mul_le_mul_of_nonneg_right hxm.1 (by omega)
       omega
      ·have h1 : x.mant * p ≤ 8388607 * p := Int.mul_le_mul_of_nonneg_right hxm.2 (by omega)
       omega
     generalize hqq : x.mant * p = q at hd hq
     have hw : IntKind.i64.wrap (x.mant * p) = q := by rw [hqq, zg (by omega)]
     refine zj hTt Tryz.func11 rfl (by kernel_rfl) (res := [.tmp 4]) rfl Tryz.ntmps11 (by simp) fun w0 K0 => ?_
     dsimp only [entry]
     repeat' first | refine zd ?_ | ((first | refine zf ?_ | refine zi ?_ | refine zb hTt ?_ | refine zl hTt hMix (id := 15) 7 false [0, 1, 0, 0, 8, 24, 60, 127, 255, 511, 1023, 2047] (by kernel_rfl) rfl rfl (by kernel_rfl) ?_ | refine zl hTt hMix (id := 16) 6 false [0, 0, 2, 0, 8, 30, 63, 127] (by kernel_rfl) rfl rfl (by kernel_rfl) ?_ | fail); conv => whnf) | (exact absurd hb (by omega)) | (refine za rfl (zM h46) (fun _ => ?_)) | (refine za rfl (zM hsh) (fun _ => ?_)) | ((first | refine ⟨_, hw, ?_⟩ | ((refine ⟨_, (pf).call rfl rfl, ?_⟩); (rintro _ _ ⟨rfl, rfl⟩)) | ((refine ⟨_, (ff).call rfl rfl, ?_⟩); (rintro _ _ ⟨rfl, rfl⟩)) | refine ⟨_, fun _ => (t46).call rfl rfl, ?_⟩ | ((refine ⟨_, (t2).call rfl rfl, ?_⟩); (rintro _ _ ⟨rfl, rfl⟩)) | refine ⟨_, fun _ => (t2).call rfl rfl, ?_⟩ | refine ⟨_, fun _ => (t16).call rfl rfl, ?_⟩ | refine ⟨_, fun _ => (t6).call rfl rfl, ?_⟩ | refine ⟨_, fun _ => (aw).call rfl rfl, ?_⟩ | refine And.intro ?_ ?_; focus (first | (exact trivial) | (exact fun h => h) | (exact zu) | (exact zw) | (exact zx) | (exact zE) | (exact fun h _ => h) | fail) | fail); conv => whnf) | (refine za rfl (fun hb => absurd (show false = true from hb) (by decide)) (fun _ => ?_)) | (refine za rfl (fun hb => ?_) (fun hb => ?_) <;> first | (replace hb := of_decide_eq_true hb; try simp only [List.length_map] at hb) | (replace hb := of_decide_eq_false hb; try simp only [List.length_map] at hb)) | ((first | refine ⟨_, zg (by first | omega | (simp only [List.length_map]; omega)), ?_⟩ | refine ⟨IntKind.wrap _ _, rfl, ?_⟩ | refine andA ?_ | fail); conv => whnf) | fail
     obtain ⟨d1, d2, d3⟩ := hd
     have e1 : (bif true then (if 0 - (n - q) > n - q then 0 - (n - q) else n - q) else (if 0 - (n - q) < n - q then 0 - (n - q) else n - q)) = max (n - q) (-(n - q)) := by rw [cond_true]; split <;> omega
     have e2 : (bif true then (if 0 - n > n then 0 - n else n) else (if 0 - n < n then 0 - n else n)) = max n (-n) := by rw [cond_true]; split <;> omega
     have e3 : (bif (n - q == 0) then true else (decide (n - q > 0) == decide (n > 0))) = true := by
      by_cases hz : n - q = 0
      ·rw [hz]; rfl
      ·have := d3.resolve_left hz
       rw [beq_eq_false_iff_ne.2 hz, cond_false, beq_iff_eq, decide_eq_decide]
       exact this
     refine congrArg some (congrArg bv (?_ : (_ : Bool) = true))
     rw [e1, e2, Int.tdiv_eq_ediv_of_nonneg (by omega), zg (by omega), zg (by omega), decide_eq_true d1, decide_eq_true d2, e3]
     rfl
  ·rw [h, hz] at pf
   refine zj hTt Tryz.func11 rfl (by kernel_rfl) (res := [.tmp 4]) rfl Tryz.ntmps11 (by simp) fun w0 K0 => ?_
   dsimp only [entry]
   repeat' first | refine zd ?_ | ((first | refine zi ?_ | refine zb hTt ?_ | ((refine ⟨_, (pf).call rfl rfl, ?_⟩); (rintro _ _ ⟨rfl, rfl⟩)) | refine ⟨_, fun _ => (aw).call rfl rfl, ?_⟩ | refine And.intro ?_ ?_; focus (first | (exact trivial) | (exact fun h => h) | (exact zu) | (exact zw) | (exact zx) | (exact zE) | (exact fun h _ => h) | fail) | fail); conv => whnf) | (refine za rfl (fun _ => ?_) (fun hb => absurd (show true = false from hb) (by decide))) | fail
   rfl
 ·rw [if_neg hr] at pf
  refine zj hTt Tryz.func11 rfl (by kernel_rfl) (res := [.tmp 4]) rfl Tryz.ntmps11 (by simp) fun w0 K0 => ?_
  dsimp only [entry]
  repeat' first | refine zd ?_ | ((first | refine zi ?_ | refine zb hTt ?_ | ((refine ⟨_, (pf).call rfl rfl, ?_⟩); (rintro _ _ ⟨rfl, rfl⟩)) | refine ⟨_, fun _ => (aw).call rfl rfl, ?_⟩ | refine And.intro ?_ ?_; focus (first | (exact trivial) | (exact fun h => h) | (exact zu) | (exact zw) | (exact zx) | (exact zE) | (exact fun h _ => h) | fail) | fail); conv => whnf) | (refine za rfl (fun _ => ?_) (fun hb => absurd (show true = false from hb) (by decide))) | fail
  rfl
end Go.Proofs.YtmceekhgnfpamaaGreatDoor
