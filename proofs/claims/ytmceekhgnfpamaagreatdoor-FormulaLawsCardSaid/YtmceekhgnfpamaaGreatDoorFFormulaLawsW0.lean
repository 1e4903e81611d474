/- What the functions that this law reaches return: part 0. No condition. -/
import Derived.Test.YtmceekhgnfpamaaGreatDoorB05
set_option linter.all false
namespace Go.Proofs.YtmceekhgnfpamaaGreatDoor
open Go Go.QL FoT
set_option maxHeartbeats 3200000
attribute [local irreducible] ACall FnC
theorem zoA {regs : List FloT} {steps : List StepT} (h : (zaC regs steps).2.2 ≠ 0) : (zaC regs steps).1 = [] := by
 unfold zaC at h ⊢
 by_cases h1 : ¬ (1 ≤ regs.length ∧ regs.length ≤ 8) ∨ 40 < steps.length
 ·rw [if_pos h1]
 rw [if_neg h1] at h ⊢
 cases h2 : za8 regs 0 with
 | some i => rfl
 | none =>
  rw [h2] at h
  dsimp only at h ⊢
  cases h3 : zag regs.length steps 0 with
  | some p => rfl
  | none =>
   rw [h3] at h
   dsimp only at h ⊢
   cases h4 : runS steps 0 regs with
   | error p => rfl
   | ok l => rw [h4] at h; exact absurd rfl h
theorem zc8 {x : FloT} (h : zG x) : i64 x.mant := by
 have := zI h
 unfold zau at this
 unfold i64
 omega
theorem zpg {n : Nat} (h : n ≤ 2 ^ 63 - 1) : IntKind.i64.wrap ((n : Int) + 1) ≠ 0 := by
 rcases Nat.lt_or_ge n (2 ^ 63 - 1) with h1 | h1
 ·rw [zg (by omega)]; omega
 ·obtain rfl : n = 2 ^ 63 - 1 := by omega
  decide
theorem cut_fn (regs : List FloT) (steps : List StepT) (c : UInt8) (hr : ∀ x ∈ regs, i64 x.mant) : FnC Tryz.prog 14 [zdT regs, zhW steps, iv .u8 c.toNat] (bv true) := by
 have aw := zcK
 have k1 := za5 regs steps hr
 have hls : (steps.map stPV).length = steps.length := List.length_map _
 by_cases he : (zaC regs steps).2.2 = 0
 ·obtain ⟨h1, h2, h3, h4, _⟩ := zgu he
  obtain ⟨k, hk⟩ : ∃ k : Nat, k = c.toNat % (steps.length + 1) := ⟨_, rfl⟩
  have hkl : k ≤ steps.length := by have := Nat.mod_lt c.toNat (show 0 < steps.length + 1 by omega); omega
  have hki : Int.tmod (c.toNat : Int) ((steps.length : Int) + 1) = k := by rw [hk]; rfl
  obtain ⟨m, l, c1, c2, c3⟩ := zoz he k
  rw [c3] at k1
  have k2 := za5 regs (steps.take k) hr
  rw [c1] at k2
  have k3 := za5 m (steps.drop k) (fun x hx => zc8 ((zgu (show (zaC m (steps.drop k)).2.2 = 0 by rw [c2])).2.2.1 x hx))
  rw [c2] at k3
  have fl := zfC l
  have q2 : PV.s 4 (List.drop (Int.toNat 0) (List.take (k : Int).toNat (steps.map stPV))) = .s 4 ((steps.take k).map stPV) := by
   rw [Int.toNat_natCast, List.map_take]; rfl
  have q3 : PV.s 4 (List.drop (k : Int).toNat (List.take (((steps.map stPV).length : Int)).toNat (steps.map stPV))) = .s 4 ((steps.drop k).map stPV) := by
   rw [Int.toNat_natCast, Int.toNat_natCast, List.take_length, List.map_drop]
  have k2 : FnC Tryz.prog 32 [zdT regs, .x (.d (.s 4 (List.drop (Int.toNat 0) (List.take (k : Int).toNat (steps.map stPV)))))] (cAV (m, 0, 0)) := by rw [q2]; exact k2
  have k3 : FnC Tryz.prog 32 [zdT m, .x (.d (.s 4 (List.drop (k : Int).toNat (List.take (((steps.map stPV).length : Int)).toNat (steps.map stPV)))))] (cAV (l, 0, 0)) := by rw [q3]; exact k3
  have hc8 := c.toNat_lt
  have hkw : (c.toNat : Int).tmod (((steps.map stPV).length : Int) + 1) = k := by rw [hls, hki]
  refine zj hTt Tryz.func14 rfl (by kernel_rfl) (res := [.tmp 6]) rfl Tryz.ntmps14 (by simp) fun w0 K0 => ?_
  dsimp only [entry]
  repeat' first | refine zd ?_ | ((first | refine zf ?_ | refine zi ?_ | refine zb hTt ?_ | fail); conv => whnf) | (exact absurd hb (by omega)) | ((first | ((refine ⟨_, (k1).call rfl rfl, ?_⟩); (rintro _ _ ⟨rfl, rfl⟩)) | ((refine ⟨_, (k2).call rfl rfl, ?_⟩); (rintro _ _ ⟨rfl, rfl⟩)) | ((refine ⟨_, (k3).call rfl rfl, ?_⟩); (rintro _ _ ⟨rfl, rfl⟩)) | refine ⟨_, fun _ => (fl).call rfl rfl, ?_⟩ | refine ⟨_, fun _ => (aw).call rfl rfl, ?_⟩ | refine And.intro ?_ ?_; focus (first | (exact trivial) | (exact fun h => h) | (exact zu) | (exact zw) | (exact zx) | (exact zE) | (exact fun h _ => h) | fail) | refine ⟨_, hkw, ?_⟩ | fail); conv => whnf) | (refine za rfl (fun hb => absurd (show false = true from hb) (by decide)) (fun _ => ?_)) | (refine za rfl (fun hb => ?_) (fun hb => ?_) <;> first | (replace hb := of_decide_eq_true hb; try simp only [List.length_map] at hb) | (replace hb := of_decide_eq_false hb; try simp only [List.length_map] at hb)) | ((first | refine ⟨_, zg (by first | omega | (simp only [List.length_map]; omega)), ?_⟩ | refine andA ?_ | fail); conv => whnf) | (refine fun hln => ?_; (try rw [List.length_map] at hln); unfold maxLen at hln; conv => whnf) | fail
  rfl
 ·have hl := zoA he
  obtain ⟨⟨l, i, e⟩, hR⟩ : ∃ p, zaC regs steps = p := ⟨_, rfl⟩
  rw [hR] at he hl k1
  dsimp only at he hl k1
  subst hl
  have hcf : (bif (bif (e != 0) then decide ((((([] : List FloT).map flPV).length : Nat) : Int) > 0) else false) then true else (bif e == 0 then i != 0 else false)) = false := by simp [he]
  have hct : (bif (e != 0) then true else decide (((steps.map stPV).length : Int) > 40)) = true := by simp [he]
  refine zj hTt Tryz.func14 rfl (by kernel_rfl) (res := [.tmp 6]) rfl Tryz.ntmps14 (by simp) fun w0 K0 => ?_
  dsimp only [entry]
  repeat' first | refine zd ?_ | ((first | refine zf ?_ | refine zi ?_ | refine zb hTt ?_ | fail); conv => whnf) | (refine za rfl (zM hcf) (fun _ => ?_)) | (refine za rfl (fun _ => ?_) (zaf hct)) | ((first | ((refine ⟨_, (k1).call rfl rfl, ?_⟩); (rintro _ _ ⟨rfl, rfl⟩)) | ((refine ⟨_, (aw).call rfl rfl, ?_⟩); (rintro _ _ ⟨rfl, rfl⟩)) | refine And.intro ?_ ?_; focus (first | (exact trivial) | (exact fun h => h) | (exact zu) | (exact zw) | (exact zx) | (exact zE) | (exact fun h _ => h) | fail) | refine And.intro (ze (zpg (by rw [hls]; exact hln))) ?_ | refine ⟨_, rfl, ?_⟩ | fail); conv => whnf) | (refine fun hln => ?_; (try rw [List.length_map] at hln); unfold maxLen at hln; conv => whnf) | fail
  rfl
end Go.Proofs.YtmceekhgnfpamaaGreatDoor
namespace Go.Proofs.YtmceekhgnfpamaaGreatDoor
open Go Go.QL FoT
set_option maxHeartbeats 1600000
attribute [local irreducible] ACall FnC
theorem zoS (n lo hi : Int) : FnC Tryz.prog 61 [iv .i64 n, iv .i64 lo, iv .i64 hi] (bv (bif decide (lo ≤ n) then decide (n ≤ hi) else false)) := by
 refine zj hTt Tryz.func61 rfl (by kernel_rfl) (res := [.tmp 6]) rfl Tryz.ntmps61 (by simp) fun w0 K0 => ?_
 dsimp only [entry]
 repeat' first | refine zd ?_ | ((first | refine zi ?_ | refine zb hTt ?_ | refine And.intro ?_ ?_; focus (first | (exact trivial) | (exact fun h => h) | (exact zu) | (exact zw) | (exact zx) | (exact zE) | (exact fun h _ => h) | fail) | fail); conv => whnf) | fail
 rfl
theorem b3 (a b c : Prop) [Decidable a] [Decidable b] [Decidable c] : (bif (bif decide a then decide b else false) then decide c else false) = decide (a ∧ b ∧ c) := by
 by_cases a <;> by_cases b <;> by_cases c <;> simp [*]
end Go.Proofs.YtmceekhgnfpamaaGreatDoor
namespace Go.Proofs.YtmceekhgnfpamaaGreatDoor
open Go Go.QL FoT
set_option maxHeartbeats 3200000
attribute [local irreducible] ACall FnC
theorem znT : FnC Tryz.prog 101 [] (iv .i64 4194304) := by
 refine zj hTt Tryz.func101 rfl (by kernel_rfl) (res := [.tmp 0]) rfl Tryz.ntmps101 (by simp) fun w0 K0 => ?_
 dsimp only [entry]
 repeat' first | refine zd ?_ | ((first | refine zi ?_ | refine zb hTt ?_ | fail); conv => whnf) | fail
 rfl
theorem zpN : FnC Tryz.prog 102 [] (iv .i64 8388607) := by
 refine zj hTt Tryz.func102 rfl (by kernel_rfl) (res := [.tmp 0]) rfl Tryz.ntmps102 (by simp) fun w0 K0 => ?_
 dsimp only [entry]
 repeat' first | refine zd ?_ | ((first | refine zi ?_ | refine zb hTt ?_ | fail); conv => whnf) | fail
 rfl
theorem flB (m e : Int) (h : i64 m) : (bif eqL [Value.int .i64 m, Value.int .i64 e] [Value.int .i64 0, Value.int .i64 0] then true else bif (bif decide (4194304 ≤ (bif true then (if IntKind.i64.wrap (0 - m) > m then IntKind.i64.wrap (0 - m) else m) else (if IntKind.i64.wrap (0 - m) < m then IntKind.i64.wrap (0 - m) else m))) then
  decide ((bif true then (if IntKind.i64.wrap (0 - m) > m then IntKind.i64.wrap (0 - m) else m) else (if IntKind.i64.wrap (0 - m) < m then IntKind.i64.wrap (0 - m) else m)) ≤ 8388607) else false) then (bif decide (-64 ≤ e) then decide (e ≤ 63) else false) else false) = decide (zG ⟨m, e⟩) := by
 have hM : ∃ M : Int, (bif true then (if IntKind.i64.wrap (0 - m) > m then IntKind.i64.wrap (0 - m) else m) else (if IntKind.i64.wrap (0 - m) < m then IntKind.i64.wrap (0 - m) else m)) = M ∧ ((M = m.natAbs) ∨ (m = -9223372036854775808 ∧ M = m)) := by
  refine ⟨_, rfl, ?_⟩
  rw [cond_true]
  by_cases hm : m = -9223372036854775808
  ·right; subst hm; exact ⟨rfl, by decide⟩
  ·left
   unfold i64 at h
   rw [zg (by omega)]
   split <;> omega
 obtain ⟨M, hM, hc⟩ := hM
 rw [hM, zrh, Bool.eq_iff_iff, decide_eq_true_iff]
 unfold zG zeroFl
 simp only [FloT.mk.injEq, Bool.cond_eq_ite]
 have e1 : (decide (m = 0) && decide (e = 0)) = true ↔ m = 0 ∧ e = 0 := by simp
 by_cases h0 : m = 0 ∧ e = 0
 ·rw [if_pos (e1.2 h0)]; simp [h0]
 ·rw [if_neg (fun h => h0 (e1.1 h))]
  by_cases a1 : 4194304 ≤ M <;> by_cases a2 : M ≤ 8388607 <;> by_cases a3 : -64 ≤ e <;> by_cases a4 : e ≤ 63 <;> simp [a1, a2, a3, a4, h0] <;> omega
theorem zbu (x : FloT) (h : i64 x.mant) : FnC Tryz.prog 41 [flAV x] (bv (decide (zG x))) := by
 have ri := zoS
 have le := znT
 have mo := zpN
 refine zj hTt Tryz.func41 rfl (by kernel_rfl) (res := [.tmp 2]) rfl Tryz.ntmps41 (by simp) fun w0 K0 => ?_
 dsimp only [entry]
 repeat' first | refine zd ?_ | ((first | refine zi ?_ | refine zb hTt ?_ | refine zl hTt hMix (id := 1) 12 false [0, 0, 3, 7, 15, 31, 15, 79, 207, 511, 15, 1039, 4095, 8191, 16383, 32767, 65535, 131071, 262143, 524287] (by kernel_rfl) rfl rfl (by kernel_rfl) ?_ | refine ⟨_, fun _ => ((ri _ _ _)).call rfl rfl, ?_⟩ | refine ⟨_, fun _ _ => (le).call rfl rfl, ?_⟩ | refine ⟨_, fun _ _ => (mo).call rfl rfl, ?_⟩ | refine And.intro ?_ ?_; focus (first | (exact trivial) | (exact fun h => h) | (exact zu) | (exact zw) | (exact zx) | (exact zE) | (exact fun h _ => h) | fail) | refine ⟨_, rfl, ?_⟩ | refine andA ?_ | fail); conv => whnf) | fail
 exact congrArg some (congrArg bv (flB x.mant x.exp h))
end Go.Proofs.YtmceekhgnfpamaaGreatDoor
namespace Go.Proofs.YtmceekhgnfpamaaGreatDoor
open Go Go.QL FoT
set_option maxHeartbeats 3200000
attribute [local irreducible] ACall FnC
theorem zm1 {op : Int} (ho : op = 3 ∨ op = 5) {a b : FloT} (ha : zG a) (hb : zG b) : zaC [a, b] [⟨op, 1, 0, 0⟩] = zaC [a, b] [⟨op, 0, 1, 0⟩] := by
 have hs := zlk ho ha hb
 have h1 : za8 [a, b] 0 = none := zbk.2 (by intro x hx; simp at hx; rcases hx with rfl | rfl <;> assumption)
 have h2 : zag ([a, b].length : Int) [⟨op, 1, 0, 0⟩] 0 = none := zaz.2 (by
  intro s hs; simp at hs; subst hs; rcases ho with rfl | rfl <;> rfl)
 have h3 : zag ([a, b].length : Int) [⟨op, 0, 1, 0⟩] 0 = none := zaz.2 (by
  intro s hs; simp at hs; subst hs; rcases ho with rfl | rfl <;> rfl)
 have h4 : runS [⟨op, 1, 0, 0⟩] 0 [a, b] = runS [⟨op, 0, 1, 0⟩] 0 [a, b] := by
  show (if (FoT.stepM op b a).2 = 0 then runS [] 1 ([a, b].set 0 (FoT.stepM op b a).1) else .error (0, (FoT.stepM op b a).2)) = (if (FoT.stepM op a b).2 = 0 then runS [] 1 ([a, b].set 0 (FoT.stepM op a b).1) else .error (0, (FoT.stepM op a b).2))
  rw [hs]
 unfold zaC
 rw [if_neg (by simp), if_neg (by simp), h1, h2, h3, h4]
theorem zm0 {a : FloT} (ha : zG a) : zaC [a, ⟨4194304, 1⟩, zeroFl, zeroFl, zeroFl] [⟨4, 0, 0, 3⟩, ⟨5, 0, 1, 4⟩, ⟨3, 4, 2, 2⟩] = ([a, ⟨4194304, 1⟩, a, zeroFl, a], 0, 0) := by
 refine zjL ⟨by simp, by simp⟩ (by simp) ?_ ?_ ?_
 ·intro x hx
  simp at hx
  rcases hx with rfl | rfl | rfl
  ·exact ha
  ·decide
  ·exact .inl rfl
 ·intro s hs
  simp at hs
  rcases hs with rfl | rfl | rfl <;> rfl
 ·have s1 : FoT.stepM 4 a a = (zeroFl, 0) := sub_self ha
  have s2 : FoT.stepM 5 a ⟨4194304, 1⟩ = (a, 0) := mul_one ha
  have s3 : FoT.stepM 3 a zeroFl = (a, 0) := add_zero ha
  rw [runS]
  show (if (FoT.stepM 4 a a).2 = 0 then runS _ _ [a, ⟨4194304, 1⟩, zeroFl, (FoT.stepM 4 a a).1, zeroFl] else _) = _
  rw [s1, if_pos rfl, runS]
  show (if (FoT.stepM 5 a ⟨4194304, 1⟩).2 = 0 then runS _ _ [a, ⟨4194304, 1⟩, zeroFl, zeroFl, (FoT.stepM 5 a ⟨4194304, 1⟩).1] else _) = _
  rw [s2, if_pos rfl, runS]
  show (if (FoT.stepM 3 a zeroFl).2 = 0 then runS _ _ [a, ⟨4194304, 1⟩, (FoT.stepM 3 a zeroFl).1, zeroFl, a] else _) = _
  rw [s3, if_pos rfl, runS]
theorem zr4 (a b : FloT) (ha64 : i64 a.mant) (hb64 : i64 b.mant) : FnC Tryz.prog 13 [flAV a, flAV b] (bv true) := by
 have aw := zcK
 have fa := zbu a ha64
 have fb := zbu b hb64
 have h64 : ∀ x ∈ [a, b], i64 x.mant := by intro x hx; simp at hx; rcases hx with rfl | rfl <;> assumption
 by_cases hab : zG a ∧ zG b
 ·obtain ⟨ha, hb'⟩ := hab
  rw [decide_eq_true ha] at fa
  rw [decide_eq_true hb'] at fb
  have k1 := fun op => za5 [a, b] [⟨op, 0, 1, 0⟩] h64
  have k2 := fun op => za5 [a, b] [⟨op, 1, 0, 0⟩] h64
  have k3 := za5 [a, ⟨4194304, 1⟩, zeroFl, zeroFl, zeroFl] [⟨4, 0, 0, 3⟩, ⟨5, 0, 1, 4⟩, ⟨3, 4, 2, 2⟩] (by
   intro x hx; simp at hx; rcases hx with rfl | rfl | rfl
   ·exact ha64
   ·unfold i64; decide
   ·unfold i64; decide)
  rw [zm0 ha] at k3
  have fl := zfC [a, ⟨4194304, 1⟩, a, zeroFl, a]
  refine zj hTt Tryz.func13 rfl (by kernel_rfl) (res := [.tmp 4]) rfl Tryz.ntmps13 (by simp) fun w0 K0 => ?_
  dsimp only [entry]
  repeat' first | refine zd ?_ | refine zc ?_ | ((first | refine zf ?_ | refine zb hTt ?_ | ((refine ⟨_, (fa).call rfl rfl, ?_⟩); (rintro _ _ ⟨rfl, rfl⟩)) | refine ⟨_, fun _ => (fb).call rfl rfl, ?_⟩ | refine And.intro ?_ ?_; focus (first | (exact trivial) | (exact fun h => h) | (exact zu) | (exact zw) | (exact zx) | (exact zE) | (exact fun h _ => h) | fail) | fail); conv => whnf) | (refine za rfl (fun hb => absurd (show false = true from hb) (by decide)) (fun _ => ?_)) | fail
  refine zJ (fun op : Nat => [(9, iv .i64 op), (8, .x (.b 8 0)), (4, bv false), (3, .x (.b 3 0)), (2, .x (.b 2 0))]) (fun _ => [(8, .box [.d (.v (.int .i64 4194304)), .d (.v (.int .i64 1))]), (3, .box [.d (.v (.int .i64 b.mant)), .d (.v (.int .i64 b.exp))]), (2, .box [.d (.v (.int .i64 a.mant)), .d (.v (.int .i64 a.exp))])]) (fun op => op = 3 ∨ op = 5 ∨ op = 7) (fun op => 8 - op) 3 (.inl rfl) impA ?_
  intro op ho
  rcases Nat.lt_or_ge op 6 with ho2 | ho2
  ·have ho3 : (op : Int) = 3 ∨ (op : Int) = 5 := by omega
   have k1 := k1 op
   have k2 := k2 op
   rw [zm1 ho3 ha hb'] at k2
   generalize zaC [a, b] [⟨op, 0, 1, 0⟩] = R at k1 k2
   obtain ⟨l, i, e⟩ := R
   have fl := zfC l
   clear k3
   have hcf : (bif !true then true else (e != e)) = false := by simp
   repeat' first | refine zd ?_ | refine zc ?_ | ((first | refine zf ?_ | refine zk ?_ | refine zb hTt ?_ | fail); conv => whnf) | (exact absurd hb (by omega)) | (refine za rfl (zM hcf) (fun _ => ?_)) | ((first | ((refine ⟨_, (k1).call rfl rfl, ?_⟩); (rintro _ _ ⟨rfl, rfl⟩)) | ((refine ⟨_, (k2).call rfl rfl, ?_⟩); (rintro _ _ ⟨rfl, rfl⟩)) | ((refine ⟨_, (fl).call rfl rfl, ?_⟩); (rintro _ _ ⟨rfl, rfl⟩)) | refine And.intro ?_ ?_; focus (first | (exact trivial) | (exact fun h => h) | (exact zu) | (exact zw) | (exact zx) | (exact zE) | (exact fun h _ => h) | fail) | fail); conv => whnf) | (refine za rfl (fun hb => ?_) (fun hb => ?_) <;> first | (replace hb := of_decide_eq_true hb; try simp only [List.length_map] at hb) | (replace hb := of_decide_eq_false hb; try simp only [List.length_map] at hb)) | ((refine ⟨_, zg (by first | omega | (simp only [List.length_map]; omega)), ?_⟩); conv => whnf) | fail
   exact ⟨op + 2, by omega, by omega, impA⟩
  ·have : op = 7 := by omega
   subst this
   clear k1 k2
   repeat' first | refine zd ?_ | ((first | refine zk ?_ | refine zi ?_ | refine zb hTt ?_ | ((refine ⟨_, (k3).call rfl rfl, ?_⟩); (rintro _ _ ⟨rfl, rfl⟩)) | refine ⟨_, fun _ => (fl).call rfl rfl, ?_⟩ | refine ⟨_, fun _ => (aw).call rfl rfl, ?_⟩ | refine And.intro ?_ ?_; focus (first | (exact trivial) | (exact fun h => h) | (exact zu) | (exact zw) | (exact zx) | (exact zE) | (exact fun h _ => h) | fail) | fail); conv => whnf) | (refine za rfl (fun hb => absurd (show false = true from hb) (by decide)) (fun _ => ?_)) | fail
   rfl
 ·have k0 := za5 [a, b] [] h64
  have hne : (zaC [a, b] []).2.2 ≠ 0 := fun h => hab ⟨(zgu h).2.2.1 a (by simp), (zgu h).2.2.1 b (by simp)⟩
  generalize zaC [a, b] [] = R at k0 hne
  obtain ⟨l, i, e⟩ := R
  dsimp only at hne
  have hfin : (bif (e != 0) then true else false) = true := by simp [hne]
  by_cases ha : zG a
  ·have hb' : ¬ zG b := fun h => hab ⟨ha, h⟩
   rw [decide_eq_true ha] at fa
   rw [decide_eq_false hb'] at fb
   refine zj hTt Tryz.func13 rfl (by kernel_rfl) (res := [.tmp 4]) rfl Tryz.ntmps13 (by simp) fun w0 K0 => ?_
   dsimp only [entry]
   repeat' first | refine zd ?_ | ((first | refine zi ?_ | refine zb hTt ?_ | ((refine ⟨_, (fa).call rfl rfl, ?_⟩); (rintro _ _ ⟨rfl, rfl⟩)) | refine ⟨_, fun _ => (fb).call rfl rfl, ?_⟩ | refine And.intro ?_ ?_; focus (first | (exact trivial) | (exact fun h => h) | (exact zu) | (exact zw) | (exact zx) | (exact zE) | (exact fun h _ => h) | fail) | ((refine ⟨_, ((k0).leA (by repeat' (first | exact trivial | exact LeAV1.refl _ | exact LeAV1.nil _ | refine And.intro ?_ ?_))).call rfl rfl, ?_⟩); (rintro _ _ ⟨rfl, rfl⟩)) | refine ⟨_, fun _ => (aw).call rfl rfl, ?_⟩ | fail); conv => whnf) | (refine za rfl (fun _ => ?_) (fun hb => absurd (show true = false from hb) (by decide))) | fail
   exact congrArg some (congrArg bv hfin)
  ·rw [decide_eq_false ha] at fa
   refine zj hTt Tryz.func13 rfl (by kernel_rfl) (res := [.tmp 4]) rfl Tryz.ntmps13 (by simp) fun w0 K0 => ?_
   dsimp only [entry]
   repeat' first | refine zd ?_ | ((first | refine zi ?_ | refine zb hTt ?_ | ((refine ⟨_, (fa).call rfl rfl, ?_⟩); (rintro _ _ ⟨rfl, rfl⟩)) | refine ⟨_, fun _ => (fb).call rfl rfl, ?_⟩ | refine And.intro ?_ ?_; focus (first | (exact trivial) | (exact fun h => h) | (exact zu) | (exact zw) | (exact zx) | (exact zE) | (exact fun h _ => h) | fail) | ((refine ⟨_, ((k0).leA (by repeat' (first | exact trivial | exact LeAV1.refl _ | exact LeAV1.nil _ | refine And.intro ?_ ?_))).call rfl rfl, ?_⟩); (rintro _ _ ⟨rfl, rfl⟩)) | refine ⟨_, fun _ => (aw).call rfl rfl, ?_⟩ | fail); conv => whnf) | (refine za rfl (fun _ => ?_) (fun hb => absurd (show true = false from hb) (by decide))) | fail
   exact congrArg some (congrArg bv hfin)
end Go.Proofs.YtmceekhgnfpamaaGreatDoor
