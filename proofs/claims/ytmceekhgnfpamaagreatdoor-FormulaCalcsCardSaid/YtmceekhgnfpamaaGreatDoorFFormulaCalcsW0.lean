/- What the functions that this law reaches return: part 0. No condition. -/
import Derived.Test.YtmceekhgnfpamaaGreatDoorB05
set_option linter.all false
namespace Go.Proofs.YtmceekhgnfpamaaGreatDoor
open Go Go.QL FoT
set_option maxHeartbeats 1600000
attribute [local irreducible] ACall FnC
theorem zoS (n lo hi : Int) : FnC Tryz.prog 61 [iv .i64 n, iv .i64 lo, iv .i64 hi] (bv (bif decide (lo ≤ n) then decide (n ≤ hi) else false)) := by
 refine hdC Tryz.func61 Tryz.ntmps61 (res := [.tmp 6]) fun w0 K0 => ?_
 repeat' first | refine zd ?_ | ((first | refine zi ?_ | with_reducible refine regA ?_ | refine pkA ?_ | fail); conv => whnf) | fail
 rfl
theorem zjG (n lo hi : Int) : (bif decide (lo ≤ n) then decide (n ≤ hi) else false) = decide (lo ≤ n ∧ n ≤ hi) := by
 rw [Bool.eq_iff_iff, decide_eq_true_iff, Bool.cond_eq_ite]
 by_cases h : lo ≤ n <;> simp [h]
theorem zho (n lo hi : Int) : FnC Tryz.prog 61 [iv .i64 n, iv .i64 lo, iv .i64 hi] (bv (decide (lo ≤ n ∧ n ≤ hi))) := by
 rw [← zjG]; exact zoS n lo hi
theorem znG {i n : Nat} (h : i ≤ n) (hn : n ≤ 18) : 1 ≤ (10 : Int) ^ i ∧ (10 : Int) ^ i ≤ 1000000000000000000 := by
 have h1 : (10 : Nat) ^ i ≤ 10 ^ 18 := Nat.pow_le_pow_right (by decide) (by omega)
 have h2 : 1 ≤ (10 : Nat) ^ i := Nat.one_le_pow _ _ (by decide)
 have e : (10 : Int) ^ i = ((10 ^ i : Nat) : Int) := by norm_cast
 rw [e]
 omega
theorem zpv (n : Nat) (h : n ≤ 18) : FnC Tryz.prog 124 [iv .i64 n] (iv .i64 ((10 : Int) ^ n)) := by
 refine hdC Tryz.func124 Tryz.ntmps124 (res := [.tmp 2]) fun w0 K0 => ?_
 repeat' first | refine zd ?_ | refine zc ?_ | ((with_reducible refine regA ?_); conv => whnf) | fail
 refine zJ (fun i : Nat => [(4, iv .i64 i), (3, iv .i64 ((10 : Int) ^ i)), (0, iv .i64 n)]) (fun _ => []) (fun i => i ≤ n) (fun i => n - i) 0 (Nat.zero_le _) impA ?_
 intro i hi
 rcases Nat.lt_or_ge i n with hil | hil
 ·have h1 := znG (show i + 1 ≤ n by omega) h
  have e1 : (10 : Int) ^ (i + 1) = 10 * 10 ^ i := by rw [Int.pow_succ, Int.mul_comm]
  rw [e1] at h1
  generalize (10 : Int) ^ i = p at h1 e1
  repeat' first | refine zd ?_ | refine zc ?_ | ((first | refine zf ?_ | refine zk ?_ | refine zi ?_ | with_reducible refine regA ?_ | fail); conv => whnf) | exact abA hb | (refine zso rfl (fun hb => ?_) (fun hb => ?_)) | ((refine zsq ?_); conv => whnf) | fail
  exact ⟨i + 1, by omega, by omega, (impX (by repeat' (first | exact trivial | refine And.intro ?_ ?_ | exact ivE e1.symm | exact zsw)))⟩
 ·obtain rfl : i = n := by omega
  repeat' first | refine zd ?_ | refine zc ?_ | ((first | refine zf ?_ | refine zk ?_ | refine zi ?_ | with_reducible refine regA ?_ | fail); conv => whnf) | exact abA hb | (refine zso rfl (fun hb => ?_) (fun hb => ?_)) | fail
  rfl
theorem zls {n : FNode} (h : 1 ≤ n.places ∧ n.places ≤ 6) : FnC Tryz.prog 124 [iv .i64 n.places] (iv .i64 (ten n)) := by
 have t := zpv n.places.toNat (by omega)
 rw [show ((n.places.toNat : Nat) : Int) = n.places by omega] at t
 exact t
theorem zlv (n : FNode) : FnC Tryz.prog 64 [ndAV n] (bv (decide (3 ≤ n.kind ∧ n.kind ≤ 5))) := by
 have ri := zho
 refine hdC Tryz.func64 Tryz.ntmps64 (res := [.tmp 2]) fun w0 K0 => ?_
 repeat' first | refine zd ?_ | ((first | refine zi ?_ | with_reducible refine regA ?_ | refine zsn ((ri _ _ _)) ?_ | refine andA ?_ | fail); conv => whnf) | fail
 rfl
theorem b3 (a b c : Prop) [Decidable a] [Decidable b] [Decidable c] : (bif (bif decide a then decide b else false) then decide c else false) = decide (a ∧ b ∧ c) := by
 by_cases a <;> by_cases b <;> by_cases c <;> simp [*]
theorem znu (f : FormT) (n : FNode) : FnC Tryz.prog 63 [zaB f, ndAV n] (iv .i64 (zbA f.vars.length n)) := by
 have ri := zho
 have hlv : (f.vars.map zaa).length = f.vars.length := List.length_map _
 by_cases hk : 1 ≤ n.kind ∧ n.kind ≤ 5
 ·have hcf : (!decide (1 ≤ n.kind ∧ n.kind ≤ 5)) = false := by rw [decide_eq_true hk]; rfl
  have hn : zbA f.vars.length n = if fine f.vars.length n then 0 else 7 := by unfold zbA; rw [if_pos hk]
  rw [hn]
  by_cases k1 : n.kind = 1
  ·have e : fine f.vars.length n ↔ (0 ≤ n.var ∧ n.var ≤ (f.vars.length : Int) - 1) ∧ n.num = 0 ∧ n.places = 0 := by unfold fine; rw [if_pos k1]; exact ⟨fun ⟨a, b, c⟩ => ⟨⟨a, b⟩, c⟩, fun ⟨⟨a, b⟩, c⟩ => ⟨a, b, c⟩⟩
   have hq : (bif (bif decide (0 ≤ n.var ∧ n.var ≤ ((f.vars.map zaa).length : Int) - 1) then n.num == 0 else false) then n.places == 0 else false) = decide (fine f.vars.length n) := by
    rw [hlv]
    refine (b3 _ (n.num = 0) (n.places = 0)).trans ?_
    rw [Bool.eq_iff_iff, decide_eq_true_iff, decide_eq_true_iff, e]
   by_cases hf : fine f.vars.length n
   ·rw [if_pos hf]
    rw [decide_eq_true hf] at hq
    refine hdC Tryz.func63 Tryz.ntmps63 (res := [.tmp 4]) fun w0 K0 => ?_
    repeat' first | refine zd ?_ | ((first | refine zf ?_ | refine zi ?_ | with_reducible refine regA ?_ | refine drA (id := 7) 15 false [0, 1, 3, 7, 15, 31, 63, 127, 255, 511, 1023, 511, 2559, 6655, 14847, 32767, 65535, 131071, 262143, 524287, 1048575, 2097151, 4194303, 8388607, 16777215, 33554431, 67108863, 134217727, 268435455] ?_ | fail); conv => whnf) | exact abA hb | (refine za rfl (zM hcf) (fun _ => ?_)) | (refine za rfl (zM ((congrArg not hq).trans rfl)) (fun _ => ?_)) | ((first | refine zsn ((ri _ _ _)) ?_ | refine pkA ?_ | fail); conv => whnf) | (refine zso rfl (fun hb => ?_) (fun hb => ?_)) | ((refine zsq ?_); conv => whnf) | (refine lnA fun hln => ?_; conv => whnf) | fail
    rfl
   ·rw [if_neg hf]
    rw [decide_eq_false hf] at hq
    refine hdC Tryz.func63 Tryz.ntmps63 (res := [.tmp 4]) fun w0 K0 => ?_
    repeat' first | refine zd ?_ | ((first | refine zf ?_ | refine zi ?_ | with_reducible refine regA ?_ | refine drA (id := 7) 15 false [0, 1, 3, 7, 15, 31, 63, 127, 255, 511, 1023, 511, 2559, 6655, 14847, 32767, 65535, 131071, 262143, 524287, 1048575, 2097151, 4194303, 8388607, 16777215, 33554431, 67108863, 134217727, 268435455] ?_ | fail); conv => whnf) | exact abA hb | (refine za rfl (zM hcf) (fun _ => ?_)) | (refine za rfl (fun _ => ?_) (zaf ((congrArg not hq).trans rfl))) | ((first | refine zsn ((ri _ _ _)) ?_ | refine pkA ?_ | fail); conv => whnf) | (refine zso rfl (fun hb => ?_) (fun hb => ?_)) | ((refine zsq ?_); conv => whnf) | (refine lnA fun hln => ?_; conv => whnf) | fail
    rfl
  ·by_cases k2 : n.kind = 2
   ·have e := zgA (nv := f.vars.length) k2
    by_cases hp : n.var = 0 ∧ 1 ≤ n.places ∧ n.places ≤ 6
    ·have t := zls hp.2
     have ht := (zdk hp.2).2
     have hw : IntKind.i64.wrap (ten n - 1) = ten n - 1 := zg (by omega)
     have hq : (bif (bif (bif n.var == 0 then decide (1 ≤ n.places ∧ n.places ≤ 6) else false) then decide (0 ≤ n.num ∧ n.num ≤ ten n - 1) else false) then (bif n.places == 1 then true else (n.num.tmod 10 != 0)) else false) = decide (fine f.vars.length n) := by
      have h1 : (bif n.var == 0 then decide (1 ≤ n.places ∧ n.places ≤ 6) else false) = true := by rw [hp.1, decide_eq_true hp.2]; rfl
      rw [h1, cond_true, Bool.eq_iff_iff, decide_eq_true_iff, e]
      by_cases h2 : 0 ≤ n.num ∧ n.num ≤ ten n - 1
      ·rw [decide_eq_true h2, cond_true, Int.tmod_eq_emod_of_nonneg h2.1]
       by_cases h3 : n.places = 1
       ·simp [h3, h2, hp.1]
       ·simp [h3, h2, hp.1, hp.2]; omega
      ·rw [decide_eq_false h2, cond_false]
       simp [h2]
     by_cases hf : fine f.vars.length n
     ·rw [if_pos hf]
      rw [decide_eq_true hf] at hq
      refine hdC Tryz.func63 Tryz.ntmps63 (res := [.tmp 4]) fun w0 K0 => ?_
      repeat' first | refine zd ?_ | ((first | refine zf ?_ | refine zi ?_ | with_reducible refine regA ?_ | refine drA (id := 7) 15 false [0, 1, 3, 7, 15, 31, 63, 127, 255, 511, 1023, 511, 2559, 6655, 14847, 32767, 65535, 131071, 262143, 524287, 1048575, 2097151, 4194303, 8388607, 16777215, 33554431, 67108863, 134217727, 268435455] ?_ | fail); conv => whnf) | exact abA hb | (refine za rfl (zM hcf) (fun _ => ?_)) | (refine za rfl (zM ((congrArg not hq).trans rfl)) (fun _ => ?_)) | ((first | refine zsn ((ri _ _ _)) ?_ | refine zsp ((ri _ _ _)) ?_ | refine zsr ((ri _ _ _)) ?_ | refine zsr (t) ?_ | refine pkA ?_ | refine ⟨_, hw, ?_⟩ | refine ⟨Int.tmod _ _, rfl, ?_⟩ | fail); conv => whnf) | (refine zso rfl (fun hb => ?_) (fun hb => ?_)) | ((refine andA ?_); conv => whnf) | fail
      rfl
     ·rw [if_neg hf]
      rw [decide_eq_false hf] at hq
      refine hdC Tryz.func63 Tryz.ntmps63 (res := [.tmp 4]) fun w0 K0 => ?_
      repeat' first | refine zd ?_ | ((first | refine zf ?_ | refine zi ?_ | with_reducible refine regA ?_ | refine drA (id := 7) 15 false [0, 1, 3, 7, 15, 31, 63, 127, 255, 511, 1023, 511, 2559, 6655, 14847, 32767, 65535, 131071, 262143, 524287, 1048575, 2097151, 4194303, 8388607, 16777215, 33554431, 67108863, 134217727, 268435455] ?_ | fail); conv => whnf) | exact abA hb | (refine za rfl (zM hcf) (fun _ => ?_)) | (refine za rfl (fun _ => ?_) (zaf ((congrArg not hq).trans rfl))) | ((first | refine zsn ((ri _ _ _)) ?_ | refine zsp ((ri _ _ _)) ?_ | refine zsr ((ri _ _ _)) ?_ | refine zsr (t) ?_ | refine pkA ?_ | refine ⟨_, hw, ?_⟩ | refine ⟨Int.tmod _ _, rfl, ?_⟩ | fail); conv => whnf) | (refine zso rfl (fun hb => ?_) (fun hb => ?_)) | ((refine andA ?_); conv => whnf) | fail
      rfl
    ·have hf : ¬ fine f.vars.length n := fun h => hp ⟨(e.1 h).1, (e.1 h).2.1⟩
     rw [if_neg hf]
     have h1 : (bif n.var == 0 then decide (1 ≤ n.places ∧ n.places ≤ 6) else false) = false := by
      by_cases hv : n.var = 0
      ·rw [hv, decide_eq_false (fun h => hp ⟨hv, h⟩)]; rfl
      ·rw [beq_eq_false_iff_ne.2 hv]; rfl
     refine hdC Tryz.func63 Tryz.ntmps63 (res := [.tmp 4]) fun w0 K0 => ?_
     repeat' first | refine zd ?_ | ((first | refine zf ?_ | refine zi ?_ | with_reducible refine regA ?_ | refine drA (id := 7) 15 false [0, 1, 3, 7, 15, 31, 63, 127, 255, 511, 1023, 511, 2559, 6655, 14847, 32767, 65535, 131071, 262143, 524287, 1048575, 2097151, 4194303, 8388607, 16777215, 33554431, 67108863, 134217727, 268435455] ?_ | fail); conv => whnf) | exact abA hb | (refine za rfl (zM hcf) (fun _ => ?_)) | ((first | refine zsn ((ri _ _ _)) ?_ | refine zsp ((ri _ _ _)) ?_ | refine zsr ((ri _ _ _)) ?_ | refine pkA ?_ | refine ⟨iv .i64 0, zax (fun h => absurd (h1.symm.trans h) (by decide)), ?_⟩ | refine ⟨Int.tmod _ _, rfl, ?_⟩ | fail); conv => whnf) | (refine za rfl (fun _ => ?_) (zaf (by rw [h1]; rfl))) | (refine zso rfl (fun hb => ?_) (fun hb => ?_)) | ((first | refine zsq ?_ | refine andA ?_ | fail); conv => whnf) | fail
     rfl
   ·have hq : (bif (bif n.var == 0 then n.num == 0 else false) then n.places == 0 else false) = decide (fine f.vars.length n) := by
     refine (b3 (n.var = 0) (n.num = 0) (n.places = 0)).trans ?_
     unfold fine
     simp only [if_neg k1, if_neg k2]
    by_cases hf : fine f.vars.length n
    ·rw [if_pos hf]
     rw [decide_eq_true hf] at hq
     refine hdC Tryz.func63 Tryz.ntmps63 (res := [.tmp 4]) fun w0 K0 => ?_
     repeat' first | refine zd ?_ | ((first | refine zf ?_ | refine zi ?_ | with_reducible refine regA ?_ | refine drA (id := 7) 15 false [0, 1, 3, 7, 15, 31, 63, 127, 255, 511, 1023, 511, 2559, 6655, 14847, 32767, 65535, 131071, 262143, 524287, 1048575, 2097151, 4194303, 8388607, 16777215, 33554431, 67108863, 134217727, 268435455] ?_ | fail); conv => whnf) | exact abA hb | (refine za rfl (zM hcf) (fun _ => ?_)) | (refine za rfl (zM ((congrArg not hq).trans rfl)) (fun _ => ?_)) | ((first | refine zsn ((ri _ _ _)) ?_ | refine pkA ?_ | fail); conv => whnf) | (refine zso rfl (fun hb => ?_) (fun hb => ?_)) | fail
     rfl
    ·rw [if_neg hf]
     rw [decide_eq_false hf] at hq
     refine hdC Tryz.func63 Tryz.ntmps63 (res := [.tmp 4]) fun w0 K0 => ?_
     repeat' first | refine zd ?_ | ((first | refine zf ?_ | refine zi ?_ | with_reducible refine regA ?_ | refine drA (id := 7) 15 false [0, 1, 3, 7, 15, 31, 63, 127, 255, 511, 1023, 511, 2559, 6655, 14847, 32767, 65535, 131071, 262143, 524287, 1048575, 2097151, 4194303, 8388607, 16777215, 33554431, 67108863, 134217727, 268435455] ?_ | fail); conv => whnf) | exact abA hb | (refine za rfl (zM hcf) (fun _ => ?_)) | (refine za rfl (fun _ => ?_) (zaf ((congrArg not hq).trans rfl))) | ((first | refine zsn ((ri _ _ _)) ?_ | refine pkA ?_ | fail); conv => whnf) | (refine zso rfl (fun hb => ?_) (fun hb => ?_)) | fail
     rfl
 ·have hct : (!decide (1 ≤ n.kind ∧ n.kind ≤ 5)) = true := by rw [decide_eq_false hk]; rfl
  have hn : zbA f.vars.length n = 2 := by unfold zbA; rw [if_neg hk]
  rw [hn]
  refine hdC Tryz.func63 Tryz.ntmps63 (res := [.tmp 4]) fun w0 K0 => ?_
  repeat' first | refine zd ?_ | ((first | refine zi ?_ | with_reducible refine regA ?_ | fail); conv => whnf) | (refine za rfl (fun _ => ?_) (zaf hct)) | ((first | refine zsn ((ri _ _ _)) ?_ | refine pkA ?_ | fail); conv => whnf) | fail
  rfl
end Go.Proofs.YtmceekhgnfpamaaGreatDoor
namespace Go.Proofs.YtmceekhgnfpamaaGreatDoor
open Go Go.QL FoT
set_option maxHeartbeats 3200000
attribute [local irreducible] ACall FnC
theorem zoA {regs : List FloT} {steps : List StepT} (h : (zaC regs steps).2.2 ≠ 0) : (zaC regs steps).1 = [] := by
 unfold zaC at h ⊢
 by_cases h1 : ¬ (1 ≤ regs.length ∧ regs.length ≤ 8) ∨ 40 < steps.length
 ·rw [if_pos h1]
 rw [if_neg h1] at h ⊢
 cases h2 : za8 regs 0 with
 | some i => rfl
 | none =>
  rw [h2] at h
  dsimp only at h ⊢
  cases h3 : zag regs.length steps 0 with
  | some p => rfl
  | none =>
   rw [h3] at h
   dsimp only at h ⊢
   cases h4 : runS steps 0 regs with
   | error p => rfl
   | ok l => rw [h4] at h; exact absurd rfl h
theorem zc8 {x : FloT} (h : zG x) : i64 x.mant := by
 have := zI h
 unfold zau at this
 unfold i64
 omega
theorem zpg {n : Nat} (h : n ≤ 2 ^ 63 - 1) : IntKind.i64.wrap ((n : Int) + 1) ≠ 0 := by
 rcases Nat.lt_or_ge n (2 ^ 63 - 1) with h1 | h1
 ·rw [zg (by omega)]; omega
 ·obtain rfl : n = 2 ^ 63 - 1 := by omega
  decide
theorem cut_fn (regs : List FloT) (steps : List StepT) (c : UInt8) (hr : ∀ x ∈ regs, i64 x.mant) : FnC Tryz.prog 14 [zdT regs, zhW steps, iv .u8 c.toNat] (bv true) := by
 have aw := zcK
 have k1 := za5 regs steps hr
 have hls : (steps.map stPV).length = steps.length := List.length_map _
 by_cases he : (zaC regs steps).2.2 = 0
 ·obtain ⟨h1, h2, h3, h4, _⟩ := zgu he
  obtain ⟨k, hk⟩ : ∃ k : Nat, k = c.toNat % (steps.length + 1) := ⟨_, rfl⟩
  have hkl : k ≤ steps.length := by have := Nat.mod_lt c.toNat (show 0 < steps.length + 1 by omega); omega
  have hki : Int.tmod (c.toNat : Int) ((steps.length : Int) + 1) = k := by rw [hk]; rfl
  obtain ⟨m, l, c1, c2, c3⟩ := zoz he k
  rw [c3] at k1
  have k2 := za5 regs (steps.take k) hr
  rw [c1] at k2
  have k3 := za5 m (steps.drop k) (fun x hx => zc8 ((zgu (show (zaC m (steps.drop k)).2.2 = 0 by rw [c2])).2.2.1 x hx))
  rw [c2] at k3
  have fl := zfC l
  have q2 : PV.s 4 (List.drop (Int.toNat 0) (List.take (k : Int).toNat (steps.map stPV))) = .s 4 ((steps.take k).map stPV) := by
   rw [Int.toNat_natCast, List.map_take]; rfl
  have q3 : PV.s 4 (List.drop (k : Int).toNat (List.take (((steps.map stPV).length : Int)).toNat (steps.map stPV))) = .s 4 ((steps.drop k).map stPV) := by
   rw [Int.toNat_natCast, Int.toNat_natCast, List.take_length, List.map_drop]
  have k2 : FnC Tryz.prog 32 [zdT regs, .x (.d (.s 4 (List.drop (Int.toNat 0) (List.take (k : Int).toNat (steps.map stPV)))))] (cAV (m, 0, 0)) := by rw [q2]; exact k2
  have k3 : FnC Tryz.prog 32 [zdT m, .x (.d (.s 4 (List.drop (k : Int).toNat (List.take (((steps.map stPV).length : Int)).toNat (steps.map stPV)))))] (cAV (l, 0, 0)) := by rw [q3]; exact k3
  have hc8 := c.toNat_lt
  have hkw : (c.toNat : Int).tmod (((steps.map stPV).length : Int) + 1) = k := by rw [hls, hki]
  refine hdC Tryz.func14 Tryz.ntmps14 (res := [.tmp 6]) fun w0 K0 => ?_
  repeat' first | refine zd ?_ | ((first | refine zf ?_ | refine zi ?_ | with_reducible refine regA ?_ | fail); conv => whnf) | exact abA hb | ((first | refine zsn (k1) ?_ | refine zsn (k2) ?_ | refine zsn (k3) ?_ | refine zsp (fl) ?_ | refine zsp (aw) ?_ | refine pkA ?_ | refine ⟨_, hkw, ?_⟩ | fail); conv => whnf) | (refine zss rfl ?_) | (refine zso rfl (fun hb => ?_) (fun hb => ?_)) | ((first | refine zsq ?_ | refine andA ?_ | fail); conv => whnf) | (refine lnA fun hln => ?_; conv => whnf) | fail
  rfl
 ·have hl := zoA he
  obtain ⟨⟨l, i, e⟩, hR⟩ : ∃ p, zaC regs steps = p := ⟨_, rfl⟩
  rw [hR] at he hl k1
  dsimp only at he hl k1
  subst hl
  have hcf : (bif (bif (e != 0) then decide ((((([] : List FloT).map flPV).length : Nat) : Int) > 0) else false) then true else (bif e == 0 then i != 0 else false)) = false := by simp [he]
  have hct : (bif (e != 0) then true else decide (((steps.map stPV).length : Int) > 40)) = true := by simp [he]
  refine hdC Tryz.func14 Tryz.ntmps14 (res := [.tmp 6]) fun w0 K0 => ?_
  repeat' first | refine zd ?_ | ((first | refine zf ?_ | refine zi ?_ | with_reducible refine regA ?_ | fail); conv => whnf) | (refine za rfl (zM hcf) (fun _ => ?_)) | (refine za rfl (fun _ => ?_) (zaf hct)) | ((first | refine zsn (k1) ?_ | refine zsn (aw) ?_ | refine pkA ?_ | refine And.intro (ze (zpg (by rw [hls]; exact hln))) ?_ | refine ⟨_, rfl, ?_⟩ | fail); conv => whnf) | (refine lnA fun hln => ?_; conv => whnf) | fail
  rfl
end Go.Proofs.YtmceekhgnfpamaaGreatDoor
namespace Go.Proofs.YtmceekhgnfpamaaGreatDoor
open Go Go.QL FoT
set_option maxHeartbeats 3200000
attribute [local irreducible] ACall FnC
theorem znT : FnC Tryz.prog 101 [] (iv .i64 4194304) := by
 refine hdC Tryz.func101 Tryz.ntmps101 (res := [.tmp 0]) fun w0 K0 => ?_
 repeat' first | refine zd ?_ | ((first | refine zi ?_ | with_reducible refine regA ?_ | fail); conv => whnf) | fail
 rfl
theorem zpN : FnC Tryz.prog 102 [] (iv .i64 8388607) := by
 refine hdC Tryz.func102 Tryz.ntmps102 (res := [.tmp 0]) fun w0 K0 => ?_
 repeat' first | refine zd ?_ | ((first | refine zi ?_ | with_reducible refine regA ?_ | fail); conv => whnf) | fail
 rfl
theorem flB (m e : Int) (h : i64 m) : (bif eqL [Value.int .i64 m, Value.int .i64 e] [Value.int .i64 0, Value.int .i64 0] then true else bif (bif decide (4194304 ≤ (bif true then (if IntKind.i64.wrap (0 - m) > m then IntKind.i64.wrap (0 - m) else m) else (if IntKind.i64.wrap (0 - m) < m then IntKind.i64.wrap (0 - m) else m))) then
  decide ((bif true then (if IntKind.i64.wrap (0 - m) > m then IntKind.i64.wrap (0 - m) else m) else (if IntKind.i64.wrap (0 - m) < m then IntKind.i64.wrap (0 - m) else m)) ≤ 8388607) else false) then (bif decide (-64 ≤ e) then decide (e ≤ 63) else false) else false) = decide (zG ⟨m, e⟩) := by
 have hM : ∃ M : Int, (bif true then (if IntKind.i64.wrap (0 - m) > m then IntKind.i64.wrap (0 - m) else m) else (if IntKind.i64.wrap (0 - m) < m then IntKind.i64.wrap (0 - m) else m)) = M ∧ ((M = m.natAbs) ∨ (m = -9223372036854775808 ∧ M = m)) := by
  refine ⟨_, rfl, ?_⟩
  rw [cond_true]
  by_cases hm : m = -9223372036854775808
  ·right; subst hm; exact ⟨rfl, by decide⟩
  ·left
   unfold i64 at h
   rw [zg (by omega)]
   split <;> omega
 obtain ⟨M, hM, hc⟩ := hM
 rw [hM, zrh, Bool.eq_iff_iff, decide_eq_true_iff]
 unfold zG zeroFl
 simp only [FloT.mk.injEq, Bool.cond_eq_ite]
 have e1 : (decide (m = 0) && decide (e = 0)) = true ↔ m = 0 ∧ e = 0 := by simp
 by_cases h0 : m = 0 ∧ e = 0
 ·rw [if_pos (e1.2 h0)]; simp [h0]
 ·rw [if_neg (fun h => h0 (e1.1 h))]
  by_cases a1 : 4194304 ≤ M <;> by_cases a2 : M ≤ 8388607 <;> by_cases a3 : -64 ≤ e <;> by_cases a4 : e ≤ 63 <;> simp [a1, a2, a3, a4, h0] <;> omega
theorem zbu (x : FloT) (h : i64 x.mant) : FnC Tryz.prog 41 [flAV x] (bv (decide (zG x))) := by
 have ri := zoS
 have le := znT
 have mo := zpN
 refine hdC Tryz.func41 Tryz.ntmps41 (res := [.tmp 2]) fun w0 K0 => ?_
 repeat' first | refine zd ?_ | ((first | refine zi ?_ | with_reducible refine regA ?_ | refine drA (id := 1) 12 false [0, 0, 3, 7, 15, 31, 15, 79, 207, 511, 15, 1039, 4095, 8191, 16383, 32767, 65535, 131071, 262143, 524287] ?_ | refine zsp ((ri _ _ _)) ?_ | refine zsr (le) ?_ | refine zsr (mo) ?_ | refine pkA ?_ | refine ⟨_, rfl, ?_⟩ | refine andA ?_ | fail); conv => whnf) | fail
 exact congrArg some (congrArg bv (flB x.mant x.exp h))
end Go.Proofs.YtmceekhgnfpamaaGreatDoor
namespace Go.Proofs.YtmceekhgnfpamaaGreatDoor
open Go Go.QL FoT
set_option maxHeartbeats 3200000
attribute [local irreducible] ACall FnC
theorem zm1 {op : Int} (ho : op = 3 ∨ op = 5) {a b : FloT} (ha : zG a) (hb : zG b) : zaC [a, b] [⟨op, 1, 0, 0⟩] = zaC [a, b] [⟨op, 0, 1, 0⟩] := by
 have hs := zlk ho ha hb
 have h1 : za8 [a, b] 0 = none := zbk.2 (by intro x hx; simp at hx; rcases hx with rfl | rfl <;> assumption)
 have h2 : zag ([a, b].length : Int) [⟨op, 1, 0, 0⟩] 0 = none := zaz.2 (by
  intro s hs; simp at hs; subst hs; rcases ho with rfl | rfl <;> rfl)
 have h3 : zag ([a, b].length : Int) [⟨op, 0, 1, 0⟩] 0 = none := zaz.2 (by
  intro s hs; simp at hs; subst hs; rcases ho with rfl | rfl <;> rfl)
 have h4 : runS [⟨op, 1, 0, 0⟩] 0 [a, b] = runS [⟨op, 0, 1, 0⟩] 0 [a, b] := by
  show (if (FoT.stepM op b a).2 = 0 then runS [] 1 ([a, b].set 0 (FoT.stepM op b a).1) else .error (0, (FoT.stepM op b a).2)) = (if (FoT.stepM op a b).2 = 0 then runS [] 1 ([a, b].set 0 (FoT.stepM op a b).1) else .error (0, (FoT.stepM op a b).2))
  rw [hs]
 unfold zaC
 rw [if_neg (by simp), if_neg (by simp), h1, h2, h3, h4]
theorem zm0 {a : FloT} (ha : zG a) : zaC [a, ⟨4194304, 1⟩, zeroFl, zeroFl, zeroFl] [⟨4, 0, 0, 3⟩, ⟨5, 0, 1, 4⟩, ⟨3, 4, 2, 2⟩] = ([a, ⟨4194304, 1⟩, a, zeroFl, a], 0, 0) := by
 refine zjL ⟨by simp, by simp⟩ (by simp) ?_ ?_ ?_
 ·intro x hx
  simp at hx
  rcases hx with rfl | rfl | rfl
  ·exact ha
  ·decide
  ·exact .inl rfl
 ·intro s hs
  simp at hs
  rcases hs with rfl | rfl | rfl <;> rfl
 ·have s1 : FoT.stepM 4 a a = (zeroFl, 0) := sub_self ha
  have s2 : FoT.stepM 5 a ⟨4194304, 1⟩ = (a, 0) := mul_one ha
  have s3 : FoT.stepM 3 a zeroFl = (a, 0) := add_zero ha
  rw [runS]
  show (if (FoT.stepM 4 a a).2 = 0 then runS _ _ [a, ⟨4194304, 1⟩, zeroFl, (FoT.stepM 4 a a).1, zeroFl] else _) = _
  rw [s1, if_pos rfl, runS]
  show (if (FoT.stepM 5 a ⟨4194304, 1⟩).2 = 0 then runS _ _ [a, ⟨4194304, 1⟩, zeroFl, zeroFl, (FoT.stepM 5 a ⟨4194304, 1⟩).1] else _) = _
  rw [s2, if_pos rfl, runS]
  show (if (FoT.stepM 3 a zeroFl).2 = 0 then runS _ _ [a, ⟨4194304, 1⟩, (FoT.stepM 3 a zeroFl).1, zeroFl, a] else _) = _
  rw [s3, if_pos rfl, runS]
theorem zr4 (a b : FloT) (ha64 : i64 a.mant) (hb64 : i64 b.mant) : FnC Tryz.prog 13 [flAV a, flAV b] (bv true) := by
 have aw := zcK
 have fa := zbu a ha64
 have fb := zbu b hb64
 have h64 : ∀ x ∈ [a, b], i64 x.mant := by intro x hx; simp at hx; rcases hx with rfl | rfl <;> assumption
 by_cases hab : zG a ∧ zG b
 ·obtain ⟨ha, hb'⟩ := hab
  rw [decide_eq_true ha] at fa
  rw [decide_eq_true hb'] at fb
  have k1 := fun op => za5 [a, b] [⟨op, 0, 1, 0⟩] h64
  have k2 := fun op => za5 [a, b] [⟨op, 1, 0, 0⟩] h64
  have k3 := za5 [a, ⟨4194304, 1⟩, zeroFl, zeroFl, zeroFl] [⟨4, 0, 0, 3⟩, ⟨5, 0, 1, 4⟩, ⟨3, 4, 2, 2⟩] (by
   intro x hx; simp at hx; rcases hx with rfl | rfl | rfl
   ·exact ha64
   ·unfold i64; decide
   ·unfold i64; decide)
  rw [zm0 ha] at k3
  have fl := zfC [a, ⟨4194304, 1⟩, a, zeroFl, a]
  refine hdC Tryz.func13 Tryz.ntmps13 (res := [.tmp 4]) fun w0 K0 => ?_
  repeat' first | refine zd ?_ | refine zc ?_ | ((first | refine zf ?_ | with_reducible refine regA ?_ | refine zsn (fa) ?_ | refine zsp (fb) ?_ | refine pkA ?_ | fail); conv => whnf) | (refine zss rfl ?_) | fail
  refine zJ (fun op : Nat => [(9, iv .i64 op), (8, .x (.b 8 0)), (4, bv false), (3, .x (.b 3 0)), (2, .x (.b 2 0))]) (fun _ => [(8, .box [.d (.v (.int .i64 4194304)), .d (.v (.int .i64 1))]), (3, .box [.d (.v (.int .i64 b.mant)), .d (.v (.int .i64 b.exp))]), (2, .box [.d (.v (.int .i64 a.mant)), .d (.v (.int .i64 a.exp))])]) (fun op => op = 3 ∨ op = 5 ∨ op = 7) (fun op => 8 - op) 3 (.inl rfl) impA ?_
  intro op ho
  rcases Nat.lt_or_ge op 6 with ho2 | ho2
  ·have ho3 : (op : Int) = 3 ∨ (op : Int) = 5 := by omega
   have k1 := k1 op
   have k2 := k2 op
   rw [zm1 ho3 ha hb'] at k2
   generalize zaC [a, b] [⟨op, 0, 1, 0⟩] = R at k1 k2
   obtain ⟨l, i, e⟩ := R
   have fl := zfC l
   clear k3
   have hcf : (bif !true then true else (e != e)) = false := by simp
   repeat' first | refine zd ?_ | refine zc ?_ | ((first | refine zf ?_ | refine zk ?_ | with_reducible refine regA ?_ | fail); conv => whnf) | exact abA hb | (refine za rfl (zM hcf) (fun _ => ?_)) | ((first | refine zsn (k1) ?_ | refine zsn (k2) ?_ | refine zsn (fl) ?_ | refine pkA ?_ | fail); conv => whnf) | (refine zso rfl (fun hb => ?_) (fun hb => ?_)) | ((refine zsq ?_); conv => whnf) | fail
   exact ⟨op + 2, by omega, by omega, impA⟩
  ·have : op = 7 := by omega
   subst this
   clear k1 k2
   repeat' first | refine zd ?_ | ((first | refine zk ?_ | refine zi ?_ | with_reducible refine regA ?_ | refine zsn (k3) ?_ | refine zsp (fl) ?_ | refine zsp (aw) ?_ | refine pkA ?_ | fail); conv => whnf) | (refine zss rfl ?_) | fail
   rfl
 ·have k0 := za5 [a, b] [] h64
  have hne : (zaC [a, b] []).2.2 ≠ 0 := fun h => hab ⟨(zgu h).2.2.1 a (by simp), (zgu h).2.2.1 b (by simp)⟩
  generalize zaC [a, b] [] = R at k0 hne
  obtain ⟨l, i, e⟩ := R
  dsimp only at hne
  have hfin : (bif (e != 0) then true else false) = true := by simp [hne]
  by_cases ha : zG a
  ·have hb' : ¬ zG b := fun h => hab ⟨ha, h⟩
   rw [decide_eq_true ha] at fa
   rw [decide_eq_false hb'] at fb
   refine hdC Tryz.func13 Tryz.ntmps13 (res := [.tmp 4]) fun w0 K0 => ?_
   repeat' first | refine zd ?_ | ((first | refine zi ?_ | with_reducible refine regA ?_ | refine zsn (fa) ?_ | refine zsp (fb) ?_ | refine pkA ?_ | refine zsn ((k0).leA (by repeat' (first | exact trivial | exact LeAV1.refl _ | exact LeAV1.nil _ | refine And.intro ?_ ?_))) ?_ | refine zsp (aw) ?_ | fail); conv => whnf) | (refine zst rfl ?_) | fail
   exact congrArg some (congrArg bv hfin)
  ·rw [decide_eq_false ha] at fa
   refine hdC Tryz.func13 Tryz.ntmps13 (res := [.tmp 4]) fun w0 K0 => ?_
   repeat' first | refine zd ?_ | ((first | refine zi ?_ | with_reducible refine regA ?_ | refine zsn (fa) ?_ | refine zsp (fb) ?_ | refine pkA ?_ | refine zsn ((k0).leA (by repeat' (first | exact trivial | exact LeAV1.refl _ | exact LeAV1.nil _ | refine And.intro ?_ ?_))) ?_ | refine zsp (aw) ?_ | fail); conv => whnf) | (refine zst rfl ?_) | fail
   exact congrArg some (congrArg bv hfin)
end Go.Proofs.YtmceekhgnfpamaaGreatDoor
namespace Go.Proofs.YtmceekhgnfpamaaGreatDoor
open Go Go.QL FoT
set_option maxHeartbeats 3200000
attribute [local irreducible] ACall FnC
theorem zcV (n : Nat) (hn : n ≤ 62) : FnC Tryz.prog 42 [iv .i64 n] (iv .i64 ((2 : Int) ^ n)) := by
 have hp : ∀ i : Nat, i ≤ 62 → (2 : Int) ^ i ≤ 4611686018427387904 ∧ 1 ≤ (2 : Int) ^ i := by
  intro i hi
  have h1 : (2 : Nat) ^ i ≤ 2 ^ 62 := Nat.pow_le_pow_right (by decide) hi
  have h2 : 1 ≤ (2 : Nat) ^ i := Nat.one_le_two_pow
  have e : (2 : Int) ^ i = ((2 ^ i : Nat) : Int) := by norm_cast
  rw [e]
  omega
 refine hdC Tryz.func42 Tryz.ntmps42 (res := [.tmp 2]) fun w0 K0 => ?_
 repeat' first | refine zd ?_ | refine zc ?_ | ((with_reducible refine regA ?_); conv => whnf) | fail
 refine zJ (fun i : Nat => [(4, iv .i64 i), (3, iv .i64 ((2 : Int) ^ i)), (0, iv .i64 n)]) (fun _ => []) (fun i => i ≤ n) (fun i => n - i) 0 (Nat.zero_le _) impA ?_
 intro i hi
 rcases Nat.lt_or_ge i n with hil | hil
 ·have h1 := hp (i + 1) (by omega)
  have e1 : (2 : Int) ^ (i + 1) = 2 * 2 ^ i := by rw [Int.pow_succ, Int.mul_comm]
  rw [e1] at h1
  generalize (2 : Int) ^ i = p at h1 e1
  repeat' first | refine zd ?_ | refine zc ?_ | ((first | refine zf ?_ | refine zk ?_ | refine zi ?_ | with_reducible refine regA ?_ | fail); conv => whnf) | exact abA hb | (refine zso rfl (fun hb => ?_) (fun hb => ?_)) | ((refine zsq ?_); conv => whnf) | fail
  exact ⟨i + 1, by omega, by omega, (impX (by repeat' (first | exact trivial | refine And.intro ?_ ?_ | exact ivE e1.symm | exact zsw)))⟩
 ·obtain rfl : i = n := by omega
  repeat' first | refine zd ?_ | refine zc ?_ | ((first | refine zf ?_ | refine zk ?_ | refine zi ?_ | with_reducible refine regA ?_ | fail); conv => whnf) | exact abA hb | (refine zso rfl (fun hb => ?_) (fun hb => ?_)) | fail
  rfl
end Go.Proofs.YtmceekhgnfpamaaGreatDoor
namespace Go.Proofs.YtmceekhgnfpamaaGreatDoor
open Go Go.QL FoT
set_option maxHeartbeats 3200000
attribute [local irreducible] ACall FnC
theorem ztb : ∀ (s k N : Nat) (e : Int), s ≤ k → (∀ t, t < s → 8388608 ≤ N / 2 ^ t) → N / 2 ^ s < 8388608 → hlv k N e = (N / 2 ^ s, e + s)
 | 0, k, N, e, _, _, h => by rw [Nat.pow_zero, Nat.div_one] at h ⊢; rw [zes h]; simp
 | s + 1, 0, N, e, hk, _, _ => absurd hk (by omega)
 | s + 1, k + 1, N, e, hk, ht, h => by
  have h0 := ht 0 (by omega)
  rw [Nat.pow_zero, Nat.div_one] at h0
  have hd : ∀ t : Nat, N / 2 / 2 ^ t = N / 2 ^ (t + 1) := fun t => by rw [Nat.div_div_eq_div_mul, Nat.pow_succ, Nat.mul_comm]
  rw [hlv, if_pos h0, ztb s k (N / 2) (e + 1) (by omega) (fun t h1 => by rw [hd]; exact ht (t + 1) (by omega)) (by rw [hd]; exact h), hd]
  congr 1
  push_cast; omega
theorem ztc : ∀ (s k M : Nat) (e : Int), s ≤ k → M ≠ 0 → (∀ t, t < s → M * 2 ^ t < 4194304) → 4194304 ≤ M * 2 ^ s → dbl k M e = (M * 2 ^ s, e - s)
 | 0, k, M, e, _, _, _, h => by rw [Nat.pow_zero, Nat.mul_one] at h ⊢; rw [zeA (.inr h)]; simp
 | s + 1, 0, M, e, hk, _, _, _ => absurd hk (by omega)
 | s + 1, k + 1, M, e, hk, hM, ht, h => by
  have h0 := ht 0 (by omega)
  rw [Nat.pow_zero, Nat.mul_one] at h0
  have hd : ∀ t : Nat, M * 2 * 2 ^ t = M * 2 ^ (t + 1) := fun t => by rw [Nat.pow_succ, Nat.mul_assoc, Nat.mul_comm 2]
  rw [dbl, if_pos ⟨hM, h0⟩, ztc s k (M * 2) (e - 1) (by omega) (by omega) (fun t h1 => by rw [hd]; exact ht (t + 1) (by omega)) (by rw [hd]; exact h), hd]
  congr 1
  push_cast; omega
theorem zsH (n exp : Int) (h : n.natAbs < 4611686018427387904) (he : -100000 ≤ exp ∧ exp ≤ 100000) : FnC Tryz.prog 90 [iv .i64 n, iv .i64 exp] (.t [flAV (zaj n exp).1, iv .i64 (zaj n exp).2]) := by
 have le := znT
 have mo := zpN
 by_cases h0 : n = 0
 ·subst h0
  rw [zb3]
  refine hdC Tryz.func90 Tryz.ntmps90 (res := [.cell 4 56, .tmp 5]) fun w0 K0 => ?_
  repeat' first | refine zd ?_ | ((first | refine zi ?_ | with_reducible refine regA ?_ | fail); conv => whnf) | (refine zst rfl ?_) | fail
  rfl
 ·have key : ∀ (w0 : World) (K0 : Bs) (sgn : Int), True := fun _ _ _ => trivial
  clear key
  have hpos : 0 < n.natAbs := by omega
  have fin1 : ∀ (s1 s2 : Nat), (∀ t, t < s1 → 8388608 ≤ n.natAbs / 2 ^ t) → n.natAbs / 2 ^ s1 < 8388608 → s1 ≤ 64 → (∀ t, t < s2 → n.natAbs / 2 ^ s1 * 2 ^ t < 4194304) → 4194304 ≤ n.natAbs / 2 ^ s1 * 2 ^ s2 → s2 ≤ 23 → n.natAbs / 2 ^ s1 ≠ 0 →
    zaj n exp = (if exp + 23 + s1 - s2 > 63 then (zeroFl, 171) else if exp + 23 + s1 - s2 < -64 then (zeroFl, 0) else (⟨sg n * ((n.natAbs / 2 ^ s1 * 2 ^ s2 : Nat) : Int), exp + 23 + s1 - s2⟩, 0)) := by
   intro s1 s2 a1 a2 a3 b1 b2 b3 b4
   unfold zaj
   rw [ztb s1 64 _ _ a3 a1 a2]
   dsimp only
   rw [ztc s2 23 _ _ b3 b4 b1 b2]
   unfold fin
   have hm : ¬ (n.natAbs / 2 ^ s1 * 2 ^ s2 = 0) := by omega
   generalize n.natAbs / 2 ^ s1 * 2 ^ s2 = M at *
   by_cases c1 : exp + 23 + s1 - s2 > 63
   ·rw [if_pos c1, if_neg (by omega), if_pos (by omega)]
   ·rw [if_neg c1]
    by_cases c2 : exp + 23 + s1 - s2 < -64
    ·rw [if_pos (.inr c2)]; simp only [if_neg c1, if_pos c2]
    ·rw [if_neg c2, if_neg (by omega), if_neg (by omega)]
  have hlt : ∀ s, 8388608 ≤ n.natAbs / 2 ^ s → s < 40 := fun s hs => by
   rcases Nat.lt_or_ge s 40 with h' | h'
   ·exact h'
   ·have h1 : 2 ^ 40 ≤ 2 ^ s := Nat.pow_le_pow_right (by decide) h'
    have h2 := Nat.div_mul_le_self n.natAbs (2 ^ s)
    have h3 := Nat.mul_le_mul hs h1
    omega
  have hsgn : (n < 0 ∧ sg n = -1) ∨ (¬ n < 0 ∧ sg n = 1) := by
   unfold sg
   by_cases hn : n < 0
   ·exact .inl ⟨hn, by rw [if_pos hn]⟩
   ·exact .inr ⟨hn, by rw [if_neg hn]⟩
  rcases hsgn with ⟨hn, hs⟩ | ⟨hn, hs⟩
  all_goals
   refine hdC Tryz.func90 Tryz.ntmps90 (res := [.cell 4 56, .tmp 5]) fun w0 K0 => ?_
   repeat' first | refine zd ?_ | refine zc ?_ | ((first | refine zf ?_ | refine zi ?_ | with_reducible refine regA ?_ | fail); conv => whnf) | exact abA hb | (refine zso rfl (fun hb => ?_) (fun hb => ?_)) | ((refine zsq ?_); conv => whnf) | fail
   refine zJ (fun s : Nat => [(7, iv .i64 ((n.natAbs / 2 ^ s : Nat) : Int)), (6, iv .i64 (sg n)), (8, .x (.b 8 0)), (4, .x (.b 4 0))]) (fun s => [(8, .box [.d (.v (.int .i64 0)), .d (.v (.int .i64 (exp + 23 + s)))]), (4, .box [.d (.v (.int .i64 0)), .d (.v (.int .i64 0))])])
    (fun s => ∀ t, t < s → 8388608 ≤ n.natAbs / 2 ^ t) (fun s => n.natAbs / 2 ^ s) 0 (fun t h => absurd h (Nat.not_lt_zero t)) (impX (by repeat' (first | exact trivial | refine And.intro ?_ ?_ | exact ivE (by rw [Nat.pow_zero, Nat.div_one]; omega) | exact ivE hs.symm | exact congrArg (fun k : Int => some (Ob.box [.d (.v (.int .i64 0)), .d (.v (.int .i64 k))])) (show exp + 23 = exp + 23 + ((0 : Nat) : Int) by omega) | exact zsw))) ?_
   intro s hI
   rw [hs]
   rcases Nat.lt_or_ge (n.natAbs / 2 ^ s) 8388608 with hlt2 | hge
   ·have hs64 : s ≤ 40 := by
     rcases Nat.eq_zero_or_pos s with h' | h'
     ·omega
     ·have := hlt (s - 1) (hI (s - 1) (by omega)); omega
    have hnz : n.natAbs / 2 ^ s ≠ 0 := by
     rcases Nat.eq_zero_or_pos s with h' | h'
     ·subst h'; rw [Nat.pow_zero, Nat.div_one]; omega
     ·have h1 := hI (s - 1) (by omega)
      have h2 : n.natAbs / 2 ^ s = n.natAbs / 2 ^ (s - 1) / 2 := by rw [Nat.div_div_eq_div_mul, ← Nat.pow_succ, show (s - 1).succ = s by omega]
      omega
    have fin2 := fun s2 => fin1 s s2 hI hlt2 (by omega)
    clear hI hlt fin1
    generalize n.natAbs / 2 ^ s = M at *
    generalize hz : (M : Int) = z
    repeat' first | refine zd ?_ | refine zc ?_ | ((first | refine zf ?_ | refine zk ?_ | with_reducible refine regA ?_ | refine drA (id := 8) 6 false [0, 1, 0, 4, 12, 3, 63, 127] ?_ | fail); conv => whnf) | exact abA hb | ((refine zsn (mo) ?_); conv => whnf) | (refine zso rfl (fun hb => ?_) (fun hb => ?_)) | fail
    refine zJ (fun q : Nat => [(7, iv .i64 ((M * 2 ^ q : Nat) : Int)), (6, iv .i64 (sg n)), (8, .x (.b 8 0)), (4, .x (.b 4 0))]) (fun q => [(8, .box [.d (.v (.int .i64 0)), .d (.v (.int .i64 (exp + 23 + s - q)))]), (4, .box [.d (.v (.int .i64 0)), .d (.v (.int .i64 0))])])
     (fun q => ∀ t, t < q → M * 2 ^ t < 4194304) (fun q => 8388608 - M * 2 ^ q) 0 (fun t h => absurd h (Nat.not_lt_zero t)) (impX (by repeat' (first | exact trivial | refine And.intro ?_ ?_ | exact ivE hs.symm | exact ivE (show z = ((M * 2 ^ 0 : Nat) : Int) by rw [Nat.pow_zero, Nat.mul_one]; exact hz.symm) | exact congrArg (fun k : Int => some (Ob.box [.d (.v (.int .i64 0)), .d (.v (.int .i64 k))])) (show exp + 23 + s = exp + 23 + s - ((0 : Nat) : Int) by omega) | exact zsw))) ?_
    intro q hQ
    rw [hs]
    have hq23 : q ≤ 22 := by
     rcases Nat.lt_or_ge 22 q with h' | h'
     ·have h1 := hQ 22 h'
      have h2 : 1 * 2 ^ 22 ≤ M * 2 ^ 22 := Nat.mul_le_mul_right _ (by omega)
      omega
     ·exact h'
    rcases Nat.lt_or_ge (M * 2 ^ q) 4194304 with hsm | hbig
    ·have hnx : M * 2 ^ (q + 1) = M * 2 ^ q * 2 := by rw [Nat.pow_succ, Nat.mul_assoc]
     have hQ2 : ∀ t, t < q + 1 → M * 2 ^ t < 4194304 := fun t ht => by
      rcases Nat.lt_or_ge t q with h' | h'
      ·exact hQ t h'
      ·obtain rfl : t = q := by omega
       exact hsm
     have hp0 : 0 < M * 2 ^ q := Nat.mul_pos (by omega) (Nat.two_pow_pos q)
     clear hQ fin2
     generalize hq1 : M * 2 ^ (q + 1) = m1 at *
     generalize M * 2 ^ q = m0 at *
     clear hz
     generalize hz : (m0 : Int) = z0
     repeat' first | refine zd ?_ | refine zc ?_ | ((first | refine zf ?_ | refine zk ?_ | with_reducible refine regA ?_ | refine drA (id := 10) 6 false [0, 1, 0, 4, 12, 3, 63, 127] ?_ | fail); conv => whnf) | exact abA hb | ((refine zsn (le) ?_); conv => whnf) | (refine zso rfl (fun hb => ?_) (fun hb => ?_)) | ((first | refine zsq ?_ | refine andA ?_ | fail); conv => whnf) | fail
     exact ⟨q + 1, hQ2, by rw [hq1]; omega, (impX (by repeat' (first | exact trivial | refine And.intro ?_ ?_ | exact ivE hs.symm | exact ivE (show z0 * 2 = ((M * 2 ^ (q + 1) : Nat) : Int) by rw [hq1]; omega) | exact congrArg (fun k : Int => some (Ob.box [.d (.v (.int .i64 0)), .d (.v (.int .i64 k))])) (show exp + 23 + s - q - 1 = exp + 23 + s - ((q + 1 : Nat) : Int) by omega) | exact zsw)))⟩
    ·have hfin := fin2 q hQ hbig (by omega) hnz
     have hup : M * 2 ^ q < 8388608 := by
      rcases Nat.eq_zero_or_pos q with h' | h'
      ·subst h'; rw [Nat.pow_zero, Nat.mul_one]; exact hlt2
      ·have h1 := hQ (q - 1) (by omega)
       have h2 : M * 2 ^ q = M * 2 ^ (q - 1) * 2 := by rw [Nat.mul_assoc, ← Nat.pow_succ, show (q - 1).succ = q by omega]
       omega
     rw [hs] at hfin
     clear fin2 hQ
     generalize M * 2 ^ q = m0 at *
     rw [hfin]
     clear hz
     generalize hz : (m0 : Int) = z0
     by_cases c1 : exp + 23 + s - q > 63 <;> by_cases c2 : exp + 23 + s - q < -64
     all_goals
      first | rw [if_pos c1] | rw [if_neg c1, if_pos c2] | rw [if_neg c1, if_neg c2]
      repeat' first | refine zd ?_ | refine zc ?_ | ((first | refine zf ?_ | refine zk ?_ | refine zi ?_ | with_reducible refine regA ?_ | refine drA (id := 10) 6 false [0, 1, 0, 4, 12, 3, 63, 127] ?_ | fail); conv => whnf) | exact abA hb | ((refine zsn (le) ?_); conv => whnf) | (refine zso rfl (fun hb => ?_) (fun hb => ?_)) | ((first | refine zsq ?_ | refine andA ?_ | fail); conv => whnf) | fail
     all_goals rfl
   ·have hnx : n.natAbs / 2 ^ (s + 1) = n.natAbs / 2 ^ s / 2 := by rw [Nat.pow_succ, Nat.div_div_eq_div_mul]
    have hI2 : ∀ t, t < s + 1 → 8388608 ≤ n.natAbs / 2 ^ t := fun t ht => by
     rcases Nat.lt_or_ge t s with h' | h'
     ·exact hI t h'
     ·obtain rfl : t = s := by omega
      exact hge
    have hs40 := hlt s hge
    have hle := Nat.div_le_self n.natAbs (2 ^ s)
    clear hI fin1 hlt
    have hq2 : IntKind.i64.wrap (((n.natAbs / 2 ^ s : Nat) : Int).tdiv 2) = ((n.natAbs / 2 ^ (s + 1) : Nat) : Int) := by
     rw [hnx, Int.tdiv_eq_ediv_of_nonneg (by omega), zg (by omega)]; omega
    generalize hm1 : n.natAbs / 2 ^ (s + 1) = m1 at *
    generalize n.natAbs / 2 ^ s = m0 at *
    generalize hz : (m0 : Int) = z0 at *
    generalize hz1 : (m1 : Int) = z1 at *
    repeat' first | refine zd ?_ | refine zc ?_ | ((first | refine zf ?_ | refine zk ?_ | with_reducible refine regA ?_ | refine drA (id := 8) 6 false [0, 1, 0, 4, 12, 3, 63, 127] ?_ | fail); conv => whnf) | exact abA hb | ((first | refine zsn (mo) ?_ | refine ⟨_, hq2, ?_⟩ | fail); conv => whnf) | (refine zso rfl (fun hb => ?_) (fun hb => ?_)) | ((first | refine zsq ?_ | refine andA ?_ | fail); conv => whnf) | fail
    exact ⟨s + 1, hI2, by rw [hm1]; omega, (impX (by repeat' (first | exact trivial | refine And.intro ?_ ?_ | exact ivE hs.symm | exact ivE (show z1 = ((n.natAbs / 2 ^ (s + 1) : Nat) : Int) by rw [hm1]; exact hz1.symm) | exact congrArg (fun k : Int => some (Ob.box [.d (.v (.int .i64 0)), .d (.v (.int .i64 k))])) (show exp + 23 + s + 1 = exp + 23 + ((s + 1 : Nat) : Int) by omega) | exact zsw)))⟩
end Go.Proofs.YtmceekhgnfpamaaGreatDoor
namespace Go.Proofs.YtmceekhgnfpamaaGreatDoor
open Go Go.QL FoT
set_option maxHeartbeats 3200000
attribute [local irreducible] ACall FnC
theorem zs1 (n : Int) (k : Nat) : n.tdiv (2 ^ k) = sg n * ((n.natAbs / 2 ^ k : Nat) : Int) := by
 have e : (2 : Int) ^ k = ((2 ^ k : Nat) : Int) := by norm_cast
 rw [e]
 rcases sgPN n with ⟨h0, h, h2⟩ | ⟨h0, h, h2⟩
 ·rw [h, Int.one_mul]
  generalize n.natAbs = N at h2
  subst h2
  rfl
 ·rw [h]
  generalize n.natAbs = N at h2
  subst h2
  rw [Int.neg_tdiv, Int.neg_one_mul]
  rfl
theorem zth (m d : Int) (hm : m.natAbs ≤ 8388607) (hd : 0 ≤ d ∧ d ≤ 200) : FnC Tryz.prog 161 [iv .i64 (m * 1073741824), iv .i64 d] (iv .i64 (zbd m d)) := by
 have hn : (m * 1073741824).natAbs ≤ 9007198180999168 := by omega
 have ho : zbd m d = sg (m * 1073741824) * (((m * 1073741824).natAbs / 2 ^ d.toNat : Nat) : Int) := by
  unfold zbd
  split
  ·exact zs1 _ _
  ·have h1 : 2 ^ 60 ≤ 2 ^ d.toNat := Nat.pow_le_pow_right (by decide) (by omega)
   rw [Nat.div_eq_of_lt (by omega)]; simp
 rw [ho]
 clear ho hm
 generalize m * 1073741824 = n at *
 have h00 : n = sg n * ((n.natAbs / 2 ^ 0 : Nat) : Int) := by rw [Nat.pow_zero, Nat.div_one]; exact (zfZ n).symm
 refine hdC Tryz.func161 Tryz.ntmps161 (res := [.tmp 4]) fun w0 K0 => ?_
 repeat' first | refine zd ?_ | refine zc ?_ | ((with_reducible refine regA ?_); conv => whnf) | fail
 refine zJ (fun i : Nat => [(0, iv .i64 (sg n * ((n.natAbs / 2 ^ i : Nat) : Int))), (5, iv .i64 i), (1, iv .i64 d)]) (fun _ => []) (fun i => i ≤ d.toNat) (fun i => d.toNat - i) 0 (Nat.zero_le _) (impX (by repeat' (first | exact trivial | refine And.intro ?_ ?_ | exact ivE h00 | exact zsw))) ?_
 intro i hi
 have hdiv : n.natAbs / 2 ^ (i + 1) = n.natAbs / 2 ^ i / 2 := by rw [Nat.pow_succ, Nat.div_div_eq_div_mul]
 have hle := Nat.div_le_self n.natAbs (2 ^ i)
 by_cases hg : i < d.toNat ∧ n.natAbs / 2 ^ i ≠ 0
 ·have ht := zni n (n.natAbs / 2 ^ i)
  rw [← hdiv] at ht
  have hle2 : n.natAbs / 2 ^ (i + 1) ≤ n.natAbs / 2 ^ i := by rw [hdiv]; exact Nat.div_le_self _ 2
  have hx : sg n * ((n.natAbs / 2 ^ (i + 1) : Nat) : Int) = sg n * ((n.natAbs / 2 ^ (i + 1) : Nat) : Int) := rfl
  generalize hk1 : n.natAbs / 2 ^ (i + 1) = k1 at *
  generalize n.natAbs / 2 ^ i = k at *
  have hw : IntKind.i64.wrap (sg n * (k1 : Int)) = sg n * (k1 : Int) := by
   refine zg ?_
   rcases sgPN n with ⟨_, h, _⟩ | ⟨_, h, _⟩ <;> rw [h] <;> omega
  rw [← ht] at hw
  have hz : ¬ sg n * (k : Int) = 0 := by rcases sgPN n with ⟨_, h, _⟩ | ⟨_, h, _⟩ <;> rw [h] <;> omega
  have hc : (bif decide ((i : Int) < d) then !(sg n * (k : Int) == 0) else false) = true := by
   rw [decide_eq_true (by omega), beq_eq_false_iff_ne.2 hz]; rfl
  repeat' first | refine zd ?_ | refine zc ?_ | ((first | refine zf ?_ | with_reducible refine regA ?_ | fail); conv => whnf) | (refine za rfl (fun _ => ?_) (zaf hc)) | ((first | refine pkA ?_ | refine ⟨_, hw, ?_⟩ | refine zsq ?_ | refine andA ?_ | fail); conv => whnf) | fail
  exact ⟨i + 1, by omega, by omega, (impX (by repeat' (first | exact trivial | refine And.intro ?_ ?_ | exact ivE (by rw [hk1]; exact ht) | exact zsw)))⟩
 ·have hc : (bif decide ((i : Int) < d) then !(sg n * ((n.natAbs / 2 ^ i : Nat) : Int) == 0) else false) = false := by
   by_cases h1 : i < d.toNat
   ·have h2 : n.natAbs / 2 ^ i = 0 := by
     by_cases h3 : n.natAbs / 2 ^ i = 0
     ·exact h3
     ·exact absurd ⟨h1, h3⟩ hg
    rw [h2, decide_eq_true (by omega)]; simp
   ·rw [decide_eq_false (by omega)]; rfl
  have hfin : n.natAbs / 2 ^ i = n.natAbs / 2 ^ d.toNat := by
   by_cases h1 : i < d.toNat
   ·have h2 : n.natAbs / 2 ^ i = 0 := by
     by_cases h3 : n.natAbs / 2 ^ i = 0
     ·exact h3
     ·exact absurd ⟨h1, h3⟩ hg
    have h4 : 2 ^ i ≤ 2 ^ d.toNat := Nat.pow_le_pow_right (by decide) (by omega)
    have h5 := Nat.div_le_div_left (a := n.natAbs) h4 (Nat.two_pow_pos i)
    rw [h2] at h5 ⊢; exact (Nat.le_zero.1 h5).symm
   ·rw [show i = d.toNat by omega]
  rw [← hfin]
  clear hdiv hle hfin hg h00
  generalize n.natAbs / 2 ^ i = k at *
  repeat' first | refine zd ?_ | ((first | refine zk ?_ | refine zi ?_ | with_reducible refine regA ?_ | fail); conv => whnf) | (refine za rfl (zM hc) (fun _ => ?_)) | ((refine pkA ?_); conv => whnf) | fail
  rfl
theorem zsP (a b : FloT) (ha : zau a) (hb' : zau b) (ea : -64 ≤ a.exp ∧ a.exp ≤ 63) (eb : -64 ≤ b.exp ∧ b.exp ≤ 63) : FnC Tryz.prog 144 [flAV a, flAV b] (.t [flAV (zbz a b).1, iv .i64 (zbz a b).2]) := by
 have tw := zcV 30 (by decide)
 rw [show ((2 : Int) ^ 30) = 1073741824 by decide] at tw
 have main : ∀ a b : FloT, zau a → zau b → (-64 ≤ a.exp ∧ a.exp ≤ 63) → (-64 ≤ b.exp ∧ b.exp ≤ 63) → ¬ a.exp < b.exp →
   FnC Tryz.prog 90 [iv .i64 (a.mant * 1073741824 + zbd b.mant (a.exp - b.exp)), iv .i64 (a.exp - 53)] (.t [flAV (zfh a b).1, iv .i64 (zfh a b).2]) ∧
   (-9007198180999168 ≤ zbd b.mant (a.exp - b.exp) ∧ zbd b.mant (a.exp - b.exp) ≤ 9007198180999168) ∧
   FnC Tryz.prog 161 [iv .i64 (b.mant * 1073741824), iv .i64 (a.exp - b.exp)] (iv .i64 (zbd b.mant (a.exp - b.exp))) := by
  intro a b ha hb ea eb hab
  have ol := zj7 (d := a.exp - b.exp) hb
  exact ⟨zsH _ _ (zfr ha hb) (by omega), by omega, zth _ _ hb (by omega)⟩
 unfold zau at ha hb'
 unfold zbz
 by_cases a0 : a.mant = 0
 ·rw [if_pos a0]
  refine hdC Tryz.func144 Tryz.ntmps144 (res := [.cell 4 56, .tmp 5]) fun w0 K0 => ?_
  repeat' first | refine zd ?_ | ((first | refine zf ?_ | refine zi ?_ | with_reducible refine regA ?_ | fail); conv => whnf) | (exact absurd a0 hb) | (refine zso rfl (fun hb => ?_) (fun hb => ?_)) | ((refine andA ?_); conv => whnf) | fail
  rfl
 rw [if_neg a0]
 by_cases b0 : b.mant = 0
 ·rw [if_pos b0]
  refine hdC Tryz.func144 Tryz.ntmps144 (res := [.cell 4 56, .tmp 5]) fun w0 K0 => ?_
  repeat' first | refine zd ?_ | ((first | refine zf ?_ | refine zi ?_ | with_reducible refine regA ?_ | fail); conv => whnf) | (exact absurd hb a0) | (exact absurd b0 hb) | (refine zso rfl (fun hb => ?_) (fun hb => ?_)) | ((refine andA ?_); conv => whnf) | fail
  rfl
 rw [if_neg b0]
 by_cases hlt : a.exp < b.exp
 ·rw [if_pos hlt]
  obtain ⟨md, o1, sh⟩ := main b a hb' ha eb ea (by omega)
  generalize zfh b a = R at md ⊢
  generalize zbd a.mant (b.exp - a.exp) = oo at *
  refine hdC Tryz.func144 Tryz.ntmps144 (res := [.cell 4 56, .tmp 5]) fun w0 K0 => ?_
  repeat' first | refine zd ?_ | ((first | refine zf ?_ | refine zi ?_ | with_reducible refine regA ?_ | refine drA (id := 7) 21 false [0, 1, 0, 7, 0, 16, 4, 116, 0, 256, 0, 1024, 3840, 8180, 16383, 0, 32768, 98304, 262143, 524287, 524287, 2097151, 4194303] ?_ | fail); conv => whnf) | (exact absurd hb a0) | (exact absurd hb b0) | exact abA hb | ((first | refine zsp (tw) ?_ | refine zsp (sh) ?_ | refine zsp (md) ?_ | fail); conv => whnf) | (refine zso rfl (fun hb => ?_) (fun hb => ?_)) | ((first | refine zsq ?_ | refine andA ?_ | fail); conv => whnf) | fail
  rfl
 ·rw [if_neg hlt]
  obtain ⟨md, o1, sh⟩ := main a b ha hb' ea eb (by omega)
  generalize zfh a b = R at md ⊢
  generalize zbd b.mant (a.exp - b.exp) = oo at *
  refine hdC Tryz.func144 Tryz.ntmps144 (res := [.cell 4 56, .tmp 5]) fun w0 K0 => ?_
  repeat' first | refine zd ?_ | ((first | refine zf ?_ | refine zi ?_ | with_reducible refine regA ?_ | refine drA (id := 7) 21 false [0, 1, 0, 7, 0, 16, 4, 116, 0, 256, 0, 1024, 3840, 8180, 16383, 0, 32768, 98304, 262143, 524287, 524287, 2097151, 4194303] ?_ | fail); conv => whnf) | (exact absurd hb a0) | (exact absurd hb b0) | exact abA hb | ((first | refine zsp (tw) ?_ | refine zsp (sh) ?_ | refine zsp (md) ?_ | fail); conv => whnf) | (refine zso rfl (fun hb => ?_) (fun hb => ?_)) | ((first | refine zsq ?_ | refine andA ?_ | fail); conv => whnf) | fail
  rfl
end Go.Proofs.YtmceekhgnfpamaaGreatDoor
namespace Go.Proofs.YtmceekhgnfpamaaGreatDoor
open Go Go.QL FoT
set_option maxHeartbeats 3200000
attribute [local irreducible] ACall FnC
theorem zs3 (op : Int) (a b : FloT) (hop : op = 3 ∨ op = 4 ∨ op = 5 ∨ op = 6) (ha : zau a) (hb' : zau b) (ea : -64 ≤ a.exp ∧ a.exp ≤ 63) (eb : -64 ≤ b.exp ∧ b.exp ≤ 63) :
  FnC Tryz.prog 93 [iv .i64 op, flAV a, flAV b] (.t [flAV (stepM op a b).1, iv .i64 (stepM op a b).2]) := by
 rcases hop with rfl | rfl | rfl | rfl
 ·have hp := zsP a b ha hb' ea eb
  rw [show stepM 3 a b = zbz a b from rfl]
  generalize zbz a b = R at *
  refine hdC Tryz.func93 Tryz.ntmps93 (res := [.cell 6 56, .tmp 7]) fun w0 K0 => ?_
  repeat' first | refine zd ?_ | ((first | refine zi ?_ | with_reducible refine regA ?_ | refine zsn (hp) ?_ | fail); conv => whnf) | (refine zst rfl ?_) | fail
  rfl
 ·have hp := zsP a ⟨-b.mant, b.exp⟩ ha (by unfold zau at *; dsimp only; omega) ea eb
  rw [show stepM 4 a b = zbz a ⟨-b.mant, b.exp⟩ from rfl]
  generalize zbz a ⟨-b.mant, b.exp⟩ = R at *
  unfold zau at hb'
  have hw : IntKind.i64.wrap (0 - b.mant) = -b.mant := by rw [Int.zero_sub]; exact zg (by omega)
  refine hdC Tryz.func93 Tryz.ntmps93 (res := [.cell 6 56, .tmp 7]) fun w0 K0 => ?_
  repeat' first | refine zd ?_ | ((first | refine zf ?_ | refine zi ?_ | with_reducible refine regA ?_ | refine ⟨_, hw, ?_⟩ | refine zsn (hp) ?_ | fail); conv => whnf) | (refine zst rfl ?_) | (refine zss rfl ?_) | ((refine andA ?_); conv => whnf) | fail
  rfl
 ·have hl := zik ha hb'
  have hp := zsH (a.mant * b.mant) (a.exp + b.exp - 46) hl (by omega)
  rw [show stepM 5 a b = zaj (a.mant * b.mant) (a.exp + b.exp - 46) from rfl]
  have hw : IntKind.i64.wrap (a.mant * b.mant) = a.mant * b.mant := zg (by omega)
  generalize zaj (a.mant * b.mant) (a.exp + b.exp - 46) = R at *
  refine hdC Tryz.func93 Tryz.ntmps93 (res := [.cell 6 56, .tmp 7]) fun w0 K0 => ?_
  repeat' first | refine zd ?_ | ((first | refine zf ?_ | refine zi ?_ | with_reducible refine regA ?_ | refine ⟨_, hw, ?_⟩ | refine zsn (hp) ?_ | fail); conv => whnf) | (refine zst rfl ?_) | (refine zss rfl ?_) | ((first | refine zsq ?_ | refine andA ?_ | fail); conv => whnf) | fail
  rfl
 ·have tw := zcV 30 (by decide)
  rw [show ((2 : Int) ^ 30) = 1073741824 by decide] at tw
  have hl := zkq (b := b) ha
  have hp := zsH ((a.mant * 1073741824).tdiv b.mant) (a.exp - b.exp - 30) hl (by omega)
  rw [show stepM 6 a b = if b.mant = 0 then (zeroFl, 8) else zaj ((a.mant * 1073741824).tdiv b.mant) (a.exp - b.exp - 30) from rfl]
  unfold zau at ha
  by_cases b0 : b.mant = 0
  ·rw [if_pos b0]
   refine hdC Tryz.func93 Tryz.ntmps93 (res := [.cell 6 56, .tmp 7]) fun w0 K0 => ?_
   repeat' first | refine zd ?_ | ((first | refine zf ?_ | refine zi ?_ | with_reducible refine regA ?_ | refine drA (id := 10) 16 false [0, 1, 0, 7, 0, 16, 63, 0, 128, 0, 512, 1920, 3968, 8191, 16383, 16383, 65535, 131071] ?_ | fail); conv => whnf) | (exact absurd b0 hb) | (refine zss rfl ?_) | (refine zso rfl (fun hb => ?_) (fun hb => ?_)) | ((refine andA ?_); conv => whnf) | fail
   rfl
  ·rw [if_neg b0]
   have hw : IntKind.i64.wrap ((a.mant * 1073741824).tdiv b.mant) = (a.mant * 1073741824).tdiv b.mant := zg (by omega)
   generalize zaj ((a.mant * 1073741824).tdiv b.mant) (a.exp - b.exp - 30) = R at *
   refine hdC Tryz.func93 Tryz.ntmps93 (res := [.cell 6 56, .tmp 7]) fun w0 K0 => ?_
   repeat' first | refine zd ?_ | ((first | refine zf ?_ | refine zi ?_ | with_reducible refine regA ?_ | refine drA (id := 10) 16 false [0, 1, 0, 7, 0, 16, 63, 0, 128, 0, 512, 1920, 3968, 8191, 16383, 16383, 65535, 131071] ?_ | fail); conv => whnf) | (exact absurd hb b0) | ((first | refine And.intro (zay b0) ?_ | refine ⟨_, hw, ?_⟩ | refine zsp (tw) ?_ | refine zsp (hp) ?_ | fail); conv => whnf) | (refine zss rfl ?_) | (refine zso rfl (fun hb => ?_) (fun hb => ?_)) | ((first | refine zsq ?_ | refine andA ?_ | fail); conv => whnf) | fail
   rfl
theorem zsY (n exp : Int) : FnC Tryz.prog 31 [iv .i64 n, iv .i64 exp]
  (if (n.natAbs ≤ 70368744177664 ∧ -200 ≤ exp ∧ exp ≤ 200) then .t [flAV (zaj n exp).1, iv .i64 (zaj n exp).2] else .t [flAV zeroFl, iv .i64 7]) := by
 have tw := zcV 46 (by decide)
 rw [show ((2 : Int) ^ 46) = 70368744177664 by decide] at tw
 have o1 := zho n (-70368744177664) 70368744177664
 have o2 := zho exp (-200) 200
 have e1 : decide (-70368744177664 ≤ n ∧ n ≤ 70368744177664) = decide (n.natAbs ≤ 70368744177664) := decide_eq_decide.2 (by omega)
 rw [e1] at o1
 by_cases h : n.natAbs ≤ 70368744177664 ∧ -200 ≤ exp ∧ exp ≤ 200
 ·rw [if_pos h]
  rw [decide_eq_true h.1] at o1
  rw [decide_eq_true h.2] at o2
  have md := zsH n exp (by omega) (by omega)
  generalize zaj n exp = R at md
  refine hdC Tryz.func31 Tryz.ntmps31 (res := [.cell 4 56, .tmp 5]) fun w0 K0 => ?_
  repeat' first | refine zd ?_ | ((first | refine zf ?_ | refine zi ?_ | with_reducible refine regA ?_ | refine zsn (tw) ?_ | refine zsn (o1) ?_ | refine zsp (o2) ?_ | refine zsn (md) ?_ | fail); conv => whnf) | (refine zss rfl ?_) | ((first | refine zsq ?_ | refine andA ?_ | fail); conv => whnf) | fail
  rfl
 ·rw [if_neg h]
  by_cases h1 : n.natAbs ≤ 70368744177664
  ·rw [decide_eq_true h1] at o1
   rw [decide_eq_false (fun hh => h ⟨h1, hh⟩)] at o2
   refine hdC Tryz.func31 Tryz.ntmps31 (res := [.cell 4 56, .tmp 5]) fun w0 K0 => ?_
   repeat' first | refine zd ?_ | ((first | refine zi ?_ | with_reducible refine regA ?_ | refine zsn (tw) ?_ | refine zsn (o1) ?_ | refine zsp (o2) ?_ | fail); conv => whnf) | (refine zst rfl ?_) | ((first | refine zsq ?_ | refine andA ?_ | fail); conv => whnf) | fail
   rfl
  ·rw [decide_eq_false h1] at o1
   refine hdC Tryz.func31 Tryz.ntmps31 (res := [.cell 4 56, .tmp 5]) fun w0 K0 => ?_
   repeat' first | refine zd ?_ | ((first | refine zi ?_ | with_reducible refine regA ?_ | refine zsn (tw) ?_ | refine zsn (o1) ?_ | refine zsp (o2) ?_ | fail); conv => whnf) | (refine zst rfl ?_) | ((first | refine zsq ?_ | refine andA ?_ | fail); conv => whnf) | fail
   rfl
end Go.Proofs.YtmceekhgnfpamaaGreatDoor
namespace Go.Proofs.YtmceekhgnfpamaaGreatDoor
open Go Go.QL FoT
set_option maxHeartbeats 3200000
attribute [local irreducible] ACall FnC
theorem zte {op : Int} {a b : FloT} (hop : op = 3 ∨ op = 4 ∨ op = 5 ∨ op = 6) (ha : zG a) (hb : zG b) :
  FnC Tryz.prog 93 [iv .i64 op, flAV a, flAV b] (.t [flAV (stepM op a b).1, iv .i64 (stepM op a b).2]) := by
 have ex : ∀ x : FloT, zG x → -64 ≤ x.exp ∧ x.exp ≤ 63 := fun x h => by
  rcases h with rfl | h
  ·exact ⟨by decide, by decide⟩
  ·exact ⟨h.2.2.1, h.2.2.2⟩
 exact zs3 op a b hop (zI ha) (zI hb) (ex a ha) (ex b hb)
theorem zs6 (regs : List FloT) (steps : List StepT) (hr64 : ∀ x ∈ regs, i64 x.mant) : FnC Tryz.prog 33 [zdT regs, zhW steps] (cAV (zaC regs steps)) := by
 have hlr : (regs.map flPV).length = regs.length := List.length_map _
 have hls : (steps.map stPV).length = steps.length := List.length_map _
 have o1 := zho ((regs.map flPV).length : Int) 1 8
 by_cases h0 : ¬ (1 ≤ regs.length ∧ regs.length ≤ 8) ∨ 40 < steps.length
 ·rw [show zaC regs steps = ([], 0, 3) by unfold zaC; rw [if_pos h0]]
  have hc : (bif !decide (1 ≤ ((regs.map flPV).length : Int) ∧ ((regs.map flPV).length : Int) ≤ 8) then true else decide (((steps.map stPV).length : Int) > 40)) = true := by
   by_cases hh : 1 ≤ ((regs.map flPV).length : Int) ∧ ((regs.map flPV).length : Int) ≤ 8
   ·rw [decide_eq_true hh]; exact decide_eq_true (by omega)
   ·rw [decide_eq_false hh]; rfl
  generalize decide (1 ≤ ((regs.map flPV).length : Int) ∧ ((regs.map flPV).length : Int) ≤ 8) = b1 at *
  refine zg7 hTt Tryz.func33 rfl (by kernel_rfl) (res := [.tmp 4, .tmp 5, .tmp 6]) rfl Tryz.ntmps33 (by simp) fun w0 K0 => ?_
  dsimp only [entry]
  repeat' first | refine zd ?_ | ((first | refine zi ?_ | with_reducible refine regA ?_ | refine zsn (o1) ?_ | fail); conv => whnf) | (refine za rfl (fun _ => ?_) (zaf hc)) | ((refine andA ?_); conv => whnf) | (refine lnA fun hln => ?_; conv => whnf) | fail
  exact ⟨_, rfl, leN3⟩
 ·have hn : (1 ≤ regs.length ∧ regs.length ≤ 8) ∧ steps.length ≤ 40 := by rw [not_or, Classical.not_not] at h0; exact ⟨h0.1, by omega⟩
  rw [decide_eq_true (by omega)] at o1
  have hc : (bif !true then true else decide (((steps.map stPV).length : Int) > 40)) = false := decide_eq_false (by omega)
  refine zg7 hTt Tryz.func33 rfl (by kernel_rfl) (res := [.tmp 4, .tmp 5, .tmp 6]) rfl Tryz.ntmps33 (by simp) fun w0 K0 => ?_
  dsimp only [entry]
  repeat' first | refine zd ?_ | refine zc ?_ | ((first | refine zf ?_ | with_reducible refine regA ?_ | refine zsn (o1) ?_ | fail); conv => whnf) | (refine za rfl (zM hc) (fun _ => ?_)) | ((refine andA ?_); conv => whnf) | (refine lnA fun hln => ?_; conv => whnf) | fail
  clear hc
  refine zJ (fun i : Nat => [(7, iv .i64 i), (0, zdT regs), (1, zhW steps)])
   (fun i => []) (fun i => i ≤ regs.length ∧ ∀ k (h : k < regs.length), k < i → zG regs[k]) (fun i => regs.length - i) 0 ⟨Nat.zero_le _, fun k _ h => absurd h (Nat.not_lt_zero _)⟩ impA ?_
  rintro i ⟨hi, hfl⟩
  rcases Nat.lt_or_ge i regs.length with hil | hil
  ·have ff := zbu regs[i] (hr64 _ (List.getElem_mem hil))
   by_cases hfi : zG regs[i]
   case' neg =>
    rw [decide_eq_false hfi] at ff
    have hb7 : za8 regs 0 = some i := by
     rw [zgv regs i 0 hfl hi, List.drop_eq_getElem_cons hil, za8, if_neg hfi, Nat.zero_add]
    rw [zsb h0 hb7]
   case' pos => rw [decide_eq_true hfi] at ff
   all_goals
    repeat' first | refine zd ?_ | refine zc ?_ | ((first | refine zf ?_ | refine zk ?_ | refine zi ?_ | with_reducible refine regA ?_ | fail); conv => whnf) | exact abA hb | ((refine zsn (ff) ?_); conv => whnf) | (refine zst rfl ?_) | (refine zss rfl ?_) | (refine zso rfl (fun hb => ?_) (fun hb => ?_)) | ((first | refine zsq ?_ | refine andA ?_ | with_reducible refine exA fun _ => ?_ | fail); conv => whnf) | (refine lnA fun hln => ?_; conv => whnf) | fail
   ·exact ⟨i + 1, ⟨by omega, fun k h hk => by
     by_cases e : k = i
     ·subst e; exact hfi
     ·exact hfl k h (by omega)⟩, by omega, impA⟩
   ·exact ⟨_, rfl, leN3⟩
  ·have hie : i = regs.length := by omega
   subst hie
   have hall : ∀ x ∈ regs, zG x := fun x hx => by
    obtain ⟨k, hk, rfl⟩ := List.getElem_of_mem hx
    exact hfl k hk hk
   have hbr : za8 regs 0 = none := zbk.2 hall
   repeat' first | refine zd ?_ | refine zc ?_ | ((first | refine zf ?_ | refine zk ?_ | with_reducible refine regA ?_ | fail); conv => whnf) | exact abA hb | (refine zso rfl (fun hb => ?_) (fun hb => ?_)) | ((refine zsq ?_); conv => whnf) | (refine lnA fun hln => ?_; conv => whnf) | fail
   refine zJ (fun i : Nat => [(8, iv .i64 ((regs.length : Int) - 1)), (9, iv .i64 i), (0, zdT regs), (1, zhW steps)])
    (fun i => []) (fun i => i ≤ steps.length ∧ ∀ k (h : k < steps.length), k < i → zaA regs.length steps[k] = 0) (fun i => steps.length - i) 0 ⟨Nat.zero_le _, fun k _ h => absurd h (Nat.not_lt_zero _)⟩ (impX (by repeat' (first | exact trivial | refine And.intro ?_ ?_ | exact ivE (by rw [hlr]) | exact zsw))) ?_
   rintro i ⟨hi, hok⟩
   rcases Nat.lt_or_ge i steps.length with hil | hil
   ·have hbs := zeD regs.length steps i 0 hok hi
    rw [List.drop_eq_getElem_cons hil, zag, Nat.zero_add] at hbs
    have oo := zho steps[i].op 3 6
    have oa := zho steps[i].a 0 ((regs.length : Int) - 1)
    have ob := zho steps[i].b 0 ((regs.length : Int) - 1)
    have ot := zho steps[i].to 0 ((regs.length : Int) - 1)
    by_cases hz : zaA regs.length steps[i] = 0
    ·have hz' := hz
     unfold zaA at hz'
     have hop : ¬ (steps[i].op < 3 ∨ 6 < steps[i].op) := fun h => by rw [if_pos h] at hz'; cases hz'
     rw [if_neg hop] at hz'
     have hab : 0 ≤ steps[i].a ∧ steps[i].a < (regs.length : Int) ∧ 0 ≤ steps[i].b ∧ steps[i].b < (regs.length : Int) ∧ 0 ≤ steps[i].to ∧ steps[i].to < (regs.length : Int) := by
      by_cases h : 0 ≤ steps[i].a ∧ steps[i].a < (regs.length : Int) ∧ 0 ≤ steps[i].b ∧ steps[i].b < (regs.length : Int) ∧ 0 ≤ steps[i].to ∧ steps[i].to < (regs.length : Int)
      ·exact h
      ·rw [if_neg h] at hz'; cases hz'
     rw [decide_eq_true (by omega)] at oo oa ob ot
     clear hbs hz'
     have nxt : ∀ k (h : k < steps.length), k < i + 1 → zaA regs.length steps[k] = 0 := fun k h hk => by
      by_cases e : k = i
      ·subst e; exact hz
      ·exact hok k h (by omega)
     repeat' first | refine zd ?_ | refine zc ?_ | ((first | refine zf ?_ | refine zk ?_ | with_reducible refine regA ?_ | fail); conv => whnf) | exact abA hb | ((first | refine zsn (oo) ?_ | refine zsn (oa) ?_ | refine zsp (ob) ?_ | refine zsp (ot) ?_ | fail); conv => whnf) | (refine zss rfl ?_) | (refine zso rfl (fun hb => ?_) (fun hb => ?_)) | ((first | refine zsq ?_ | refine andA ?_ | with_reducible refine exA fun _ => ?_ | fail); conv => whnf) | (refine lnA fun hln => ?_; conv => whnf) | fail
     exact ⟨i + 1, ⟨by omega, nxt⟩, by omega, impA⟩
    ·rw [if_neg hz] at hbs
     rw [zsa h0 hbr hbs]
     by_cases hop : steps[i].op < 3 ∨ 6 < steps[i].op
     case' pos =>
      rw [show zaA regs.length steps[i] = 2 by unfold zaA; rw [if_pos hop]]
      rw [decide_eq_false (by omega)] at oo
     case' neg =>
      have hab : ¬ (0 ≤ steps[i].a ∧ steps[i].a < (regs.length : Int) ∧ 0 ≤ steps[i].b ∧ steps[i].b < (regs.length : Int) ∧ 0 ≤ steps[i].to ∧ steps[i].to < (regs.length : Int)) := fun h => hz (by unfold zaA; rw [if_neg hop, if_pos h])
      rw [show zaA regs.length steps[i] = 4 by unfold zaA; rw [if_neg hop, if_neg hab]]
      rw [decide_eq_true (by omega)] at oo
      have hc : (bif (bif !decide (0 ≤ steps[i].a ∧ steps[i].a ≤ (regs.length : Int) - 1) then true else !decide (0 ≤ steps[i].b ∧ steps[i].b ≤ (regs.length : Int) - 1)) then true else !decide (0 ≤ steps[i].to ∧ steps[i].to ≤ (regs.length : Int) - 1)) = true := by
       simp only [Bool.cond_eq_ite]
       simp
       omega
      generalize decide (0 ≤ steps[i].a ∧ steps[i].a ≤ (regs.length : Int) - 1) = ba at oa hc
      generalize decide (0 ≤ steps[i].b ∧ steps[i].b ≤ (regs.length : Int) - 1) = bb at ob hc
      generalize decide (0 ≤ steps[i].to ∧ steps[i].to ≤ (regs.length : Int) - 1) = bt at ot hc
      clear hz hbs
     all_goals
      repeat' first | refine zd ?_ | refine zc ?_ | ((first | refine zf ?_ | refine zk ?_ | refine zi ?_ | with_reducible refine regA ?_ | fail); conv => whnf) | exact abA hb | ((first | refine zsn (oo) ?_ | refine zsn (oa) ?_ | refine zsp (ob) ?_ | refine zsp (ot) ?_ | fail); conv => whnf) | (refine za rfl (fun _ => ?_) (zaf hc)) | (refine zst rfl ?_) | (refine zss rfl ?_) | (refine zso rfl (fun hb => ?_) (fun hb => ?_)) | ((first | refine andA ?_ | with_reducible refine exA fun _ => ?_ | fail); conv => whnf) | (refine lnA fun hln => ?_; conv => whnf) | fail
      exact ⟨_, rfl, leN3⟩
   ·have hie : i = steps.length := by omega
    subst hie
    have hall2 : ∀ x ∈ steps, zaA regs.length x = 0 := fun x hx => by
     obtain ⟨k, hk, rfl⟩ := List.getElem_of_mem hx
     exact hok k hk hk
    have hbs : zag regs.length steps 0 = none := zaz.2 hall2
    repeat' first | refine zd ?_ | refine zc ?_ | ((first | refine zf ?_ | refine zk ?_ | with_reducible refine regA ?_ | fail); conv => whnf) | exact abA hb | (refine zso rfl (fun hb => ?_) (fun hb => ?_)) | ((refine andA ?_); conv => whnf) | ((refine And.intro (by refine ⟨?_, ?_, ?_⟩ <;> simp [zO, maxLen] <;> omega) ?_); conv => whnf) | (refine lnA fun hln => ?_; conv => whnf) | fail
    refine zJ (fun x : Nat × List FloT × Nat => [(11, .x (.o 76 x.2.2 regs.length)), (12, iv .i64 x.1), (0, zdT regs), (1, zhW steps)])
     (fun x => [(76, .chain 56 2 x.2.2 (x.2.1.map flPV))]) (fun x => x.1 ≤ steps.length ∧ runS steps 0 regs = runS (steps.drop x.1) x.1 x.2.1 ∧ x.2.1.length = regs.length ∧ ∀ y ∈ x.2.1, zG y) (fun x => steps.length - x.1) (0, regs, 1) ⟨Nat.zero_le _, rfl, rfl, hall⟩ impA ?_
    rintro ⟨i, l, sm⟩ ⟨hi, hrun, hll, hlf⟩
    dsimp only at hi hrun hll hlf ⊢
    have hlm : (l.map flPV).length = regs.length := by rw [List.length_map, hll]
    rcases Nat.lt_or_ge i steps.length with hil | hil
    ·obtain ⟨hop, a0, a1, b0, b1, t0, t1⟩ := zpr (hall2 steps[i] (List.getElem_mem hil))
     have la : steps[i].a.toNat < l.length := by omega
     have lb : steps[i].b.toNat < l.length := by omega
     have lt : steps[i].to.toNat < l.length := by omega
     have ga : l.getD steps[i].a.toNat zeroFl = l[steps[i].a.toNat] := by rw [List.getD_eq_getElem?_getD, List.getElem?_eq_getElem la]; rfl
     have gb : l.getD steps[i].b.toNat zeroFl = l[steps[i].b.toNat] := by rw [List.getD_eq_getElem?_getD, List.getElem?_eq_getElem lb]; rfl
     have fa := hlf _ (List.getElem_mem la)
     have fb := hlf _ (List.getElem_mem lb)
     rw [List.drop_eq_getElem_cons hil, runS, ga, gb] at hrun
     have hfs := zeN (op := steps[i].op) fa fb
     have sp := zte hop fa fb
     generalize FoT.stepM steps[i].op l[steps[i].a.toNat] l[steps[i].b.toNat] = X at sp hrun hfs
     by_cases hX : X.2 = 0
     case' neg =>
      rw [if_neg hX] at hrun
      rw [zoB h0 hbr hbs hrun]
     case' pos => rw [if_pos hX] at hrun
     all_goals
      repeat' first | refine zd ?_ | refine zc ?_ | ((first | refine zf ?_ | refine zk ?_ | refine zi ?_ | with_reducible refine regA ?_ | refine zW hTt hMix (id := 22) 17 [15] true [0, 1, 0, 0, 8, 28, 60, 0, 0, 256, 896, 1920, 4095, 8191, 16383, 16383, 0, 98303, 262143] _ (by kernel_rfl) rfl rfl (by kernel_rfl) rfl (by kernel_rfl) (by kernel_rfl) ?_ | refine LateGo.mk ⟨.x .j, rfl, ?_⟩ | fail); conv => whnf) | exact abA hb | ((refine zsp (sp) ?_); conv => whnf) | (refine zso rfl (fun hb => ?_) (fun hb => ?_)) | ((first | refine zsq ?_ | refine andA ?_ | with_reducible refine exA fun _ => ?_ | with_reducible refine Exists.intro _ (And.intro (ze (zh (by omega) (by omega))) (And.intro (And.intro (Nat.le_of_ble_eq_true rfl) rfl) ?_)) | with_reducible refine Exists.intro _ (And.intro (zh (by omega) (by omega)) (And.intro (Nat.le_of_ble_eq_true rfl) ?_)) | fail); conv => whnf) | (refine lnA fun hln => ?_; conv => whnf) | fail
     ·have e : (l.map flPV).set steps[i].to.toNat (flPV X.1) = (l.set steps[i].to.toNat X.1).map flPV := by rw [List.map_set]
      exact ⟨(i + 1, l.set steps[i].to.toNat X.1, sm), ⟨by show i + 1 ≤ _; omega, hrun, by show (l.set _ _).length = _; rw [List.length_set, hll], fun y hy => by
       rcases List.mem_or_eq_of_mem_set hy with hy | rfl
       ·exact hlf y hy
       ·exact hfs⟩, by show steps.length - (i + 1) < steps.length - i; omega, impA⟩
     ·exact ⟨_, rfl, leN3⟩
    ·have hie : i = steps.length := by omega
     subst hie
     rw [List.drop_eq_nil_of_le (Nat.le_refl _), runS] at hrun
     rw [zr9 h0 hbr hbs hrun]
     repeat' first | refine zd ?_ | refine zc ?_ | ((first | refine zf ?_ | refine zk ?_ | refine zi ?_ | with_reducible refine regA ?_ | fail); conv => whnf) | exact abA hb | (refine zso rfl (fun hb => ?_) (fun hb => ?_)) | (refine lnA fun hln => ?_; conv => whnf) | fail
     exact ⟨_, zr0 rfl rfl rfl rfl (by omega), lcE (by rw [List.take_of_length_le (by omega)])⟩
end Go.Proofs.YtmceekhgnfpamaaGreatDoor
namespace Go.Proofs.YtmceekhgnfpamaaGreatDoor
open Go Go.QL FoT
set_option maxHeartbeats 6400000
attribute [local irreducible] ACall FnC zaj zaC
theorem zs9 (n exp : Int) (regs : List FloT) (steps : List StepT) (hr64 : ∀ x ∈ regs, i64 x.mant) : FnC Tryz.prog 6 [a2AV n exp, zdT regs, zhW steps] (bv true) := by
 have aw := zcK
 have p1 := zei n exp
 have p2 := zsY n exp
 obtain ⟨a, e, hv⟩ : ∃ (a : FloT) (e : Int), (if (n.natAbs ≤ 70368744177664 ∧ -200 ≤ exp ∧ exp ≤ 200) then AV.t [flAV (zaj n exp).1, iv .i64 (zaj n exp).2] else .t [flAV zeroFl, iv .i64 7]) = .t [flAV a, iv .i64 e] := by
  split
  ·exact ⟨_, _, rfl⟩
  ·exact ⟨_, _, rfl⟩
 rw [hv] at p1 p2
 have c1 := za5 regs steps hr64
 have c2 := zs6 regs steps hr64
 obtain ⟨⟨l, i, e2⟩, hc⟩ : ∃ p, zaC regs steps = p := ⟨_, rfl⟩
 rw [hc] at c1 c2
 have fl := zfC l
 clear hv hc
 have hcf : (bif !(eqL [Value.int .i64 a.mant, Value.int .i64 a.exp] [Value.int .i64 a.mant, Value.int .i64 a.exp]) then true else e != e) = false := by simp [eqL, zmL]
 have hfin : (bif (bif (bif true then i == i else false) then e2 == e2 else false) then true else false) = true := by simp
 refine hdC Tryz.func6 Tryz.ntmps6 (res := [.tmp 6]) fun w0 K0 => ?_
 repeat' first | refine zd ?_ | ((first | refine zf ?_ | refine zi ?_ | with_reducible refine regA ?_ | fail); conv => whnf) | (refine za rfl (zM hcf) (fun _ => ?_)) | ((first | refine zsn (p1) ?_ | refine zsn (p2) ?_ | refine zsn (c1) ?_ | refine zsn (c2) ?_ | refine zsn (fl) ?_ | refine zsp (aw) ?_ | refine pkA ?_ | refine andA ?_ | fail); conv => whnf) | fail
 exact congrArg some (congrArg bv hfin)
end Go.Proofs.YtmceekhgnfpamaaGreatDoor
