/- What the functions that this law reaches return: part 0. No condition. -/
import Derived.Test.YtmceekhgnfpamaaGreatDoorB05
set_option linter.all false
namespace Go.Proofs.YtmceekhgnfpamaaGreatDoor
open Go Go.QL FoT
set_option maxHeartbeats 1600000
attribute [local irreducible] ACall FnC
theorem zoS (n lo hi : Int) : FnC Tryz.prog 61 [iv .i64 n, iv .i64 lo, iv .i64 hi] (bv (bif decide (lo ≤ n) then decide (n ≤ hi) else false)) := by
 refine hdC Tryz.func61 Tryz.ntmps61 (res := [.tmp 6]) fun w0 K0 => ?_
 repeat' first | refine zd ?_ | ((first | refine zi ?_ | refine regA ?_ | refine pkA ?_ | fail); conv => whnf) | fail
 rfl
theorem zjG (n lo hi : Int) : (bif decide (lo ≤ n) then decide (n ≤ hi) else false) = decide (lo ≤ n ∧ n ≤ hi) := by
 rw [Bool.eq_iff_iff, decide_eq_true_iff, Bool.cond_eq_ite]
 by_cases h : lo ≤ n <;> simp [h]
theorem zho (n lo hi : Int) : FnC Tryz.prog 61 [iv .i64 n, iv .i64 lo, iv .i64 hi] (bv (decide (lo ≤ n ∧ n ≤ hi))) := by
 rw [← zjG]; exact zoS n lo hi
theorem znG {i n : Nat} (h : i ≤ n) (hn : n ≤ 18) : 1 ≤ (10 : Int) ^ i ∧ (10 : Int) ^ i ≤ 1000000000000000000 := by
 have h1 : (10 : Nat) ^ i ≤ 10 ^ 18 := Nat.pow_le_pow_right (by decide) (by omega)
 have h2 : 1 ≤ (10 : Nat) ^ i := Nat.one_le_pow _ _ (by decide)
 have e : (10 : Int) ^ i = ((10 ^ i : Nat) : Int) := by norm_cast
 rw [e]
 omega
theorem zpv (n : Nat) (h : n ≤ 18) : FnC Tryz.prog 124 [iv .i64 n] (iv .i64 ((10 : Int) ^ n)) := by
 refine hdC Tryz.func124 Tryz.ntmps124 (res := [.tmp 2]) fun w0 K0 => ?_
 repeat' first | refine zd ?_ | refine zc ?_ | ((refine regA ?_); conv => whnf) | fail
 refine zJ (fun i : Nat => [(4, iv .i64 i), (3, iv .i64 ((10 : Int) ^ i)), (0, iv .i64 n)]) (fun _ => []) (fun i => i ≤ n) (fun i => n - i) 0 (Nat.zero_le _) impA ?_
 intro i hi
 rcases Nat.lt_or_ge i n with hil | hil
 ·have h1 := znG (show i + 1 ≤ n by omega) h
  have e1 : (10 : Int) ^ (i + 1) = 10 * 10 ^ i := by rw [Int.pow_succ, Int.mul_comm]
  rw [e1] at h1
  generalize (10 : Int) ^ i = p at h1 e1
  repeat' first | refine zd ?_ | refine zc ?_ | ((first | refine zf ?_ | refine zk ?_ | refine zi ?_ | refine regA ?_ | fail); conv => whnf) | exact abA hb | (refine zso rfl (fun hb => ?_) (fun hb => ?_)) | ((refine zsq ?_); conv => whnf) | fail
  exact ⟨i + 1, by omega, by omega, (impX (by repeat' (first | exact trivial | refine And.intro ?_ ?_ | exact ivE e1.symm | exact zsw)))⟩
 ·obtain rfl : i = n := by omega
  repeat' first | refine zd ?_ | refine zc ?_ | ((first | refine zf ?_ | refine zk ?_ | refine zi ?_ | refine regA ?_ | fail); conv => whnf) | exact abA hb | (refine zso rfl (fun hb => ?_) (fun hb => ?_)) | fail
  rfl
theorem zls {n : FNode} (h : 1 ≤ n.places ∧ n.places ≤ 6) : FnC Tryz.prog 124 [iv .i64 n.places] (iv .i64 (ten n)) := by
 have t := zpv n.places.toNat (by omega)
 rw [show ((n.places.toNat : Nat) : Int) = n.places by omega] at t
 exact t
theorem zlv (n : FNode) : FnC Tryz.prog 64 [ndAV n] (bv (decide (3 ≤ n.kind ∧ n.kind ≤ 5))) := by
 have ri := zho
 refine hdC Tryz.func64 Tryz.ntmps64 (res := [.tmp 2]) fun w0 K0 => ?_
 repeat' first | refine zd ?_ | ((first | refine zi ?_ | refine regA ?_ | refine zsn ((ri _ _ _)) ?_ | refine andA ?_ | fail); conv => whnf) | fail
 rfl
theorem b3 (a b c : Prop) [Decidable a] [Decidable b] [Decidable c] : (bif (bif decide a then decide b else false) then decide c else false) = decide (a ∧ b ∧ c) := by
 by_cases a <;> by_cases b <;> by_cases c <;> simp [*]
theorem znu (f : FormT) (n : FNode) : FnC Tryz.prog 63 [zaB f, ndAV n] (iv .i64 (zbA f.vars.length n)) := by
 have ri := zho
 have hlv : (f.vars.map zaa).length = f.vars.length := List.length_map _
 by_cases hk : 1 ≤ n.kind ∧ n.kind ≤ 5
 ·have hcf : (!decide (1 ≤ n.kind ∧ n.kind ≤ 5)) = false := by rw [decide_eq_true hk]; rfl
  have hn : zbA f.vars.length n = if fine f.vars.length n then 0 else 7 := by unfold zbA; rw [if_pos hk]
  rw [hn]
  by_cases k1 : n.kind = 1
  ·have e : fine f.vars.length n ↔ (0 ≤ n.var ∧ n.var ≤ (f.vars.length : Int) - 1) ∧ n.num = 0 ∧ n.places = 0 := by unfold fine; rw [if_pos k1]; exact ⟨fun ⟨a, b, c⟩ => ⟨⟨a, b⟩, c⟩, fun ⟨⟨a, b⟩, c⟩ => ⟨a, b, c⟩⟩
   have hq : (bif (bif decide (0 ≤ n.var ∧ n.var ≤ ((f.vars.map zaa).length : Int) - 1) then n.num == 0 else false) then n.places == 0 else false) = decide (fine f.vars.length n) := by
    rw [hlv]
    refine (b3 _ (n.num = 0) (n.places = 0)).trans ?_
    rw [Bool.eq_iff_iff, decide_eq_true_iff, decide_eq_true_iff, e]
   by_cases hf : fine f.vars.length n
   ·rw [if_pos hf]
    rw [decide_eq_true hf] at hq
    refine hdC Tryz.func63 Tryz.ntmps63 (res := [.tmp 4]) fun w0 K0 => ?_
    repeat' first | refine zd ?_ | ((first | refine zf ?_ | refine zi ?_ | refine regA ?_ | refine drA (id := 7) 15 false [0, 1, 3, 7, 15, 31, 63, 127, 255, 511, 1023, 511, 2559, 6655, 14847, 32767, 65535, 131071, 262143, 524287, 1048575, 2097151, 4194303, 8388607, 16777215, 33554431, 67108863, 134217727, 268435455] ?_ | fail); conv => whnf) | exact abA hb | (refine za rfl (zM hcf) (fun _ => ?_)) | (refine za rfl (zM ((congrArg not hq).trans rfl)) (fun _ => ?_)) | ((first | refine zsn ((ri _ _ _)) ?_ | refine pkA ?_ | fail); conv => whnf) | (refine zso rfl (fun hb => ?_) (fun hb => ?_)) | ((refine zsq ?_); conv => whnf) | (refine lnA fun hln => ?_; conv => whnf) | fail
    rfl
   ·rw [if_neg hf]
    rw [decide_eq_false hf] at hq
    refine hdC Tryz.func63 Tryz.ntmps63 (res := [.tmp 4]) fun w0 K0 => ?_
    repeat' first | refine zd ?_ | ((first | refine zf ?_ | refine zi ?_ | refine regA ?_ | refine drA (id := 7) 15 false [0, 1, 3, 7, 15, 31, 63, 127, 255, 511, 1023, 511, 2559, 6655, 14847, 32767, 65535, 131071, 262143, 524287, 1048575, 2097151, 4194303, 8388607, 16777215, 33554431, 67108863, 134217727, 268435455] ?_ | fail); conv => whnf) | exact abA hb | (refine za rfl (zM hcf) (fun _ => ?_)) | (refine za rfl (fun _ => ?_) (zaf ((congrArg not hq).trans rfl))) | ((first | refine zsn ((ri _ _ _)) ?_ | refine pkA ?_ | fail); conv => whnf) | (refine zso rfl (fun hb => ?_) (fun hb => ?_)) | ((refine zsq ?_); conv => whnf) | (refine lnA fun hln => ?_; conv => whnf) | fail
    rfl
  ·by_cases k2 : n.kind = 2
   ·have e := zgA (nv := f.vars.length) k2
    by_cases hp : n.var = 0 ∧ 1 ≤ n.places ∧ n.places ≤ 6
    ·have t := zls hp.2
     have ht := (zdk hp.2).2
     have hw : IntKind.i64.wrap (ten n - 1) = ten n - 1 := zg (by omega)
     have hq : (bif (bif (bif n.var == 0 then decide (1 ≤ n.places ∧ n.places ≤ 6) else false) then decide (0 ≤ n.num ∧ n.num ≤ ten n - 1) else false) then (bif n.places == 1 then true else (n.num.tmod 10 != 0)) else false) = decide (fine f.vars.length n) := by
      have h1 : (bif n.var == 0 then decide (1 ≤ n.places ∧ n.places ≤ 6) else false) = true := by rw [hp.1, decide_eq_true hp.2]; rfl
      rw [h1, cond_true, Bool.eq_iff_iff, decide_eq_true_iff, e]
      by_cases h2 : 0 ≤ n.num ∧ n.num ≤ ten n - 1
      ·rw [decide_eq_true h2, cond_true, Int.tmod_eq_emod_of_nonneg h2.1]
       by_cases h3 : n.places = 1
       ·simp [h3, h2, hp.1]
       ·simp [h3, h2, hp.1, hp.2]; omega
      ·rw [decide_eq_false h2, cond_false]
       simp [h2]
     by_cases hf : fine f.vars.length n
     ·rw [if_pos hf]
      rw [decide_eq_true hf] at hq
      refine hdC Tryz.func63 Tryz.ntmps63 (res := [.tmp 4]) fun w0 K0 => ?_
      repeat' first | refine zd ?_ | ((first | refine zf ?_ | refine zi ?_ | refine regA ?_ | refine drA (id := 7) 15 false [0, 1, 3, 7, 15, 31, 63, 127, 255, 511, 1023, 511, 2559, 6655, 14847, 32767, 65535, 131071, 262143, 524287, 1048575, 2097151, 4194303, 8388607, 16777215, 33554431, 67108863, 134217727, 268435455] ?_ | fail); conv => whnf) | exact abA hb | (refine za rfl (zM hcf) (fun _ => ?_)) | (refine za rfl (zM ((congrArg not hq).trans rfl)) (fun _ => ?_)) | ((first | refine zsn ((ri _ _ _)) ?_ | refine zsp ((ri _ _ _)) ?_ | refine zsr ((ri _ _ _)) ?_ | refine zsr (t) ?_ | refine pkA ?_ | refine ⟨_, hw, ?_⟩ | refine ⟨Int.tmod _ _, rfl, ?_⟩ | fail); conv => whnf) | (refine zso rfl (fun hb => ?_) (fun hb => ?_)) | ((refine andA ?_); conv => whnf) | fail
      rfl
     ·rw [if_neg hf]
      rw [decide_eq_false hf] at hq
      refine hdC Tryz.func63 Tryz.ntmps63 (res := [.tmp 4]) fun w0 K0 => ?_
      repeat' first | refine zd ?_ | ((first | refine zf ?_ | refine zi ?_ | refine regA ?_ | refine drA (id := 7) 15 false [0, 1, 3, 7, 15, 31, 63, 127, 255, 511, 1023, 511, 2559, 6655, 14847, 32767, 65535, 131071, 262143, 524287, 1048575, 2097151, 4194303, 8388607, 16777215, 33554431, 67108863, 134217727, 268435455] ?_ | fail); conv => whnf) | exact abA hb | (refine za rfl (zM hcf) (fun _ => ?_)) | (refine za rfl (fun _ => ?_) (zaf ((congrArg not hq).trans rfl))) | ((first | refine zsn ((ri _ _ _)) ?_ | refine zsp ((ri _ _ _)) ?_ | refine zsr ((ri _ _ _)) ?_ | refine zsr (t) ?_ | refine pkA ?_ | refine ⟨_, hw, ?_⟩ | refine ⟨Int.tmod _ _, rfl, ?_⟩ | fail); conv => whnf) | (refine zso rfl (fun hb => ?_) (fun hb => ?_)) | ((refine andA ?_); conv => whnf) | fail
      rfl
    ·have hf : ¬ fine f.vars.length n := fun h => hp ⟨(e.1 h).1, (e.1 h).2.1⟩
     rw [if_neg hf]
     have h1 : (bif n.var == 0 then decide (1 ≤ n.places ∧ n.places ≤ 6) else false) = false := by
      by_cases hv : n.var = 0
      ·rw [hv, decide_eq_false (fun h => hp ⟨hv, h⟩)]; rfl
      ·rw [beq_eq_false_iff_ne.2 hv]; rfl
     refine hdC Tryz.func63 Tryz.ntmps63 (res := [.tmp 4]) fun w0 K0 => ?_
     repeat' first | refine zd ?_ | ((first | refine zf ?_ | refine zi ?_ | refine regA ?_ | refine drA (id := 7) 15 false [0, 1, 3, 7, 15, 31, 63, 127, 255, 511, 1023, 511, 2559, 6655, 14847, 32767, 65535, 131071, 262143, 524287, 1048575, 2097151, 4194303, 8388607, 16777215, 33554431, 67108863, 134217727, 268435455] ?_ | fail); conv => whnf) | exact abA hb | (refine za rfl (zM hcf) (fun _ => ?_)) | ((first | refine zsn ((ri _ _ _)) ?_ | refine zsp ((ri _ _ _)) ?_ | refine zsr ((ri _ _ _)) ?_ | refine pkA ?_ | refine ⟨iv .i64 0, zax (fun h => absurd (h1.symm.trans h) (by decide)), ?_⟩ | refine ⟨Int.tmod _ _, rfl, ?_⟩ | fail); conv => whnf) | (refine za rfl (fun _ => ?_) (zaf (by rw [h1]; rfl))) | (refine zso rfl (fun hb => ?_) (fun hb => ?_)) | ((first | refine zsq ?_ | refine andA ?_ | fail); conv => whnf) | fail
     rfl
   ·have hq : (bif (bif n.var == 0 then n.num == 0 else false) then n.places == 0 else false) = decide (fine f.vars.length n) := by
     refine (b3 (n.var = 0) (n.num = 0) (n.places = 0)).trans ?_
     unfold fine
     simp only [if_neg k1, if_neg k2]
    by_cases hf : fine f.vars.length n
    ·rw [if_pos hf]
     rw [decide_eq_true hf] at hq
     refine hdC Tryz.func63 Tryz.ntmps63 (res := [.tmp 4]) fun w0 K0 => ?_
     repeat' first | refine zd ?_ | ((first | refine zf ?_ | refine zi ?_ | refine regA ?_ | refine drA (id := 7) 15 false [0, 1, 3, 7, 15, 31, 63, 127, 255, 511, 1023, 511, 2559, 6655, 14847, 32767, 65535, 131071, 262143, 524287, 1048575, 2097151, 4194303, 8388607, 16777215, 33554431, 67108863, 134217727, 268435455] ?_ | fail); conv => whnf) | exact abA hb | (refine za rfl (zM hcf) (fun _ => ?_)) | (refine za rfl (zM ((congrArg not hq).trans rfl)) (fun _ => ?_)) | ((first | refine zsn ((ri _ _ _)) ?_ | refine pkA ?_ | fail); conv => whnf) | (refine zso rfl (fun hb => ?_) (fun hb => ?_)) | fail
     rfl
    ·rw [if_neg hf]
     rw [decide_eq_false hf] at hq
     refine hdC Tryz.func63 Tryz.ntmps63 (res := [.tmp 4]) fun w0 K0 => ?_
     repeat' first | refine zd ?_ | ((first | refine zf ?_ | refine zi ?_ | refine regA ?_ | refine drA (id := 7) 15 false [0, 1, 3, 7, 15, 31, 63, 127, 255, 511, 1023, 511, 2559, 6655, 14847, 32767, 65535, 131071, 262143, 524287, 1048575, 2097151, 4194303, 8388607, 16777215, 33554431, 67108863, 134217727, 268435455] ?_ | fail); conv => whnf) | exact abA hb | (refine za rfl (zM hcf) (fun _ => ?_)) | (refine za rfl (fun _ => ?_) (zaf ((congrArg not hq).trans rfl))) | ((first | refine zsn ((ri _ _ _)) ?_ | refine pkA ?_ | fail); conv => whnf) | (refine zso rfl (fun hb => ?_) (fun hb => ?_)) | fail
     rfl
 ·have hct : (!decide (1 ≤ n.kind ∧ n.kind ≤ 5)) = true := by rw [decide_eq_false hk]; rfl
  have hn : zbA f.vars.length n = 2 := by unfold zbA; rw [if_neg hk]
  rw [hn]
  refine hdC Tryz.func63 Tryz.ntmps63 (res := [.tmp 4]) fun w0 K0 => ?_
  repeat' first | refine zd ?_ | ((first | refine zi ?_ | refine regA ?_ | fail); conv => whnf) | (refine za rfl (fun _ => ?_) (zaf hct)) | ((first | refine zsn ((ri _ _ _)) ?_ | refine pkA ?_ | fail); conv => whnf) | fail
  rfl
end Go.Proofs.YtmceekhgnfpamaaGreatDoor
namespace Go.Proofs.YtmceekhgnfpamaaGreatDoor
open Go Go.QL FoT
set_option maxHeartbeats 3200000
attribute [local irreducible] ACall FnC fine ten zbx zav zaw
theorem zpE (n lo hi : Int) : FnC Tryz.prog 123 [iv .i64 n, iv .i64 lo, iv .i64 hi] (bv (decide (lo ≤ n ∧ n ≤ hi))) := by
 rw [← zjG]
 refine hdC Tryz.func123 Tryz.ntmps123 (res := [.tmp 6]) fun w0 K0 => ?_
 repeat' first | refine zd ?_ | ((first | refine zi ?_ | refine regA ?_ | refine pkA ?_ | fail); conv => whnf) | fail
 rfl
abbrev rLet (c : UInt8) : Bool := bif decide ((c.toNat : Int) ≥ 97) then decide ((c.toNat : Int) ≤ 122) else false
abbrev rOth (c : UInt8) : Bool := bif (bif decide ((c.toNat : Int) ≥ 48) then decide ((c.toNat : Int) ≤ 57) else false) then true else ((c.toNat : Int) == 95)
theorem znw (i : Nat) (c : UInt8) : (bif (!rLet c) then (bif ((i : Int) == 0) then true else !rOth c) else false) = !zg2 (decide (i = 0)) c := by
 rw [zg1]
 show _ = !(rLet c || zkW i c)
 cases rLet c with
 | true => rfl
 | false =>
  rw [Bool.false_or, Bool.not_false, cond_true]
  unfold zkW rOth
  by_cases hi : i = 0
  ·subst hi; rfl
  ·rw [beq_eq_false_iff_ne.2 (by omega), decide_eq_true (show (i : Int) > 0 by omega), cond_false, cond_true]
   cases decide ((c.toNat : Int) ≥ 48) <;> cases decide ((c.toNat : Int) ≤ 57) <;> cases ((c.toNat : Int) == 95) <;> rfl
theorem znv (l : Bs8) : FnC Tryz.prog 62 [sv (bs l)] (bv (zbb l)) := by
 have hsz := zbj l
 have hli := zco l
 have o := zpE (bs l).size 1 20
 by_cases h1 : 1 ≤ l.length ∧ l.length ≤ 20
 ·have ho : decide ((1 : Int) ≤ (bs l).size ∧ ((bs l).size : Int) ≤ 20) = true := decide_eq_true (by omega)
  rw [ho] at o
  have hg : (bs l).data.toList[((bs l).size - 1 : Int).toNat]? = some (l.getLastD 0) := by
   rw [hli, show ((bs l).size - 1 : Int).toNat = l.length - 1 by omega]
   exact zkd h1.1
  cases h2 : zpT l with
  | true =>
   have hr : zbb l = false := by
    unfold zbb
    rw [← zeo, h2]; simp
   rw [hr]
   refine hdC Tryz.func62 Tryz.ntmps62 (res := [.tmp 2]) fun w0 K0 => ?_
   repeat' first | refine zd ?_ | ((first | refine zi ?_ | refine regA ?_ | refine zsn (o) ?_ | refine ⟨_, ze ⟨by omega, hg⟩, ?_⟩ | fail); conv => whnf) | (refine za rfl (fun _ => ?_) (zaf h2)) | ((first | refine zsq ?_ | refine andA ?_ | fail); conv => whnf) | fail
   rfl
  | false =>
   have hr : zbb l = z7 true l := by
    unfold zbb
    rw [← zeo, h2, decide_eq_true h1.1, decide_eq_true h1.2]; rfl
   rw [hr]
   refine hdC Tryz.func62 Tryz.ntmps62 (res := [.tmp 2]) fun w0 K0 => ?_
   repeat' first | refine zd ?_ | refine zc ?_ | ((first | refine zf ?_ | refine regA ?_ | refine zsn (o) ?_ | refine ⟨_, ze ⟨by omega, hg⟩, ?_⟩ | fail); conv => whnf) | (refine za rfl (zM h2) (fun _ => ?_)) | ((first | refine zsq ?_ | refine andA ?_ | fail); conv => whnf) | fail
   refine zJ (fun i : Nat => [(3, iv .i64 i), (0, sv (bs l))]) (fun _ => [])
    (fun i => i ≤ l.length ∧ z7 true l = z7 (decide (i = 0)) (l.drop i)) (fun i => l.length - i) 0 ⟨Nat.zero_le _, rfl⟩ impA ?_
   rintro i ⟨hi, hn⟩
   rcases Nat.lt_or_ge i l.length with hil | hil
   ·rw [List.drop_eq_getElem_cons hil, z7] at hn
    have hgi : (bs l).data.toList[(i : Int).toNat]? = some l[i] := by rw [hli, Int.toNat_natCast, List.getElem?_eq_getElem hil]
    have hq := znw i l[i]
    cases ha : zg2 (decide (i = 0)) l[i] with
    | true =>
     rw [ha] at hn hq
     have hn : z7 true l = z7 (decide (i + 1 = 0)) (l.drop (i + 1)) := hn
     repeat' first | refine zd ?_ | refine zc ?_ | ((first | refine zf ?_ | refine zk ?_ | refine zi ?_ | refine regA ?_ | refine drA (id := 6) 27 false [0, 0, 3, 7, 15, 31, 31, 127, 255, 511, 0, 0, 3072, 7168, 15391, 31775, 31775, 130079, 261151, 523295, 1047583, 2096159, 2096159, 8387615, 16776223, 33553439, 2097151, 134217727] ?_ | fail); conv => whnf) | exact abA hb | (refine za rfl (zM hq) (fun _ => ?_)) | ((first | refine pkA ?_ | refine ⟨_, ze ⟨by omega, hgi⟩, ?_⟩ | fail); conv => whnf) | (refine zso rfl (fun hb => ?_) (fun hb => ?_)) | ((first | refine zsq ?_ | refine andA ?_ | fail); conv => whnf) | fail
     exact ⟨i + 1, ⟨by omega, hn⟩, by omega, impA⟩
    | false =>
     rw [ha] at hn hq
     have hn : z7 true l = false := hn
     rw [hn]
     repeat' first | refine zd ?_ | refine zc ?_ | ((first | refine zf ?_ | refine zk ?_ | refine zi ?_ | refine regA ?_ | refine drA (id := 6) 27 false [0, 0, 3, 7, 15, 31, 31, 127, 255, 511, 0, 0, 3072, 7168, 15391, 31775, 31775, 130079, 261151, 523295, 1047583, 2096159, 2096159, 8387615, 16776223, 33553439, 2097151, 134217727] ?_ | fail); conv => whnf) | exact abA hb | (refine za rfl (fun _ => ?_) (zaf hq)) | ((first | refine pkA ?_ | refine ⟨_, ze ⟨by omega, hgi⟩, ?_⟩ | fail); conv => whnf) | (refine zso rfl (fun hb => ?_) (fun hb => ?_)) | ((refine andA ?_); conv => whnf) | fail
     rfl
   ·rw [List.drop_eq_nil_of_le hil] at hn
    have hn : z7 true l = true := hn
    rw [hn]
    repeat' first | refine zd ?_ | refine zc ?_ | ((first | refine zf ?_ | refine zk ?_ | refine zi ?_ | refine regA ?_ | refine drA (id := 6) 27 false [0, 0, 3, 7, 15, 31, 31, 127, 255, 511, 0, 0, 3072, 7168, 15391, 31775, 31775, 130079, 261151, 523295, 1047583, 2096159, 2096159, 8387615, 16776223, 33553439, 2097151, 134217727] ?_ | fail); conv => whnf) | exact abA hb | (refine zso rfl (fun hb => ?_) (fun hb => ?_)) | fail
    rfl
 ·have ho : decide ((1 : Int) ≤ (bs l).size ∧ ((bs l).size : Int) ≤ 20) = false := decide_eq_false (by omega)
  rw [ho] at o
  have hr : zbb l = false := by
   unfold zbb
   have : (decide (1 ≤ l.length) && decide (l.length ≤ 20)) = false := by
    rw [Bool.eq_false_iff]; simp; omega
   rw [this]; rfl
  rw [hr]
  refine hdC Tryz.func62 Tryz.ntmps62 (res := [.tmp 2]) fun w0 K0 => ?_
  repeat' first | refine zd ?_ | ((first | refine zi ?_ | refine regA ?_ | refine zsn (o) ?_ | refine ⟨95, zax (fun h => absurd h (by decide)), ?_⟩ | fail); conv => whnf) | (refine zst rfl ?_) | ((first | refine ⟨IntKind.wrap _ _, rfl, ?_⟩ | refine andA ?_ | fail); conv => whnf) | fail
  rfl
theorem zrp {f : FormT} {s : CS} (hv : zaw [] f.vars = none) (h0 : ¬ (8 < f.vars.length ∨ ¬ (1 ≤ f.code.length ∧ f.code.length ≤ 40))) (h : CkR f f.code.length s) : zD f = if s.p ≠ 1 then 6 else if s.b = false ∨ s.u < f.vars.length then 2 else 0 := by
 unfold CkR at h
 unfold zD
 rw [if_neg h0, hv]
 dsimp only
 rw [h, List.drop_length, zav]
theorem zjW {V : List Bs8} {i : Nat} (h : i < V.length) : (V.map zaa)[(i : Int).toNat]? = some [PV.v (.string (bs V[i]))] := by
 rw [Int.toNat_natCast, List.getElem?_map, List.getElem?_eq_getElem h]; rfl
theorem zh7 (f : FormT) : FnC Tryz.prog 21 [zaB f] (iv .i64 (zD f)) := by
 have hlv : (f.vars.map zaa).length = f.vars.length := List.length_map _
 have hlc : (f.code.map ndPV).length = f.code.length := List.length_map _
 have o1 := zho ((f.code.map ndPV).length : Int) 1 40
 by_cases h0 : 8 < f.vars.length ∨ ¬ (1 ≤ f.code.length ∧ f.code.length ≤ 40)
 ·have hr : zD f = 3 := by unfold zD; rw [if_pos h0]
  rw [hr]
  have hc : (bif decide (((f.vars.map zaa).length : Int) > 8) then true else !decide ((1 : Int) ≤ ((f.code.map ndPV).length : Int) ∧ ((f.code.map ndPV).length : Int) ≤ 40)) = true := by
   rcases h0 with h | h
   ·rw [decide_eq_true (show ((f.vars.map zaa).length : Int) > 8 by omega)]; rfl
   ·rw [decide_eq_false (show ¬ ((1 : Int) ≤ ((f.code.map ndPV).length : Int) ∧ ((f.code.map ndPV).length : Int) ≤ 40) by omega)]; cases decide (((f.vars.map zaa).length : Int) > 8) <;> rfl
  refine hdC Tryz.func21 Tryz.ntmps21 (res := [.tmp 2]) fun w0 K0 => ?_
  repeat' first | refine zd ?_ | ((first | refine zi ?_ | refine regA ?_ | refine zsp (o1) ?_ | fail); conv => whnf) | (refine za rfl (fun _ => ?_) (zaf hc)) | ((refine andA ?_); conv => whnf) | (refine lnA fun hln => ?_; conv => whnf) | fail
  rfl
 ·have hc : (bif decide (((f.vars.map zaa).length : Int) > 8) then true else !decide ((1 : Int) ≤ ((f.code.map ndPV).length : Int) ∧ ((f.code.map ndPV).length : Int) ≤ 40)) = false := by
   rw [decide_eq_false (show ¬ ((f.vars.map zaa).length : Int) > 8 by omega), decide_eq_true (show ((1 : Int) ≤ ((f.code.map ndPV).length : Int) ∧ ((f.code.map ndPV).length : Int) ≤ 40) by omega)]; rfl
  have hv8 : f.vars.length ≤ 8 := by omega
  have hc40 : f.code.length ≤ 40 := by omega
  refine hdC Tryz.func21 Tryz.ntmps21 (res := [.tmp 2]) fun w0 K0 => ?_
  repeat' first | refine zd ?_ | refine zc ?_ | ((first | refine zf ?_ | refine regA ?_ | refine zsp (o1) ?_ | fail); conv => whnf) | (refine za rfl (zM hc) (fun _ => ?_)) | ((refine andA ?_); conv => whnf) | (refine lnA fun hln => ?_; conv => whnf) | fail
  refine zJ (fun i : Nat => [(3, iv .i64 i), (1, .x (.b 1 0))]) (fun _ => [(1, .box (zb5 f))])
   (fun i => i ≤ f.vars.length ∧ zaw [] f.vars = zaw (f.vars.take i) (f.vars.drop i)) (fun i => f.vars.length - i) 0 ⟨Nat.zero_le _, by simp⟩ impA ?_
  rintro i ⟨hi, hz⟩
  rcases Nat.lt_or_ge i f.vars.length with hil | hil
  ·have nf := znv f.vars[i]
   rw [List.drop_eq_getElem_cons hil] at hz
   have gi := zjW hil
   cases hN : zbb f.vars[i] with
   | false =>
    have hr : zD f = 6 := by
     unfold zD
     rw [if_neg h0, hz, zaw, if_pos hN]
    rw [hr]
    rw [hN] at nf
    repeat' first | refine zd ?_ | refine zc ?_ | ((first | refine zf ?_ | refine zk ?_ | refine zi ?_ | refine regA ?_ | fail); conv => whnf) | exact abA hb | ((first | refine zsn (nf) ?_ | refine ⟨_, ze ⟨by omega, gi⟩, ?_⟩ | fail); conv => whnf) | (refine zst rfl ?_) | (refine zso rfl (fun hb => ?_) (fun hb => ?_)) | ((refine andA ?_); conv => whnf) | (refine lnA fun hln => ?_; conv => whnf) | fail
    rfl
   | true =>
    rw [hN] at nf
    repeat' first | refine zd ?_ | refine zc ?_ | ((first | refine zf ?_ | refine zk ?_ | refine regA ?_ | fail); conv => whnf) | exact abA hb | ((first | refine zsn (nf) ?_ | refine ⟨_, ze ⟨by omega, gi⟩, ?_⟩ | fail); conv => whnf) | (refine zss rfl ?_) | (refine zso rfl (fun hb => ?_) (fun hb => ?_)) | ((refine andA ?_); conv => whnf) | (refine lnA fun hln => ?_; conv => whnf) | fail
    refine zJ (fun k : Nat => [(4, iv .i64 k), (3, iv .i64 i), (1, .x (.b 1 0))]) (fun _ => [(1, .box (zb5 f))])
     (fun k => k ≤ i ∧ f.vars[i] ∉ f.vars.take k) (fun k => i - k) 0 ⟨Nat.zero_le _, by simp⟩ impA ?_
    rintro k ⟨hk, hm⟩
    rcases Nat.lt_or_ge k i with hki | hki
    ·have gk := zjW (show k < f.vars.length by omega)
     by_cases he : f.vars[k] = f.vars[i]
     ·have hr : zD f = 5 := by
       unfold zD
       rw [if_neg h0, hz, zaw, if_neg (by rw [hN]; decide), if_pos]
       rw [← he]
       refine List.mem_iff_getElem.2 ⟨k, by rw [List.length_take]; omega, ?_⟩
       rw [List.getElem_take]
      rw [hr]
      have hq : ((bs f.vars[k]).toList == (bs f.vars[i]).toList) = true := by rw [zdf]; exact decide_eq_true he
      repeat' first | refine zd ?_ | refine zc ?_ | ((first | refine zf ?_ | refine zk ?_ | refine zi ?_ | refine regA ?_ | refine drA (id := 11) 10 false [0, 1, 0, 7, 15, 0, 32, 0, 224, 480, 1023] ?_ | fail); conv => whnf) | exact abA hb | (refine za rfl (fun _ => ?_) (zaf hq)) | ((first | refine ⟨_, ze ⟨by omega, gi⟩, ?_⟩ | refine ⟨_, ze ⟨by omega, gk⟩, ?_⟩ | fail); conv => whnf) | (refine zso rfl (fun hb => ?_) (fun hb => ?_)) | ((refine andA ?_); conv => whnf) | fail
      rfl
     ·have hq : ((bs f.vars[k]).toList == (bs f.vars[i]).toList) = false := by rw [zdf]; exact decide_eq_false he
      have hm2 : f.vars[i] ∉ f.vars.take (k + 1) := by
       rw [List.take_add_one, List.getElem?_eq_getElem (show k < f.vars.length by omega), List.mem_append, not_or]
       exact ⟨hm, by simp; exact fun h => he h.symm⟩
      repeat' first | refine zd ?_ | refine zc ?_ | ((first | refine zf ?_ | refine zk ?_ | refine regA ?_ | refine drA (id := 11) 10 false [0, 1, 0, 7, 15, 0, 32, 0, 224, 480, 1023] ?_ | fail); conv => whnf) | exact abA hb | (refine za rfl (zM hq) (fun _ => ?_)) | ((first | refine ⟨_, ze ⟨by omega, gi⟩, ?_⟩ | refine ⟨_, ze ⟨by omega, gk⟩, ?_⟩ | fail); conv => whnf) | (refine zso rfl (fun hb => ?_) (fun hb => ?_)) | ((first | refine zsq ?_ | refine andA ?_ | fail); conv => whnf) | fail
      exact ⟨k + 1, ⟨by omega, hm2⟩, by omega, impA⟩
    ·obtain rfl : k = i := by omega
     have hz2 : zaw [] f.vars = zaw (f.vars.take (k + 1)) (f.vars.drop (k + 1)) := by
      rw [hz, zaw, if_neg (by rw [hN]; decide), if_neg hm, List.take_add_one, List.getElem?_eq_getElem hil]; rfl
     repeat' first | refine zd ?_ | refine zc ?_ | ((first | refine zf ?_ | refine zk ?_ | refine regA ?_ | refine drA (id := 11) 10 false [0, 1, 0, 7, 15, 0, 32, 0, 224, 480, 1023] ?_ | fail); conv => whnf) | exact abA hb | (refine zso rfl (fun hb => ?_) (fun hb => ?_)) | ((refine zsq ?_); conv => whnf) | fail
     exact ⟨k + 1, ⟨by omega, hz2⟩, by omega, impA⟩
  ·have hv : zaw [] f.vars = none := by rw [hz, List.drop_eq_nil_of_le hil, zaw]
   obtain rfl : i = f.vars.length := by omega
   clear hz o1 hc
   repeat' first | refine zd ?_ | refine zc ?_ | ((first | refine zf ?_ | refine zk ?_ | refine regA ?_ | fail); conv => whnf) | exact abA hb | (refine zso rfl (fun hb => ?_) (fun hb => ?_)) | ((refine andA ?_); conv => whnf) | (refine lnA fun hln => ?_; conv => whnf) | fail
   refine zJ (fun x : Nat × CS => [(8, iv .i64 x.1), (5, iv .i64 x.2.p), (6, iv .i64 x.2.u), (7, bv x.2.b), (1, .x (.b 1 0))]) (fun _ => [(1, .box (zb5 f))])
    (fun x => x.1 ≤ f.code.length ∧ x.2.p ≤ 12 ∧ x.2.u ≤ f.vars.length ∧ CkR f x.1 x.2) (fun x => f.code.length - x.1) (0, ⟨0, 0, true⟩) ⟨Nat.zero_le _, Nat.zero_le _, Nat.zero_le _, rfl⟩ impA ?_
   rintro ⟨i, s⟩ ⟨hi, hp, hu, hz⟩
   dsimp only at hi hp hu hz ⊢
   rcases Nat.lt_or_ge i f.code.length with hil | hil
   ·have stop := fun {e : Int} => zmX (e := e) hv h0 hil hz
    have next := fun {s' : CS} => zmY (s' := s') hil hz
    have nf := znu f f.code[i]
    have op := zlv f.code[i]
    clear hz
    by_cases hk : 1 ≤ f.code[i].kind ∧ f.code[i].kind ≤ 5
    ·by_cases hf : fine f.vars.length f.code[i]
     ·have hn0 : zbA f.vars.length f.code[i] = 0 := by unfold zbA; rw [if_pos hk, if_pos hf]
      rw [hn0] at nf
      by_cases k3 : 3 ≤ f.code[i].kind
      ·have st := zqJ (s := s) k3 hk.2 hp hf
       rw [decide_eq_true (show 3 ≤ f.code[i].kind ∧ f.code[i].kind ≤ 5 from ⟨k3, hk.2⟩)] at op
       have c1 : (bif f.code[i].kind == 1 then decide (f.code[i].var > s.u) else false) = false := by rw [beq_eq_false_iff_ne.2 (by omega)]; rfl
       have c2 : (bif f.code[i].kind == 1 then f.code[i].var == s.u else false) = false := by rw [beq_eq_false_iff_ne.2 (by omega)]; rfl
       by_cases hp2 : s.p < 2
       ·rw [if_pos hp2] at st
        rw [stop st]
        repeat' first | refine zd ?_ | refine zc ?_ | ((first | refine zf ?_ | refine zk ?_ | refine zi ?_ | refine regA ?_ | fail); conv => whnf) | exact abA hb | ((first | refine zsn (nf) ?_ | refine zsn (op) ?_ | fail); conv => whnf) | (refine zst rfl ?_) | (refine zss rfl ?_) | (refine zso rfl (fun hb => ?_) (fun hb => ?_)) | ((first | refine andA ?_ | with_reducible refine exA fun _ => ?_ | fail); conv => whnf) | (refine lnA fun hln => ?_; conv => whnf) | fail
        rfl
       ·rw [if_neg hp2] at st
        repeat' first | refine zd ?_ | refine zc ?_ | ((first | refine zf ?_ | refine zk ?_ | refine zi ?_ | refine regA ?_ | fail); conv => whnf) | exact abA hb | (refine za rfl (zM c1) (fun _ => ?_)) | (refine za rfl (zM c2) (fun _ => ?_)) | ((first | refine zsn (nf) ?_ | refine zsn (op) ?_ | refine pkA ?_ | fail); conv => whnf) | (refine zst rfl ?_) | (refine zss rfl ?_) | (refine zso rfl (fun hb => ?_) (fun hb => ?_)) | ((first | refine zsq ?_ | refine andA ?_ | with_reducible refine exA fun _ => ?_ | fail); conv => whnf) | (refine lnA fun hln => ?_; conv => whnf) | fail
        exact ⟨(i + 1, (⟨s.p - 2 + 1, s.u, s.b⟩ : CS)), ⟨by show i + 1 ≤ f.code.length; omega, by show s.p - 2 + 1 ≤ 12; omega, hu, next st⟩, by show f.code.length - (i + 1) < f.code.length - i; omega, impA⟩
      ·rw [decide_eq_false (fun h => k3 h.1)] at op
       have st := zhi (s := s) hk hf
       rw [if_neg (fun h => k3 h.1), if_neg k3] at st
       by_cases h12 : 12 < s.p + 1
       ·rw [if_pos h12] at st
        rw [stop st]
        repeat' first | refine zd ?_ | refine zc ?_ | ((first | refine zf ?_ | refine zk ?_ | refine zi ?_ | refine regA ?_ | fail); conv => whnf) | exact abA hb | ((first | refine zsn (nf) ?_ | refine zsn (op) ?_ | fail); conv => whnf) | (refine zss rfl ?_) | (refine zso rfl (fun hb => ?_) (fun hb => ?_)) | ((first | refine zsq ?_ | refine andA ?_ | with_reducible refine exA fun _ => ?_ | fail); conv => whnf) | (refine lnA fun hln => ?_; conv => whnf) | fail
        rfl
       ·rw [if_neg h12] at st
        by_cases k1 : f.code[i].kind = 1
        ·have hvar := hf
         unfold fine at hvar
         rw [if_pos k1] at hvar
         by_cases hg : (s.u : Int) < f.code[i].var
         ·rw [if_neg (by omega), decide_eq_true k1, decide_eq_true hg] at st
          have c1 : (bif f.code[i].kind == 1 then decide (f.code[i].var > s.u) else false) = true := by rw [beq_iff_eq.2 k1, decide_eq_true (show f.code[i].var > s.u from hg)]; rfl
          have c2 : (bif f.code[i].kind == 1 then f.code[i].var == s.u else false) = false := by rw [beq_eq_false_iff_ne.2 (show f.code[i].var ≠ s.u by omega)]; cases (f.code[i].kind == 1) <;> rfl
          have hbb : false = (s.b && !(true && true)) := by simp
          repeat' first | refine zd ?_ | refine zc ?_ | ((first | refine zf ?_ | refine zk ?_ | refine zi ?_ | refine regA ?_ | fail); conv => whnf) | exact abA hb | (refine za rfl (fun _ => ?_) (zaf c1)) | (refine za rfl (zM c2) (fun _ => ?_)) | ((first | refine zsn (nf) ?_ | refine zsn (op) ?_ | refine pkA ?_ | fail); conv => whnf) | (refine zss rfl ?_) | (refine zso rfl (fun hb => ?_) (fun hb => ?_)) | ((first | refine zsq ?_ | refine andA ?_ | with_reducible refine exA fun _ => ?_ | fail); conv => whnf) | (refine lnA fun hln => ?_; conv => whnf) | fail
          exact ⟨(i + 1, (⟨s.p + 1, s.u, s.b && !(true && true)⟩ : CS)), ⟨by show i + 1 ≤ _; omega, by show s.p + 1 ≤ 12; omega, hu, next st⟩, by show f.code.length - (i + 1) < f.code.length - i; omega, (impX (by repeat' (first | exact trivial | refine And.intro ?_ ?_ | exact bvE hbb | exact zsw)))⟩
         ·rw [decide_eq_false hg] at st
          have c1 : (bif f.code[i].kind == 1 then decide (f.code[i].var > s.u) else false) = false := by rw [decide_eq_false (show ¬ f.code[i].var > s.u from hg)]; cases (f.code[i].kind == 1) <;> rfl
          have hbb : s.b = (s.b && !(decide (f.code[i].kind = 1) && false)) := by simp
          by_cases hue : f.code[i].var = s.u
          ·rw [if_pos ⟨k1, hue⟩] at st
           have c2 : (bif f.code[i].kind == 1 then f.code[i].var == s.u else false) = true := by rw [beq_iff_eq.2 k1, beq_iff_eq.2 hue]; rfl
           repeat' first | refine zd ?_ | refine zc ?_ | ((first | refine zf ?_ | refine zk ?_ | refine zi ?_ | refine regA ?_ | fail); conv => whnf) | exact abA hb | (refine za rfl (zM c1) (fun _ => ?_)) | (refine za rfl (fun _ => ?_) (zaf c2)) | ((first | refine zsn (nf) ?_ | refine zsn (op) ?_ | refine pkA ?_ | fail); conv => whnf) | (refine zss rfl ?_) | (refine zso rfl (fun hb => ?_) (fun hb => ?_)) | ((first | refine zsq ?_ | refine andA ?_ | with_reducible refine exA fun _ => ?_ | fail); conv => whnf) | (refine lnA fun hln => ?_; conv => whnf) | fail
           exact ⟨(i + 1, (⟨s.p + 1, s.u + 1, s.b && !(decide (f.code[i].kind = 1) && false)⟩ : CS)), ⟨by show i + 1 ≤ _; omega, by show s.p + 1 ≤ 12; omega, by show s.u + 1 ≤ f.vars.length; omega, next st⟩, by show f.code.length - (i + 1) < f.code.length - i; omega, (impX (by repeat' (first | exact trivial | refine And.intro ?_ ?_ | exact bvE hbb | exact zsw)))⟩
          ·rw [if_neg (fun h => hue h.2)] at st
           have c2 : (bif f.code[i].kind == 1 then f.code[i].var == s.u else false) = false := by rw [beq_eq_false_iff_ne.2 hue]; cases (f.code[i].kind == 1) <;> rfl
           repeat' first | refine zd ?_ | refine zc ?_ | ((first | refine zf ?_ | refine zk ?_ | refine zi ?_ | refine regA ?_ | fail); conv => whnf) | exact abA hb | (refine za rfl (zM c1) (fun _ => ?_)) | (refine za rfl (zM c2) (fun _ => ?_)) | ((first | refine zsn (nf) ?_ | refine zsn (op) ?_ | refine pkA ?_ | fail); conv => whnf) | (refine zss rfl ?_) | (refine zso rfl (fun hb => ?_) (fun hb => ?_)) | ((first | refine zsq ?_ | refine andA ?_ | with_reducible refine exA fun _ => ?_ | fail); conv => whnf) | (refine lnA fun hln => ?_; conv => whnf) | fail
           exact ⟨(i + 1, (⟨s.p + 1, s.u, s.b && !(decide (f.code[i].kind = 1) && false)⟩ : CS)), ⟨by show i + 1 ≤ _; omega, by show s.p + 1 ≤ 12; omega, hu, next st⟩, by show f.code.length - (i + 1) < f.code.length - i; omega, (impX (by repeat' (first | exact trivial | refine And.intro ?_ ?_ | exact bvE hbb | exact zsw)))⟩
        ·rw [if_neg (fun h => k1 h.1), decide_eq_false k1] at st
         have c1 : (bif f.code[i].kind == 1 then decide (f.code[i].var > s.u) else false) = false := by rw [beq_eq_false_iff_ne.2 k1]; rfl
         have c2 : (bif f.code[i].kind == 1 then f.code[i].var == s.u else false) = false := by rw [beq_eq_false_iff_ne.2 k1]; rfl
         have hbb : s.b = (s.b && !(false && decide ((s.u : Int) < f.code[i].var))) := by simp
         repeat' first | refine zd ?_ | refine zc ?_ | ((first | refine zf ?_ | refine zk ?_ | refine zi ?_ | refine regA ?_ | fail); conv => whnf) | exact abA hb | (refine za rfl (zM c1) (fun _ => ?_)) | (refine za rfl (zM c2) (fun _ => ?_)) | ((first | refine zsn (nf) ?_ | refine zsn (op) ?_ | refine pkA ?_ | fail); conv => whnf) | (refine zss rfl ?_) | (refine zso rfl (fun hb => ?_) (fun hb => ?_)) | ((first | refine zsq ?_ | refine andA ?_ | with_reducible refine exA fun _ => ?_ | fail); conv => whnf) | (refine lnA fun hln => ?_; conv => whnf) | fail
         exact ⟨(i + 1, (⟨s.p + 1, s.u, s.b && !(false && decide ((s.u : Int) < f.code[i].var))⟩ : CS)), ⟨by show i + 1 ≤ _; omega, by show s.p + 1 ≤ 12; omega, hu, next st⟩, by show f.code.length - (i + 1) < f.code.length - i; omega, (impX (by repeat' (first | exact trivial | refine And.intro ?_ ?_ | exact bvE hbb | exact zsw)))⟩
     ·have hn0 : zbA f.vars.length f.code[i] = 7 := by unfold zbA; rw [if_pos hk, if_neg hf]
      rw [hn0] at nf
      rw [stop (zjY hk hf)]
      repeat' first | refine zd ?_ | refine zc ?_ | ((first | refine zf ?_ | refine zk ?_ | refine zi ?_ | refine regA ?_ | fail); conv => whnf) | exact abA hb | ((refine zsn (nf) ?_); conv => whnf) | (refine zst rfl ?_) | (refine zso rfl (fun hb => ?_) (fun hb => ?_)) | ((first | refine andA ?_ | with_reducible refine exA fun _ => ?_ | fail); conv => whnf) | (refine lnA fun hln => ?_; conv => whnf) | fail
      rfl
    ·have hn0 : zbA f.vars.length f.code[i] = 2 := by unfold zbA; rw [if_neg hk]
     rw [hn0] at nf
     rw [stop (zjZ hk)]
     repeat' first | refine zd ?_ | refine zc ?_ | ((first | refine zf ?_ | refine zk ?_ | refine zi ?_ | refine regA ?_ | fail); conv => whnf) | exact abA hb | ((refine zsn (nf) ?_); conv => whnf) | (refine zst rfl ?_) | (refine zso rfl (fun hb => ?_) (fun hb => ?_)) | ((first | refine andA ?_ | with_reducible refine exA fun _ => ?_ | fail); conv => whnf) | (refine lnA fun hln => ?_; conv => whnf) | fail
     rfl
   ·obtain rfl : i = f.code.length := by omega
    have hfin := zrp hv h0 hz
    clear hz
    rw [hfin]
    by_cases p1 : s.p = 1
    ·rw [if_neg (fun h => h p1)]
     have e : (bif !s.b then true else ((s.u : Int) != ((f.vars.map zaa).length : Int))) = decide (s.b = false ∨ s.u < f.vars.length) := by
      rw [hlv, Bool.eq_iff_iff, decide_eq_true_iff]
      cases s.b with
      | false => simp
      | true =>
       rw [Bool.not_true, cond_false, bne_iff_ne]
       constructor
       ·intro h; right; omega
       ·rintro (h | h)
        ·cases h
        ·omega
     by_cases hE : s.b = false ∨ s.u < f.vars.length
     ·rw [if_pos hE]
      rw [decide_eq_true hE] at e
      repeat' first | refine zd ?_ | refine zc ?_ | ((first | refine zf ?_ | refine zk ?_ | refine zi ?_ | refine regA ?_ | fail); conv => whnf) | exact abA hb | (refine za rfl (fun _ => ?_) (zaf e)) | ((refine pkA ?_); conv => whnf) | (refine zso rfl (fun hb => ?_) (fun hb => ?_)) | (refine lnA fun hln => ?_; conv => whnf) | fail
      rfl
     ·rw [if_neg hE]
      rw [decide_eq_false hE] at e
      repeat' first | refine zd ?_ | refine zc ?_ | ((first | refine zf ?_ | refine zk ?_ | refine zi ?_ | refine regA ?_ | fail); conv => whnf) | exact abA hb | (refine za rfl (zM e) (fun _ => ?_)) | ((refine pkA ?_); conv => whnf) | (refine zso rfl (fun hb => ?_) (fun hb => ?_)) | (refine lnA fun hln => ?_; conv => whnf) | fail
      rfl
    ·rw [if_pos p1]
     repeat' first | refine zd ?_ | refine zc ?_ | ((first | refine zf ?_ | refine zk ?_ | refine zi ?_ | refine regA ?_ | fail); conv => whnf) | exact abA hb | ((refine pkA ?_); conv => whnf) | (refine zso rfl (fun hb => ?_) (fun hb => ?_)) | (refine lnA fun hln => ?_; conv => whnf) | fail
     rfl
theorem zeh {st : List (List PV)} {x : List PV} {n : Nat} (hn : n = st.length + 1) : n ≤ (st.take st.length ++ [x]).length := by
 rw [hn]; simp
theorem zdo {st : List (List PV)} {x : List PV} {n : Nat} (hn : n = st.length + 1) : (st.take st.length ++ [x]).take n = st ++ [x] := by
 rw [hn, List.take_length, List.take_of_length_le (by simp)]
end Go.Proofs.YtmceekhgnfpamaaGreatDoor
namespace Go.Proofs.YtmceekhgnfpamaaGreatDoor
open Go Go.QL FoT
set_option maxHeartbeats 3200000
attribute [local irreducible] ACall FnC
theorem zrW : ∀ (k : Nat), 1 ≤ k → k ≤ 18 → ∀ n : Nat, n < 10 ^ k → FnC Tryz.prog 119 [iv .i64 n, iv .i64 k] (sv (bs (padD k n))) := by
 intro k
 induction k with
 | zero => intro h; exact absurd h (by decide)
 | succ k ih =>
  intro _ hk n hn
  have hd : (n : Int).tmod 10 = ((n % 10 : Nat) : Int) := rfl
  have hq : (n : Int).tdiv 10 = ((n / 10 : Nat) : Int) := rfl
  have hlt : n % 10 < 10 := Nat.mod_lt _ (by decide)
  have h18 : (10 : Nat) ^ (k + 1) ≤ 10 ^ 18 := Nat.pow_le_pow_right (by decide) (by omega)
  have hc : (IntKind.u8.wrap (48 + ((n % 10 : Nat) : Int))) = ((UInt8.ofNat (48 + n % 10)).toNat : Int) := by
   rw [zmQ _ hlt]
   generalize n % 10 = d at hlt
   have : ∀ d : Nat, d < 10 → IntKind.u8.wrap (48 + (d : Int)) = ((48 + d : Nat) : Int) := by decide
   exact this d hlt
  have hp : padD (k + 1) n = padD k (n / 10) ++ [UInt8.ofNat (48 + n % 10)] := rfl
  rw [hp]
  generalize hcc : UInt8.ofNat (48 + n % 10) = c at hc
  rcases Nat.eq_zero_or_pos k with rfl | hk0
  ·have hcf : (bif decide ((n : Int) ≥ 10) then true else decide (((0 : Nat) : Int) + 1 > 1)) = false := by
    rw [decide_eq_false (show ¬ (n : Int) ≥ 10 by rw [Nat.pow_one] at hn; omega)]; rfl
   refine hdC Tryz.func119 Tryz.ntmps119 (res := [.tmp 4]) fun w0 K0 => ?_
   repeat' first | refine zd ?_ | ((first | refine zf ?_ | refine zi ?_ | refine regA ?_ | fail); conv => whnf) | (refine za rfl (zM hcf) (fun _ => ?_)) | ((first | refine pkA ?_ | refine ⟨_, hd, ?_⟩ | refine ⟨_, hc, ?_⟩ | refine ⟨[c], by simp, .inr rfl, ?_⟩ | refine zsq ?_ | refine andA ?_ | fail); conv => whnf) | fail
   rfl
  ·have hct : (bif decide ((n : Int) ≥ 10) then true else decide (((k + 1 : Nat) : Int) > 1)) = true := by
    rw [decide_eq_true (show ((k + 1 : Nat) : Int) > 1 by omega)]; cases decide ((n : Int) ≥ 10) <;> rfl
   have ihn := ih hk0 (by omega) (n / 10) (by rw [Nat.pow_succ] at hn; omega)
   have ihn : FnC Tryz.prog 119 [iv .i64 ((n / 10 : Nat) : Int), iv .i64 (((k + 1 : Nat) : Int) - 1)] (sv (bs (padD k (n / 10)))) := by
    rw [show ((k + 1 : Nat) : Int) - 1 = (k : Int) by omega]; exact ihn
   have gs : (bs (padD k (n / 10))).size + (bs [c]).size ≤ maxLen := zcB (by rw [zdp]; show k + 1 ≤ _; omega)
   rw [← za7]
   generalize padD k (n / 10) = pd at *
   have hw : IntKind.i64.wrap ((n : Int).tdiv 10) = ((n / 10 : Nat) : Int) := by rw [hq, zg (by omega)]
   refine hdC Tryz.func119 Tryz.ntmps119 (res := [.tmp 4]) fun w0 K0 => ?_
   repeat' first | refine zd ?_ | ((first | refine zi ?_ | refine regA ?_ | fail); conv => whnf) | (refine za rfl (fun _ => ?_) (zaf hct)) | ((first | refine pkA ?_ | refine ⟨_, hd, ?_⟩ | refine ⟨_, hc, ?_⟩ | refine ⟨_, hw, ?_⟩ | refine ⟨[c], by simp, .inr rfl, ?_⟩ | refine zsn (ihn) ?_ | refine And.intro (zay gs) ?_ | refine zsq ?_ | refine andA ?_ | fail); conv => whnf) | fail
   rfl
theorem zsJ (s : Bs8) (b : Bool) (h : s.length ≤ 10000) : FnC Tryz.prog 120 [sv (bs s), bv b] (sv (bs (if b = true then [40] ++ s ++ [41] else s))) := by
 cases b with
 | true =>
  have g1 : (bs [40]).size + (bs s).size ≤ maxLen := zcB (by show 1 + _ ≤ _; omega)
  have g2 : (bs [40] ++ bs s).size + (bs [41]).size ≤ maxLen := by rw [za7]; exact zcB (by simp; omega)
  have e : bs [40] ++ bs s ++ bs [41] = bs ([40] ++ s ++ [41]) := by rw [za7, za7]
  rw [if_pos rfl, ← e]
  refine hdC Tryz.func120 Tryz.ntmps120 (res := [.tmp 4]) fun w0 K0 => ?_
  repeat' first | refine zd ?_ | ((first | refine zi ?_ | refine regA ?_ | refine And.intro (zay g1) ?_ | refine And.intro (zay g2) ?_ | fail); conv => whnf) | (refine zst rfl ?_) | fail
  rfl
 | false =>
  refine hdC Tryz.func120 Tryz.ntmps120 (res := [.tmp 4]) fun w0 K0 => ?_
  repeat' first | refine zd ?_ | ((first | refine zf ?_ | refine zi ?_ | refine regA ?_ | fail); conv => whnf) | (refine zss rfl ?_) | fail
  rfl
end Go.Proofs.YtmceekhgnfpamaaGreatDoor
namespace Go.Proofs.YtmceekhgnfpamaaGreatDoor
open Go Go.QL FoT
set_option maxHeartbeats 3200000
attribute [local irreducible] ACall FnC
theorem zsX (c : UInt8) : FnC Tryz.prog 109 [iv .u8 c.toNat] (bv (zaM c)) := by
 have ri := zho
 have hw : ∀ c : UInt8, IntKind.i64.wrap (c.toNat : Int) = c.toNat := fun c => by have := c.toNat_lt; exact zg (by omega)
 rw [← zpy]
 refine hdC Tryz.func109 Tryz.ntmps109 (res := [.tmp 2]) fun w0 K0 => ?_
 repeat' first | refine zd ?_ | ((first | refine zi ?_ | refine regA ?_ | refine zsn ((ri _ _ _)) ?_ | refine zsp ((ri _ _ _)) ?_ | refine pkA ?_ | refine ⟨_, hw _, ?_⟩ | fail); conv => whnf) | fail
 refine congrArg some (congrArg bv ?_)
 simp only [rowX, ← zjG]
abbrev zsz (p : Nat × Bs8) : List PV := [.v (.int .i64 p.1), .v (.string (bs p.2))]
abbrev zsM (l : Toks) : PV := .s 2 (l.map zsz)
theorem zs0 {c e sz st n : Nat} {xs : List (List PV)} {r : PV} (hn : n ≤ xs.length) (hz : r = .s sz (xs.take n)) : zd1 [(c, .chain e sz st xs)] (.x (.o c st n)) = some (.x (.d r)) := by
 simp [zd1, zbW, zbq, lk, hn, hz]
theorem zsN (s : Bs8) (i : Nat) (hi : i < s.length) (n : Nat) (hn : 1 ≤ n) (hle : i + n ≤ s.length) (hrow : ∀ k (h : k < s.length), i < k → k < i + n → zaM s[k] = true) (h1 : 1 < n → zaM s[i] = true)
  (hstop : zaM s[i] = true → ∀ h : i + n < s.length, zaM s[i + n] = false) : tk i none (s.drop i) = (if s[i] = 32 then [] else [(i, (s.take (i + n)).drop i)]) ++ tk (i + n) none (s.drop (i + n)) :=
 zi9 hi (by omega) hle hrow (fun h => h1 (by omega)) hstop
theorem ztd (s : Bs8) (hs : s.length ≤ 600) : FnC Tryz.prog 48 [sv (bs s)] (.x (.d (zsM (tk 0 none s)))) := by
 have hsz := zbj s
 have hli := zco s
 refine hdC Tryz.func48 Tryz.ntmps48 (res := [.tmp 2]) fun w0 K0 => ?_
 repeat' first | refine zd ?_ | refine zc ?_ | ((refine regA ?_); conv => whnf) | fail
 refine zaq (Imp.nil 900 93 2 (fr' := [(4, iv .i64 0), (3, .x (.o 900 0 0)), (0, sv (bs s))]) (σ' := []) rfl ?_ trivial rfl rfl) ?_
 ·exact ⟨⟨_, rfl, .inl rfl⟩, ⟨_, rfl, .inr ⟨rfl, rfl⟩⟩, ⟨_, rfl, .inl rfl⟩, trivial⟩
 refine zJ (fun x : Nat × Toks => [(4, iv .i64 x.1), (3, .x (.o 900 x.2.length x.2.length)), (0, sv (bs s))]) (fun x => [(900, .chain 93 2 x.2.length (x.2.map zsz))])
  (fun x => x.1 ≤ s.length ∧ x.2.length ≤ x.1 ∧ tk 0 none s = x.2 ++ tk x.1 none (s.drop x.1)) (fun x => s.length - x.1) (0, []) ⟨Nat.zero_le _, Nat.le_refl _, rfl⟩ impA ?_
 rintro ⟨i, acc⟩ ⟨hi, ha, hx⟩
 dsimp only at hi ha hx ⊢
 rcases Nat.lt_or_ge i s.length with hil | hil
 ·have gi : (bs s).data.toList[(i : Int).toNat]? = some s[i] := by rw [hli, Int.toNat_natCast, List.getElem?_eq_getElem hil]
  have li := zsX s[i]
  have hla : (acc.map zsz).length = acc.length := List.length_map _
  have g0 : acc.length ≤ (acc.map zsz).length := by rw [hla]; exact Nat.le_refl _
  have g1 : acc.length + [zsz (0, [])].length ≤ maxLen := by show acc.length + 1 ≤ _; unfold maxLen; omega
  have g2 : (acc.length + [zsz (0, [])].length) * 24 ≤ 140737488355328 := by show (acc.length + 1) * 24 ≤ _; omega
  repeat' first | refine zd ?_ | refine zc ?_ | ((first | refine zf ?_ | refine zk ?_ | refine regA ?_ | fail); conv => whnf) | exact abA hb | (refine zso rfl (fun hb => ?_) (fun hb => ?_)) | fail
  refine zJ (fun n : Nat => [(5, iv .i64 n), (4, iv .i64 i), (3, .x (.o 900 acc.length acc.length)), (0, sv (bs s))]) (fun n => [(900, .chain 93 2 acc.length (acc.map zsz))])
   (fun n => 1 ≤ n ∧ i + n ≤ s.length ∧ (∀ k (h : k < s.length), i < k → k < i + n → zaM s[k] = true) ∧ (1 < n → zaM s[i] = true)) (fun n => s.length - n) 1 ⟨Nat.le_refl _, by omega, fun k _ h1 h2 => by omega, fun h => absurd h (by omega)⟩ impA ?_
  rintro n ⟨hn1, hn2, hrow, hr1⟩
  have e2 : (acc.map zsz).take acc.length ++ [[PV.v (.int .i64 (i : Int)), PV.v (.string ((bs s).extract (i : Int).toNat ((i : Int) + n).toNat))]] = (acc ++ [(i, (s.take (i + n)).drop i)]).map zsz := by
   rw [List.take_of_length_le (by rw [hla]; exact Nat.le_refl _), List.map_append, show ((i : Int) + n).toNat = i + n by omega, Int.toNat_natCast, ztj]; rfl
  have el : acc.length + 1 = (acc ++ [(i, (s.take (i + n)).drop i)]).length := by rw [List.length_append]; rfl
  cases hri : zaM s[i] with
  | true =>
   rw [hri] at li
   have h32 : s[i] ≠ 32 := fun h => by rw [h] at hri; exact absurd hri (by decide)
   have h32n : ((s[i].toNat : Int) != 32) = true := by rw [bne_iff_ne]; intro h; exact h32 (UInt8.toNat_inj.1 (by show s[i].toNat = 32; omega))
   rcases Nat.lt_or_ge (i + n) s.length with hin | hin
   ·have gn : (bs s).data.toList[((i : Int) + n).toNat]? = some s[i + n] := by rw [hli, show ((i : Int) + n).toNat = i + n by omega, List.getElem?_eq_getElem hin]
    have ln := zsX s[i + n]
    cases hrn : zaM s[i + n] with
    | true =>
     rw [hrn] at ln
     have hct : (bif (bif true then decide ((i : Int) + n < (bs s).size) else false) then true else false) = true := by rw [decide_eq_true (by omega)]; rfl
     repeat' first | refine zd ?_ | refine zc ?_ | ((first | refine zf ?_ | refine regA ?_ | fail); conv => whnf) | (refine za rfl (fun _ => ?_) (zaf hct)) | ((first | refine ⟨_, ze ⟨by omega, gi⟩, ?_⟩ | refine ⟨_, ze ⟨by omega, gn⟩, ?_⟩ | refine zsn (li) ?_ | refine zsp (ln) ?_ | refine pkA ?_ | refine zsq ?_ | fail); conv => whnf) | fail
     exact ⟨n + 1, ⟨by omega, by omega, fun k h h1 h2 => by
      rcases Nat.lt_or_ge k (i + n) with hk | hk
      ·exact hrow k h h1 hk
      ·obtain rfl : k = i + n := by omega
       exact hrn, fun _ => rfl⟩, by omega, impA⟩
    | false =>
     rw [hrn] at ln
     have hcf : (bif (bif true then decide ((i : Int) + n < (bs s).size) else false) then false else false) = false := by cases (bif true then decide ((i : Int) + n < (bs s).size) else false) <;> rfl
     have hst := zsN s i hil n hn1 hn2 hrow (fun _ => hri) (fun _ _ => hrn)
     rw [if_neg h32] at hst
     repeat' first | refine zd ?_ | ((first | refine zk ?_ | refine regA ?_ | fail); conv => whnf) | (refine za rfl (zM hcf) (fun _ => ?_)) | (refine za rfl (fun _ => ?_) (zaf h32n)) | ((first | refine ⟨_, ze ⟨by omega, gi⟩, ?_⟩ | refine ⟨_, ze ⟨by omega, gn⟩, ?_⟩ | refine zsn (li) ?_ | refine zsp (ln) ?_ | refine pkA ?_ | refine And.intro ⟨g0, g1, g2⟩ ?_ | refine zsq ?_ | refine andA ?_ | fail); conv => whnf) | fail
     refine ⟨((i + n, acc ++ [(i, (s.take (i + n)).drop i)]) : Nat × Toks), ⟨by show i + n ≤ s.length; omega, by show (acc ++ [(i, (s.take (i + n)).drop i)]).length ≤ i + n; rw [List.length_append]; show acc.length + 1 ≤ i + n; omega, by show _ = (acc ++ [(i, (s.take (i + n)).drop i)]) ++ _; rw [hx, hst, List.append_assoc]⟩, by show s.length - (i + n) < s.length - i; omega, ?_⟩
     exact (impX (by repeat' (first | exact trivial | refine And.intro ?_ ?_ | exact chT el e2 | exact congrArg (fun k : Nat => some (AV.x (.o 900 k k))) el | exact ivE (show (i : Int) + n = ((i + n : Nat) : Int) by omega) | exact congrArg (fun k : Nat => some (AV.x (.o 900 (acc.length + 1) k))) el | exact zsw)))
   ·have hie : i + n = s.length := by omega
    have hcf : (bif (bif true then decide ((i : Int) + n < (bs s).size) else false) then false else false) = false := by cases (bif true then decide ((i : Int) + n < (bs s).size) else false) <;> rfl
    have h0f : (bif true then decide ((i : Int) + n < (bs s).size) else false) = false := by rw [decide_eq_false (by omega)]; rfl
    have hst := zsN s i hil n hn1 hn2 hrow (fun _ => hri) (fun _ h => absurd h (by omega))
    rw [if_neg h32] at hst
    repeat' first | refine zd ?_ | ((first | refine zk ?_ | refine regA ?_ | fail); conv => whnf) | (refine za rfl (zM hcf) (fun _ => ?_)) | (refine za rfl (fun _ => ?_) (zaf h32n)) | ((first | refine ⟨_, ze ⟨by omega, gi⟩, ?_⟩ | refine zsn (li) ?_ | refine pkA ?_ | refine ⟨(0 : UInt8), zax (fun h => absurd (h0f.symm.trans h) (by decide)), ?_⟩ | refine ⟨bv false, zax (fun h => absurd (h0f.symm.trans h) (by decide)), ?_⟩ | refine And.intro ⟨g0, g1, g2⟩ ?_ | refine zsq ?_ | refine andA ?_ | fail); conv => whnf) | fail
    refine ⟨((i + n, acc ++ [(i, (s.take (i + n)).drop i)]) : Nat × Toks), ⟨by show i + n ≤ s.length; omega, by show (acc ++ [(i, (s.take (i + n)).drop i)]).length ≤ i + n; rw [List.length_append]; show acc.length + 1 ≤ i + n; omega, by show _ = (acc ++ [(i, (s.take (i + n)).drop i)]) ++ _; rw [hx, hst, List.append_assoc]⟩, by show s.length - (i + n) < s.length - i; omega, ?_⟩
    exact (impX (by repeat' (first | exact trivial | refine And.intro ?_ ?_ | exact chT el e2 | exact congrArg (fun k : Nat => some (AV.x (.o 900 k k))) el | exact ivE (show (i : Int) + n = ((i + n : Nat) : Int) by omega) | exact congrArg (fun k : Nat => some (AV.x (.o 900 (acc.length + 1) k))) el | exact zsw)))
  | false =>
   rw [hri] at li
   have hn : n = 1 := by
    rcases Nat.lt_or_ge 1 n with h | h
    ·have := hr1 h; rw [hri] at this; cases this
    ·omega
   subst hn
   have hst := zsN s i hil 1 (Nat.le_refl _) hn2 hrow (fun h => absurd h (by omega)) (fun h => by rw [hri] at h; cases h)
   have h0f : (bif false then decide ((i : Int) + ((1 : Nat) : Int) < (bs s).size) else false) = false := rfl
   by_cases h32 : s[i] = 32
   ·rw [if_pos h32] at hst
    have h32n : ((s[i].toNat : Int) != 32) = false := by rw [h32]; rfl
    repeat' first | refine zd ?_ | ((first | refine zf ?_ | refine zk ?_ | refine regA ?_ | fail); conv => whnf) | (refine za rfl (zM h32n) (fun _ => ?_)) | ((first | refine ⟨_, ze ⟨by omega, gi⟩, ?_⟩ | refine zsn (li) ?_ | refine pkA ?_ | refine ⟨(0 : UInt8), zax (fun h => Bool.noConfusion (show false = true from h)), ?_⟩ | refine ⟨bv false, zax (fun h => Bool.noConfusion (show false = true from h)), ?_⟩ | fail); conv => whnf) | (refine zss rfl ?_) | ((refine zsq ?_); conv => whnf) | fail
    exact ⟨(i + 1, acc), ⟨by show i + 1 ≤ s.length; omega, by show acc.length ≤ i + 1; omega, by rw [hx, hst]; rfl⟩, by show s.length - (i + 1) < s.length - i; omega, impA⟩
   ·rw [if_neg h32] at hst
    have h32n : ((s[i].toNat : Int) != 32) = true := by rw [bne_iff_ne]; intro h; exact h32 (UInt8.toNat_inj.1 (by show s[i].toNat = 32; omega))
    repeat' first | refine zd ?_ | ((first | refine zk ?_ | refine regA ?_ | fail); conv => whnf) | (refine za rfl (fun _ => ?_) (zaf h32n)) | ((first | refine ⟨_, ze ⟨by omega, gi⟩, ?_⟩ | refine zsn (li) ?_ | refine pkA ?_ | refine ⟨(0 : UInt8), zax (fun h => Bool.noConfusion (show false = true from h)), ?_⟩ | refine ⟨bv false, zax (fun h => Bool.noConfusion (show false = true from h)), ?_⟩ | refine And.intro ⟨g0, g1, g2⟩ ?_ | fail); conv => whnf) | (refine zss rfl ?_) | ((first | refine zsq ?_ | refine andA ?_ | fail); conv => whnf) | fail
    refine ⟨((i + 1, acc ++ [(i, (s.take (i + 1)).drop i)]) : Nat × Toks), ⟨by show i + 1 ≤ s.length; omega, by show (acc ++ [(i, (s.take (i + 1)).drop i)]).length ≤ i + 1; rw [List.length_append]; show acc.length + 1 ≤ i + 1; omega, by show _ = (acc ++ [(i, (s.take (i + 1)).drop i)]) ++ _; rw [hx, hst, List.append_assoc]⟩, by show s.length - (i + 1) < s.length - i; omega, ?_⟩
    exact (impX (by repeat' (first | exact trivial | refine And.intro ?_ ?_ | exact chT el e2 | exact congrArg (fun k : Nat => some (AV.x (.o 900 k k))) el | exact ivE (show (i : Int) + ((1 : Nat) : Int) = ((i + 1 : Nat) : Int) by omega) | exact congrArg (fun k : Nat => some (AV.x (.o 900 (acc.length + 1) k))) el | exact zsw)))
 ·obtain rfl : i = s.length := by omega
  have hla : (acc.map zsz).length = acc.length := List.length_map _
  have g0 : acc.length ≤ (acc.map zsz).length := by rw [hla]; exact Nat.le_refl _
  have g1 : acc.length + [zsz (0, [])].length ≤ maxLen := by show acc.length + 1 ≤ _; unfold maxLen; omega
  have g2 : (acc.length + [zsz (0, [])].length) * 24 ≤ 140737488355328 := by show (acc.length + 1) * 24 ≤ _; omega
  rw [List.drop_length, zqE] at hx
  have hz : zsM (tk 0 none s) = .s 2 (((acc.map zsz).take (acc.map zsz).length ++ [[PV.v (.int .i64 (bs s).size), PV.v (.string (bs []))]]).take (acc.length + 1)) := by
   rw [zdo (by rw [hla]), hx, hsz]
   unfold zsM
   rw [List.map_append]; rfl
  rw [hla] at hz
  repeat' first | refine zd ?_ | refine zc ?_ | ((first | refine zf ?_ | refine zk ?_ | refine zi ?_ | refine regA ?_ | fail); conv => whnf) | exact abA hb | ((refine And.intro ⟨g0, g1, g2⟩ ?_); conv => whnf) | (refine zso rfl (fun hb => ?_) (fun hb => ?_)) | ((refine andA ?_); conv => whnf) | fail
  exact zs0 (c := 900) (e := 93) (st := acc.length + 1) (n := acc.length + 1) (xs := (acc.map zsz).take acc.length ++ [[PV.v (.int .i64 (bs s).size), PV.v (.string (bs []))]]) (by simp) hz
end Go.Proofs.YtmceekhgnfpamaaGreatDoor
namespace Go.Proofs.YtmceekhgnfpamaaGreatDoor
open Go Go.QL FoT
set_option maxHeartbeats 3200000
attribute [local irreducible] ACall FnC
def rcN : Nat → Bs8 → Nat × Bool
 | acc, [] => (acc, true)
 | acc, c :: r => if 48 ≤ c.toNat ∧ c.toNat ≤ 57 then rcN (10 * acc + (c.toNat - 48)) r else (acc, false)
theorem zsQ : ∀ (r : Bs8) (acc : Nat), digs acc r = if (rcN acc r).2 = true then some (rcN acc r).1 else none
 | [], acc => rfl
 | c :: r, acc => by
  rw [digs, rcN]
  split
  ·exact zsQ r _
  ·rfl
def zsx (t : Bs8) : FNode × Bool :=
 if ¬ (3 ≤ t.length ∧ t.length ≤ 8) ∨ t.getD 0 0 ≠ 48 ∨ t.getD 1 0 ≠ 46 then (⟨2, 0, 0, (t.length : Int) - 2⟩, false)
 else (⟨2, 0, (rcN 0 (t.drop 2)).1, (t.length : Int) - 2⟩, (rcN 0 (t.drop 2)).2 && (decide (t.length = 3) || decide ((rcN 0 (t.drop 2)).1 % 10 ≠ 0)))
theorem zsZ (t : Bs8) : zaW t = if (zsx t).2 = true then some (zsx t).1 else none := by
 match t with
 | [] => rfl
 | [a] => rfl
 | a :: b :: ds =>
  have e : ((ds.length + 1 + 1 : Nat) : Int) - 2 = ds.length := by omega
  by_cases hc : a = 48 ∧ b = 46 ∧ 1 ≤ ds.length ∧ ds.length ≤ 6
  ·obtain ⟨h1, h2, h3, h4⟩ := hc
   have hM : zsx (a :: b :: ds) = (⟨2, 0, (rcN 0 ds).1, ds.length⟩, (rcN 0 ds).2 && (decide (ds.length + 1 + 1 = 3) || decide ((rcN 0 ds).1 % 10 ≠ 0))) := by
    unfold zsx
    simp only [List.length_cons, List.getD_cons_zero, List.getD_cons_succ, List.drop_succ_cons, List.drop_zero]
    rw [if_neg (by rintro (h | h | h); omega; exact h h1; exact h h2), e]
   rw [hM]
   unfold zaW
   dsimp only
   rw [if_pos ⟨h1, h2, h3, h4⟩, zsQ]
   cases hq : (rcN 0 ds).2 with
   | false => simp
   | true =>
    rw [if_pos rfl]
    dsimp only
    by_cases h5 : ds.length = 1 ∨ (rcN 0 ds).1 % 10 ≠ 0
    ·rw [if_pos h5, if_pos]
     rw [Bool.true_and, Bool.or_eq_true, decide_eq_true_iff, decide_eq_true_iff]
     rcases h5 with h5 | h5
     ·exact .inl (by omega)
     ·exact .inr h5
    ·rw [if_neg h5, if_neg]
     rw [Bool.true_and, Bool.or_eq_true, decide_eq_true_iff, decide_eq_true_iff]
     rintro (h6 | h6)
     ·exact h5 (.inl (by omega))
     ·exact h5 (.inr h6)
  ·have hM : (zsx (a :: b :: ds)).2 = false := by
    unfold zsx
    rw [if_pos]
    simp only [List.length_cons, List.getD_cons_zero, List.getD_cons_succ]
    by_cases h1 : a = 48
    ·by_cases h2 : b = 46
     ·left; intro h; exact hc ⟨h1, h2, by omega, by omega⟩
     ·right; right; exact h2
    ·right; left; exact h1
   rw [hM]
   unfold zaW
   dsimp only
   rw [if_neg hc]
   rfl
abbrev cnB (p num : Int) : List SV := [.d (.v (.int .i64 2)), .d (.v (.int .i64 0)), .d (.v (.int .i64 num)), .d (.v (.int .i64 p))]
abbrev cn0 : List SV := [.d (.v (.int .i64 0)), .d (.v (.int .i64 0)), .d (.v (.int .i64 0)), .d (.v (.int .i64 0))]
theorem zs7 {t : Bs8} {i acc : Nat} (hi : i < t.length) : rcN acc (t.drop i) = if 48 ≤ t[i].toNat ∧ t[i].toNat ≤ 57 then rcN (10 * acc + (t[i].toNat - 48)) (t.drop (i + 1)) else (acc, false) := by
 rw [List.drop_eq_getElem_cons hi, rcN]
theorem ztf (t : Bs8) (hl : t.length ≤ 1000) : FnC Tryz.prog 164 [sv (bs t)] (.t [ndAV (zsx t).1, bv (zsx t).2]) := by
 have hsz := zbj t
 have hli := zco t
 have ri := zho
 have hgi : ∀ i (h : i < t.length), (bs t).data.toList[(i : Int).toNat]? = some t[i] := fun i h => by rw [hli, Int.toNat_natCast, List.getElem?_eq_getElem h]
 have u8e : ∀ (c k : UInt8), ((c.toNat : Int) != (k.toNat : Int)) = decide (c ≠ k) := fun c k => by
  rw [Bool.eq_iff_iff, bne_iff_ne, decide_eq_true_iff, ne_eq, ne_eq, ← UInt8.toNat_inj]; omega
 by_cases h3 : 3 ≤ t.length ∧ t.length ≤ 8
 ·have hin : decide ((1 : Int) ≤ (bs t).size - 2 ∧ ((bs t).size : Int) - 2 ≤ 6) = true := decide_eq_true (by omega)
  have r1 := ri ((bs t).size - 2) 1 6
  rw [hin] at r1
  have g0 : (bs t).data.toList[(0 : Int).toNat]? = some t[0] := hgi 0 (by omega)
  have g1 : (bs t).data.toList[(1 : Int).toNat]? = some t[1] := hgi 1 (by omega)
  have d0 : t.getD 0 0 = t[0] := by rw [List.getD_eq_getElem?_getD, List.getElem?_eq_getElem]; rfl
  have d1 : t.getD 1 0 = t[1] := by rw [List.getD_eq_getElem?_getD, List.getElem?_eq_getElem]; rfl
  have hcc : (bif (bif !true then true else ((t[0].toNat : Int) != 48)) then true else ((t[1].toNat : Int) != 46)) = decide (t[0] ≠ 48 ∨ t[1] ≠ 46) := by
   have e0 := u8e t[0] 48
   have e1 := u8e t[1] 46
   rw [show (((48 : UInt8).toNat : Nat) : Int) = 48 from rfl] at e0
   rw [show (((46 : UInt8).toNat : Nat) : Int) = 46 from rfl] at e1
   rw [e0, e1]
   by_cases q0 : t[0] = 48 <;> by_cases q1 : t[1] = 46 <;> simp [q0, q1]
  by_cases hc : t[0] ≠ 48 ∨ t[1] ≠ 46
  ·have hM : zsx t = (⟨2, 0, 0, (t.length : Int) - 2⟩, false) := by unfold zsx; rw [if_pos (by rw [d0, d1]; exact .inr hc)]
   rw [hM, ← hsz]
   rw [decide_eq_true hc] at hcc
   clear hgi u8e
   refine hdC Tryz.func164 Tryz.ntmps164 (res := [.cell 2 95, .tmp 3]) fun w0 K0 => ?_
   repeat' first | refine zd ?_ | ((first | refine zi ?_ | refine regA ?_ | fail); conv => whnf) | (refine za rfl (fun _ => ?_) (zaf hcc)) | ((first | refine zsn (r1) ?_ | refine pkA ?_ | refine ⟨_, ze ⟨by omega, g0⟩, ?_⟩ | refine ⟨_, ze ⟨by omega, g1⟩, ?_⟩ | refine zsq ?_ | fail); conv => whnf) | fail
   rfl
  ·have hM : zsx t = (⟨2, 0, (rcN 0 (t.drop 2)).1, (t.length : Int) - 2⟩, (rcN 0 (t.drop 2)).2 && (decide (t.length = 3) || decide ((rcN 0 (t.drop 2)).1 % 10 ≠ 0))) := by
    unfold zsx; rw [if_neg (by rw [d0, d1]; rintro (h | h); exact h h3; exact hc h)]
   rw [decide_eq_false hc] at hcc
   clear u8e
   refine hdC Tryz.func164 Tryz.ntmps164 (res := [.cell 2 95, .tmp 3]) fun w0 K0 => ?_
   repeat' first | refine zd ?_ | refine zc ?_ | ((first | refine zf ?_ | refine regA ?_ | fail); conv => whnf) | (refine za rfl (zM hcc) (fun _ => ?_)) | ((first | refine zsn (r1) ?_ | refine pkA ?_ | refine ⟨_, ze ⟨by omega, g0⟩, ?_⟩ | refine ⟨_, ze ⟨by omega, g1⟩, ?_⟩ | refine zsq ?_ | fail); conv => whnf) | fail
   refine zJ (fun x : Nat × Nat => [(5, iv .i64 x.1), (2, .x (.b 2 0)), (4, .x (.b 4 0)), (0, sv (bs t))]) (fun x => [(4, .box (cnB ((bs t).size - 2) x.2)), (2, .box cn0)])
    (fun x => 2 ≤ x.1 ∧ x.1 ≤ t.length ∧ x.2 < 10 ^ (x.1 - 2) ∧ rcN 0 (t.drop 2) = rcN x.2 (t.drop x.1)) (fun x => t.length - x.1) (2, 0) ⟨Nat.le_refl _, by omega, by decide, rfl⟩ impA ?_
   rintro ⟨i, acc⟩ ⟨hi2, hi, hacc, hx⟩
   dsimp only at hi2 hi hacc hx ⊢
   have hp6 : (10 : Nat) ^ (i - 2) ≤ 10 ^ 6 := Nat.pow_le_pow_right (by decide) (by omega)
   rcases Nat.lt_or_ge i t.length with hil | hil
   ·have gi := hgi i hil
    have hw : IntKind.i64.wrap (t[i].toNat : Int) = t[i].toNat := by have := t[i].toNat_lt; exact zg (by omega)
    have r2 := ri (t[i].toNat : Int) 48 57
    rw [zs7 hil] at hx
    clear hgi hcc r1
    by_cases hd : 48 ≤ t[i].toNat ∧ t[i].toNat ≤ 57
    ·rw [if_pos hd] at hx
     rw [decide_eq_true (show (48 : Int) ≤ t[i].toNat ∧ (t[i].toNat : Int) ≤ 57 by omega)] at r2
     have hw2 : IntKind.u8.wrap ((t[i].toNat : Int) - 48) = ((t[i].toNat - 48 : Nat) : Int) := by
      have h1 := hd.1; have h2 := hd.2
      generalize t[i].toNat = c at h1 h2
      have : ∀ c : Nat, c < 58 → 48 ≤ c → IntKind.u8.wrap ((c : Int) - 48) = ((c - 48 : Nat) : Int) := by decide
      exact this c (by omega) h1
     have hw3 : IntKind.i64.wrap ((t[i].toNat - 48 : Nat) : Int) = ((t[i].toNat - 48 : Nat) : Int) := zg (by omega)
     have e10 : (10 : Nat) ^ (i + 1 - 2) = 10 * 10 ^ (i - 2) := by rw [show i + 1 - 2 = (i - 2) + 1 by omega, Nat.pow_succ, Nat.mul_comm]
     have hnum : (10 : Int) * acc + ((t[i].toNat - 48 : Nat) : Int) = ((10 * acc + (t[i].toNat - 48) : Nat) : Int) := by omega
     repeat' first | refine zd ?_ | refine zc ?_ | ((first | refine zf ?_ | refine zk ?_ | refine regA ?_ | refine drA (id := 9) 8 false [0, 1, 3, 0, 0, 24, 56, 120, 255, 511, 1023] ?_ | refine drM (id := 10) 10 [5, 6, 7, 8, 9] false [0, 0, 2, 6, 14, 30, 62, 126, 254, 510, 31, 2047] ?_ | fail); conv => whnf) | exact abA hb | ((first | refine ⟨_, ze ⟨by omega, gi⟩, ?_⟩ | refine ⟨_, hw, ?_⟩ | refine ⟨_, hw2, ?_⟩ | refine ⟨_, hw3, ?_⟩ | refine zsn (r2) ?_ | refine pkA ?_ | fail); conv => whnf) | (refine zss rfl ?_) | (refine zso rfl (fun hb => ?_) (fun hb => ?_)) | ((first | refine zsq ?_ | refine andA ?_ | fail); conv => whnf) | fail
     exact ⟨(i + 1, 10 * acc + (t[i].toNat - 48)), ⟨by show 2 ≤ i + 1; omega, by show i + 1 ≤ t.length; omega, by show 10 * acc + (t[i].toNat - 48) < 10 ^ (i + 1 - 2); rw [e10]; omega, hx⟩, by show t.length - (i + 1) < t.length - i; omega, (impX (by repeat' (first | exact trivial | refine And.intro ?_ ?_ | exact congrArg (fun n : Int => some (Ob.box (cnB ((bs t).size - 2) n))) hnum | exact zsw)))⟩
    ·rw [if_neg hd] at hx
     rw [decide_eq_false (show ¬ ((48 : Int) ≤ t[i].toNat ∧ (t[i].toNat : Int) ≤ 57) by omega)] at r2
     have hE : zsx t = (⟨2, 0, acc, ((bs t).size : Int) - 2⟩, false) := by rw [hM, hx, hsz]; rfl
     rw [hE]
     repeat' first | refine zd ?_ | refine zc ?_ | ((first | refine zf ?_ | refine zk ?_ | refine zi ?_ | refine regA ?_ | refine drM (id := 10) 10 [5, 6, 7, 8, 9] false [0, 0, 2, 6, 14, 30, 62, 126, 254, 510, 31, 2047] ?_ | fail); conv => whnf) | exact abA hb | ((first | refine ⟨_, ze ⟨by omega, gi⟩, ?_⟩ | refine ⟨_, hw, ?_⟩ | refine zsn (r2) ?_ | fail); conv => whnf) | (refine zst rfl ?_) | (refine zso rfl (fun hb => ?_) (fun hb => ?_)) | fail
     rfl
   ·obtain rfl : i = t.length := by omega
    rw [List.drop_length, rcN] at hx
    have hfin : (bif (((bs t).size : Int) - 2 == 1) then true else ((acc : Int).tmod 10 != 0)) = (true && (decide (t.length = 3) || decide (acc % 10 ≠ 0))) := by
     rw [Bool.true_and, hsz, Bool.eq_iff_iff, Bool.or_eq_true, decide_eq_true_iff, decide_eq_true_iff]
     have e : (acc : Int).tmod 10 = ((acc % 10 : Nat) : Int) := rfl
     rw [e]
     by_cases h : (t.length : Int) - 2 = 1
     ·rw [beq_iff_eq.2 h]
      simp; left; omega
     ·rw [beq_eq_false_iff_ne.2 h, cond_false, bne_iff_ne]
      omega
    have hE : zsx t = (⟨2, 0, acc, ((bs t).size : Int) - 2⟩, bif (((bs t).size : Int) - 2 == 1) then true else ((acc : Int).tmod 10 != 0)) := by rw [hM, hx, hfin, hsz]
    rw [hE]
    clear hgi hcc r1 hfin
    repeat' first | refine zd ?_ | refine zc ?_ | ((first | refine zf ?_ | refine zk ?_ | refine zi ?_ | refine regA ?_ | refine drM (id := 10) 10 [5, 6, 7, 8, 9] false [0, 0, 2, 6, 14, 30, 62, 126, 254, 510, 31, 2047] ?_ | refine LateGo.mk ⟨.x .j, rfl, ?_⟩ | fail); conv => whnf) | exact abA hb | ((first | refine pkA ?_ | refine ⟨Int.tmod _ _, rfl, ?_⟩ | fail); conv => whnf) | (refine zso rfl (fun hb => ?_) (fun hb => ?_)) | ((refine andA ?_); conv => whnf) | fail
    rfl
 ·have hin : decide ((1 : Int) ≤ (bs t).size - 2 ∧ ((bs t).size : Int) - 2 ≤ 6) = false := decide_eq_false (by omega)
  have r1 := ri ((bs t).size - 2) 1 6
  rw [hin] at r1
  have hM : zsx t = (⟨2, 0, 0, (t.length : Int) - 2⟩, false) := by unfold zsx; rw [if_pos (.inl h3)]
  rw [hM, ← hsz]
  clear hgi u8e
  refine hdC Tryz.func164 Tryz.ntmps164 (res := [.cell 2 95, .tmp 3]) fun w0 K0 => ?_
  repeat' first | refine zd ?_ | ((first | refine zi ?_ | refine regA ?_ | refine zsn (r1) ?_ | refine pkA ?_ | refine ⟨(0 : UInt8), zax (fun h => absurd h (by decide)), ?_⟩ | fail); conv => whnf) | (refine zst rfl ?_) | ((refine zsq ?_); conv => whnf) | fail
  rfl
end Go.Proofs.YtmceekhgnfpamaaGreatDoor
namespace Go.Proofs.YtmceekhgnfpamaaGreatDoor
open Go Go.QL FoT
set_option maxHeartbeats 3200000
attribute [local irreducible] ACall FnC
end Go.Proofs.YtmceekhgnfpamaaGreatDoor
namespace Go.Proofs.YtmceekhgnfpamaaGreatDoor
open Go Go.QL FoT
set_option maxHeartbeats 3200000
attribute [local irreducible] ACall FnC fine ten zav zD
theorem zj9 {f : FormT} {i : Nat} (h : i < f.code.length) : (f.code.map ndPV)[(i : Int).toNat]? = some (ndPV f.code[i]) := by
 rw [Int.toNat_natCast, List.getElem?_map, List.getElem?_eq_getElem h]; rfl
theorem zht {st : List (List PV)} {x : List PV} {n : Nat} (hn : n = 0 + st.length + 1) : n ≤ ((([] : List (List PV)).take 0 ++ st).take (0 + st.length) ++ [x]).length := by
 rw [hn]; simp
theorem zf7 {st : List (List PV)} {x : List PV} {n : Nat} (hn : n = 0 + st.length + 1) : ((([] : List (List PV)).take 0 ++ st).take (0 + st.length) ++ [x]).take n = st ++ [x] := by
 rw [hn, Nat.zero_add, List.take_zero, List.nil_append, List.take_length, List.take_of_length_le (by simp)]
end Go.Proofs.YtmceekhgnfpamaaGreatDoor
namespace Go.Proofs.YtmceekhgnfpamaaGreatDoor
open Go Go.QL FoT
set_option maxHeartbeats 6400000
attribute [local irreducible] ACall FnC
theorem zsy {P : Program} {f : FuncId} {args : List AV} {R : AV → Prop} (h : ACall P f args [] (fun r σ' => R r ∧ σ' = [])) (hp : args.all zf6 = true) (hr : ∀ r, R r → zf6 r = true) {σ : Sg} : ACall P f args σ (fun r σ' => R r ∧ σ' = σ) := by
 unfold ACall at h ⊢
 refine ⟨h.1, fun w0 K0 g w vs hL hhp hs hv => ?_⟩
 rw [List.all_eq_true] at hp
 have hp0 : Hp w ⟨g.K, (· < w.heap.size)⟩ [] ⟨g.K, fun _ => undef⟩ w :=
  ⟨.refl _ _, fun _ h => h, .refl _ _, fun _ _ _ h => h, hhp.val, (fun id ob hid => by cases hid), (fun id b hi => by cases hi), (fun i j b hi => by cases hi)⟩
 refine (h.2 w _ _ w vs (hL.mono hhp.ext) hp0 hs fun i x v hi hu => zcY (g := g) (g' := ⟨g.K, fun _ => undef⟩) (hp x (List.mem_of_getElem? hi)) (Ext.refl _ _) (hv i x v hi hu)).mono ?_
 rintro e w' ⟨v, g', σ', r', he, hd, hvr, hR, rfl⟩
 exact ⟨v, ⟨g'.K, g.μ⟩, σ, r', he, hhp.grow hd.hp.kept.below hd.hp.ext hd.hp.old hd.hp.val, zcY (g := g') (g' := ⟨g'.K, g.μ⟩) (hr r' hR) (Ext.refl g'.K w') hvr, hR, rfl⟩
abbrev rdC (l : Toks) (n : Nat) (V : List Bs8) (C : List FNode) (b : Bool) : List SV := [.d (zsM l), .d (.v (.int .i64 n)), .d (zac V), .d (zS C), .d (.v (.bool b))]
def rdAV (l : Toks) (n : Nat) (V : List Bs8) (C : List FNode) (b : Bool) : AV := .a [.d (zsM l), .d (.v (.int .i64 n)), .d (zac V), .d (zS C), .d (.v (.bool b))]
abbrev rd0 : List SV := [.d (.v (.slice none 0 0)), .d (.v (.int .i64 0)), .d (.v (.slice none 0 0)), .d (.v (.slice none 0 0)), .d (.v (.bool false))]
def dst (V : List Bs8) : Prop := ∀ i j (hi : i < V.length) (hj : j < V.length), i < j → V[i] ≠ V[j]
def OkR (l : Toks) (M : Nat) (r : Except Nat PS) (n : Nat) (V : List Bs8) (C : List FNode) (b : Bool) : Prop :=
 (b = false ∧ r = .ok ⟨l.drop n, V, C⟩ ∧ n < l.length) ∨ (b = true ∧ ∃ a t, r = .error a ∧ l[n]? = some (a, t) ∧ V.length ≤ M ∧ C.length ≤ M)
def OutR (l : Toks) (M : Nat) (r : Except Nat PS) (v : AV) : Prop := ∃ n V C b, v = rdAV l n V C b ∧ OkR l M r n V C b
theorem zsB {l : Toks} {M : Nat} {r : Except Nat PS} : ∀ v, OutR l M r v → zf6 v = true := by
 rintro _ ⟨n, V, C, b, rfl, _⟩
 rfl
def CtR (f : FuncId) (m : Nat → PS → Rs) (l : Toks) (k : Nat) : Prop :=
 ∀ n V C r, n < l.length → RInv 2000 ⟨l.drop n, V, C⟩ → dst V → m k ⟨l.drop n, V, C⟩ = some r → ACall Tryz.prog f [rdAV l n V C false] [] (fun v σ' => OutR l (2000 + k) r v ∧ σ' = [])
theorem zsA {l : Toks} {n : Nat} {V : List Bs8} {C : List FNode} (h : RInv 2000 ⟨l.drop n, V, C⟩) : n < l.length := by
 obtain ⟨⟨p, a, hp⟩, _⟩ := h
 dsimp only at hp
 rcases Nat.lt_or_ge n l.length with h | h
 ·exact h
 ·rw [List.drop_eq_nil_of_le h] at hp; simp at hp
theorem zsD {l : Toks} {n a : Nat} {t : Bs8} (h : l[n]? = some (a, t)) : 0 ≤ (n : Int) ∧ (l.map zsz)[(n : Int).toNat]? = some (zsz (a, t)) := by
 refine ⟨by omega, ?_⟩
 rw [Int.toNat_natCast, List.getElem?_map, h]; rfl
theorem zsF {l : Toks} {n a : Nat} {t : Bs8} {rest : Toks} (h : l.drop n = (a, t) :: rest) : l[n]? = some (a, t) ∧ rest = l.drop (n + 1) := by
 rcases Nat.lt_or_ge n l.length with hn | hn
 ·rw [List.drop_eq_getElem_cons hn] at h
  injection h with h1 h2
  exact ⟨by rw [List.getElem?_eq_getElem hn, h1], h2.symm⟩
 ·rw [List.drop_eq_nil_of_le hn] at h; cases h
theorem zs8 {V vs : List Bs8} {t : Bs8} {n : FNode} (hd : dst V) (h : zen V t = some (n, vs)) : dst vs := by
 unfold zen at h
 split at h
 ·split at h
  ·cases h; exact hd
  ·rename_i hnone
   cases h
   have hni : t ∉ V := fun hm => by
    have key : ∀ (l : List Bs8) (i : Nat), t ∈ l → idxB l t i ≠ none := by
     intro l
     induction l with
     | nil => intro i h; cases h
     | cons v r ih =>
      intro i h
      rw [idxB]
      split
      ·exact fun h => by cases h
      ·rename_i hne
       rcases List.mem_cons.1 h with h | h
       ·exact absurd h.symm hne
       ·exact ih _ h
    exact key V 0 hm hnone
   intro i j hi hj hij
   rw [List.length_append] at hi hj
   have hi' : i < V.length := by simp at hj; omega
   rw [List.getElem_append_left hi']
   rcases Nat.lt_or_ge j V.length with hj' | hj'
   ·rw [List.getElem_append_left hj']; exact hd i j hi' hj' hij
   ·rw [List.getElem_append_right hj']
    simp only [List.getElem_singleton]
    exact fun e => hni (by rw [← e]; exact List.getElem_mem hi')
 ·split at h
  ·cases h; exact hd
  ·cases h
theorem zsK : ∀ k : Nat, (∀ st st', dst st.vars → opM k st = some (.ok st') → dst st'.vars) ∧ (∀ st st', dst st.vars → zaY k st = some (.ok st') → dst st'.vars) ∧ (∀ st st', dst st.vars → zcb k st = some (.ok st') → dst st'.vars) ∧
  (∀ st st', dst st.vars → sumM k st = some (.ok st') → dst st'.vars) ∧ ∀ st st', dst st.vars → sumT k st = some (.ok st') → dst st'.vars := by
 intro k
 induction k with
 | zero => exact ⟨fun _ _ _ h => by simp [opM] at h, fun _ _ _ h => by simp [zaY] at h, fun _ _ _ h => by simp [zcb] at h, fun _ _ _ h => by simp [sumM] at h, fun _ _ _ h => by simp [sumT] at h⟩
 | succ k ih =>
  obtain ⟨hO, hP, hPT, hS, hST⟩ := ih
  refine ⟨?_, ?_, ?_, ?_, ?_⟩
  ·intro st st' hd h
   rw [opM] at h
   split at h
   ·cases h
   ·split at h
    ·split at h
     ·cases h
     ·cases h
     ·rename_i s1 hs
      have := hS _ _ (by exact hd) hs
      split at h
      ·cases h
      ·split at h
       ·cases h; exact this
       ·cases h
    ·split at h
     ·cases h
     ·rename_i hl
      cases h
      exact zs8 hd hl
  ·intro st st' hd h
   rw [zaY] at h
   split at h
   ·cases h
   ·cases h
   ·rename_i s1 hs
    exact hPT _ _ (hO _ _ hd hs) h
  ·intro st st' hd h
   rw [zcb] at h
   split at h
   ·cases h
   ·split at h
    ·split at h
     ·cases h
     ·cases h
     ·rename_i s1 hs
      have hv := hO _ _ (by exact hd) hs
      exact hPT _ _ (by exact hv) h
    ·cases h; exact hd
  ·intro st st' hd h
   rw [sumM] at h
   split at h
   ·cases h
   ·cases h
   ·rename_i s1 hs
    exact hST _ _ (hP _ _ hd hs) h
  ·intro st st' hd h
   rw [sumT] at h
   split at h
   ·cases h
   ·split at h
    ·split at h
     ·cases h
     ·cases h
     ·rename_i s1 hs
      have hv := hP _ _ (by exact hd) hs
      exact hST _ _ (by exact hv) h
    ·cases h; exact hd
theorem zsI {C : List FNode} {x : FNode} : zS (C ++ [x]) = .s 4 (((([] : List (List PV)).take 0 ++ C.map ndPV).take (0 + (C.map ndPV).length) ++ [ndPV x]).take (0 + (C.map ndPV).length + 1)) := by
 rw [zf7 rfl]
 unfold zS
 rw [List.map_append]; rfl
theorem zsS {l : Toks} {k : Nat} (hL : l.length ≤ 2000) (hk : k ≤ 10000) (ho : CtR 149 opM l k) : CtR 108 zaY l (k + 1) := by
 intro n0 V0 C0 r hn0 hi0 hd0 h
 rw [zaY] at h
 cases hop : opM k ⟨l.drop n0, V0, C0⟩ with
 | none => rw [hop] at h; cases h
 | some r1 =>
  have hc := ho n0 V0 C0 r1 hn0 hi0 hd0 hop
  have hst : ∀ n V C b, OkR l (2000 + k) r1 n V C b → (b = false ∧ RInv 2000 ⟨l.drop n, V, C⟩ ∧ dst V ∧ zcb k ⟨l.drop n, V, C⟩ = some r) ∨ (b = true ∧ ∃ a t, r = .error a ∧ l[n]? = some (a, t) ∧ V.length ≤ 2000 + (k + 1) ∧ C.length ≤ 2000 + (k + 1)) := by
   rintro n V C b (⟨rfl, rfl, hn⟩ | ⟨rfl, a, t, rfl, h1, h2, h3⟩)
   ·rw [hop] at h
    exact .inl ⟨rfl, ((zdn 2000 k).1 _ _ hi0 hop).1, (zsK k).1 _ _ hd0 hop, h⟩
   ·rw [hop] at h
    cases h
    exact .inr ⟨rfl, a, t, rfl, h1, by omega, by omega⟩
  refine hdD Tryz.func108 Tryz.ntmps108 (res := [.cell 2 89]) fun w0 K0 B => ?_
  repeat' first | refine zd ?_ | refine zc ?_ | ((first | refine regA ?_ | ((refine ⟨_, zsy hc rfl zsB, ?_⟩); (rintro _ _ ⟨⟨n1, V1, C1, b1, rfl, ok1⟩, rfl⟩)) | fail); conv => whnf) | fail
  have hst1 := hst n1 V1 C1 b1 ok1
  clear hst ok1 hc hop h
  refine zJ (fun x : Nat × Nat × List Bs8 × List FNode × Bool => [(1, .x (.b 1 0)), (2, .x (.b 2 0))]) (fun x => [(2, .box rd0), (1, .box (rdC l x.2.1 x.2.2.1 x.2.2.2.1 x.2.2.2.2))])
   (fun x => (x.2.2.2.2 = false ∧ x.1 ≤ k ∧ RInv 2000 ⟨l.drop x.2.1, x.2.2.1, x.2.2.2.1⟩ ∧ dst x.2.2.1 ∧ zcb x.1 ⟨l.drop x.2.1, x.2.2.1, x.2.2.2.1⟩ = some r) ∨ (x.2.2.2.2 = true ∧ ∃ a t, r = .error a ∧ l[x.2.1]? = some (a, t) ∧ x.2.2.1.length ≤ 2000 + (k + 1) ∧ x.2.2.2.1.length ≤ 2000 + (k + 1)))
   (fun x => if x.2.2.2.2 then 0 else x.1 + 1) (k, n1, V1, C1, b1) (hst1.imp (fun ⟨a, b, c, d⟩ => ⟨a, Nat.le_refl _, b, c, d⟩) id) impA ?_
  clear hst1
  rintro ⟨k', n, V, C, b⟩ hI
  dsimp only at hI ⊢
  rcases hI with ⟨rfl, hk', hi, hd, hT⟩ | ⟨rfl, a, t, rfl, hl, hV, hC⟩
  ·cases k' with
   | zero => rw [zcb] at hT; cases hT
   | succ k' =>
    obtain ⟨a, t, rest, ht, _⟩ := hi.cons
    dsimp only at ht
    obtain ⟨hl, hrest⟩ := zsF ht
    have gt := zsD hl
    rw [zcb] at hT
    dsimp only at hT
    rw [ht] at hT
    dsimp only at hT
    have hnl := zsA hi
    by_cases h42 : t = [42]
    ·rw [if_pos h42] at hT
     obtain ⟨hi1, hc1, hv1⟩ := hi.next ht (by rw [h42]; simp)
     rw [hrest] at hT hi1 hc1 hv1
     cases hop2 : opM k' ⟨l.drop (n + 1), V, C⟩ with
     | none => rw [hop2] at hT; cases hT
     | some r2 =>
      have hc2 := ho (n + 1) V C r2 (zsA hi1) hi1 hd (zlU (by omega) hop2)
      have hnx : ∀ n2 V2 C2 b2, OkR l (2000 + k) r2 n2 V2 C2 b2 → C2.length ≤ 2000 + k ∧ n2 < l.length ∧
        ((b2 = false ∧ k' ≤ k ∧ RInv 2000 ⟨l.drop n2, V2, C2 ++ [opN 5]⟩ ∧ dst V2 ∧ zcb k' ⟨l.drop n2, V2, C2 ++ [opN 5]⟩ = some r) ∨ (b2 = true ∧ ∃ a' t', r = .error a' ∧ l[n2]? = some (a', t') ∧ V2.length ≤ 2000 + (k + 1) ∧ (C2 ++ [opN 5]).length ≤ 2000 + (k + 1))) := by
       rintro n2 V2 C2 b2 (⟨rfl, rfl, hn2⟩ | ⟨rfl, a2, t2, rfl, h1, h2, h3⟩)
       ·rw [hop2] at hT
        obtain ⟨⟨j1, j2, j3, j4⟩, hm⟩ := (zdn 2000 k').1 _ _ hi1 hop2
        dsimp only at j1 j2 j3 j4 hm
        refine ⟨by omega, hn2, .inl ⟨rfl, by omega, ⟨j1, j2, by dsimp only; rw [List.length_append]; dsimp only [List.length_cons, List.length_nil]; omega, j4⟩, (zsK k').1 _ _ hd hop2, hT⟩⟩
       ·rw [hop2] at hT
        cases hT
        have hn2 : n2 < l.length := (List.getElem?_eq_some_iff.1 h1).1
        exact ⟨h3, hn2, .inr ⟨rfl, a2, t2, rfl, h1, by omega, by rw [List.length_append]; dsimp only [List.length_cons, List.length_nil]; omega⟩⟩
      have hq : ((bs t).toList == (ByteArray.mk #[42]).toList) = true := (zdf t [42]).trans (decide_eq_true h42)
      have hct : (bif !false then ((bs t).toList == (ByteArray.mk #[42]).toList) else false) = true := by rw [hq]; rfl
      clear hi hi1 hT
      repeat' first | refine zd ?_ | refine zc ?_ | ((first | refine zf ?_ | refine regA ?_ | fail); conv => whnf) | (refine za rfl (fun _ => ?_) (zaf hct)) | ((first | refine ⟨_, ze gt, ?_⟩ | ((refine ⟨_, zsy hc2 rfl zsB, ?_⟩); (rintro _ _ ⟨⟨n2, V2, C2, b2, rfl, ok2⟩, rfl⟩); obtain ⟨hC2, hn2, hI2⟩ := hnx n2 V2 C2 b2 ok2) | refine pkA ?_ | refine zsq ?_ | refine andA ?_ | fail); conv => whnf) | ((refine And.intro (by refine ⟨?_, ?_, ?_⟩ <;> simp [zO, maxLen] <;> omega) ?_); conv => whnf) | fail
      exact ⟨(k', n2, V2, C2 ++ [opN 5], b2), hI2, by show (if b2 then 0 else k' + 1) < k' + 1 + 1; split <;> omega, Imp.freezeB 24 rfl ⟨⟨_, rfl, .inl rfl⟩, ⟨_, rfl, .inl rfl⟩, trivial⟩ ⟨⟨_, rfl, .inl rfl⟩, ⟨_, rfl, .inr ⟨_, _, rfl, rfl, .inl rfl, .inl rfl, .inl rfl, .inr ⟨_, rfl, zht rfl, congrArg SV.d zsI⟩, .inl rfl, trivial⟩⟩, trivial⟩ rfl rfl⟩
    ·rw [if_neg h42] at hT
     cases hT
     have hq : ((bs t).toList == (ByteArray.mk #[42]).toList) = false := (zdf t [42]).trans (decide_eq_false h42)
     have hcf : (bif !false then ((bs t).toList == (ByteArray.mk #[42]).toList) else false) = false := by rw [hq]; rfl
     clear hi
     repeat' first | refine zd ?_ | ((first | refine zk ?_ | refine zi ?_ | refine regA ?_ | fail); conv => whnf) | (refine za rfl (zM hcf) (fun _ => ?_)) | ((first | refine ⟨_, ze gt, ?_⟩ | refine pkA ?_ | refine andA ?_ | fail); conv => whnf) | fail
     exact ⟨_, [], trivial, rfl, rfl, ⟨n, V, C, false, rfl, .inl ⟨rfl, by rw [← ht], hnl⟩⟩, rfl⟩
  ·have gt := zsD hl
   have hcf : (bif !true then ((bs t).toList == (ByteArray.mk #[42]).toList) else false) = false := rfl
   repeat' first | refine zd ?_ | ((first | refine zk ?_ | refine zi ?_ | refine regA ?_ | fail); conv => whnf) | (refine za rfl (zM hcf) (fun _ => ?_)) | ((first | refine ⟨_, ze gt, ?_⟩ | refine pkA ?_ | refine andA ?_ | fail); conv => whnf) | fail
   exact ⟨_, [], trivial, rfl, rfl, ⟨n, V, C, true, rfl, .inr ⟨rfl, a, t, rfl, hl, hV, hC⟩⟩, rfl⟩
theorem zsW {l : Toks} {k : Nat} (hL : l.length ≤ 2000) (hk : k ≤ 10000) (ho : CtR 108 zaY l k) : CtR 47 sumM l (k + 1) := by
 intro n0 V0 C0 r hn0 hi0 hd0 h
 rw [sumM] at h
 cases hop : zaY k ⟨l.drop n0, V0, C0⟩ with
 | none => rw [hop] at h; cases h
 | some r1 =>
  have hc := ho n0 V0 C0 r1 hn0 hi0 hd0 hop
  have hst : ∀ n V C b, OkR l (2000 + k) r1 n V C b → (b = false ∧ RInv 2000 ⟨l.drop n, V, C⟩ ∧ dst V ∧ sumT k ⟨l.drop n, V, C⟩ = some r) ∨ (b = true ∧ ∃ a t, r = .error a ∧ l[n]? = some (a, t) ∧ V.length ≤ 2000 + (k + 1) ∧ C.length ≤ 2000 + (k + 1)) := by
   rintro n V C b (⟨rfl, rfl, hn⟩ | ⟨rfl, a, t, rfl, h1, h2, h3⟩)
   ·rw [hop] at h
    exact .inl ⟨rfl, ((zdn 2000 k).2.1 _ _ hi0 hop).1, (zsK k).2.1 _ _ hd0 hop, h⟩
   ·rw [hop] at h
    cases h
    exact .inr ⟨rfl, a, t, rfl, h1, by omega, by omega⟩
  refine hdD Tryz.func47 Tryz.ntmps47 (res := [.cell 2 89]) fun w0 K0 B => ?_
  repeat' first | refine zd ?_ | refine zc ?_ | ((first | refine regA ?_ | ((refine ⟨_, zsy hc rfl zsB, ?_⟩); (rintro _ _ ⟨⟨n1, V1, C1, b1, rfl, ok1⟩, rfl⟩)) | fail); conv => whnf) | fail
  have hst1 := hst n1 V1 C1 b1 ok1
  clear hst ok1 hc hop h
  refine zJ (fun x : Nat × Nat × List Bs8 × List FNode × Bool => [(1, .x (.b 1 0)), (2, .x (.b 2 0))]) (fun x => [(2, .box rd0), (1, .box (rdC l x.2.1 x.2.2.1 x.2.2.2.1 x.2.2.2.2))])
   (fun x => (x.2.2.2.2 = false ∧ x.1 ≤ k ∧ RInv 2000 ⟨l.drop x.2.1, x.2.2.1, x.2.2.2.1⟩ ∧ dst x.2.2.1 ∧ sumT x.1 ⟨l.drop x.2.1, x.2.2.1, x.2.2.2.1⟩ = some r) ∨ (x.2.2.2.2 = true ∧ ∃ a t, r = .error a ∧ l[x.2.1]? = some (a, t) ∧ x.2.2.1.length ≤ 2000 + (k + 1) ∧ x.2.2.2.1.length ≤ 2000 + (k + 1)))
   (fun x => if x.2.2.2.2 then 0 else x.1 + 1) (k, n1, V1, C1, b1) (hst1.imp (fun ⟨a, b, c, d⟩ => ⟨a, Nat.le_refl _, b, c, d⟩) id) impA ?_
  clear hst1
  rintro ⟨k', n, V, C, b⟩ hI
  dsimp only at hI ⊢
  rcases hI with ⟨rfl, hk', hi, hd, hT⟩ | ⟨rfl, a, t, rfl, hl, hV, hC⟩
  ·cases k' with
   | zero => rw [sumT] at hT; cases hT
   | succ k' =>
    obtain ⟨a, t, rest, ht, _⟩ := hi.cons
    dsimp only at ht
    obtain ⟨hl, hrest⟩ := zsF ht
    have gt := zsD hl
    rw [sumT] at hT
    dsimp only at hT
    rw [ht] at hT
    dsimp only at hT
    have hnl := zsA hi
    by_cases h42 : t = [43] ∨ t = [45]
    ·rw [if_pos h42] at hT
     obtain ⟨hi1, hc1, hv1⟩ := hi.next ht (by rcases h42 with rfl | rfl <;> simp)
     rw [hrest] at hT hi1 hc1 hv1
     cases hop2 : zaY k' ⟨l.drop (n + 1), V, C⟩ with
     | none => rw [hop2] at hT; cases hT
     | some r2 =>
      have hc2 := ho (n + 1) V C r2 (zsA hi1) hi1 hd (zhs (by omega) hop2)
      have hnx : ∀ n2 V2 C2 b2, OkR l (2000 + k) r2 n2 V2 C2 b2 → C2.length ≤ 2000 + k ∧ n2 < l.length ∧
        ((b2 = false ∧ k' ≤ k ∧ RInv 2000 ⟨l.drop n2, V2, C2 ++ [opN (if t = [45] then 4 else 3)]⟩ ∧ dst V2 ∧ sumT k' ⟨l.drop n2, V2, C2 ++ [opN (if t = [45] then 4 else 3)]⟩ = some r) ∨ (b2 = true ∧ ∃ a' t', r = .error a' ∧ l[n2]? = some (a', t') ∧ V2.length ≤ 2000 + (k + 1) ∧ (C2 ++ [opN (if t = [45] then 4 else 3)]).length ≤ 2000 + (k + 1))) := by
       rintro n2 V2 C2 b2 (⟨rfl, rfl, hn2⟩ | ⟨rfl, a2, t2, rfl, h1, h2, h3⟩)
       ·rw [hop2] at hT
        obtain ⟨⟨j1, j2, j3, j4⟩, hm⟩ := (zdn 2000 k').2.1 _ _ hi1 hop2
        dsimp only at j1 j2 j3 j4 hm
        refine ⟨by omega, hn2, .inl ⟨rfl, by omega, ⟨j1, j2, by dsimp only; rw [List.length_append]; dsimp only [List.length_cons, List.length_nil]; omega, j4⟩, (zsK k').2.1 _ _ hd hop2, hT⟩⟩
       ·rw [hop2] at hT
        cases hT
        have hn2 : n2 < l.length := (List.getElem?_eq_some_iff.1 h1).1
        exact ⟨h3, hn2, .inr ⟨rfl, a2, t2, rfl, h1, by omega, by rw [List.length_append]; dsimp only [List.length_cons, List.length_nil]; omega⟩⟩
      have q1 : ((bs t).toList == (ByteArray.mk #[43]).toList) = decide (t = [43]) := zdf t [43]
      have q2 : ((bs t).toList == (ByteArray.mk #[45]).toList) = decide (t = [45]) := zdf t [45]
      have hct : (bif !false then (bif ((bs t).toList == (ByteArray.mk #[43]).toList) then true else ((bs t).toList == (ByteArray.mk #[45]).toList)) else false) = true := by
       rw [q1, q2]
       rcases h42 with h | h
       ·rw [decide_eq_true h]; rfl
       ·rw [decide_eq_true h]; cases decide (t = [43]) <;> rfl
      clear hi hi1 hT
      by_cases h45 : t = [45]
      ·have h45q : ((bs t).toList == (ByteArray.mk #[45]).toList) = true := by rw [q2]; exact decide_eq_true h45
       simp only [if_pos h45] at hnx
       repeat' first | refine zd ?_ | refine zc ?_ | ((first | refine zf ?_ | refine regA ?_ | fail); conv => whnf) | (refine za rfl (fun _ => ?_) (zaf hct)) | ((first | refine ⟨_, ze gt, ?_⟩ | ((refine ⟨_, zsy hc2 rfl zsB, ?_⟩); (rintro _ _ ⟨⟨n2, V2, C2, b2, rfl, ok2⟩, rfl⟩); obtain ⟨hC2, hn2, hI2⟩ := hnx n2 V2 C2 b2 ok2) | refine pkA ?_ | fail); conv => whnf) | (refine za rfl (fun _ => ?_) (zaf h45q)) | ((first | refine zsq ?_ | refine andA ?_ | fail); conv => whnf) | ((refine And.intro (by refine ⟨?_, ?_, ?_⟩ <;> simp [zO, maxLen] <;> omega) ?_); conv => whnf) | fail
       exact ⟨(k', n2, V2, C2 ++ [opN 4], b2), hI2, by show (if b2 then 0 else k' + 1) < k' + 1 + 1; split <;> omega, Imp.freezeB 43 rfl ⟨⟨_, rfl, .inl rfl⟩, ⟨_, rfl, .inl rfl⟩, trivial⟩ ⟨⟨_, rfl, .inl rfl⟩, ⟨_, rfl, .inr ⟨_, _, rfl, rfl, .inl rfl, .inl rfl, .inl rfl, .inr ⟨_, rfl, zht rfl, congrArg SV.d zsI⟩, .inl rfl, trivial⟩⟩, trivial⟩ rfl rfl⟩
      ·have h45q : ((bs t).toList == (ByteArray.mk #[45]).toList) = false := by rw [q2]; exact decide_eq_false h45
       simp only [if_neg h45] at hnx
       repeat' first | refine zd ?_ | refine zc ?_ | ((first | refine zf ?_ | refine regA ?_ | fail); conv => whnf) | (refine za rfl (fun _ => ?_) (zaf hct)) | ((first | refine ⟨_, ze gt, ?_⟩ | ((refine ⟨_, zsy hc2 rfl zsB, ?_⟩); (rintro _ _ ⟨⟨n2, V2, C2, b2, rfl, ok2⟩, rfl⟩); obtain ⟨hC2, hn2, hI2⟩ := hnx n2 V2 C2 b2 ok2) | refine pkA ?_ | fail); conv => whnf) | (refine za rfl (zM h45q) (fun _ => ?_)) | ((first | refine zsq ?_ | refine andA ?_ | fail); conv => whnf) | ((refine And.intro (by refine ⟨?_, ?_, ?_⟩ <;> simp [zO, maxLen] <;> omega) ?_); conv => whnf) | fail
       exact ⟨(k', n2, V2, C2 ++ [opN 3], b2), hI2, by show (if b2 then 0 else k' + 1) < k' + 1 + 1; split <;> omega, Imp.freezeB 43 rfl ⟨⟨_, rfl, .inl rfl⟩, ⟨_, rfl, .inl rfl⟩, trivial⟩ ⟨⟨_, rfl, .inl rfl⟩, ⟨_, rfl, .inr ⟨_, _, rfl, rfl, .inl rfl, .inl rfl, .inl rfl, .inr ⟨_, rfl, zht rfl, congrArg SV.d zsI⟩, .inl rfl, trivial⟩⟩, trivial⟩ rfl rfl⟩
    ·rw [if_neg h42] at hT
     cases hT
     have q1 : ((bs t).toList == (ByteArray.mk #[43]).toList) = decide (t = [43]) := zdf t [43]
     have q2 : ((bs t).toList == (ByteArray.mk #[45]).toList) = decide (t = [45]) := zdf t [45]
     have hcf : (bif !false then (bif ((bs t).toList == (ByteArray.mk #[43]).toList) then true else ((bs t).toList == (ByteArray.mk #[45]).toList)) else false) = false := by
      rw [q1, q2, decide_eq_false (fun h => h42 (.inl h)), decide_eq_false (fun h => h42 (.inr h))]; rfl
     clear hi
     repeat' first | refine zd ?_ | ((first | refine zk ?_ | refine zi ?_ | refine regA ?_ | fail); conv => whnf) | (refine za rfl (zM hcf) (fun _ => ?_)) | ((first | refine ⟨_, ze gt, ?_⟩ | refine pkA ?_ | refine andA ?_ | fail); conv => whnf) | fail
     exact ⟨_, [], trivial, rfl, rfl, ⟨n, V, C, false, rfl, .inl ⟨rfl, by rw [← ht], hnl⟩⟩, rfl⟩
  ·have gt := zsD hl
   have hcf : (bif !true then (bif ((bs t).toList == (ByteArray.mk #[43]).toList) then true else ((bs t).toList == (ByteArray.mk #[45]).toList)) else false) = false := rfl
   repeat' first | refine zd ?_ | ((first | refine zk ?_ | refine zi ?_ | refine regA ?_ | fail); conv => whnf) | (refine za rfl (zM hcf) (fun _ => ?_)) | ((first | refine ⟨_, ze gt, ?_⟩ | refine pkA ?_ | refine andA ?_ | fail); conv => whnf) | fail
   exact ⟨_, [], trivial, rfl, rfl, ⟨n, V, C, true, rfl, .inr ⟨rfl, a, t, rfl, hl, hV, hC⟩⟩, rfl⟩
end Go.Proofs.YtmceekhgnfpamaaGreatDoor
namespace Go.Proofs.YtmceekhgnfpamaaGreatDoor
open Go Go.QL FoT
set_option maxHeartbeats 6400000
attribute [local irreducible] ACall FnC
theorem zsE {C : List FNode} {x : FNode} : zS (C ++ [x]) = .s 4 (((C.map ndPV).take (C.map ndPV).length ++ [ndPV x]).take ((C.map ndPV).length + 1)) := by
 rw [zdo rfl]
 unfold zS
 rw [List.map_append]; rfl
theorem zsL {V : List Bs8} {t : Bs8} : zac (V ++ [t]) = .s 1 (((V.map zaa).take (V.map zaa).length ++ [zaa t]).take ((V.map zaa).length + 1)) := by
 rw [zdo rfl]
 unfold zac
 rw [List.map_append]; rfl
theorem zs5 {l : Toks} {k : Nat} (hL : l.length ≤ 2000) (hk : k ≤ 10000) (hs : CtR 47 sumM l k) : CtR 149 opM l (k + 1) := by
 intro n V C r hn hi hd h
 obtain ⟨a, t, rest, ht, htl⟩ := hi.cons
 dsimp only at ht
 obtain ⟨hl, hrest⟩ := zsF ht
 have gt := zsD hl
 have hVC : V.length ≤ 2000 ∧ C.length ≤ 2000 := by
  obtain ⟨_, _, h1, h2⟩ := hi
  dsimp only at h1 h2
  omega
 rw [opM] at h
 dsimp only at h
 rw [ht] at h
 dsimp only at h
 by_cases h40 : t = [40]
 ·rw [if_pos h40] at h
  obtain ⟨hi1, hc1, hv1⟩ := hi.next ht (by rw [h40]; simp)
  rw [hrest] at h hi1
  have hq : ((bs t).toList == (ByteArray.mk #[40]).toList) = true := (zdf t [40]).trans (decide_eq_true h40)
  cases hsm : sumM k ⟨l.drop (n + 1), V, C⟩ with
  | none => rw [hsm] at h; cases h
  | some r1 =>
   have hc := hs (n + 1) V C r1 (zsA hi1) hi1 hd hsm
   rw [hsm] at h
   refine hdD Tryz.func149 Tryz.ntmps149 (res := [.cell 2 89]) fun w0 K0 B => ?_
   repeat' first | refine zd ?_ | ((refine regA ?_); conv => whnf) | (refine za rfl (fun _ => ?_) (zaf hq)) | ((first | refine ⟨_, ze gt, ?_⟩ | refine zsq ?_ | refine andA ?_ | fail); conv => whnf) | fail
   refine ⟨_, zsy hc rfl zsB, ?_⟩
   rintro _ _ ⟨⟨n1, V1, C1, b1, rfl, ok1⟩, rfl⟩
   conv => whnf
   rcases ok1 with ⟨rfl, rfl, hn1⟩ | ⟨rfl, a1, t1, rfl, hl1, hV1, hC1⟩
   ·obtain ⟨hi2, _⟩ := (zdn 2000 k).2.2.2.1 _ _ hi1 hsm
    obtain ⟨a1, t1, rest1, ht1, _⟩ := hi2.cons
    dsimp only at ht1 h
    obtain ⟨hl1, hrest1⟩ := zsF ht1
    have gt1 := zsD hl1
    rw [ht1] at h
    dsimp only at h
    have hVC1 : V1.length ≤ 2000 ∧ C1.length ≤ 2000 := by
     obtain ⟨_, _, h1, h2⟩ := hi2
     dsimp only at h1 h2
     omega
    have q1 : ((bs t1).toList == (ByteArray.mk #[41]).toList) = decide (t1 = [41]) := zdf t1 [41]
    by_cases h41 : t1 = [41]
    ·rw [if_pos h41] at h
     cases h
     have hct : (bif !false then ((bs t1).toList == (ByteArray.mk #[41]).toList) else false) = true := by rw [q1, decide_eq_true h41]; rfl
     have hn2 := zsA (by have := (hi2.next ht1 (by rw [h41]; simp)).1; rw [hrest1] at this; exact this)
     clear hi hi1 hi2 hs hc
     repeat' first | refine zd ?_ | ((first | refine zi ?_ | refine regA ?_ | fail); conv => whnf) | (refine za rfl (fun _ => ?_) (zaf hct)) | ((first | refine ⟨_, ze gt1, ?_⟩ | refine pkA ?_ | refine zsq ?_ | refine andA ?_ | fail); conv => whnf) | fail
     exact ⟨_, [], trivial, rfl, rfl, ⟨n1 + 1, V1, C1, false, rfl, .inl ⟨rfl, by rw [hrest1], hn2⟩⟩, rfl⟩
    ·rw [if_neg h41] at h
     cases h
     have hcf : (bif !false then ((bs t1).toList == (ByteArray.mk #[41]).toList) else false) = false := by rw [q1, decide_eq_false h41]; rfl
     clear hi hi1 hi2 hs hc
     repeat' first | refine zd ?_ | ((first | refine zf ?_ | refine zi ?_ | refine regA ?_ | fail); conv => whnf) | (refine za rfl (zM hcf) (fun _ => ?_)) | ((first | refine ⟨_, ze gt1, ?_⟩ | refine pkA ?_ | refine andA ?_ | fail); conv => whnf) | fail
     exact ⟨_, [], trivial, rfl, rfl, ⟨n1, V1, C1, true, rfl, .inr ⟨rfl, a1, t1, rfl, hl1, by omega, by omega⟩⟩, rfl⟩
   ·cases h
    have gt1 := zsD hl1
    have hcf : (bif !true then ((bs t1).toList == (ByteArray.mk #[41]).toList) else false) = false := rfl
    clear hi hi1 hs hc
    repeat' first | refine zd ?_ | ((first | refine zf ?_ | refine zi ?_ | refine regA ?_ | fail); conv => whnf) | (refine za rfl (zM hcf) (fun _ => ?_)) | ((first | refine ⟨_, ze gt1, ?_⟩ | refine pkA ?_ | refine andA ?_ | fail); conv => whnf) | fail
    exact ⟨_, [], trivial, rfl, rfl, ⟨n1, V1, C1, true, rfl, .inr ⟨rfl, a1, t1, rfl, hl1, by omega, by omega⟩⟩, rfl⟩
 ·rw [if_neg h40] at h
  have hq : ((bs t).toList == (ByteArray.mk #[40]).toList) = false := (zdf t [40]).trans (decide_eq_false h40)
  have rc := ztf t htl
  have rn := znv t
  have rok := zsZ t
  cases hlm : zen V t with
  | none =>
   rw [hlm] at h
   cases h
   unfold zen at hlm
   cases hnm : zbb t with
   | true =>
    rw [hnm, if_pos rfl] at hlm
    split at hlm <;> cases hlm
   | false =>
    rw [hnm, if_neg (by decide)] at hlm
    have hcn : (zsx t).2 = false := by
     cases hc2 : (zsx t).2 with
     | false => rfl
     | true => rw [hc2, if_pos rfl] at rok; rw [rok] at hlm; cases hlm
    rw [hcn] at rc
    rw [hnm] at rn
    clear hi hs
    refine hdD Tryz.func149 Tryz.ntmps149 (res := [.cell 2 89]) fun w0 K0 B => ?_
    repeat' first | refine zd ?_ | ((first | refine zf ?_ | refine zi ?_ | refine regA ?_ | fail); conv => whnf) | (refine za rfl (zM hq) (fun _ => ?_)) | ((first | refine ⟨_, ze gt, ?_⟩ | refine zsn (rc) ?_ | refine zsn (rn) ?_ | refine pkA ?_ | fail); conv => whnf) | (refine zst rfl ?_) | (refine zss rfl ?_) | ((refine andA ?_); conv => whnf) | fail
    exact ⟨_, [], trivial, rfl, rfl, ⟨n, V, C, true, rfl, .inr ⟨rfl, a, t, rfl, hl, by omega, by omega⟩⟩, rfl⟩
  | some p =>
   obtain ⟨nd, vs⟩ := p
   rw [hlm] at h
   cases h
   obtain ⟨hi1, hc1, hv1⟩ := hi.next ht (by rintro rfl; rw [znV] at hlm; cases hlm)
   rw [hrest] at hi1
   have hn1 := zsA hi1
   clear hi hi1 hs
   unfold zen at hlm
   cases hnm : zbb t with
   | true =>
    rw [hnm, if_pos rfl] at hlm
    rw [hnm] at rn
    have hlv : (V.map zaa).length = V.length := List.length_map _
    generalize zsx t = cm at rc
    refine hdD Tryz.func149 Tryz.ntmps149 (res := [.cell 2 89]) fun w0 K0 B => ?_
    repeat' first | refine zd ?_ | refine zc ?_ | ((first | refine zf ?_ | refine regA ?_ | fail); conv => whnf) | (refine za rfl (zM hq) (fun _ => ?_)) | ((first | refine ⟨_, ze gt, ?_⟩ | refine zsn (rc) ?_ | refine zsn (rn) ?_ | refine pkA ?_ | fail); conv => whnf) | (refine zst rfl ?_) | ((refine andA ?_); conv => whnf) | (refine lnA fun hln => ?_; conv => whnf) | fail
    refine zJ (fun x : Nat × Int => [(6, iv .i64 x.1), (5, bv true), (4, .x (.b 4 0)), (3, .x (.b 3 0)), (2, .x (.b 2 0)), (1, .x (.b 1 0))])
     (fun x => [(4, .box [.d (.v (.int .i64 1)), .d (.v (.int .i64 x.2)), .d (.v (.int .i64 0)), .d (.v (.int .i64 0))]), (3, .box [.d (.v (.int .i64 a)), .d (.v (.string (bs t)))]), (2, .box rd0), (1, .box (rdC l n V C false))])
     (fun x => x.1 ≤ V.length ∧ (((∀ m (hm : m < V.length), m < x.1 → V[m] ≠ t) ∧ x.2 = V.length) ∨ ∃ m, ∃ hm : m < V.length, m < x.1 ∧ V[m] = t ∧ x.2 = m)) (fun x => V.length - x.1) (0, V.length) ⟨Nat.zero_le _, .inl ⟨fun m _ h => absurd h (Nat.not_lt_zero m), rfl⟩⟩ (impX (by repeat' (first | exact trivial | refine And.intro ?_ ?_ | exact congrArg (fun k : Nat => some (Ob.box [.d (.v (.int .i64 1)), .d (.v (.int .i64 k)), .d (.v (.int .i64 0)), .d (.v (.int .i64 0))])) hlv | exact zsw))) ?_
    rintro ⟨j, vr⟩ ⟨hj, hI⟩
    dsimp only at hj hI ⊢
    rcases Nat.lt_or_ge j V.length with hjl | hjl
    ·have gj := zjW hjl
     have qj : ((bs V[j]).toList == (bs t).toList) = decide (V[j] = t) := zdf _ _
     by_cases he : V[j] = t
     ·rw [decide_eq_true he] at qj
      repeat' first | refine zd ?_ | refine zc ?_ | ((first | refine zf ?_ | refine zk ?_ | refine regA ?_ | refine drA (id := 16) 8 false [0, 1, 3, 0, 15, 31, 0, 64, 255] ?_ | fail); conv => whnf) | exact abA hb | (refine za rfl (fun _ => ?_) (zaf qj)) | ((first | refine ⟨_, ze ⟨by omega, gj⟩, ?_⟩ | refine pkA ?_ | fail); conv => whnf) | (refine zso rfl (fun hb => ?_) (fun hb => ?_)) | ((first | refine zsq ?_ | refine andA ?_ | fail); conv => whnf) | (refine lnA fun hln => ?_; conv => whnf) | fail
      exact ⟨(j + 1, j), ⟨by show j + 1 ≤ V.length; omega, .inr ⟨j, hjl, by show j < j + 1; omega, he, rfl⟩⟩, by show V.length - (j + 1) < V.length - j; omega, impA⟩
     ·rw [decide_eq_false he] at qj
      repeat' first | refine zd ?_ | refine zc ?_ | ((first | refine zf ?_ | refine zk ?_ | refine regA ?_ | refine drA (id := 16) 8 false [0, 1, 3, 0, 15, 31, 0, 64, 255] ?_ | fail); conv => whnf) | exact abA hb | (refine za rfl (zM qj) (fun _ => ?_)) | ((first | refine ⟨_, ze ⟨by omega, gj⟩, ?_⟩ | refine pkA ?_ | fail); conv => whnf) | (refine zso rfl (fun hb => ?_) (fun hb => ?_)) | ((first | refine zsq ?_ | refine andA ?_ | fail); conv => whnf) | (refine lnA fun hln => ?_; conv => whnf) | fail
      exact ⟨(j + 1, vr), ⟨by show j + 1 ≤ V.length; omega, hI.imp (fun ⟨h1, h2⟩ => ⟨fun m hm hmj => by
       have hmj : m < j + 1 := hmj
       rcases Nat.lt_or_ge m j with h | h
       ·exact h1 m hm h
       ·obtain rfl : m = j := by omega
        exact he, h2⟩) (fun ⟨m, hm, h1, h2, h3⟩ => ⟨m, hm, by show m < j + 1; omega, h2, h3⟩)⟩, by show V.length - (j + 1) < V.length - j; omega, impA⟩
    ·obtain rfl : j = V.length := by omega
     rcases hI with ⟨h1, rfl⟩ | ⟨m, hm, _, h2, rfl⟩
     ·have hnone : idxB V t 0 = none := ziv V 0 fun hmem => by
       obtain ⟨m, hm, e⟩ := List.getElem_of_mem hmem
       exact h1 m hm hm e
      rw [hnone] at hlm
      cases hlm
      have hct : ((V.length : Int) == ((V.map zaa).length : Int)) = true := by rw [hlv]; exact beq_self_eq_true _
      clear h1 rc rn rok hnone hd
      rcases Nat.eq_zero_or_pos V.length with hV0 | hV0
      ·obtain rfl := List.eq_nil_of_length_eq_zero hV0
       rcases Nat.eq_zero_or_pos C.length with hC0 | hC0
       ·obtain rfl := List.eq_nil_of_length_eq_zero hC0
        repeat' first | refine zd ?_ | ((first | refine zf ?_ | refine zk ?_ | refine zi ?_ | refine regA ?_ | refine drA (id := 19) 8 true [0, 0, 2, 6, 15, 0, 32, 96, 255, 511, 1023, 2047] ?_ | refine drA (id := 23) 7 true [0, 0, 2, 6, 15, 0, 32, 127, 255, 511, 1023] ?_ | refine Or.inl (And.intro rfl ?_) | fail); conv => whnf) | (refine za rfl (fun _ => ?_) (zaf hct)) | ((refine pkA ?_); conv => whnf) | (refine zss rfl ?_) | ((first | refine zsq ?_ | refine andA ?_ | fail); conv => whnf) | (refine lnA fun hln => ?_; conv => whnf) | fail
        exact ⟨_, [], trivial, rfl, rfl, ⟨n + 1, ([] ++ [t]), [] ++ [⟨1, ([] : List Bs8).length, 0, 0⟩], false, rfl, .inl ⟨rfl, by rw [hrest], hn1⟩⟩, rfl⟩
       ·repeat' first | ((refine zaq (Imp.freezeB 101 (fr' := [(2, .x (.b 2 0)), (1, .x (.b 1 0))]) (σ' := [(2, .box rd0), (1, .box (rdC l n ([] ++ [t]) (C ++ [⟨1, ([] : List Bs8).length, 0, 0⟩]) false))]) rfl ⟨⟨_, rfl, .inl rfl⟩, ⟨_, rfl, .inl rfl⟩, trivial⟩ ⟨⟨_, rfl, .inl rfl⟩, ⟨_, rfl, .inr ⟨_, _, rfl, rfl, .inl rfl, .inl rfl, .inl rfl, .inr ⟨_, rfl, zeh rfl, congrArg SV.d zsE⟩, .inl rfl, trivial⟩⟩, trivial⟩ rfl rfl) (zb (id := 24) hTt ?_)); conv => whnf) | refine zd ?_ | ((first | refine zf ?_ | refine zk ?_ | refine zi ?_ | refine regA ?_ | refine drA (id := 19) 8 true [0, 0, 2, 6, 15, 0, 32, 96, 255, 511, 1023, 2047] ?_ | refine drA (id := 23) 7 true [0, 0, 2, 6, 15, 0, 32, 127, 255, 511, 1023] ?_ | refine Or.inl (And.intro rfl ?_) | fail); conv => whnf) | ((refine Or.inr (And.intro (by rw [List.length_map]; omega) (And.intro (by rw [List.length_map]; refine ⟨?_, ?_⟩ <;> simp [maxLen] <;> omega) ?_))); conv => whnf) | (refine za rfl (fun _ => ?_) (zaf hct)) | ((refine pkA ?_); conv => whnf) | (refine zss rfl ?_) | ((first | refine zsq ?_ | refine andA ?_ | fail); conv => whnf) | ((refine And.intro (by refine ⟨?_, ?_, ?_⟩ <;> simp [zO, maxLen] <;> omega) ?_); conv => whnf) | (refine lnA fun hln => ?_; conv => whnf) | fail
        exact ⟨_, [], trivial, rfl, rfl, ⟨n + 1, ([] ++ [t]), C ++ [⟨1, ([] : List Bs8).length, 0, 0⟩], false, rfl, .inl ⟨rfl, by rw [hrest], hn1⟩⟩, rfl⟩
      ·skip
       rcases Nat.eq_zero_or_pos C.length with hC0 | hC0
       ·obtain rfl := List.eq_nil_of_length_eq_zero hC0
        repeat' first | ((refine zaq (Imp.freezeB 86 (fr' := [(5, bv true), (4, .x (.b 4 0)), (2, .x (.b 2 0)), (1, .x (.b 1 0))]) (σ' := [(4, .box [.d (.v (.int .i64 1)), .d (.v (.int .i64 V.length)), .d (.v (.int .i64 0)), .d (.v (.int .i64 0))]), (2, .box rd0), (1, .box (rdC l n (V ++ [t]) [] false))]) rfl ⟨⟨_, rfl, .inl rfl⟩, ⟨_, rfl, .inl rfl⟩, ⟨_, rfl, .inl rfl⟩, ⟨_, rfl, .inl rfl⟩, trivial⟩ ⟨⟨_, rfl, .inl rfl⟩, ⟨_, rfl, .inl rfl⟩, ⟨_, rfl, .inr ⟨_, _, rfl, rfl, .inl rfl, .inl rfl, .inr ⟨_, rfl, zeh rfl, congrArg SV.d zsL⟩, .inl rfl, .inl rfl, trivial⟩⟩, trivial⟩ rfl rfl) (zb (id := 20) hTt ?_)); conv => whnf) | refine zd ?_ | refine zc ?_ | ((first | refine zf ?_ | refine zk ?_ | refine zi ?_ | refine regA ?_ | refine drA (id := 16) 8 false [0, 1, 3, 0, 15, 31, 0, 64, 255] ?_ | refine drA (id := 19) 8 true [0, 0, 2, 6, 15, 0, 32, 96, 255, 511, 1023, 2047] ?_ | refine drA (id := 23) 7 true [0, 0, 2, 6, 15, 0, 32, 127, 255, 511, 1023] ?_ | refine Or.inl (And.intro rfl ?_) | fail); conv => whnf) | ((refine Or.inr (And.intro (by rw [List.length_map]; omega) (And.intro (by rw [List.length_map]; refine ⟨?_, ?_⟩ <;> simp [maxLen] <;> omega) ?_))); conv => whnf) | exact abA hb | (refine za rfl (fun _ => ?_) (zaf hct)) | ((refine pkA ?_); conv => whnf) | (refine zss rfl ?_) | (refine zso rfl (fun hb => ?_) (fun hb => ?_)) | ((first | refine zsq ?_ | refine andA ?_ | fail); conv => whnf) | ((refine And.intro (by refine ⟨?_, ?_, ?_⟩ <;> simp [zO, maxLen] <;> omega) ?_); conv => whnf) | (refine lnA fun hln => ?_; conv => whnf) | fail
        exact ⟨_, [], trivial, rfl, rfl, ⟨n + 1, (V ++ [t]), [] ++ [⟨1, V.length, 0, 0⟩], false, rfl, .inl ⟨rfl, by rw [hrest], hn1⟩⟩, rfl⟩
       ·repeat' first | ((first | refine zaq (Imp.freezeB 86 (fr' := [(5, bv true), (4, .x (.b 4 0)), (2, .x (.b 2 0)), (1, .x (.b 1 0))]) (σ' := [(4, .box [.d (.v (.int .i64 1)), .d (.v (.int .i64 V.length)), .d (.v (.int .i64 0)), .d (.v (.int .i64 0))]), (2, .box rd0), (1, .box (rdC l n (V ++ [t]) C false))]) rfl ⟨⟨_, rfl, .inl rfl⟩, ⟨_, rfl, .inl rfl⟩, ⟨_, rfl, .inl rfl⟩, ⟨_, rfl, .inl rfl⟩, trivial⟩ ⟨⟨_, rfl, .inl rfl⟩, ⟨_, rfl, .inl rfl⟩, ⟨_, rfl, .inr ⟨_, _, rfl, rfl, .inl rfl, .inl rfl, .inr ⟨_, rfl, zeh rfl, congrArg SV.d zsL⟩, .inl rfl, .inl rfl, trivial⟩⟩, trivial⟩ rfl rfl) (zb (id := 20) hTt ?_) | refine zaq (Imp.freezeB 101 (fr' := [(2, .x (.b 2 0)), (1, .x (.b 1 0))]) (σ' := [(2, .box rd0), (1, .box (rdC l n (V ++ [t]) (C ++ [⟨1, V.length, 0, 0⟩]) false))]) rfl ⟨⟨_, rfl, .inl rfl⟩, ⟨_, rfl, .inl rfl⟩, trivial⟩ ⟨⟨_, rfl, .inl rfl⟩, ⟨_, rfl, .inr ⟨_, _, rfl, rfl, .inl rfl, .inl rfl, .inl rfl, .inr ⟨_, rfl, zeh rfl, congrArg SV.d zsE⟩, .inl rfl, trivial⟩⟩, trivial⟩ rfl rfl) (zb (id := 24) hTt ?_) | fail); conv => whnf) | refine zd ?_ | refine zc ?_ | ((first | refine zf ?_ | refine zk ?_ | refine zi ?_ | refine regA ?_ | refine drA (id := 16) 8 false [0, 1, 3, 0, 15, 31, 0, 64, 255] ?_ | refine drA (id := 19) 8 true [0, 0, 2, 6, 15, 0, 32, 96, 255, 511, 1023, 2047] ?_ | refine drA (id := 23) 7 true [0, 0, 2, 6, 15, 0, 32, 127, 255, 511, 1023] ?_ | fail); conv => whnf) | ((refine Or.inr (And.intro (by rw [List.length_map]; omega) (And.intro (by rw [List.length_map]; refine ⟨?_, ?_⟩ <;> simp [maxLen] <;> omega) ?_))); conv => whnf) | exact abA hb | (refine za rfl (fun _ => ?_) (zaf hct)) | ((refine pkA ?_); conv => whnf) | (refine zss rfl ?_) | (refine zso rfl (fun hb => ?_) (fun hb => ?_)) | ((first | refine zsq ?_ | refine andA ?_ | fail); conv => whnf) | ((refine And.intro (by refine ⟨?_, ?_, ?_⟩ <;> simp [zO, maxLen] <;> omega) ?_); conv => whnf) | (refine lnA fun hln => ?_; conv => whnf) | fail
        exact ⟨_, [], trivial, rfl, rfl, ⟨n + 1, (V ++ [t]), C ++ [⟨1, V.length, 0, 0⟩], false, rfl, .inl ⟨rfl, by rw [hrest], hn1⟩⟩, rfl⟩
     ·have hsome : idxB V t 0 = some m := by
       have := ziu V 0 m hm h2 (fun k' hk' e => hd k' m (by omega) hm hk' (e.trans h2.symm))
       rw [Nat.zero_add] at this; exact this
      rw [hsome] at hlm
      cases hlm
      have hcf : ((m : Int) == ((V.map zaa).length : Int)) = false := by rw [hlv, beq_eq_false_iff_ne]; omega
      clear rc rn rok hsome hd
      rcases Nat.eq_zero_or_pos C.length with hC0 | hC0
      ·obtain rfl := List.eq_nil_of_length_eq_zero hC0
       repeat' first | refine zd ?_ | refine zc ?_ | ((first | refine zf ?_ | refine zk ?_ | refine zi ?_ | refine regA ?_ | refine drA (id := 16) 8 false [0, 1, 3, 0, 15, 31, 0, 64, 255] ?_ | refine drA (id := 23) 7 true [0, 0, 2, 6, 15, 0, 32, 127, 255, 511, 1023] ?_ | refine Or.inl (And.intro rfl ?_) | fail); conv => whnf) | exact abA hb | (refine za rfl (zM hcf) (fun _ => ?_)) | ((refine pkA ?_); conv => whnf) | (refine zss rfl ?_) | (refine zso rfl (fun hb => ?_) (fun hb => ?_)) | ((first | refine zsq ?_ | refine andA ?_ | fail); conv => whnf) | (refine lnA fun hln => ?_; conv => whnf) | fail
       exact ⟨_, [], trivial, rfl, rfl, ⟨n + 1, V, [] ++ [⟨1, m, 0, 0⟩], false, rfl, .inl ⟨rfl, by rw [hrest], hn1⟩⟩, rfl⟩
      ·repeat' first | ((refine zaq (Imp.freezeB 101 (fr' := [(2, .x (.b 2 0)), (1, .x (.b 1 0))]) (σ' := [(2, .box rd0), (1, .box (rdC l n V (C ++ [⟨1, m, 0, 0⟩]) false))]) rfl ⟨⟨_, rfl, .inl rfl⟩, ⟨_, rfl, .inl rfl⟩, trivial⟩ ⟨⟨_, rfl, .inl rfl⟩, ⟨_, rfl, .inr ⟨_, _, rfl, rfl, .inl rfl, .inl rfl, .inl rfl, .inr ⟨_, rfl, zeh rfl, congrArg SV.d zsE⟩, .inl rfl, trivial⟩⟩, trivial⟩ rfl rfl) (zb (id := 24) hTt ?_)); conv => whnf) | refine zd ?_ | refine zc ?_ | ((first | refine zf ?_ | refine zk ?_ | refine zi ?_ | refine regA ?_ | refine drA (id := 16) 8 false [0, 1, 3, 0, 15, 31, 0, 64, 255] ?_ | refine drA (id := 23) 7 true [0, 0, 2, 6, 15, 0, 32, 127, 255, 511, 1023] ?_ | fail); conv => whnf) | ((refine Or.inr (And.intro (by rw [List.length_map]; omega) (And.intro (by rw [List.length_map]; refine ⟨?_, ?_⟩ <;> simp [maxLen] <;> omega) ?_))); conv => whnf) | exact abA hb | (refine za rfl (zM hcf) (fun _ => ?_)) | ((refine pkA ?_); conv => whnf) | (refine zss rfl ?_) | (refine zso rfl (fun hb => ?_) (fun hb => ?_)) | ((first | refine zsq ?_ | refine andA ?_ | fail); conv => whnf) | ((refine And.intro (by refine ⟨?_, ?_, ?_⟩ <;> simp [zO, maxLen] <;> omega) ?_); conv => whnf) | (refine lnA fun hln => ?_; conv => whnf) | fail
       exact ⟨_, [], trivial, rfl, rfl, ⟨n + 1, V, C ++ [⟨1, m, 0, 0⟩], false, rfl, .inl ⟨rfl, by rw [hrest], hn1⟩⟩, rfl⟩
   | false =>
    rw [hnm, if_neg (by decide)] at hlm
    rw [hnm] at rn
    cases hc2 : (zsx t).2 with
    | false => rw [hc2, if_neg (by decide)] at rok; rw [rok] at hlm; cases hlm
    | true =>
     rw [hc2, if_pos rfl] at rok
     rw [rok] at hlm
     cases hlm
     rw [hc2] at rc
     generalize (zsx t).1 = nd at *
     clear hd rok
     refine hdD Tryz.func149 Tryz.ntmps149 (res := [.cell 2 89]) fun w0 K0 B => ?_
     rcases Nat.eq_zero_or_pos C.length with hC0 | hC0
     ·obtain rfl := List.eq_nil_of_length_eq_zero hC0
      repeat' first | refine zd ?_ | ((first | refine zf ?_ | refine zi ?_ | refine regA ?_ | refine drA (id := 23) 7 true [0, 0, 2, 6, 15, 0, 32, 127, 255, 511, 1023] ?_ | refine Or.inl (And.intro rfl ?_) | fail); conv => whnf) | (refine za rfl (zM hq) (fun _ => ?_)) | ((first | refine ⟨_, ze gt, ?_⟩ | refine zsn (rc) ?_ | refine zsn (rn) ?_ | refine pkA ?_ | fail); conv => whnf) | (refine zss rfl ?_) | ((first | refine zsq ?_ | refine andA ?_ | fail); conv => whnf) | fail
      exact ⟨_, [], trivial, rfl, rfl, ⟨n + 1, V, [] ++ [nd], false, rfl, .inl ⟨rfl, by rw [hrest], hn1⟩⟩, rfl⟩
     ·repeat' first | ((refine zaq (Imp.freezeB 101 (fr' := [(2, .x (.b 2 0)), (1, .x (.b 1 0))]) (σ' := [(2, .box rd0), (1, .box (rdC l n V (C ++ [nd]) false))]) rfl ⟨⟨_, rfl, .inl rfl⟩, ⟨_, rfl, .inl rfl⟩, trivial⟩ ⟨⟨_, rfl, .inl rfl⟩, ⟨_, rfl, .inr ⟨_, _, rfl, rfl, .inl rfl, .inl rfl, .inl rfl, .inr ⟨_, rfl, zeh rfl, congrArg SV.d zsE⟩, .inl rfl, trivial⟩⟩, trivial⟩ rfl rfl) (zb (id := 24) hTt ?_)); conv => whnf) | refine zd ?_ | ((first | refine zf ?_ | refine zi ?_ | refine regA ?_ | refine drA (id := 23) 7 true [0, 0, 2, 6, 15, 0, 32, 127, 255, 511, 1023] ?_ | fail); conv => whnf) | ((refine Or.inr (And.intro (by rw [List.length_map]; omega) (And.intro (by rw [List.length_map]; refine ⟨?_, ?_⟩ <;> simp [maxLen] <;> omega) ?_))); conv => whnf) | (refine za rfl (zM hq) (fun _ => ?_)) | ((first | refine ⟨_, ze gt, ?_⟩ | refine zsn (rc) ?_ | refine zsn (rn) ?_ | refine pkA ?_ | fail); conv => whnf) | (refine zss rfl ?_) | ((first | refine zsq ?_ | refine andA ?_ | fail); conv => whnf) | ((refine And.intro (by refine ⟨?_, ?_, ?_⟩ <;> simp [zO, maxLen] <;> omega) ?_); conv => whnf) | fail
      exact ⟨_, [], trivial, rfl, rfl, ⟨n + 1, V, C ++ [nd], false, rfl, .inl ⟨rfl, by rw [hrest], hn1⟩⟩, rfl⟩
end Go.Proofs.YtmceekhgnfpamaaGreatDoor
namespace Go.Proofs.YtmceekhgnfpamaaGreatDoor
open Go Go.QL FoT
set_option maxHeartbeats 3200000
attribute [local irreducible] ACall FnC zD
theorem zti {l : Toks} (hL : l.length ≤ 2000) : ∀ k, k ≤ 10000 → CtR 149 opM l k ∧ CtR 108 zaY l k ∧ CtR 47 sumM l k := by
 intro k
 induction k with
 | zero => exact fun _ => ⟨fun _ _ _ _ _ _ _ h => by simp [opM] at h, fun _ _ _ _ _ _ _ h => by simp [zaY] at h, fun _ _ _ _ _ _ _ h => by simp [sumM] at h⟩
 | succ k ih =>
  intro hk
  obtain ⟨h1, h2, h3⟩ := ih (by omega)
  exact ⟨zs5 hL (by omega) h3, zsS hL (by omega) h1, zsW hL (by omega) h2⟩
theorem zsU {P : Program} {f : FuncId} {args args' : List AV} {σ : Sg} {R : AV → Sg → Prop} (h : ACall P f args σ R) (ha : LeW2 args' args) : ACall P f args' σ R := by
 obtain ⟨e, hg⟩ := ha.get
 unfold ACall at h ⊢
 refine ⟨h.1, fun w0 K0 g w vs hL hp hs hv => h.2 w0 K0 g w vs hL hp (by omega) fun i y v hi hu => ?_⟩
 obtain ⟨x, h1, h2⟩ := hg i y hi
 have hx := hv i x v h1 hu
 cases x with
 | x s =>
  cases y with
  | x t => exact LeW.ok (x := .x s) (y := .x t) h2 hx
  | _ => exact h2.elim
 | a cs =>
  cases y with
  | a ds => exact LeW.ok (x := .a cs) (y := .a ds) h2 hx
  | _ => exact h2.elim
 | t _ => exact h2.elim
 | g _ _ => exact h2.elim
def RrF (s : Bs8) (r : AV) (σ' : Sg) : Prop := LeW r (.t [zaB (zbH s).1, iv .i64 (zbH s).2.1, iv .i64 (zbH s).2.2]) ∧ σ' = []
theorem zsR (s : Bs8) : ACall Tryz.prog 16 [sv (bs s)] [] (RrF s) := by
 unfold RrF
 have hsz := zbj s
 by_cases h6 : 600 < s.length
 ·have hr : zbH s = (zdw, 0, 3) := by unfold zbH; rw [if_pos h6]
  rw [hr]
  refine hdD Tryz.func16 Tryz.ntmps16 (res := [.cell 2 25, .tmp 3, .tmp 4]) fun w0 K0 B => ?_
  repeat' first | refine zd ?_ | ((first | refine zf ?_ | refine zi ?_ | refine regA ?_ | fail); conv => whnf) | exact abA hb | (refine zso rfl (fun hb => ?_) (fun hb => ?_)) | fail
  exact ⟨_, [], trivial, rfl, rfl, ⟨⟨.inr ⟨rfl, _, rfl⟩, .inr ⟨rfl, _, rfl⟩, trivial⟩, .inl rfl, .inl rfl, trivial⟩, rfl⟩
 ·have htk := ztd s (by omega)
  have hi := zqD (s := s) (by omega)
  have hcnt := zfk s 0 none
  simp only [curN] at hcnt
  have hpos : 0 < (FoT.tk 0 none s).length := by obtain ⟨⟨p, a, hp⟩, _⟩ := hi; dsimp only at hp; rw [hp]; simp
  generalize hl : FoT.tk 0 none s = l at htk hi hcnt hpos
  obtain ⟨r, hr, _⟩ := (zqB l.length).2.2.2.2 ⟨l, [], []⟩ rfl
  have hL : l.length ≤ 2000 := by omega
  have hc := (zti hL (4 * l.length + 3) (by omega)).2.2 0 [] [] r hpos hi (fun i j hi => by simp at hi) hr
  have hrf : ∀ n V C b, OkR l (2000 + (4 * l.length + 3)) r n V C b → zbH s = if b = true then (zdw, (((l.getD n (0, [])).1 : Nat) : Int), 6) else if n + 1 < l.length then (zdw, (((l.getD n (0, [])).1 : Nat) : Int), 6) else if zD ⟨V, C⟩ = 0 then (⟨V, C⟩, 0, 0) else (zdw, 0, 3) := by
   rintro n V C b (⟨rfl, rfl, hn⟩ | ⟨rfl, a, t, rfl, h1, h2, h3⟩)
   ·unfold zbH
    rw [if_neg h6, hl, hr]
    dsimp only
    rw [if_neg (show ¬ (false = true) from Bool.noConfusion)]
    have hd := List.drop_eq_getElem_cons hn
    by_cases hn1 : n + 1 < l.length
    ·rw [if_pos hn1, hd, List.drop_eq_getElem_cons hn1, List.getD_eq_getElem?_getD, List.getElem?_eq_getElem hn]
     rfl
    ·rw [if_neg hn1, hd, List.drop_eq_nil_of_le (by omega)]
   ·unfold zbH
    rw [if_neg h6, hl, hr, if_pos rfl, List.getD_eq_getElem?_getD, h1]
    rfl
  have hnl : ∀ n V C b, OkR l (2000 + (4 * l.length + 3)) r n V C b → n < l.length := by
   rintro n V C b (⟨rfl, rfl, hn⟩ | ⟨rfl, a, t, rfl, h1, h2, h3⟩)
   ·exact hn
   ·exact (List.getElem?_eq_some_iff.1 h1).1
  have hlt : (l.map zsz).length = l.length := List.length_map _
  refine hdD Tryz.func16 Tryz.ntmps16 (res := [.cell 2 25, .tmp 3, .tmp 4]) fun w0 K0 B => ?_
  repeat' first | refine zd ?_ | ((first | refine zf ?_ | refine zi ?_ | refine regA ?_ | fail); conv => whnf) | exact abA hb | ((refine zsn (htk) ?_); conv => whnf) | (refine zso rfl (fun hb => ?_) (fun hb => ?_)) | fail
  refine ⟨_, zsU (zsy hc rfl zsB) ⟨⟨.inl rfl, .inl rfl, .inr ⟨rfl, _, rfl⟩, .inr ⟨rfl, _, rfl⟩, .inl rfl, trivial⟩, trivial⟩, ?_⟩
  rintro _ _ ⟨⟨n, V, C, b, rfl, ok⟩, rfl⟩
  conv => whnf
  have hrf := hrf n V C b ok
  have hn := hnl n V C b ok
  clear hnl hc ok hi
  have gt : 0 ≤ (n : Int) ∧ (l.map zsz)[(n : Int).toNat]? = some (zsz (l.getD n (0, []))) := by
   have e : l[n]? = some (l.getD n (0, [])) := by rw [List.getD_eq_getElem?_getD, List.getElem?_eq_getElem hn]; rfl
   exact zsD e
  rw [hrf]
  generalize l.getD n (0, []) = p at *
  have ck := zh7 ⟨V, C⟩
  cases b with
  | true =>
   rw [if_pos rfl]
   have hct : (bif true then true else decide ((n : Int) + 1 < ((l.map zsz).length : Int))) = true := rfl
   repeat' first | refine zd ?_ | ((first | refine zi ?_ | refine regA ?_ | refine drM (id := 5) 8 [1, 2, 3, 4, 5, 6, 7] false [0, 0, 2, 0, 8, 30, 62, 126, 1, 511, 1023] ?_ | refine LateGo.mk ⟨.x .j, rfl, ?_⟩ | fail); conv => whnf) | (refine za rfl (fun _ => ?_) (zaf hct)) | ((first | refine pkA ?_ | refine ⟨_, ze gt, ?_⟩ | refine zsq ?_ | refine andA ?_ | fail); conv => whnf) | fail
   exact ⟨_, [], trivial, rfl, rfl, ⟨⟨.inr ⟨rfl, _, rfl⟩, .inr ⟨rfl, _, rfl⟩, trivial⟩, .inl rfl, .inl rfl, trivial⟩, rfl⟩
  | false =>
   rw [if_neg (by decide)]
   by_cases hn1 : n + 1 < l.length
   ·rw [if_pos hn1]
    have hct : (bif false then true else decide ((n : Int) + 1 < ((l.map zsz).length : Int))) = true := decide_eq_true (by rw [hlt]; omega)
    repeat' first | refine zd ?_ | ((first | refine zi ?_ | refine regA ?_ | refine drM (id := 5) 8 [1, 2, 3, 4, 5, 6, 7] false [0, 0, 2, 0, 8, 30, 62, 126, 1, 511, 1023] ?_ | refine LateGo.mk ⟨.x .j, rfl, ?_⟩ | fail); conv => whnf) | (refine za rfl (fun _ => ?_) (zaf hct)) | ((first | refine pkA ?_ | refine ⟨_, ze gt, ?_⟩ | refine zsq ?_ | refine andA ?_ | fail); conv => whnf) | fail
    exact ⟨_, [], trivial, rfl, rfl, ⟨⟨.inr ⟨rfl, _, rfl⟩, .inr ⟨rfl, _, rfl⟩, trivial⟩, .inl rfl, .inl rfl, trivial⟩, rfl⟩
   ·rw [if_neg hn1]
    have hcf : (bif false then true else decide ((n : Int) + 1 < ((l.map zsz).length : Int))) = false := decide_eq_false (by rw [hlt]; omega)
    by_cases hE : zD ⟨V, C⟩ = 0
    ·rw [if_pos hE]
     rw [hE] at ck
     repeat' first | refine zd ?_ | ((first | refine zf ?_ | refine zi ?_ | refine regA ?_ | fail); conv => whnf) | (refine za rfl (zM hcf) (fun _ => ?_)) | ((first | refine pkA ?_ | refine zsn (ck) ?_ | fail); conv => whnf) | (refine zss rfl ?_) | ((refine zsq ?_); conv => whnf) | fail
     exact ⟨_, [], trivial, rfl, rfl, ⟨⟨.inl rfl, .inl rfl, trivial⟩, .inl rfl, .inl rfl, trivial⟩, rfl⟩
    ·rw [if_neg hE]
     generalize zD ⟨V, C⟩ = e at *
     repeat' first | refine zd ?_ | ((first | refine zf ?_ | refine zi ?_ | refine regA ?_ | fail); conv => whnf) | exact abA hb | (refine za rfl (zM hcf) (fun _ => ?_)) | ((first | refine pkA ?_ | refine zsn (ck) ?_ | fail); conv => whnf) | (refine zso rfl (fun hb => ?_) (fun hb => ?_)) | ((refine zsq ?_); conv => whnf) | fail
     exact ⟨_, [], trivial, rfl, rfl, ⟨⟨.inr ⟨rfl, _, rfl⟩, .inr ⟨rfl, _, rfl⟩, trivial⟩, .inl rfl, .inl rfl, trivial⟩, rfl⟩
theorem zs4 (s : Bs8) : FnC Tryz.prog 16 [sv (bs s)] (.t [zaB (zbH s).1, iv .i64 (zbH s).2.1, iv .i64 (zbH s).2.2]) :=
 zfd ((zsR s).leW fun _ _ h => ⟨_, h.1, rfl, h.2⟩)
end Go.Proofs.YtmceekhgnfpamaaGreatDoor
namespace Go.Proofs.YtmceekhgnfpamaaGreatDoor
open Go Go.QL FoT
set_option maxHeartbeats 6400000
attribute [local irreducible] ACall FnC fine ten zav zD
abbrev Wr := Bs8 × Int
def wrPV (p : Wr) : List PV := [.v (.string (bs p.1)), .v (.int .i64 p.2)]
abbrev ztg (l : List Wr) : AV := .x (.d (.s 2 (l.map wrPV)))
def zsC (k : Int) : Nat := if k < 3 then 3 else if k = 5 then 2 else 1
def toP (p : Wr) : Part := (p.1, zsC p.2)
theorem zsG (p : Wr) (w : Nat) : (if (!decide (w ≤ zsC p.2)) = true then [40] ++ p.1 ++ [41] else p.1) = zae (toP p) w := by
 unfold zae toP
 dsimp only
 by_cases h : w ≤ zsC p.2
 ·rw [if_pos h, decide_eq_true h]; rfl
 ·rw [if_neg h, decide_eq_false h]; rfl
theorem sec3 (k : Int) (h : 1 ≤ k ∧ k ≤ 5) : (bif decide (k ≥ 3) then k != 5 else false) = !decide (2 ≤ zsC k) := by
 have : k = 1 ∨ k = 2 ∨ k = 3 ∨ k = 4 ∨ k = 5 := by omega
 rcases this with rfl | rfl | rfl | rfl | rfl <;> decide
theorem sec4 (k : Int) (h : 1 ≤ k ∧ k ≤ 5) : (bif decide (k ≥ 3) then k != 5 else false) = !decide (2 ≤ zsC k) := sec3 k h
theorem sec5 (k : Int) (h : 1 ≤ k ∧ k ≤ 5) : decide (k ≥ 3) = !decide (3 ≤ zsC k) := by
 have : k = 1 ∨ k = 2 ∨ k = 3 ∨ k = 4 ∨ k = 5 := by omega
 rcases this with rfl | rfl | rfl | rfl | rfl <;> decide
theorem fst3 (k : Int) (h : 1 ≤ k ∧ k ≤ 5) : false = !decide (1 ≤ zsC k) := by
 have : k = 1 ∨ k = 2 ∨ k = 3 ∨ k = 4 ∨ k = 5 := by omega
 rcases this with rfl | rfl | rfl | rfl | rfl <;> decide
theorem fst4 (k : Int) (h : 1 ≤ k ∧ k ≤ 5) : false = !decide (1 ≤ zsC k) := fst3 k h
theorem fst5 (k : Int) (h : 1 ≤ k ∧ k ≤ 5) : (bif k == 3 then true else k == 4) = !decide (2 ≤ zsC k) := by
 have : k = 1 ∨ k = 2 ∨ k = 3 ∨ k = 4 ∨ k = 5 := by omega
 rcases this with rfl | rfl | rfl | rfl | rfl <;> decide
theorem zta {l : List Wr} {i : Nat} {x : Wr} (h : l[i]? = some x) : (l.map wrPV)[i]? = some (wrPV x) := by
 rw [List.getElem?_map, h]; rfl
theorem zsT (n : FNode) (a b : Part) (hk : n.kind = 3 ∨ n.kind = 4 ∨ n.kind = 5) : zcT 0 n a b = toP ((zcT 0 n a b).1, n.kind) := by
 obtain ⟨k, v, m, q⟩ := n
 dsimp only at hk
 rcases hk with rfl | rfl | rfl <;> rfl
theorem zsO {n : FNode} {k : Int} {a b : Part} (h : n.kind = k) : zcT 0 n a b = zcT 0 ⟨k, 0, 0, 0⟩ a b := by unfold zcT; rw [h]
theorem zs2 (f : FormT) (hc : zD f = 0) : FnC Tryz.prog 55 [zaB f] (sv (bs (zeL f))) := by
 obtain ⟨hv8, hc1, hc40⟩ := zbD hc
 have hst := zdt hc
 have hV := zl1 hc
 have hlc : (f.code.map ndPV).length = f.code.length := List.length_map _
 refine hdC Tryz.func55 Tryz.ntmps55 (res := [.tmp 2]) fun w0 K0 => ?_
 repeat' first | refine zd ?_ | refine zc ?_ | ((refine regA ?_); conv => whnf) | fail
 refine zaq (Imp.nil 900 182 2 (fr' := [(4, iv .i64 0), (3, .x (.o 900 0 0)), (1, .x (.b 1 0))]) (σ' := [(1, .box (zb5 f))]) rfl ?_ ?_ rfl rfl) ?_
 ·exact ⟨⟨_, rfl, .inl rfl⟩, ⟨_, rfl, .inr ⟨rfl, rfl⟩⟩, ⟨_, rfl, .inl rfl⟩, trivial⟩
 ·exact ⟨⟨_, rfl, .inl rfl⟩, trivial⟩
 refine zaq (Imp.freeze 900 (fr' := [(4, iv .i64 0), (3, ztg []), (1, .x (.b 1 0))]) (σ' := [(1, .box (zb5 f))]) rfl ⟨⟨_, rfl, .inl rfl⟩, ⟨_, rfl, .inr ⟨_, rfl, Nat.zero_le _, rfl⟩⟩, ⟨_, rfl, .inl rfl⟩, trivial⟩ ⟨rfl, trivial⟩ rfl rfl) ?_
 refine zJ (fun x : Nat × List Wr => [(4, iv .i64 x.1), (3, ztg x.2), (1, .x (.b 1 0))]) (fun _ => [(1, .box (zb5 f))])
  (fun x => x.1 ≤ f.code.length ∧ Ht f x.1 x.2.length ∧ (∀ p ∈ x.2, 1 ≤ p.2 ∧ p.2 ≤ 5) ∧ lenS (x.2.map toP) ≤ 25 * x.1 ∧ zaN (([], 0) : Part) (zdy f.vars) zcT 0 f.code [] = zaN (([], 0) : Part) (zdy f.vars) zcT x.1 (f.code.drop x.1) (x.2.map toP)) (fun x => f.code.length - x.1) (0, []) ⟨Nat.zero_le _, hst, by simp, by simp [lenS], rfl⟩ impA ?_
 rintro ⟨i, st⟩ ⟨hi, hh, hK, hE, hx⟩
 dsimp only at hi hh hK hE hx ⊢
 have hp12 : st.length ≤ 12 := by obtain ⟨_, _, _, h, _⟩ := hh; exact h
 have small : ∀ p ∈ st, p.1.length ≤ 1000 := by
  intro p hp
  obtain ⟨x, y, rfl⟩ := List.append_of_mem hp
  rw [List.map_append, zdq, List.map_cons, show toP p :: y.map toP = [toP p] ++ y.map toP from rfl, zdq, zem] at hE
  have : (toP p).1.length = p.1.length := rfl
  omega
 rcases Nat.lt_or_ge i f.code.length with hil | hil
 ·obtain ⟨hk, hf, hlf, hop⟩ := zdR hil hh
  have gn := zj9 hil
  have ro := zlv f.code[i]
  rw [List.drop_eq_getElem_cons hil, zaN] at hx
  by_cases k3 : f.code[i].kind < 3
  ·rw [decide_eq_false (by omega)] at ro
   rw [if_pos k3] at hx
   have hll := zmb hV (show f.code[i].kind = 1 ∨ f.code[i].kind = 2 by omega) hf
   have htl : zdy f.vars i f.code[i] = toP (txV f.vars f.code[i], f.code[i].kind) := by
    show (txV f.vars f.code[i], 3) = (txV f.vars f.code[i], zsC f.code[i].kind)
    unfold zsC; rw [if_pos k3]
   have hx2 : zaN (([], 0) : Part) (zdy f.vars) zcT 0 f.code [] = zaN (([], 0) : Part) (zdy f.vars) zcT (i + 1) (f.code.drop (i + 1)) ((st ++ [(txV f.vars f.code[i], f.code[i].kind)]).map toP) := by rw [hx, htl, List.map_append]; rfl
   have hE2 : lenS ((st ++ [(txV f.vars f.code[i], f.code[i].kind)]).map toP) ≤ 25 * (i + 1) := by
    have hll' : (txV f.vars f.code[i]).length ≤ 20 := hll
    rw [List.map_append, zdq, List.map_singleton, zem]
    show _ + ((txV f.vars f.code[i]).length + 5) ≤ _
    omega
   have hK2 : ∀ p ∈ st ++ [(txV f.vars f.code[i], f.code[i].kind)], 1 ≤ p.2 ∧ p.2 ≤ 5 := by intro p h; rcases List.mem_append.1 h with h | h; exact hK p h; rw [List.mem_singleton.1 h]; exact hk
   clear hx htl hK hE small hll
   by_cases k1 : f.code[i].kind = 1
   ·have hfv := hf
    unfold fine at hfv
    rw [if_pos k1] at hfv
    have htx : txV f.vars f.code[i] = f.vars.getD f.code[i].var.toNat [] := by unfold txV; rw [if_pos k1]
    have hg : f.vars[f.code[i].var.toNat]? = some (f.vars.getD f.code[i].var.toNat []) := by
     rw [List.getD_eq_getElem?_getD, List.getElem?_eq_getElem (by omega)]; rfl
    have hg2 : (f.vars.map zaa)[f.code[i].var.toNat]? = some [PV.v (.string (bs (f.vars.getD f.code[i].var.toNat [])))] := by rw [List.getElem?_map, hg]; rfl
    rw [htx] at hx2 hE2 hK2
    generalize f.vars.getD f.code[i].var.toNat [] = v at *
    rcases Nat.eq_zero_or_pos st.length with hs0 | hs0
    ·obtain rfl := List.eq_nil_of_length_eq_zero hs0
     repeat' first | refine zd ?_ | refine zc ?_ | ((first | refine zf ?_ | refine zk ?_ | refine regA ?_ | refine drA (id := 21) 5 true [0, 0, 3, 0, 8, 31, 63] ?_ | fail); conv => whnf) | exact abA hb | ((first | refine Or.inl (And.intro rfl ?_) | refine ⟨_, ze ⟨by omega, gn⟩, ?_⟩ | refine zsn (ro) ?_ | refine ⟨_, ze ⟨by omega, hg2⟩, ?_⟩ | refine pkA ?_ | fail); conv => whnf) | (refine zss rfl ?_) | (refine zso rfl (fun hb => ?_) (fun hb => ?_)) | ((first | refine zsq ?_ | refine andA ?_ | fail); conv => whnf) | (refine lnA fun hln => ?_; conv => whnf) | fail
     exact ⟨(i + 1, [] ++ [(v, f.code[i].kind)]), ⟨by show i + 1 ≤ f.code.length; omega, by show Ht f (i + 1) ([] ++ [(v, f.code[i].kind)]).length; exact hlf k3, hK2, hE2, hx2⟩, by show f.code.length - (i + 1) < f.code.length - i; omega, impA⟩
    ·have hz : (st ++ [(v, f.code[i].kind)]).map wrPV = st.map wrPV ++ [wrPV (v, f.code[i].kind)] := List.map_append
     repeat' first | refine zd ?_ | refine zc ?_ | ((first | refine zf ?_ | refine zk ?_ | refine regA ?_ | refine drA (id := 21) 5 true [0, 0, 3, 0, 8, 31, 63] ?_ | fail); conv => whnf) | exact abA hb | ((refine Or.inr (And.intro (by rw [List.length_map]; omega) (And.intro (by rw [List.length_map]; refine ⟨?_, ?_⟩ <;> simp [maxLen] <;> omega) ?_))); conv => whnf) | ((first | refine ⟨_, ze ⟨by omega, gn⟩, ?_⟩ | refine zsn (ro) ?_ | refine ⟨_, ze ⟨by omega, hg2⟩, ?_⟩ | refine pkA ?_ | fail); conv => whnf) | (refine zss rfl ?_) | (refine zso rfl (fun hb => ?_) (fun hb => ?_)) | ((first | refine zsq ?_ | refine andA ?_ | fail); conv => whnf) | ((refine And.intro (by refine ⟨?_, ?_, ?_⟩ <;> simp [zO, maxLen] <;> omega) ?_); conv => whnf) | (refine lnA fun hln => ?_; conv => whnf) | fail
     exact ⟨(i + 1, st ++ [(v, f.code[i].kind)]), ⟨by show i + 1 ≤ f.code.length; omega, by show Ht f (i + 1) (st ++ [(v, f.code[i].kind)]).length; rw [List.length_append]; exact hlf k3, hK2, hE2, hx2⟩, by show f.code.length - (i + 1) < f.code.length - i; omega, Imp.freeze 105 rfl ⟨⟨_, rfl, .inl rfl⟩, ⟨_, rfl, .inr ⟨_, rfl, zeh rfl, congrArg (fun l => AV.x (.d (.s 2 l))) (hz.trans (zdo rfl).symm)⟩⟩, ⟨_, rfl, .inl rfl⟩, trivial⟩ ⟨rfl, trivial⟩ rfl rfl⟩
   ·have k2 : f.code[i].kind = 2 := by omega
    obtain ⟨f1, f2, f3, f4⟩ := (zgA k2).1 hf
    obtain ⟨u, hu⟩ : ∃ u : Nat, f.code[i].num = u := ⟨f.code[i].num.toNat, by omega⟩
    obtain ⟨w, hw⟩ : ∃ w : Nat, f.code[i].places = w := ⟨f.code[i].places.toNat, by omega⟩
    have hten' : u < 10 ^ w := by
     have e1 : ten f.code[i] = 10 ^ w := by unfold ten; rw [hw, Int.toNat_natCast]
     have e : (10 : Int) ^ w = ((10 ^ w : Nat) : Int) := by push_cast; rfl
     omega
    have dg := zrW w (by omega) (by omega) u hten'
    rw [← hu, ← hw] at dg
    have htx : txV f.vars f.code[i] = [48, 46] ++ padD w u := by unfold txV; rw [if_neg k1, hw, hu, Int.toNat_natCast, Int.toNat_natCast]
    have hpl := zdp w u
    rw [htx] at hx2 hE2 hK2
    have gs : (bs [48, 46]).size + (bs (padD w u)).size ≤ maxLen := zcB (by rw [hpl]; simp; omega)
    have e : bs [48, 46] ++ bs (padD w u) = bs ([48, 46] ++ padD w u) := za7 _ _
    generalize padD w u = pd at *
    have hzz : wrPV ([48, 46] ++ pd, f.code[i].kind) = [PV.v (.string (bs [48, 46] ++ bs pd)), PV.v (.int .i64 f.code[i].kind)] := by rw [e]; rfl
    rcases Nat.eq_zero_or_pos st.length with hs0 | hs0
    ·obtain rfl := List.eq_nil_of_length_eq_zero hs0
     repeat' first | refine zd ?_ | refine zc ?_ | ((first | refine zf ?_ | refine zk ?_ | refine regA ?_ | refine drA (id := 21) 5 true [0, 0, 3, 0, 8, 31, 63] ?_ | fail); conv => whnf) | exact abA hb | ((first | refine Or.inl (And.intro rfl ?_) | refine ⟨_, ze ⟨by omega, gn⟩, ?_⟩ | refine zsn (ro) ?_ | refine zsn (dg) ?_ | refine And.intro (zay gs) ?_ | refine pkA ?_ | fail); conv => whnf) | (refine zss rfl ?_) | (refine zso rfl (fun hb => ?_) (fun hb => ?_)) | ((first | refine zsq ?_ | refine andA ?_ | fail); conv => whnf) | (refine lnA fun hln => ?_; conv => whnf) | fail
     exact ⟨(i + 1, [] ++ [([48, 46] ++ pd, f.code[i].kind)]), ⟨by show i + 1 ≤ f.code.length; omega, by show Ht f (i + 1) ([] ++ [([48, 46] ++ pd, f.code[i].kind)]).length; exact hlf k3, hK2, hE2, hx2⟩, by show f.code.length - (i + 1) < f.code.length - i; omega, (impX (by repeat' (first | exact trivial | refine And.intro ?_ ?_ | exact congrArg (fun q => some (AV.x (.d (.s 2 [q])))) hzz.symm | exact zsw)))⟩
    ·have hz : (st ++ [([48, 46] ++ pd, f.code[i].kind)]).map wrPV = st.map wrPV ++ [[PV.v (.string (bs [48, 46] ++ bs pd)), PV.v (.int .i64 f.code[i].kind)]] := by rw [List.map_append, ← hzz]; rfl
     repeat' first | refine zd ?_ | refine zc ?_ | ((first | refine zf ?_ | refine zk ?_ | refine regA ?_ | refine drA (id := 21) 5 true [0, 0, 3, 0, 8, 31, 63] ?_ | fail); conv => whnf) | exact abA hb | ((refine Or.inr (And.intro (by rw [List.length_map]; omega) (And.intro (by rw [List.length_map]; refine ⟨?_, ?_⟩ <;> simp [maxLen] <;> omega) ?_))); conv => whnf) | ((first | refine ⟨_, ze ⟨by omega, gn⟩, ?_⟩ | refine zsn (ro) ?_ | refine zsn (dg) ?_ | refine And.intro (zay gs) ?_ | refine pkA ?_ | fail); conv => whnf) | (refine zss rfl ?_) | (refine zso rfl (fun hb => ?_) (fun hb => ?_)) | ((first | refine zsq ?_ | refine andA ?_ | fail); conv => whnf) | ((refine And.intro (by refine ⟨?_, ?_, ?_⟩ <;> simp [zO, maxLen] <;> omega) ?_); conv => whnf) | (refine lnA fun hln => ?_; conv => whnf) | fail
     exact ⟨(i + 1, st ++ [([48, 46] ++ pd, f.code[i].kind)]), ⟨by show i + 1 ≤ f.code.length; omega, by show Ht f (i + 1) (st ++ [([48, 46] ++ pd, f.code[i].kind)]).length; rw [List.length_append]; exact hlf k3, hK2, hE2, hx2⟩, by show f.code.length - (i + 1) < f.code.length - i; omega, Imp.freeze 105 rfl ⟨⟨_, rfl, .inl rfl⟩, ⟨_, rfl, .inr ⟨_, rfl, zeh rfl, congrArg (fun l => AV.x (.d (.s 2 l))) (hz.trans (zdo rfl).symm)⟩⟩, ⟨_, rfl, .inl rfl⟩, trivial⟩ ⟨rfl, trivial⟩ rfl rfl⟩
  ·rw [decide_eq_true (by omega)] at ro
   rw [if_neg k3] at hx
   obtain ⟨q, hq, hh'⟩ := hop (by omega)
   obtain ⟨r, a, b, rfl, hr⟩ := zfT hq
   have hka := hK a (by simp)
   have hkb := hK b (by simp)
   have sa := small a (by simp)
   have sb := small b (by simp)
   have e1 : ((r ++ [a, b]).map toP).getD (((r ++ [a, b]).map toP).length - 2) ([], 0) = toP a := by simp [List.getD_eq_getElem?_getD]
   have e2 : ((r ++ [a, b]).map toP).getD (((r ++ [a, b]).map toP).length - 1) ([], 0) = toP b := by simp [List.getD_eq_getElem?_getD]
   have e3 : ((r ++ [a, b]).map toP).take (((r ++ [a, b]).map toP).length - 2) = r.map toP := by simp
   rw [e1, e2, e3] at hx
   have hjj : zcT i f.code[i] (toP a) (toP b) = zcT 0 f.code[i] (toP a) (toP b) := rfl
   rw [hjj, zsT _ _ _ (by omega)] at hx
   have hx2 : zaN (([], 0) : Part) (zdy f.vars) zcT 0 f.code [] = zaN (([], 0) : Part) (zdy f.vars) zcT (i + 1) (f.code.drop (i + 1)) ((r ++ [((zcT 0 f.code[i] (toP a) (toP b)).1, f.code[i].kind)]).map toP) := by rw [hx, List.map_append]; rfl
   have hjl := zmz f.code[i] (toP a) (toP b)
   have hE2 : lenS ((r ++ [((zcT 0 f.code[i] (toP a) (toP b)).1, f.code[i].kind)]).map toP) ≤ 25 * (i + 1) := by
    rw [List.map_append, zdq, List.map_singleton, zem]
    rw [List.map_append, zdq, show [a, b].map toP = [toP a] ++ [toP b] from rfl, zdq, zem, zem] at hE
    show _ + ((zcT 0 f.code[i] (toP a) (toP b)).1.length + 5) ≤ _
    omega
   have ga : ((r ++ [a, b]).map wrPV)[q]? = some (wrPV a) := zta (by rw [List.getElem?_append_right (by omega), hr]; simp)
   have gb : ((r ++ [a, b]).map wrPV)[q + 1]? = some (wrPV b) := zta (by rw [List.getElem?_append_right (by omega), hr]; simp)
   have hlen : ((r ++ [a, b]).map wrPV).length = q + 2 := by rw [List.length_map, hq]
   have htk : ((r ++ [a, b]).map wrPV).take q = r.map wrPV := by rw [List.map_append, List.take_left' (by rw [List.length_map, hr])]
   have hK2 : ∀ (x : Bs8), ∀ p ∈ r ++ [(x, f.code[i].kind)], 1 ≤ p.2 ∧ p.2 ≤ 5 := by intro x p h; rcases List.mem_append.1 h with h | h; exact hK p (by simp [h]); rw [List.mem_singleton.1 h]; exact hk
   have hsl : ztg (r ++ [a, b]) = .x (.d (.s 2 ((r ++ [a, b]).map wrPV))) := rfl
   rw [hsl]
   generalize ((r ++ [a, b]).map wrPV) = xs at *
   have ga' : 0 ≤ (xs.length : Int) - 2 ∧ xs[((xs.length : Int) - 2).toNat]? = some (wrPV a) := ⟨by omega, by rw [show ((xs.length : Int) - 2).toNat = q by omega]; exact ga⟩
   have gb' : 0 ≤ (xs.length : Int) - 1 ∧ xs[((xs.length : Int) - 1).toNat]? = some (wrPV b) := ⟨by omega, by rw [show ((xs.length : Int) - 1).toNat = q + 1 by omega]; exact gb⟩
   have hYe : (xs.take ((xs.length : Int) - 2).toNat).drop (Int.toNat 0) = r.map wrPV := by rw [show ((xs.length : Int) - 2).toNat = q by omega]; exact htk
   have hYl : ((xs.take ((xs.length : Int) - 2).toNat).drop (Int.toNat 0)).length = q := by rw [hYe, List.length_map, hr]
   have ltp : ∀ p : Wr, (toP p).1.length = p.1.length := fun _ => rfl
   have hta := ltp a
   have htb := ltp b
   clear hx hK hE small hjj e1 e2 e3 hlf hop ltp hjl
   have hk345 : f.code[i].kind = 3 ∨ f.code[i].kind = 4 ∨ f.code[i].kind = 5 := by omega
   rcases hk345 with hkk | hkk | hkk
   ·have hjt : (zcT 0 f.code[i] (toP a) (toP b)).1 = zae (toP a) 1 ++ [43] ++ zae (toP b) 2 := by rw [zsO hkk]; rfl
    rw [hjt] at hx2 hE2
    have hsec : (bif decide (b.2 ≥ 3) then b.2 != 5 else false) = !decide (2 ≤ zsC b.2) := sec3 b.2 hkb
    have hfst : false = !decide (1 ≤ zsC a.2) := fst3 a.2 hka
    have br1 := zsJ a.1 (!decide (1 ≤ zsC a.2)) (by omega)
    have br2 := zsJ b.1 (!decide (2 ≤ zsC b.2)) (by omega)
    rw [zsG] at br1 br2
    rw [← hfst] at br1
    rw [← hsec] at br2
    have wl1 := zgD (toP a) 1
    have wl2 := zgD (toP b) 2
    generalize zae (toP a) 1 = wa at *
    generalize zae (toP b) 2 = wb at *
    have hK2 := hK2 (wa ++ [43] ++ wb)
    have gs1 : (bs wa).size + (bs [43]).size ≤ maxLen := zcB (by simp; omega)
    have gs2 : (bs wa ++ bs [43]).size + (bs wb).size ≤ maxLen := by rw [za7]; exact zcB (by simp; omega)
    have e : bs wa ++ bs [43] ++ bs wb = bs (wa ++ [43] ++ wb) := by rw [za7, za7]
    have hzz : wrPV (wa ++ [43] ++ wb, f.code[i].kind) = [PV.v (.string (bs wa ++ bs [43] ++ bs wb)), PV.v (.int .i64 f.code[i].kind)] := by rw [e]; rfl
    have hz : (r ++ [(wa ++ [43] ++ wb, f.code[i].kind)]).map wrPV = (xs.take ((xs.length : Int) - 2).toNat).drop (Int.toNat 0) ++ [[PV.v (.string (bs wa ++ bs [43] ++ bs wb)), PV.v (.int .i64 f.code[i].kind)]] := by rw [hYe, ← hzz, List.map_append]; rfl
    clear e
    rcases Nat.eq_zero_or_pos q with hq0 | hq0
    ·have hY0 : ((xs.take ((xs.length : Int) - 2).toNat).drop (Int.toNat 0)).length = 0 := by rw [hYl, hq0]
     obtain rfl : r = [] := List.eq_nil_of_length_eq_zero (by omega)
     repeat' first | refine zd ?_ | refine zc ?_ | ((first | refine zf ?_ | refine zk ?_ | refine regA ?_ | refine drM (id := 12) 14 [6, 7, 8, 9, 10, 11] true [0, 0, 2, 6, 15, 31, 0, 0, 128, 384, 960, 1984, 0, 0, 12351, 32767] ?_ | refine drA (id := 14) 9 false [0, 1, 3, 7, 15, 31, 63, 127, 15, 511] ?_ | refine drA (id := 19) 12 false [0, 1, 3, 7, 15, 31, 63, 127, 0, 256, 768, 255, 4095, 8191] ?_ | refine drA (id := 20) 10 false [0, 1, 0, 7, 0, 31, 0, 64, 0, 463, 1023, 2047, 4095] ?_ | refine drA (id := 21) 5 true [0, 0, 3, 0, 8, 31, 63] ?_ | refine LateGo.mk ⟨.x .j, rfl, ?_⟩ | fail); conv => whnf) | exact abA hb | ((first | refine Or.inl (And.intro hY0 ?_) | refine ⟨_, ze ⟨by omega, gn⟩, ?_⟩ | refine zsn (ro) ?_ | refine ⟨_, ze ga', ?_⟩ | refine ⟨_, ze gb', ?_⟩ | refine zsp (br1) ?_ | refine zsp (br2) ?_ | refine And.intro (zay gs1) ?_ | refine And.intro (zay gs2) ?_ | refine pkA ?_ | fail); conv => whnf) | (refine zst rfl ?_) | (refine zso rfl (fun hb => ?_) (fun hb => ?_)) | ((first | refine zsq ?_ | refine andA ?_ | fail); conv => whnf) | (refine lnA fun hln => ?_; conv => whnf) | fail
     exact ⟨(i + 1, [] ++ [(wa ++ [43] ++ wb, f.code[i].kind)]), ⟨by show i + 1 ≤ f.code.length; omega, by show Ht f (i + 1) ([] ++ [(wa ++ [43] ++ wb, f.code[i].kind)]).length; exact (show 0 + 1 = 1 from rfl) ▸ (by rw [hq0] at hh'; exact hh'), hK2, hE2, hx2⟩, by show f.code.length - (i + 1) < f.code.length - i; omega, (impX (by repeat' (first | exact trivial | refine And.intro ?_ ?_ | exact congrArg (fun q => some (AV.x (.d (.s 2 [q])))) hzz.symm | exact zsw)))⟩
    ·repeat' first | refine zd ?_ | refine zc ?_ | ((first | refine zf ?_ | refine zk ?_ | refine regA ?_ | refine drM (id := 12) 14 [6, 7, 8, 9, 10, 11] true [0, 0, 2, 6, 15, 31, 0, 0, 128, 384, 960, 1984, 0, 0, 12351, 32767] ?_ | refine drA (id := 14) 9 false [0, 1, 3, 7, 15, 31, 63, 127, 15, 511] ?_ | refine drA (id := 19) 12 false [0, 1, 3, 7, 15, 31, 63, 127, 0, 256, 768, 255, 4095, 8191] ?_ | refine drA (id := 20) 10 false [0, 1, 0, 7, 0, 31, 0, 64, 0, 463, 1023, 2047, 4095] ?_ | refine drA (id := 21) 5 true [0, 0, 3, 0, 8, 31, 63] ?_ | refine LateGo.mk ⟨.x .j, rfl, ?_⟩ | fail); conv => whnf) | exact abA hb | ((refine Or.inr (And.intro (by rw [hYl]; exact hq0) (And.intro (by rw [hYl]; refine ⟨?_, ?_⟩ <;> simp [maxLen] <;> omega) ?_))); conv => whnf) | ((first | refine ⟨_, ze ⟨by omega, gn⟩, ?_⟩ | refine zsn (ro) ?_ | refine ⟨_, ze ga', ?_⟩ | refine ⟨_, ze gb', ?_⟩ | refine zsp (br1) ?_ | refine zsp (br2) ?_ | refine And.intro (zay gs1) ?_ | refine And.intro (zay gs2) ?_ | refine pkA ?_ | fail); conv => whnf) | ((refine And.intro (by rw [hYl]; refine ⟨?_, ?_, ?_⟩ <;> simp [zO, maxLen] <;> omega) ?_); conv => whnf) | (refine zst rfl ?_) | (refine zso rfl (fun hb => ?_) (fun hb => ?_)) | ((first | refine zsq ?_ | refine andA ?_ | fail); conv => whnf) | (refine lnA fun hln => ?_; conv => whnf) | fail
     exact ⟨(i + 1, r ++ [(wa ++ [43] ++ wb, f.code[i].kind)]), ⟨by show i + 1 ≤ f.code.length; omega, by show Ht f (i + 1) (r ++ [(wa ++ [43] ++ wb, f.code[i].kind)]).length; rw [List.length_append, hr]; exact hh', hK2, hE2, hx2⟩, by show f.code.length - (i + 1) < f.code.length - i; omega, Imp.freeze 105 rfl ⟨⟨_, rfl, .inl rfl⟩, ⟨_, rfl, .inr ⟨_, rfl, zeh rfl, congrArg (fun l => AV.x (.d (.s 2 l))) (hz.trans (zdo rfl).symm)⟩⟩, ⟨_, rfl, .inl rfl⟩, trivial⟩ ⟨rfl, trivial⟩ rfl rfl⟩
   ·have hjt : (zcT 0 f.code[i] (toP a) (toP b)).1 = zae (toP a) 1 ++ [45] ++ zae (toP b) 2 := by rw [zsO hkk]; rfl
    rw [hjt] at hx2 hE2
    have hsec : (bif decide (b.2 ≥ 3) then b.2 != 5 else false) = !decide (2 ≤ zsC b.2) := sec4 b.2 hkb
    have hfst : false = !decide (1 ≤ zsC a.2) := fst4 a.2 hka
    have br1 := zsJ a.1 (!decide (1 ≤ zsC a.2)) (by omega)
    have br2 := zsJ b.1 (!decide (2 ≤ zsC b.2)) (by omega)
    rw [zsG] at br1 br2
    rw [← hfst] at br1
    rw [← hsec] at br2
    have wl1 := zgD (toP a) 1
    have wl2 := zgD (toP b) 2
    generalize zae (toP a) 1 = wa at *
    generalize zae (toP b) 2 = wb at *
    have hK2 := hK2 (wa ++ [45] ++ wb)
    have gs1 : (bs wa).size + (bs [45]).size ≤ maxLen := zcB (by simp; omega)
    have gs2 : (bs wa ++ bs [45]).size + (bs wb).size ≤ maxLen := by rw [za7]; exact zcB (by simp; omega)
    have e : bs wa ++ bs [45] ++ bs wb = bs (wa ++ [45] ++ wb) := by rw [za7, za7]
    have hzz : wrPV (wa ++ [45] ++ wb, f.code[i].kind) = [PV.v (.string (bs wa ++ bs [45] ++ bs wb)), PV.v (.int .i64 f.code[i].kind)] := by rw [e]; rfl
    have hz : (r ++ [(wa ++ [45] ++ wb, f.code[i].kind)]).map wrPV = (xs.take ((xs.length : Int) - 2).toNat).drop (Int.toNat 0) ++ [[PV.v (.string (bs wa ++ bs [45] ++ bs wb)), PV.v (.int .i64 f.code[i].kind)]] := by rw [hYe, ← hzz, List.map_append]; rfl
    clear e
    rcases Nat.eq_zero_or_pos q with hq0 | hq0
    ·have hY0 : ((xs.take ((xs.length : Int) - 2).toNat).drop (Int.toNat 0)).length = 0 := by rw [hYl, hq0]
     obtain rfl : r = [] := List.eq_nil_of_length_eq_zero (by omega)
     repeat' first | refine zd ?_ | refine zc ?_ | ((first | refine zf ?_ | refine zk ?_ | refine regA ?_ | refine drM (id := 12) 14 [6, 7, 8, 9, 10, 11] true [0, 0, 2, 6, 15, 31, 0, 0, 128, 384, 960, 1984, 0, 0, 12351, 32767] ?_ | refine drA (id := 14) 9 false [0, 1, 3, 7, 15, 31, 63, 127, 15, 511] ?_ | refine drA (id := 19) 12 false [0, 1, 3, 7, 15, 31, 63, 127, 0, 256, 768, 255, 4095, 8191] ?_ | refine drA (id := 20) 10 false [0, 1, 0, 7, 0, 31, 0, 64, 0, 463, 1023, 2047, 4095] ?_ | refine drA (id := 21) 5 true [0, 0, 3, 0, 8, 31, 63] ?_ | refine LateGo.mk ⟨.x .j, rfl, ?_⟩ | fail); conv => whnf) | exact abA hb | ((first | refine Or.inl (And.intro hY0 ?_) | refine ⟨_, ze ⟨by omega, gn⟩, ?_⟩ | refine zsn (ro) ?_ | refine ⟨_, ze ga', ?_⟩ | refine ⟨_, ze gb', ?_⟩ | refine zsp (br1) ?_ | refine zsp (br2) ?_ | refine And.intro (zay gs1) ?_ | refine And.intro (zay gs2) ?_ | refine pkA ?_ | fail); conv => whnf) | (refine zst rfl ?_) | (refine zso rfl (fun hb => ?_) (fun hb => ?_)) | ((first | refine zsq ?_ | refine andA ?_ | fail); conv => whnf) | (refine lnA fun hln => ?_; conv => whnf) | fail
     exact ⟨(i + 1, [] ++ [(wa ++ [45] ++ wb, f.code[i].kind)]), ⟨by show i + 1 ≤ f.code.length; omega, by show Ht f (i + 1) ([] ++ [(wa ++ [45] ++ wb, f.code[i].kind)]).length; exact (show 0 + 1 = 1 from rfl) ▸ (by rw [hq0] at hh'; exact hh'), hK2, hE2, hx2⟩, by show f.code.length - (i + 1) < f.code.length - i; omega, (impX (by repeat' (first | exact trivial | refine And.intro ?_ ?_ | exact congrArg (fun q => some (AV.x (.d (.s 2 [q])))) hzz.symm | exact zsw)))⟩
    ·repeat' first | refine zd ?_ | refine zc ?_ | ((first | refine zf ?_ | refine zk ?_ | refine regA ?_ | refine drM (id := 12) 14 [6, 7, 8, 9, 10, 11] true [0, 0, 2, 6, 15, 31, 0, 0, 128, 384, 960, 1984, 0, 0, 12351, 32767] ?_ | refine drA (id := 14) 9 false [0, 1, 3, 7, 15, 31, 63, 127, 15, 511] ?_ | refine drA (id := 19) 12 false [0, 1, 3, 7, 15, 31, 63, 127, 0, 256, 768, 255, 4095, 8191] ?_ | refine drA (id := 20) 10 false [0, 1, 0, 7, 0, 31, 0, 64, 0, 463, 1023, 2047, 4095] ?_ | refine drA (id := 21) 5 true [0, 0, 3, 0, 8, 31, 63] ?_ | refine LateGo.mk ⟨.x .j, rfl, ?_⟩ | fail); conv => whnf) | exact abA hb | ((refine Or.inr (And.intro (by rw [hYl]; exact hq0) (And.intro (by rw [hYl]; refine ⟨?_, ?_⟩ <;> simp [maxLen] <;> omega) ?_))); conv => whnf) | ((first | refine ⟨_, ze ⟨by omega, gn⟩, ?_⟩ | refine zsn (ro) ?_ | refine ⟨_, ze ga', ?_⟩ | refine ⟨_, ze gb', ?_⟩ | refine zsp (br1) ?_ | refine zsp (br2) ?_ | refine And.intro (zay gs1) ?_ | refine And.intro (zay gs2) ?_ | refine pkA ?_ | fail); conv => whnf) | ((refine And.intro (by rw [hYl]; refine ⟨?_, ?_, ?_⟩ <;> simp [zO, maxLen] <;> omega) ?_); conv => whnf) | (refine zst rfl ?_) | (refine zso rfl (fun hb => ?_) (fun hb => ?_)) | ((first | refine zsq ?_ | refine andA ?_ | fail); conv => whnf) | (refine lnA fun hln => ?_; conv => whnf) | fail
     exact ⟨(i + 1, r ++ [(wa ++ [45] ++ wb, f.code[i].kind)]), ⟨by show i + 1 ≤ f.code.length; omega, by show Ht f (i + 1) (r ++ [(wa ++ [45] ++ wb, f.code[i].kind)]).length; rw [List.length_append, hr]; exact hh', hK2, hE2, hx2⟩, by show f.code.length - (i + 1) < f.code.length - i; omega, Imp.freeze 105 rfl ⟨⟨_, rfl, .inl rfl⟩, ⟨_, rfl, .inr ⟨_, rfl, zeh rfl, congrArg (fun l => AV.x (.d (.s 2 l))) (hz.trans (zdo rfl).symm)⟩⟩, ⟨_, rfl, .inl rfl⟩, trivial⟩ ⟨rfl, trivial⟩ rfl rfl⟩
   ·have hjt : (zcT 0 f.code[i] (toP a) (toP b)).1 = zae (toP a) 2 ++ [42] ++ zae (toP b) 3 := by rw [zsO hkk]; rfl
    rw [hjt] at hx2 hE2
    have hsec : decide (b.2 ≥ 3) = !decide (3 ≤ zsC b.2) := sec5 b.2 hkb
    have hfst : (bif a.2 == 3 then true else a.2 == 4) = !decide (2 ≤ zsC a.2) := fst5 a.2 hka
    have br1 := zsJ a.1 (!decide (2 ≤ zsC a.2)) (by omega)
    have br2 := zsJ b.1 (!decide (3 ≤ zsC b.2)) (by omega)
    rw [zsG] at br1 br2
    rw [← hfst] at br1
    rw [← hsec] at br2
    have wl1 := zgD (toP a) 2
    have wl2 := zgD (toP b) 3
    generalize zae (toP a) 2 = wa at *
    generalize zae (toP b) 3 = wb at *
    have hK2 := hK2 (wa ++ [42] ++ wb)
    have gs1 : (bs wa).size + (bs [42]).size ≤ maxLen := zcB (by simp; omega)
    have gs2 : (bs wa ++ bs [42]).size + (bs wb).size ≤ maxLen := by rw [za7]; exact zcB (by simp; omega)
    have e : bs wa ++ bs [42] ++ bs wb = bs (wa ++ [42] ++ wb) := by rw [za7, za7]
    have hzz : wrPV (wa ++ [42] ++ wb, f.code[i].kind) = [PV.v (.string (bs wa ++ bs [42] ++ bs wb)), PV.v (.int .i64 f.code[i].kind)] := by rw [e]; rfl
    have hz : (r ++ [(wa ++ [42] ++ wb, f.code[i].kind)]).map wrPV = (xs.take ((xs.length : Int) - 2).toNat).drop (Int.toNat 0) ++ [[PV.v (.string (bs wa ++ bs [42] ++ bs wb)), PV.v (.int .i64 f.code[i].kind)]] := by rw [hYe, ← hzz, List.map_append]; rfl
    clear e
    rcases Nat.eq_zero_or_pos q with hq0 | hq0
    ·have hY0 : ((xs.take ((xs.length : Int) - 2).toNat).drop (Int.toNat 0)).length = 0 := by rw [hYl, hq0]
     obtain rfl : r = [] := List.eq_nil_of_length_eq_zero (by omega)
     repeat' first | refine zd ?_ | refine zc ?_ | ((first | refine zf ?_ | refine zk ?_ | refine regA ?_ | refine drM (id := 12) 14 [6, 7, 8, 9, 10, 11] true [0, 0, 2, 6, 15, 31, 0, 0, 128, 384, 960, 1984, 0, 0, 12351, 32767] ?_ | refine drA (id := 14) 9 false [0, 1, 3, 7, 15, 31, 63, 127, 15, 511] ?_ | refine drA (id := 19) 12 false [0, 1, 3, 7, 15, 31, 63, 127, 0, 256, 768, 255, 4095, 8191] ?_ | refine drA (id := 20) 10 false [0, 1, 0, 7, 0, 31, 0, 64, 0, 463, 1023, 2047, 4095] ?_ | refine drA (id := 21) 5 true [0, 0, 3, 0, 8, 31, 63] ?_ | refine LateGo.mk ⟨.x .j, rfl, ?_⟩ | fail); conv => whnf) | exact abA hb | ((first | refine Or.inl (And.intro hY0 ?_) | refine ⟨_, ze ⟨by omega, gn⟩, ?_⟩ | refine zsn (ro) ?_ | refine ⟨_, ze ga', ?_⟩ | refine ⟨_, ze gb', ?_⟩ | refine zsp (br1) ?_ | refine zsp (br2) ?_ | refine And.intro (zay gs1) ?_ | refine And.intro (zay gs2) ?_ | refine pkA ?_ | fail); conv => whnf) | (refine zst rfl ?_) | (refine zso rfl (fun hb => ?_) (fun hb => ?_)) | ((first | refine zsq ?_ | refine andA ?_ | fail); conv => whnf) | (refine lnA fun hln => ?_; conv => whnf) | fail
     exact ⟨(i + 1, [] ++ [(wa ++ [42] ++ wb, f.code[i].kind)]), ⟨by show i + 1 ≤ f.code.length; omega, by show Ht f (i + 1) ([] ++ [(wa ++ [42] ++ wb, f.code[i].kind)]).length; exact (show 0 + 1 = 1 from rfl) ▸ (by rw [hq0] at hh'; exact hh'), hK2, hE2, hx2⟩, by show f.code.length - (i + 1) < f.code.length - i; omega, (impX (by repeat' (first | exact trivial | refine And.intro ?_ ?_ | exact congrArg (fun q => some (AV.x (.d (.s 2 [q])))) hzz.symm | exact zsw)))⟩
    ·repeat' first | refine zd ?_ | refine zc ?_ | ((first | refine zf ?_ | refine zk ?_ | refine regA ?_ | refine drM (id := 12) 14 [6, 7, 8, 9, 10, 11] true [0, 0, 2, 6, 15, 31, 0, 0, 128, 384, 960, 1984, 0, 0, 12351, 32767] ?_ | refine drA (id := 14) 9 false [0, 1, 3, 7, 15, 31, 63, 127, 15, 511] ?_ | refine drA (id := 19) 12 false [0, 1, 3, 7, 15, 31, 63, 127, 0, 256, 768, 255, 4095, 8191] ?_ | refine drA (id := 20) 10 false [0, 1, 0, 7, 0, 31, 0, 64, 0, 463, 1023, 2047, 4095] ?_ | refine drA (id := 21) 5 true [0, 0, 3, 0, 8, 31, 63] ?_ | refine LateGo.mk ⟨.x .j, rfl, ?_⟩ | fail); conv => whnf) | exact abA hb | ((refine Or.inr (And.intro (by rw [hYl]; exact hq0) (And.intro (by rw [hYl]; refine ⟨?_, ?_⟩ <;> simp [maxLen] <;> omega) ?_))); conv => whnf) | ((first | refine ⟨_, ze ⟨by omega, gn⟩, ?_⟩ | refine zsn (ro) ?_ | refine ⟨_, ze ga', ?_⟩ | refine ⟨_, ze gb', ?_⟩ | refine zsp (br1) ?_ | refine zsp (br2) ?_ | refine And.intro (zay gs1) ?_ | refine And.intro (zay gs2) ?_ | refine pkA ?_ | fail); conv => whnf) | ((refine And.intro (by rw [hYl]; refine ⟨?_, ?_, ?_⟩ <;> simp [zO, maxLen] <;> omega) ?_); conv => whnf) | (refine zst rfl ?_) | (refine zso rfl (fun hb => ?_) (fun hb => ?_)) | ((first | refine zsq ?_ | refine andA ?_ | fail); conv => whnf) | (refine lnA fun hln => ?_; conv => whnf) | fail
     exact ⟨(i + 1, r ++ [(wa ++ [42] ++ wb, f.code[i].kind)]), ⟨by show i + 1 ≤ f.code.length; omega, by show Ht f (i + 1) (r ++ [(wa ++ [42] ++ wb, f.code[i].kind)]).length; rw [List.length_append, hr]; exact hh', hK2, hE2, hx2⟩, by show f.code.length - (i + 1) < f.code.length - i; omega, Imp.freeze 105 rfl ⟨⟨_, rfl, .inl rfl⟩, ⟨_, rfl, .inr ⟨_, rfl, zeh rfl, congrArg (fun l => AV.x (.d (.s 2 l))) (hz.trans (zdo rfl).symm)⟩⟩, ⟨_, rfl, .inl rfl⟩, trivial⟩ ⟨rfl, trivial⟩ rfl rfl⟩
 ·have h1 := ziw hil hh
  obtain ⟨v, rfl⟩ : ∃ v, st = [v] := List.length_eq_one_iff.1 h1
  rw [List.drop_eq_nil_of_le hil] at hx
  have hv : zeL f = v.1 := by unfold zeL; rw [hx]; rfl
  rw [hv]
  repeat' first | refine zd ?_ | refine zc ?_ | ((first | refine zf ?_ | refine zk ?_ | refine zi ?_ | refine regA ?_ | fail); conv => whnf) | exact abA hb | ((refine ⟨_, ze ⟨by decide, rfl⟩, ?_⟩); conv => whnf) | (refine zso rfl (fun hb => ?_) (fun hb => ?_)) | ((refine andA ?_); conv => whnf) | (refine lnA fun hln => ?_; conv => whnf) | fail
  rfl
theorem zsV (f : FormT) : FnC Tryz.prog 19 [zaB f] (.t [sv (bs (zd0 f).1), iv .i64 (zd0 f).2]) := by
 have ck := zh7 f
 unfold zd0
 by_cases h0 : zD f = 0
 ·rw [if_neg (by omega)]
  rw [h0] at ck
  have tx := zs2 f h0
  generalize zeL f = R at *
  refine hdC Tryz.func19 Tryz.ntmps19 (res := [.tmp 2, .tmp 3]) fun w0 K0 => ?_
  repeat' first | refine zd ?_ | ((first | refine zf ?_ | refine zi ?_ | refine regA ?_ | refine zsn (ck) ?_ | refine zsn (tx) ?_ | fail); conv => whnf) | (refine zss rfl ?_) | fail
  rfl
 ·rw [if_pos h0]
  generalize zD f = e at *
  refine hdC Tryz.func19 Tryz.ntmps19 (res := [.tmp 2, .tmp 3]) fun w0 K0 => ?_
  repeat' first | refine zd ?_ | ((first | refine zf ?_ | refine zi ?_ | refine regA ?_ | fail); conv => whnf) | exact abA hb | ((refine zsn (ck) ?_); conv => whnf) | (refine zso rfl (fun hb => ?_) (fun hb => ?_)) | fail
  rfl
end Go.Proofs.YtmceekhgnfpamaaGreatDoor
namespace Go.Proofs.YtmceekhgnfpamaaGreatDoor
open Go Go.QL FoT
set_option maxHeartbeats 6400000
attribute [local irreducible] ACall FnC zbH zd0 zD zdU z8 zeL
theorem ztk (f : FormT) (s : Bs8) : FnC Tryz.prog 3 [zaB f, sv (bs s)] (bv true) := by
 have aw := zcK
 have r1 := zbK s
 have r2 := zs4 s
 obtain ⟨⟨g, at_, e⟩, hg⟩ : ∃ p, zbH s = p := ⟨_, rfl⟩
 rw [hg] at r1 r2
 have fg := zdu g
 have w1 := zcX f
 have w2 := zsV f
 obtain ⟨⟨u, eu⟩, hu⟩ : ∃ p, zd0 f = p := ⟨_, rfl⟩
 rw [hu] at w1 w2
 have c1 := ziO f
 have c2 := zh7 f
 generalize zD f = ce at c1 c2
 have hcf : (bif (bif !true then true else at_ != at_) then true else e != e) = false := by simp
 have hfin : (bif (bif (bif ce == ce then ((bs u).toList == (bs u).toList) else false) then eu == eu else false) then true else false) = true := by simp
 dsimp only at r1 r2 w1 w2
 refine hdC Tryz.func3 Tryz.ntmps3 (res := [.tmp 4]) fun w0 K0 => ?_
 repeat' first | refine zd ?_ | refine zc ?_ | refine zA ?_ | ((first | refine zf ?_ | refine zB ?_ | refine zk ?_ | refine zi ?_ | refine regA ?_ | refine drA (id := 7) 13 false [0, 1, 0, 7, 15, 31, 63, 63, 255, 511, 1023, 2047, 2047, 8191, 16383, 32767, 65535, 131071, 262143] ?_ | refine LateGo.mk ⟨_, rfl, ?_⟩ | refine LateGo.mk ⟨.x .j, rfl, ?_⟩ | fail); conv => whnf) | exact abA hb | (refine za rfl (zM hcf) (fun _ => ?_)) | ((first | refine zsn (r1) ?_ | refine zsp (r1) ?_ | refine zsr (r1) ?_ | refine zsn (r2) ?_ | refine zsp (r2) ?_ | refine zsr (r2) ?_ | refine zsn (fg) ?_ | refine zsp (fg) ?_ | refine zsr (fg) ?_ | refine zsn (w1) ?_ | refine zsp (w1) ?_ | refine zsr (w1) ?_ | refine zsn (w2) ?_ | refine zsp (w2) ?_ | refine zsr (w2) ?_ | refine zsn (c1) ?_ | refine zsp (c1) ?_ | refine zsr (c1) ?_ | refine zsn (c2) ?_ | refine zsp (c2) ?_ | refine zsr (c2) ?_ | refine zsn (aw) ?_ | refine zsp (aw) ?_ | refine zsr (aw) ?_ | refine pkA ?_ | fail); conv => whnf) | (refine zst rfl ?_) | (refine zss rfl ?_) | (refine zsu rfl ?_) | (refine zsv rfl ?_) | (refine zso rfl (fun hb => ?_) (fun hb => ?_)) | ((first | refine zsq ?_ | refine ⟨IntKind.wrap _ _, rfl, ?_⟩ | refine andA ?_ | with_reducible refine exA fun _ => ?_ | with_reducible refine And.intro (ze (And.intro (by omega) (And.intro (by first | omega | (simp only [List.length_map]; omega)) (by first | omega | (simp only [List.length_map]; omega) | (simp only [List.length_set, List.length_map]; omega))))) ?_ | with_reducible refine Exists.intro _ (And.intro (ze (zh (by omega) (by omega))) (And.intro (And.intro (Nat.le_of_ble_eq_true rfl) rfl) ?_)) | with_reducible refine Exists.intro _ (And.intro (ze (And.intro (by omega) (zh (by omega) (by omega)))) ?_) | with_reducible refine And.intro (And.intro (by omega) (And.intro (by first | omega | (simp only [List.length_map]; omega)) (by first | omega | (simp only [List.length_map, List.length_set]; omega)))) ?_ | with_reducible refine Exists.intro _ (And.intro (zh (by omega) (by omega)) (And.intro (Nat.le_of_ble_eq_true rfl) ?_)) | fail); conv => whnf) | ((refine And.intro (by refine ⟨?_, ?_, ?_⟩ <;> simp [zO, maxLen] <;> omega) ?_); conv => whnf) | (refine lnA fun hln => ?_; conv => whnf) | fail
 exact congrArg some (congrArg bv hfin)
end Go.Proofs.YtmceekhgnfpamaaGreatDoor
