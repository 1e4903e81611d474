/- What the functions that this law reaches return: part 0. No condition. -/
import Derived.Test.YtmceekhgnfpamaaGreatDoorB05
set_option linter.all false
namespace Go.Proofs.YtmceekhgnfpamaaGreatDoor
open Go Go.QL FoT
set_option maxHeartbeats 1600000
attribute [local irreducible] ACall FnC
theorem zoS (n lo hi : Int) : FnC Tryz.prog 61 [iv .i64 n, iv .i64 lo, iv .i64 hi] (bv (bif decide (lo ≤ n) then decide (n ≤ hi) else false)) := by
 refine hdC Tryz.func61 Tryz.ntmps61 (res := [.tmp 6]) fun w0 K0 => ?_
 repeat' first | refine zd ?_ | ((first | refine zi ?_ | with_reducible refine regA ?_ | refine pkA ?_ | fail); conv => whnf) | fail
 rfl
theorem zjG (n lo hi : Int) : (bif decide (lo ≤ n) then decide (n ≤ hi) else false) = decide (lo ≤ n ∧ n ≤ hi) := by
 rw [Bool.eq_iff_iff, decide_eq_true_iff, Bool.cond_eq_ite]
 by_cases h : lo ≤ n <;> simp [h]
theorem zho (n lo hi : Int) : FnC Tryz.prog 61 [iv .i64 n, iv .i64 lo, iv .i64 hi] (bv (decide (lo ≤ n ∧ n ≤ hi))) := by
 rw [← zjG]; exact zoS n lo hi
theorem znG {i n : Nat} (h : i ≤ n) (hn : n ≤ 18) : 1 ≤ (10 : Int) ^ i ∧ (10 : Int) ^ i ≤ 1000000000000000000 := by
 have h1 : (10 : Nat) ^ i ≤ 10 ^ 18 := Nat.pow_le_pow_right (by decide) (by omega)
 have h2 : 1 ≤ (10 : Nat) ^ i := Nat.one_le_pow _ _ (by decide)
 have e : (10 : Int) ^ i = ((10 ^ i : Nat) : Int) := by norm_cast
 rw [e]
 omega
theorem zpv (n : Nat) (h : n ≤ 18) : FnC Tryz.prog 124 [iv .i64 n] (iv .i64 ((10 : Int) ^ n)) := by
 refine hdC Tryz.func124 Tryz.ntmps124 (res := [.tmp 2]) fun w0 K0 => ?_
 repeat' first | refine zd ?_ | refine zc ?_ | ((with_reducible refine regA ?_); conv => whnf) | fail
 refine zJ (fun i : Nat => [(4, iv .i64 i), (3, iv .i64 ((10 : Int) ^ i)), (0, iv .i64 n)]) (fun _ => []) (fun i => i ≤ n) (fun i => n - i) 0 (Nat.zero_le _) impA ?_
 intro i hi
 rcases Nat.lt_or_ge i n with hil | hil
 ·have h1 := znG (show i + 1 ≤ n by omega) h
  have e1 : (10 : Int) ^ (i + 1) = 10 * 10 ^ i := by rw [Int.pow_succ, Int.mul_comm]
  rw [e1] at h1
  generalize (10 : Int) ^ i = p at h1 e1
  repeat' first | refine zd ?_ | refine zc ?_ | ((first | refine zf ?_ | refine zk ?_ | refine zi ?_ | with_reducible refine regA ?_ | fail); conv => whnf) | exact abA hb | (refine zso rfl (fun hb => ?_) (fun hb => ?_)) | ((refine zsq ?_); conv => whnf) | fail
  exact ⟨i + 1, by omega, by omega, (impX (by repeat' (first | exact trivial | refine And.intro ?_ ?_ | exact ivE e1.symm | exact zsw)))⟩
 ·obtain rfl : i = n := by omega
  repeat' first | refine zd ?_ | refine zc ?_ | ((first | refine zf ?_ | refine zk ?_ | refine zi ?_ | with_reducible refine regA ?_ | fail); conv => whnf) | exact abA hb | (refine zso rfl (fun hb => ?_) (fun hb => ?_)) | fail
  rfl
theorem zls {n : FNode} (h : 1 ≤ n.places ∧ n.places ≤ 6) : FnC Tryz.prog 124 [iv .i64 n.places] (iv .i64 (ten n)) := by
 have t := zpv n.places.toNat (by omega)
 rw [show ((n.places.toNat : Nat) : Int) = n.places by omega] at t
 exact t
theorem zlv (n : FNode) : FnC Tryz.prog 64 [ndAV n] (bv (decide (3 ≤ n.kind ∧ n.kind ≤ 5))) := by
 have ri := zho
 refine hdC Tryz.func64 Tryz.ntmps64 (res := [.tmp 2]) fun w0 K0 => ?_
 repeat' first | refine zd ?_ | ((first | refine zi ?_ | with_reducible refine regA ?_ | refine zsn ((ri _ _ _)) ?_ | refine andA ?_ | fail); conv => whnf) | fail
 rfl
theorem b3 (a b c : Prop) [Decidable a] [Decidable b] [Decidable c] : (bif (bif decide a then decide b else false) then decide c else false) = decide (a ∧ b ∧ c) := by
 by_cases a <;> by_cases b <;> by_cases c <;> simp [*]
theorem znu (f : FormT) (n : FNode) : FnC Tryz.prog 63 [zaB f, ndAV n] (iv .i64 (zbA f.vars.length n)) := by
 have ri := zho
 have hlv : (f.vars.map zaa).length = f.vars.length := List.length_map _
 by_cases hk : 1 ≤ n.kind ∧ n.kind ≤ 5
 ·have hcf : (!decide (1 ≤ n.kind ∧ n.kind ≤ 5)) = false := by rw [decide_eq_true hk]; rfl
  have hn : zbA f.vars.length n = if fine f.vars.length n then 0 else 7 := by unfold zbA; rw [if_pos hk]
  rw [hn]
  by_cases k1 : n.kind = 1
  ·have e : fine f.vars.length n ↔ (0 ≤ n.var ∧ n.var ≤ (f.vars.length : Int) - 1) ∧ n.num = 0 ∧ n.places = 0 := by unfold fine; rw [if_pos k1]; exact ⟨fun ⟨a, b, c⟩ => ⟨⟨a, b⟩, c⟩, fun ⟨⟨a, b⟩, c⟩ => ⟨a, b, c⟩⟩
   have hq : (bif (bif decide (0 ≤ n.var ∧ n.var ≤ ((f.vars.map zaa).length : Int) - 1) then n.num == 0 else false) then n.places == 0 else false) = decide (fine f.vars.length n) := by
    rw [hlv]
    refine (b3 _ (n.num = 0) (n.places = 0)).trans ?_
    rw [Bool.eq_iff_iff, decide_eq_true_iff, decide_eq_true_iff, e]
   by_cases hf : fine f.vars.length n
   ·rw [if_pos hf]
    rw [decide_eq_true hf] at hq
    refine hdC Tryz.func63 Tryz.ntmps63 (res := [.tmp 4]) fun w0 K0 => ?_
    repeat' first | refine zd ?_ | ((first | refine zf ?_ | refine zi ?_ | with_reducible refine regA ?_ | refine drA (id := 7) 15 false [0, 1, 3, 7, 15, 31, 63, 127, 255, 511, 1023, 511, 2559, 6655, 14847, 32767, 65535, 131071, 262143, 524287, 1048575, 2097151, 4194303, 8388607, 16777215, 33554431, 67108863, 134217727, 268435455] ?_ | fail); conv => whnf) | exact abA hb | (refine za rfl (zM hcf) (fun _ => ?_)) | (refine za rfl (zM ((congrArg not hq).trans rfl)) (fun _ => ?_)) | ((first | refine zsn ((ri _ _ _)) ?_ | refine pkA ?_ | fail); conv => whnf) | (refine zso rfl (fun hb => ?_) (fun hb => ?_)) | ((refine zsq ?_); conv => whnf) | (refine lnA fun hln => ?_; conv => whnf) | fail
    rfl
   ·rw [if_neg hf]
    rw [decide_eq_false hf] at hq
    refine hdC Tryz.func63 Tryz.ntmps63 (res := [.tmp 4]) fun w0 K0 => ?_
    repeat' first | refine zd ?_ | ((first | refine zf ?_ | refine zi ?_ | with_reducible refine regA ?_ | refine drA (id := 7) 15 false [0, 1, 3, 7, 15, 31, 63, 127, 255, 511, 1023, 511, 2559, 6655, 14847, 32767, 65535, 131071, 262143, 524287, 1048575, 2097151, 4194303, 8388607, 16777215, 33554431, 67108863, 134217727, 268435455] ?_ | fail); conv => whnf) | exact abA hb | (refine za rfl (zM hcf) (fun _ => ?_)) | (refine za rfl (fun _ => ?_) (zaf ((congrArg not hq).trans rfl))) | ((first | refine zsn ((ri _ _ _)) ?_ | refine pkA ?_ | fail); conv => whnf) | (refine zso rfl (fun hb => ?_) (fun hb => ?_)) | ((refine zsq ?_); conv => whnf) | (refine lnA fun hln => ?_; conv => whnf) | fail
    rfl
  ·by_cases k2 : n.kind = 2
   ·have e := zgA (nv := f.vars.length) k2
    by_cases hp : n.var = 0 ∧ 1 ≤ n.places ∧ n.places ≤ 6
    ·have t := zls hp.2
     have ht := (zdk hp.2).2
     have hw : IntKind.i64.wrap (ten n - 1) = ten n - 1 := zg (by omega)
     have hq : (bif (bif (bif n.var == 0 then decide (1 ≤ n.places ∧ n.places ≤ 6) else false) then decide (0 ≤ n.num ∧ n.num ≤ ten n - 1) else false) then (bif n.places == 1 then true else (n.num.tmod 10 != 0)) else false) = decide (fine f.vars.length n) := by
      have h1 : (bif n.var == 0 then decide (1 ≤ n.places ∧ n.places ≤ 6) else false) = true := by rw [hp.1, decide_eq_true hp.2]; rfl
      rw [h1, cond_true, Bool.eq_iff_iff, decide_eq_true_iff, e]
      by_cases h2 : 0 ≤ n.num ∧ n.num ≤ ten n - 1
      ·rw [decide_eq_true h2, cond_true, Int.tmod_eq_emod_of_nonneg h2.1]
       by_cases h3 : n.places = 1
       ·simp [h3, h2, hp.1]
       ·simp [h3, h2, hp.1, hp.2]; omega
      ·rw [decide_eq_false h2, cond_false]
       simp [h2]
     by_cases hf : fine f.vars.length n
     ·rw [if_pos hf]
      rw [decide_eq_true hf] at hq
      refine hdC Tryz.func63 Tryz.ntmps63 (res := [.tmp 4]) fun w0 K0 => ?_
      repeat' first | refine zd ?_ | ((first | refine zf ?_ | refine zi ?_ | with_reducible refine regA ?_ | refine drA (id := 7) 15 false [0, 1, 3, 7, 15, 31, 63, 127, 255, 511, 1023, 511, 2559, 6655, 14847, 32767, 65535, 131071, 262143, 524287, 1048575, 2097151, 4194303, 8388607, 16777215, 33554431, 67108863, 134217727, 268435455] ?_ | fail); conv => whnf) | exact abA hb | (refine za rfl (zM hcf) (fun _ => ?_)) | (refine za rfl (zM ((congrArg not hq).trans rfl)) (fun _ => ?_)) | ((first | refine zsn ((ri _ _ _)) ?_ | refine zsp ((ri _ _ _)) ?_ | refine zsr ((ri _ _ _)) ?_ | refine zsr (t) ?_ | refine pkA ?_ | refine ⟨_, hw, ?_⟩ | refine ⟨Int.tmod _ _, rfl, ?_⟩ | fail); conv => whnf) | (refine zso rfl (fun hb => ?_) (fun hb => ?_)) | ((refine andA ?_); conv => whnf) | fail
      rfl
     ·rw [if_neg hf]
      rw [decide_eq_false hf] at hq
      refine hdC Tryz.func63 Tryz.ntmps63 (res := [.tmp 4]) fun w0 K0 => ?_
      repeat' first | refine zd ?_ | ((first | refine zf ?_ | refine zi ?_ | with_reducible refine regA ?_ | refine drA (id := 7) 15 false [0, 1, 3, 7, 15, 31, 63, 127, 255, 511, 1023, 511, 2559, 6655, 14847, 32767, 65535, 131071, 262143, 524287, 1048575, 2097151, 4194303, 8388607, 16777215, 33554431, 67108863, 134217727, 268435455] ?_ | fail); conv => whnf) | exact abA hb | (refine za rfl (zM hcf) (fun _ => ?_)) | (refine za rfl (fun _ => ?_) (zaf ((congrArg not hq).trans rfl))) | ((first | refine zsn ((ri _ _ _)) ?_ | refine zsp ((ri _ _ _)) ?_ | refine zsr ((ri _ _ _)) ?_ | refine zsr (t) ?_ | refine pkA ?_ | refine ⟨_, hw, ?_⟩ | refine ⟨Int.tmod _ _, rfl, ?_⟩ | fail); conv => whnf) | (refine zso rfl (fun hb => ?_) (fun hb => ?_)) | ((refine andA ?_); conv => whnf) | fail
      rfl
    ·have hf : ¬ fine f.vars.length n := fun h => hp ⟨(e.1 h).1, (e.1 h).2.1⟩
     rw [if_neg hf]
     have h1 : (bif n.var == 0 then decide (1 ≤ n.places ∧ n.places ≤ 6) else false) = false := by
      by_cases hv : n.var = 0
      ·rw [hv, decide_eq_false (fun h => hp ⟨hv, h⟩)]; rfl
      ·rw [beq_eq_false_iff_ne.2 hv]; rfl
     refine hdC Tryz.func63 Tryz.ntmps63 (res := [.tmp 4]) fun w0 K0 => ?_
     repeat' first | refine zd ?_ | ((first | refine zf ?_ | refine zi ?_ | with_reducible refine regA ?_ | refine drA (id := 7) 15 false [0, 1, 3, 7, 15, 31, 63, 127, 255, 511, 1023, 511, 2559, 6655, 14847, 32767, 65535, 131071, 262143, 524287, 1048575, 2097151, 4194303, 8388607, 16777215, 33554431, 67108863, 134217727, 268435455] ?_ | fail); conv => whnf) | exact abA hb | (refine za rfl (zM hcf) (fun _ => ?_)) | ((first | refine zsn ((ri _ _ _)) ?_ | refine zsp ((ri _ _ _)) ?_ | refine zsr ((ri _ _ _)) ?_ | refine pkA ?_ | refine ⟨iv .i64 0, zax (fun h => absurd (h1.symm.trans h) (by decide)), ?_⟩ | refine ⟨Int.tmod _ _, rfl, ?_⟩ | fail); conv => whnf) | (refine za rfl (fun _ => ?_) (zaf (by rw [h1]; rfl))) | (refine zso rfl (fun hb => ?_) (fun hb => ?_)) | ((first | refine zsq ?_ | refine andA ?_ | fail); conv => whnf) | fail
     rfl
   ·have hq : (bif (bif n.var == 0 then n.num == 0 else false) then n.places == 0 else false) = decide (fine f.vars.length n) := by
     refine (b3 (n.var = 0) (n.num = 0) (n.places = 0)).trans ?_
     unfold fine
     simp only [if_neg k1, if_neg k2]
    by_cases hf : fine f.vars.length n
    ·rw [if_pos hf]
     rw [decide_eq_true hf] at hq
     refine hdC Tryz.func63 Tryz.ntmps63 (res := [.tmp 4]) fun w0 K0 => ?_
     repeat' first | refine zd ?_ | ((first | refine zf ?_ | refine zi ?_ | with_reducible refine regA ?_ | refine drA (id := 7) 15 false [0, 1, 3, 7, 15, 31, 63, 127, 255, 511, 1023, 511, 2559, 6655, 14847, 32767, 65535, 131071, 262143, 524287, 1048575, 2097151, 4194303, 8388607, 16777215, 33554431, 67108863, 134217727, 268435455] ?_ | fail); conv => whnf) | exact abA hb | (refine za rfl (zM hcf) (fun _ => ?_)) | (refine za rfl (zM ((congrArg not hq).trans rfl)) (fun _ => ?_)) | ((first | refine zsn ((ri _ _ _)) ?_ | refine pkA ?_ | fail); conv => whnf) | (refine zso rfl (fun hb => ?_) (fun hb => ?_)) | fail
     rfl
    ·rw [if_neg hf]
     rw [decide_eq_false hf] at hq
     refine hdC Tryz.func63 Tryz.ntmps63 (res := [.tmp 4]) fun w0 K0 => ?_
     repeat' first | refine zd ?_ | ((first | refine zf ?_ | refine zi ?_ | with_reducible refine regA ?_ | refine drA (id := 7) 15 false [0, 1, 3, 7, 15, 31, 63, 127, 255, 511, 1023, 511, 2559, 6655, 14847, 32767, 65535, 131071, 262143, 524287, 1048575, 2097151, 4194303, 8388607, 16777215, 33554431, 67108863, 134217727, 268435455] ?_ | fail); conv => whnf) | exact abA hb | (refine za rfl (zM hcf) (fun _ => ?_)) | (refine za rfl (fun _ => ?_) (zaf ((congrArg not hq).trans rfl))) | ((first | refine zsn ((ri _ _ _)) ?_ | refine pkA ?_ | fail); conv => whnf) | (refine zso rfl (fun hb => ?_) (fun hb => ?_)) | fail
     rfl
 ·have hct : (!decide (1 ≤ n.kind ∧ n.kind ≤ 5)) = true := by rw [decide_eq_false hk]; rfl
  have hn : zbA f.vars.length n = 2 := by unfold zbA; rw [if_neg hk]
  rw [hn]
  refine hdC Tryz.func63 Tryz.ntmps63 (res := [.tmp 4]) fun w0 K0 => ?_
  repeat' first | refine zd ?_ | ((first | refine zi ?_ | with_reducible refine regA ?_ | fail); conv => whnf) | (refine za rfl (fun _ => ?_) (zaf hct)) | ((first | refine zsn ((ri _ _ _)) ?_ | refine pkA ?_ | fail); conv => whnf) | fail
  rfl
end Go.Proofs.YtmceekhgnfpamaaGreatDoor
namespace Go.Proofs.YtmceekhgnfpamaaGreatDoor
open Go Go.QL FoT
set_option maxHeartbeats 3200000
attribute [local irreducible] ACall FnC fine ten zbx zav zaw
theorem zpE (n lo hi : Int) : FnC Tryz.prog 123 [iv .i64 n, iv .i64 lo, iv .i64 hi] (bv (decide (lo ≤ n ∧ n ≤ hi))) := by
 rw [← zjG]
 refine hdC Tryz.func123 Tryz.ntmps123 (res := [.tmp 6]) fun w0 K0 => ?_
 repeat' first | refine zd ?_ | ((first | refine zi ?_ | with_reducible refine regA ?_ | refine pkA ?_ | fail); conv => whnf) | fail
 rfl
abbrev rLet (c : UInt8) : Bool := bif decide ((c.toNat : Int) ≥ 97) then decide ((c.toNat : Int) ≤ 122) else false
abbrev rOth (c : UInt8) : Bool := bif (bif decide ((c.toNat : Int) ≥ 48) then decide ((c.toNat : Int) ≤ 57) else false) then true else ((c.toNat : Int) == 95)
theorem znw (i : Nat) (c : UInt8) : (bif (!rLet c) then (bif ((i : Int) == 0) then true else !rOth c) else false) = !zg2 (decide (i = 0)) c := by
 rw [zg1]
 show _ = !(rLet c || zkW i c)
 cases rLet c with
 | true => rfl
 | false =>
  rw [Bool.false_or, Bool.not_false, cond_true]
  unfold zkW rOth
  by_cases hi : i = 0
  ·subst hi; rfl
  ·rw [beq_eq_false_iff_ne.2 (by omega), decide_eq_true (show (i : Int) > 0 by omega), cond_false, cond_true]
   cases decide ((c.toNat : Int) ≥ 48) <;> cases decide ((c.toNat : Int) ≤ 57) <;> cases ((c.toNat : Int) == 95) <;> rfl
theorem znv (l : Bs8) : FnC Tryz.prog 62 [sv (bs l)] (bv (zbb l)) := by
 have hsz := zbj l
 have hli := zco l
 have o := zpE (bs l).size 1 20
 by_cases h1 : 1 ≤ l.length ∧ l.length ≤ 20
 ·have ho : decide ((1 : Int) ≤ (bs l).size ∧ ((bs l).size : Int) ≤ 20) = true := decide_eq_true (by omega)
  rw [ho] at o
  have hg : (bs l).data.toList[((bs l).size - 1 : Int).toNat]? = some (l.getLastD 0) := by
   rw [hli, show ((bs l).size - 1 : Int).toNat = l.length - 1 by omega]
   exact zkd h1.1
  cases h2 : zpT l with
  | true =>
   have hr : zbb l = false := by
    unfold zbb
    rw [← zeo, h2]; simp
   rw [hr]
   refine hdC Tryz.func62 Tryz.ntmps62 (res := [.tmp 2]) fun w0 K0 => ?_
   repeat' first | refine zd ?_ | ((first | refine zi ?_ | with_reducible refine regA ?_ | refine zsn (o) ?_ | refine ⟨_, ze ⟨by omega, hg⟩, ?_⟩ | fail); conv => whnf) | (refine za rfl (fun _ => ?_) (zaf h2)) | ((first | refine zsq ?_ | refine andA ?_ | fail); conv => whnf) | fail
   rfl
  | false =>
   have hr : zbb l = z7 true l := by
    unfold zbb
    rw [← zeo, h2, decide_eq_true h1.1, decide_eq_true h1.2]; rfl
   rw [hr]
   refine hdC Tryz.func62 Tryz.ntmps62 (res := [.tmp 2]) fun w0 K0 => ?_
   repeat' first | refine zd ?_ | refine zc ?_ | ((first | refine zf ?_ | with_reducible refine regA ?_ | refine zsn (o) ?_ | refine ⟨_, ze ⟨by omega, hg⟩, ?_⟩ | fail); conv => whnf) | (refine za rfl (zM h2) (fun _ => ?_)) | ((first | refine zsq ?_ | refine andA ?_ | fail); conv => whnf) | fail
   refine zJ (fun i : Nat => [(3, iv .i64 i), (0, sv (bs l))]) (fun _ => [])
    (fun i => i ≤ l.length ∧ z7 true l = z7 (decide (i = 0)) (l.drop i)) (fun i => l.length - i) 0 ⟨Nat.zero_le _, rfl⟩ impA ?_
   rintro i ⟨hi, hn⟩
   rcases Nat.lt_or_ge i l.length with hil | hil
   ·rw [List.drop_eq_getElem_cons hil, z7] at hn
    have hgi : (bs l).data.toList[(i : Int).toNat]? = some l[i] := by rw [hli, Int.toNat_natCast, List.getElem?_eq_getElem hil]
    have hq := znw i l[i]
    cases ha : zg2 (decide (i = 0)) l[i] with
    | true =>
     rw [ha] at hn hq
     have hn : z7 true l = z7 (decide (i + 1 = 0)) (l.drop (i + 1)) := hn
     repeat' first | refine zd ?_ | refine zc ?_ | ((first | refine zf ?_ | refine zk ?_ | refine zi ?_ | with_reducible refine regA ?_ | refine drA (id := 6) 27 false [0, 0, 3, 7, 15, 31, 31, 127, 255, 511, 0, 0, 3072, 7168, 15391, 31775, 31775, 130079, 261151, 523295, 1047583, 2096159, 2096159, 8387615, 16776223, 33553439, 2097151, 134217727] ?_ | fail); conv => whnf) | exact abA hb | (refine za rfl (zM hq) (fun _ => ?_)) | ((first | refine pkA ?_ | refine ⟨_, ze ⟨by omega, hgi⟩, ?_⟩ | fail); conv => whnf) | (refine zso rfl (fun hb => ?_) (fun hb => ?_)) | ((first | refine zsq ?_ | refine andA ?_ | fail); conv => whnf) | fail
     exact ⟨i + 1, ⟨by omega, hn⟩, by omega, impA⟩
    | false =>
     rw [ha] at hn hq
     have hn : z7 true l = false := hn
     rw [hn]
     repeat' first | refine zd ?_ | refine zc ?_ | ((first | refine zf ?_ | refine zk ?_ | refine zi ?_ | with_reducible refine regA ?_ | refine drA (id := 6) 27 false [0, 0, 3, 7, 15, 31, 31, 127, 255, 511, 0, 0, 3072, 7168, 15391, 31775, 31775, 130079, 261151, 523295, 1047583, 2096159, 2096159, 8387615, 16776223, 33553439, 2097151, 134217727] ?_ | fail); conv => whnf) | exact abA hb | (refine za rfl (fun _ => ?_) (zaf hq)) | ((first | refine pkA ?_ | refine ⟨_, ze ⟨by omega, hgi⟩, ?_⟩ | fail); conv => whnf) | (refine zso rfl (fun hb => ?_) (fun hb => ?_)) | ((refine andA ?_); conv => whnf) | fail
     rfl
   ·rw [List.drop_eq_nil_of_le hil] at hn
    have hn : z7 true l = true := hn
    rw [hn]
    repeat' first | refine zd ?_ | refine zc ?_ | ((first | refine zf ?_ | refine zk ?_ | refine zi ?_ | with_reducible refine regA ?_ | refine drA (id := 6) 27 false [0, 0, 3, 7, 15, 31, 31, 127, 255, 511, 0, 0, 3072, 7168, 15391, 31775, 31775, 130079, 261151, 523295, 1047583, 2096159, 2096159, 8387615, 16776223, 33553439, 2097151, 134217727] ?_ | fail); conv => whnf) | exact abA hb | (refine zso rfl (fun hb => ?_) (fun hb => ?_)) | fail
    rfl
 ·have ho : decide ((1 : Int) ≤ (bs l).size ∧ ((bs l).size : Int) ≤ 20) = false := decide_eq_false (by omega)
  rw [ho] at o
  have hr : zbb l = false := by
   unfold zbb
   have : (decide (1 ≤ l.length) && decide (l.length ≤ 20)) = false := by
    rw [Bool.eq_false_iff]; simp; omega
   rw [this]; rfl
  rw [hr]
  refine hdC Tryz.func62 Tryz.ntmps62 (res := [.tmp 2]) fun w0 K0 => ?_
  repeat' first | refine zd ?_ | ((first | refine zi ?_ | with_reducible refine regA ?_ | refine zsn (o) ?_ | refine ⟨95, zax (fun h => absurd h (by decide)), ?_⟩ | fail); conv => whnf) | (refine zst rfl ?_) | ((first | refine ⟨IntKind.wrap _ _, rfl, ?_⟩ | refine andA ?_ | fail); conv => whnf) | fail
  rfl
theorem zrp {f : FormT} {s : CS} (hv : zaw [] f.vars = none) (h0 : ¬ (8 < f.vars.length ∨ ¬ (1 ≤ f.code.length ∧ f.code.length ≤ 40))) (h : CkR f f.code.length s) : zD f = if s.p ≠ 1 then 6 else if s.b = false ∨ s.u < f.vars.length then 2 else 0 := by
 unfold CkR at h
 unfold zD
 rw [if_neg h0, hv]
 dsimp only
 rw [h, List.drop_length, zav]
theorem str_eq {a b : Bs8} : ((bs a).toList == (bs b).toList) = decide (a = b) := zdf a b
theorem zjW {V : List Bs8} {i : Nat} (h : i < V.length) : (V.map zaa)[(i : Int).toNat]? = some [PV.v (.string (bs V[i]))] := by
 rw [Int.toNat_natCast, List.getElem?_map, List.getElem?_eq_getElem h]; rfl
theorem zh7 (f : FormT) : FnC Tryz.prog 21 [zaB f] (iv .i64 (zD f)) := by
 have hlv : (f.vars.map zaa).length = f.vars.length := List.length_map _
 have hlc : (f.code.map ndPV).length = f.code.length := List.length_map _
 have o1 := zho ((f.code.map ndPV).length : Int) 1 40
 by_cases h0 : 8 < f.vars.length ∨ ¬ (1 ≤ f.code.length ∧ f.code.length ≤ 40)
 ·have hr : zD f = 3 := by unfold zD; rw [if_pos h0]
  rw [hr]
  have hc : (bif decide (((f.vars.map zaa).length : Int) > 8) then true else !decide ((1 : Int) ≤ ((f.code.map ndPV).length : Int) ∧ ((f.code.map ndPV).length : Int) ≤ 40)) = true := by
   rcases h0 with h | h
   ·rw [decide_eq_true (show ((f.vars.map zaa).length : Int) > 8 by omega)]; rfl
   ·rw [decide_eq_false (show ¬ ((1 : Int) ≤ ((f.code.map ndPV).length : Int) ∧ ((f.code.map ndPV).length : Int) ≤ 40) by omega)]; cases decide (((f.vars.map zaa).length : Int) > 8) <;> rfl
  refine hdC Tryz.func21 Tryz.ntmps21 (res := [.tmp 2]) fun w0 K0 => ?_
  repeat' first | refine zd ?_ | ((first | refine zi ?_ | with_reducible refine regA ?_ | refine zsp (o1) ?_ | fail); conv => whnf) | (refine za rfl (fun _ => ?_) (zaf hc)) | ((refine andA ?_); conv => whnf) | (refine lnA fun hln => ?_; conv => whnf) | fail
  rfl
 ·have hc : (bif decide (((f.vars.map zaa).length : Int) > 8) then true else !decide ((1 : Int) ≤ ((f.code.map ndPV).length : Int) ∧ ((f.code.map ndPV).length : Int) ≤ 40)) = false := by
   rw [decide_eq_false (show ¬ ((f.vars.map zaa).length : Int) > 8 by omega), decide_eq_true (show ((1 : Int) ≤ ((f.code.map ndPV).length : Int) ∧ ((f.code.map ndPV).length : Int) ≤ 40) by omega)]; rfl
  have hv8 : f.vars.length ≤ 8 := by omega
  have hc40 : f.code.length ≤ 40 := by omega
  refine hdC Tryz.func21 Tryz.ntmps21 (res := [.tmp 2]) fun w0 K0 => ?_
  repeat' first | refine zd ?_ | refine zc ?_ | ((first | refine zf ?_ | with_reducible refine regA ?_ | refine zsp (o1) ?_ | fail); conv => whnf) | (refine za rfl (zM hc) (fun _ => ?_)) | ((refine andA ?_); conv => whnf) | (refine lnA fun hln => ?_; conv => whnf) | fail
  refine zJ (fun i : Nat => [(3, iv .i64 i), (1, .x (.b 1 0))]) (fun _ => [(1, .box (zb5 f))])
   (fun i => i ≤ f.vars.length ∧ zaw [] f.vars = zaw (f.vars.take i) (f.vars.drop i)) (fun i => f.vars.length - i) 0 ⟨Nat.zero_le _, by simp⟩ impA ?_
  rintro i ⟨hi, hz⟩
  rcases Nat.lt_or_ge i f.vars.length with hil | hil
  ·have nf := znv f.vars[i]
   rw [List.drop_eq_getElem_cons hil] at hz
   have gi := zjW hil
   cases hN : zbb f.vars[i] with
   | false =>
    have hr : zD f = 6 := by
     unfold zD
     rw [if_neg h0, hz, zaw, if_pos hN]
    rw [hr]
    rw [hN] at nf
    repeat' first | refine zd ?_ | refine zc ?_ | ((first | refine zf ?_ | refine zk ?_ | refine zi ?_ | with_reducible refine regA ?_ | fail); conv => whnf) | exact abA hb | ((first | refine zsn (nf) ?_ | refine ⟨_, ze ⟨by omega, gi⟩, ?_⟩ | fail); conv => whnf) | (refine zst rfl ?_) | (refine zso rfl (fun hb => ?_) (fun hb => ?_)) | ((refine andA ?_); conv => whnf) | (refine lnA fun hln => ?_; conv => whnf) | fail
    rfl
   | true =>
    rw [hN] at nf
    repeat' first | refine zd ?_ | refine zc ?_ | ((first | refine zf ?_ | refine zk ?_ | with_reducible refine regA ?_ | fail); conv => whnf) | exact abA hb | ((first | refine zsn (nf) ?_ | refine ⟨_, ze ⟨by omega, gi⟩, ?_⟩ | fail); conv => whnf) | (refine zss rfl ?_) | (refine zso rfl (fun hb => ?_) (fun hb => ?_)) | ((refine andA ?_); conv => whnf) | (refine lnA fun hln => ?_; conv => whnf) | fail
    refine zJ (fun k : Nat => [(4, iv .i64 k), (3, iv .i64 i), (1, .x (.b 1 0))]) (fun _ => [(1, .box (zb5 f))])
     (fun k => k ≤ i ∧ f.vars[i] ∉ f.vars.take k) (fun k => i - k) 0 ⟨Nat.zero_le _, by simp⟩ impA ?_
    rintro k ⟨hk, hm⟩
    rcases Nat.lt_or_ge k i with hki | hki
    ·have gk := zjW (show k < f.vars.length by omega)
     by_cases he : f.vars[k] = f.vars[i]
     ·have hr : zD f = 5 := by
       unfold zD
       rw [if_neg h0, hz, zaw, if_neg (by rw [hN]; decide), if_pos]
       rw [← he]
       refine List.mem_iff_getElem.2 ⟨k, by rw [List.length_take]; omega, ?_⟩
       rw [List.getElem_take]
      rw [hr]
      have hq : ((bs f.vars[k]).toList == (bs f.vars[i]).toList) = true := by rw [zdf]; exact decide_eq_true he
      repeat' first | refine zd ?_ | refine zc ?_ | ((first | refine zf ?_ | refine zk ?_ | refine zi ?_ | with_reducible refine regA ?_ | refine drA (id := 11) 10 false [0, 1, 0, 7, 15, 0, 32, 0, 224, 480, 1023] ?_ | fail); conv => whnf) | exact abA hb | (refine za rfl (fun _ => ?_) (zaf hq)) | ((first | refine ⟨_, ze ⟨by omega, gi⟩, ?_⟩ | refine ⟨_, ze ⟨by omega, gk⟩, ?_⟩ | fail); conv => whnf) | (refine zso rfl (fun hb => ?_) (fun hb => ?_)) | ((refine andA ?_); conv => whnf) | fail
      rfl
     ·have hq : ((bs f.vars[k]).toList == (bs f.vars[i]).toList) = false := by rw [zdf]; exact decide_eq_false he
      have hm2 : f.vars[i] ∉ f.vars.take (k + 1) := by
       rw [List.take_add_one, List.getElem?_eq_getElem (show k < f.vars.length by omega), List.mem_append, not_or]
       exact ⟨hm, by simp; exact fun h => he h.symm⟩
      repeat' first | refine zd ?_ | refine zc ?_ | ((first | refine zf ?_ | refine zk ?_ | with_reducible refine regA ?_ | refine drA (id := 11) 10 false [0, 1, 0, 7, 15, 0, 32, 0, 224, 480, 1023] ?_ | fail); conv => whnf) | exact abA hb | (refine za rfl (zM hq) (fun _ => ?_)) | ((first | refine ⟨_, ze ⟨by omega, gi⟩, ?_⟩ | refine ⟨_, ze ⟨by omega, gk⟩, ?_⟩ | fail); conv => whnf) | (refine zso rfl (fun hb => ?_) (fun hb => ?_)) | ((first | refine zsq ?_ | refine andA ?_ | fail); conv => whnf) | fail
      exact ⟨k + 1, ⟨by omega, hm2⟩, by omega, impA⟩
    ·obtain rfl : k = i := by omega
     have hz2 : zaw [] f.vars = zaw (f.vars.take (k + 1)) (f.vars.drop (k + 1)) := by
      rw [hz, zaw, if_neg (by rw [hN]; decide), if_neg hm, List.take_add_one, List.getElem?_eq_getElem hil]; rfl
     repeat' first | refine zd ?_ | refine zc ?_ | ((first | refine zf ?_ | refine zk ?_ | with_reducible refine regA ?_ | refine drA (id := 11) 10 false [0, 1, 0, 7, 15, 0, 32, 0, 224, 480, 1023] ?_ | fail); conv => whnf) | exact abA hb | (refine zso rfl (fun hb => ?_) (fun hb => ?_)) | ((refine zsq ?_); conv => whnf) | fail
     exact ⟨k + 1, ⟨by omega, hz2⟩, by omega, impA⟩
  ·have hv : zaw [] f.vars = none := by rw [hz, List.drop_eq_nil_of_le hil, zaw]
   obtain rfl : i = f.vars.length := by omega
   clear hz o1 hc
   repeat' first | refine zd ?_ | refine zc ?_ | ((first | refine zf ?_ | refine zk ?_ | with_reducible refine regA ?_ | fail); conv => whnf) | exact abA hb | (refine zso rfl (fun hb => ?_) (fun hb => ?_)) | ((refine andA ?_); conv => whnf) | (refine lnA fun hln => ?_; conv => whnf) | fail
   refine zJ (fun x : Nat × CS => [(8, iv .i64 x.1), (5, iv .i64 x.2.p), (6, iv .i64 x.2.u), (7, bv x.2.b), (1, .x (.b 1 0))]) (fun _ => [(1, .box (zb5 f))])
    (fun x => x.1 ≤ f.code.length ∧ x.2.p ≤ 12 ∧ x.2.u ≤ f.vars.length ∧ CkR f x.1 x.2) (fun x => f.code.length - x.1) (0, ⟨0, 0, true⟩) ⟨Nat.zero_le _, Nat.zero_le _, Nat.zero_le _, rfl⟩ impA ?_
   rintro ⟨i, s⟩ ⟨hi, hp, hu, hz⟩
   dsimp only at hi hp hu hz ⊢
   rcases Nat.lt_or_ge i f.code.length with hil | hil
   ·have stop := fun {e : Int} => zmX (e := e) hv h0 hil hz
    have next := fun {s' : CS} => zmY (s' := s') hil hz
    have nf := znu f f.code[i]
    have op := zlv f.code[i]
    clear hz
    by_cases hk : 1 ≤ f.code[i].kind ∧ f.code[i].kind ≤ 5
    ·by_cases hf : fine f.vars.length f.code[i]
     ·have hn0 : zbA f.vars.length f.code[i] = 0 := by unfold zbA; rw [if_pos hk, if_pos hf]
      rw [hn0] at nf
      by_cases k3 : 3 ≤ f.code[i].kind
      ·have st := zqJ (s := s) k3 hk.2 hp hf
       rw [decide_eq_true (show 3 ≤ f.code[i].kind ∧ f.code[i].kind ≤ 5 from ⟨k3, hk.2⟩)] at op
       have c1 : (bif f.code[i].kind == 1 then decide (f.code[i].var > s.u) else false) = false := by rw [beq_eq_false_iff_ne.2 (by omega)]; rfl
       have c2 : (bif f.code[i].kind == 1 then f.code[i].var == s.u else false) = false := by rw [beq_eq_false_iff_ne.2 (by omega)]; rfl
       by_cases hp2 : s.p < 2
       ·rw [if_pos hp2] at st
        rw [stop st]
        repeat' first | refine zd ?_ | refine zc ?_ | ((first | refine zf ?_ | refine zk ?_ | refine zi ?_ | with_reducible refine regA ?_ | fail); conv => whnf) | exact abA hb | ((first | refine zsn (nf) ?_ | refine zsn (op) ?_ | fail); conv => whnf) | (refine zst rfl ?_) | (refine zss rfl ?_) | (refine zso rfl (fun hb => ?_) (fun hb => ?_)) | ((first | refine andA ?_ | with_reducible refine exA fun _ => ?_ | fail); conv => whnf) | (refine lnA fun hln => ?_; conv => whnf) | fail
        rfl
       ·rw [if_neg hp2] at st
        repeat' first | refine zd ?_ | refine zc ?_ | ((first | refine zf ?_ | refine zk ?_ | refine zi ?_ | with_reducible refine regA ?_ | fail); conv => whnf) | exact abA hb | (refine za rfl (zM c1) (fun _ => ?_)) | (refine za rfl (zM c2) (fun _ => ?_)) | ((first | refine zsn (nf) ?_ | refine zsn (op) ?_ | refine pkA ?_ | fail); conv => whnf) | (refine zst rfl ?_) | (refine zss rfl ?_) | (refine zso rfl (fun hb => ?_) (fun hb => ?_)) | ((first | refine zsq ?_ | refine andA ?_ | with_reducible refine exA fun _ => ?_ | fail); conv => whnf) | (refine lnA fun hln => ?_; conv => whnf) | fail
        exact ⟨(i + 1, (⟨s.p - 2 + 1, s.u, s.b⟩ : CS)), ⟨by show i + 1 ≤ f.code.length; omega, by show s.p - 2 + 1 ≤ 12; omega, hu, next st⟩, by show f.code.length - (i + 1) < f.code.length - i; omega, impA⟩
      ·rw [decide_eq_false (fun h => k3 h.1)] at op
       have st := zhi (s := s) hk hf
       rw [if_neg (fun h => k3 h.1), if_neg k3] at st
       by_cases h12 : 12 < s.p + 1
       ·rw [if_pos h12] at st
        rw [stop st]
        repeat' first | refine zd ?_ | refine zc ?_ | ((first | refine zf ?_ | refine zk ?_ | refine zi ?_ | with_reducible refine regA ?_ | fail); conv => whnf) | exact abA hb | ((first | refine zsn (nf) ?_ | refine zsn (op) ?_ | fail); conv => whnf) | (refine zss rfl ?_) | (refine zso rfl (fun hb => ?_) (fun hb => ?_)) | ((first | refine zsq ?_ | refine andA ?_ | with_reducible refine exA fun _ => ?_ | fail); conv => whnf) | (refine lnA fun hln => ?_; conv => whnf) | fail
        rfl
       ·rw [if_neg h12] at st
        by_cases k1 : f.code[i].kind = 1
        ·have hvar := hf
         unfold fine at hvar
         rw [if_pos k1] at hvar
         by_cases hg : (s.u : Int) < f.code[i].var
         ·rw [if_neg (by omega), decide_eq_true k1, decide_eq_true hg] at st
          have c1 : (bif f.code[i].kind == 1 then decide (f.code[i].var > s.u) else false) = true := by rw [beq_iff_eq.2 k1, decide_eq_true (show f.code[i].var > s.u from hg)]; rfl
          have c2 : (bif f.code[i].kind == 1 then f.code[i].var == s.u else false) = false := by rw [beq_eq_false_iff_ne.2 (show f.code[i].var ≠ s.u by omega)]; cases (f.code[i].kind == 1) <;> rfl
          have hbb : false = (s.b && !(true && true)) := by simp
          repeat' first | refine zd ?_ | refine zc ?_ | ((first | refine zf ?_ | refine zk ?_ | refine zi ?_ | with_reducible refine regA ?_ | fail); conv => whnf) | exact abA hb | (refine za rfl (fun _ => ?_) (zaf c1)) | (refine za rfl (zM c2) (fun _ => ?_)) | ((first | refine zsn (nf) ?_ | refine zsn (op) ?_ | refine pkA ?_ | fail); conv => whnf) | (refine zss rfl ?_) | (refine zso rfl (fun hb => ?_) (fun hb => ?_)) | ((first | refine zsq ?_ | refine andA ?_ | with_reducible refine exA fun _ => ?_ | fail); conv => whnf) | (refine lnA fun hln => ?_; conv => whnf) | fail
          exact ⟨(i + 1, (⟨s.p + 1, s.u, s.b && !(true && true)⟩ : CS)), ⟨by show i + 1 ≤ _; omega, by show s.p + 1 ≤ 12; omega, hu, next st⟩, by show f.code.length - (i + 1) < f.code.length - i; omega, (impX (by repeat' (first | exact trivial | refine And.intro ?_ ?_ | exact bvE hbb | exact zsw)))⟩
         ·rw [decide_eq_false hg] at st
          have c1 : (bif f.code[i].kind == 1 then decide (f.code[i].var > s.u) else false) = false := by rw [decide_eq_false (show ¬ f.code[i].var > s.u from hg)]; cases (f.code[i].kind == 1) <;> rfl
          have hbb : s.b = (s.b && !(decide (f.code[i].kind = 1) && false)) := by simp
          by_cases hue : f.code[i].var = s.u
          ·rw [if_pos ⟨k1, hue⟩] at st
           have c2 : (bif f.code[i].kind == 1 then f.code[i].var == s.u else false) = true := by rw [beq_iff_eq.2 k1, beq_iff_eq.2 hue]; rfl
           repeat' first | refine zd ?_ | refine zc ?_ | ((first | refine zf ?_ | refine zk ?_ | refine zi ?_ | with_reducible refine regA ?_ | fail); conv => whnf) | exact abA hb | (refine za rfl (zM c1) (fun _ => ?_)) | (refine za rfl (fun _ => ?_) (zaf c2)) | ((first | refine zsn (nf) ?_ | refine zsn (op) ?_ | refine pkA ?_ | fail); conv => whnf) | (refine zss rfl ?_) | (refine zso rfl (fun hb => ?_) (fun hb => ?_)) | ((first | refine zsq ?_ | refine andA ?_ | with_reducible refine exA fun _ => ?_ | fail); conv => whnf) | (refine lnA fun hln => ?_; conv => whnf) | fail
           exact ⟨(i + 1, (⟨s.p + 1, s.u + 1, s.b && !(decide (f.code[i].kind = 1) && false)⟩ : CS)), ⟨by show i + 1 ≤ _; omega, by show s.p + 1 ≤ 12; omega, by show s.u + 1 ≤ f.vars.length; omega, next st⟩, by show f.code.length - (i + 1) < f.code.length - i; omega, (impX (by repeat' (first | exact trivial | refine And.intro ?_ ?_ | exact bvE hbb | exact zsw)))⟩
          ·rw [if_neg (fun h => hue h.2)] at st
           have c2 : (bif f.code[i].kind == 1 then f.code[i].var == s.u else false) = false := by rw [beq_eq_false_iff_ne.2 hue]; cases (f.code[i].kind == 1) <;> rfl
           repeat' first | refine zd ?_ | refine zc ?_ | ((first | refine zf ?_ | refine zk ?_ | refine zi ?_ | with_reducible refine regA ?_ | fail); conv => whnf) | exact abA hb | (refine za rfl (zM c1) (fun _ => ?_)) | (refine za rfl (zM c2) (fun _ => ?_)) | ((first | refine zsn (nf) ?_ | refine zsn (op) ?_ | refine pkA ?_ | fail); conv => whnf) | (refine zss rfl ?_) | (refine zso rfl (fun hb => ?_) (fun hb => ?_)) | ((first | refine zsq ?_ | refine andA ?_ | with_reducible refine exA fun _ => ?_ | fail); conv => whnf) | (refine lnA fun hln => ?_; conv => whnf) | fail
           exact ⟨(i + 1, (⟨s.p + 1, s.u, s.b && !(decide (f.code[i].kind = 1) && false)⟩ : CS)), ⟨by show i + 1 ≤ _; omega, by show s.p + 1 ≤ 12; omega, hu, next st⟩, by show f.code.length - (i + 1) < f.code.length - i; omega, (impX (by repeat' (first | exact trivial | refine And.intro ?_ ?_ | exact bvE hbb | exact zsw)))⟩
        ·rw [if_neg (fun h => k1 h.1), decide_eq_false k1] at st
         have c1 : (bif f.code[i].kind == 1 then decide (f.code[i].var > s.u) else false) = false := by rw [beq_eq_false_iff_ne.2 k1]; rfl
         have c2 : (bif f.code[i].kind == 1 then f.code[i].var == s.u else false) = false := by rw [beq_eq_false_iff_ne.2 k1]; rfl
         have hbb : s.b = (s.b && !(false && decide ((s.u : Int) < f.code[i].var))) := by simp
         repeat' first | refine zd ?_ | refine zc ?_ | ((first | refine zf ?_ | refine zk ?_ | refine zi ?_ | with_reducible refine regA ?_ | fail); conv => whnf) | exact abA hb | (refine za rfl (zM c1) (fun _ => ?_)) | (refine za rfl (zM c2) (fun _ => ?_)) | ((first | refine zsn (nf) ?_ | refine zsn (op) ?_ | refine pkA ?_ | fail); conv => whnf) | (refine zss rfl ?_) | (refine zso rfl (fun hb => ?_) (fun hb => ?_)) | ((first | refine zsq ?_ | refine andA ?_ | with_reducible refine exA fun _ => ?_ | fail); conv => whnf) | (refine lnA fun hln => ?_; conv => whnf) | fail
         exact ⟨(i + 1, (⟨s.p + 1, s.u, s.b && !(false && decide ((s.u : Int) < f.code[i].var))⟩ : CS)), ⟨by show i + 1 ≤ _; omega, by show s.p + 1 ≤ 12; omega, hu, next st⟩, by show f.code.length - (i + 1) < f.code.length - i; omega, (impX (by repeat' (first | exact trivial | refine And.intro ?_ ?_ | exact bvE hbb | exact zsw)))⟩
     ·have hn0 : zbA f.vars.length f.code[i] = 7 := by unfold zbA; rw [if_pos hk, if_neg hf]
      rw [hn0] at nf
      rw [stop (zjY hk hf)]
      repeat' first | refine zd ?_ | refine zc ?_ | ((first | refine zf ?_ | refine zk ?_ | refine zi ?_ | with_reducible refine regA ?_ | fail); conv => whnf) | exact abA hb | ((refine zsn (nf) ?_); conv => whnf) | (refine zst rfl ?_) | (refine zso rfl (fun hb => ?_) (fun hb => ?_)) | ((first | refine andA ?_ | with_reducible refine exA fun _ => ?_ | fail); conv => whnf) | (refine lnA fun hln => ?_; conv => whnf) | fail
      rfl
    ·have hn0 : zbA f.vars.length f.code[i] = 2 := by unfold zbA; rw [if_neg hk]
     rw [hn0] at nf
     rw [stop (zjZ hk)]
     repeat' first | refine zd ?_ | refine zc ?_ | ((first | refine zf ?_ | refine zk ?_ | refine zi ?_ | with_reducible refine regA ?_ | fail); conv => whnf) | exact abA hb | ((refine zsn (nf) ?_); conv => whnf) | (refine zst rfl ?_) | (refine zso rfl (fun hb => ?_) (fun hb => ?_)) | ((first | refine andA ?_ | with_reducible refine exA fun _ => ?_ | fail); conv => whnf) | (refine lnA fun hln => ?_; conv => whnf) | fail
     rfl
   ·obtain rfl : i = f.code.length := by omega
    have hfin := zrp hv h0 hz
    clear hz
    rw [hfin]
    by_cases p1 : s.p = 1
    ·rw [if_neg (fun h => h p1)]
     have e : (bif !s.b then true else ((s.u : Int) != ((f.vars.map zaa).length : Int))) = decide (s.b = false ∨ s.u < f.vars.length) := by
      rw [hlv, Bool.eq_iff_iff, decide_eq_true_iff]
      cases s.b with
      | false => simp
      | true =>
       rw [Bool.not_true, cond_false, bne_iff_ne]
       constructor
       ·intro h; right; omega
       ·rintro (h | h)
        ·cases h
        ·omega
     by_cases hE : s.b = false ∨ s.u < f.vars.length
     ·rw [if_pos hE]
      rw [decide_eq_true hE] at e
      repeat' first | refine zd ?_ | refine zc ?_ | ((first | refine zf ?_ | refine zk ?_ | refine zi ?_ | with_reducible refine regA ?_ | fail); conv => whnf) | exact abA hb | (refine za rfl (fun _ => ?_) (zaf e)) | ((refine pkA ?_); conv => whnf) | (refine zso rfl (fun hb => ?_) (fun hb => ?_)) | (refine lnA fun hln => ?_; conv => whnf) | fail
      rfl
     ·rw [if_neg hE]
      rw [decide_eq_false hE] at e
      repeat' first | refine zd ?_ | refine zc ?_ | ((first | refine zf ?_ | refine zk ?_ | refine zi ?_ | with_reducible refine regA ?_ | fail); conv => whnf) | exact abA hb | (refine za rfl (zM e) (fun _ => ?_)) | ((refine pkA ?_); conv => whnf) | (refine zso rfl (fun hb => ?_) (fun hb => ?_)) | (refine lnA fun hln => ?_; conv => whnf) | fail
      rfl
    ·rw [if_pos p1]
     repeat' first | refine zd ?_ | refine zc ?_ | ((first | refine zf ?_ | refine zk ?_ | refine zi ?_ | with_reducible refine regA ?_ | fail); conv => whnf) | exact abA hb | ((refine pkA ?_); conv => whnf) | (refine zso rfl (fun hb => ?_) (fun hb => ?_)) | (refine lnA fun hln => ?_; conv => whnf) | fail
     rfl
theorem zeh {st : List (List PV)} {x : List PV} {n : Nat} (hn : n = st.length + 1) : n ≤ (st.take st.length ++ [x]).length := by
 rw [hn]; simp
theorem zdo {st : List (List PV)} {x : List PV} {n : Nat} (hn : n = st.length + 1) : (st.take st.length ++ [x]).take n = st ++ [x] := by
 rw [hn, List.take_length, List.take_of_length_le (by simp)]
end Go.Proofs.YtmceekhgnfpamaaGreatDoor
namespace Go.Proofs.YtmceekhgnfpamaaGreatDoor
open Go Go.QL FoT
set_option maxHeartbeats 3200000
attribute [local irreducible] ACall FnC
theorem zpD (n lo hi : Int) : FnC Tryz.prog 94 [iv .i64 n, iv .i64 lo, iv .i64 hi] (bv (decide (lo ≤ n ∧ n ≤ hi))) := by
 rw [← zjG]
 refine hdC Tryz.func94 Tryz.ntmps94 (res := [.tmp 6]) fun w0 K0 => ?_
 repeat' first | refine zd ?_ | ((first | refine zi ?_ | with_reducible refine regA ?_ | refine pkA ?_ | fail); conv => whnf) | fail
 rfl
theorem zlD (n : Int) : FnC Tryz.prog 38 [iv .i64 n] (bv (decide (zP n))) := by
 have h := zpD n 0 16777215
 rw [show decide (0 ≤ n ∧ n ≤ 16777215) = decide (zP n) from rfl] at h
 refine hdC Tryz.func38 Tryz.ntmps38 (res := [.tmp 2]) fun w0 K0 => ?_
 repeat' first | refine zd ?_ | ((first | refine zi ?_ | with_reducible refine regA ?_ | refine zsn (h) ?_ | fail); conv => whnf) | fail
 rfl
theorem zh8 (w : Int) (h : zP w) : FnC Tryz.prog 39 [iv .i64 w] (iv .i64 (sgnW w)) := by
 unfold zP at h
 unfold sgnW
 by_cases hs : 8388608 ≤ w
 ·rw [if_pos hs]
  refine hdC Tryz.func39 Tryz.ntmps39 (res := [.tmp 2]) fun w0 K0 => ?_
  repeat' first | refine zd ?_ | ((first | refine zf ?_ | refine zi ?_ | with_reducible refine regA ?_ | fail); conv => whnf) | exact abA hb | (refine zso rfl (fun hb => ?_) (fun hb => ?_)) | ((refine zsq ?_); conv => whnf) | fail
  rfl
 ·rw [if_neg hs]
  refine hdC Tryz.func39 Tryz.ntmps39 (res := [.tmp 2]) fun w0 K0 => ?_
  repeat' first | refine zd ?_ | ((first | refine zf ?_ | refine zi ?_ | with_reducible refine regA ?_ | fail); conv => whnf) | exact abA hb | (refine zso rfl (fun hb => ?_) (fun hb => ?_)) | fail
  rfl
theorem zjT {x : Int} (h : 0 ≤ x) : x.tmod 16777216 = x % 16777216 := Int.tmod_eq_emod_of_nonneg h
theorem zlq {w : Int} (h : zP w) : -8388608 ≤ sgnW w ∧ sgnW w ≤ 8388607 := by
 unfold zP at h; unfold sgnW; split <;> omega
theorem zc3 {x y : Int} (hx : -8388608 ≤ x ∧ x ≤ 8388607) (hy : -8388608 ≤ y ∧ y ≤ 8388607) : -70368744177664 ≤ x * y ∧ x * y ≤ 70368744177664 := by
 have h := zl4 hx.1 hx.2 hy.1 hy.2
 unfold min4 max4 at h
 omega
theorem zgG {n : Int} (h : n.natAbs ≤ 70368744177664) : (n.tmod 8388608 < 0 → n.tdiv 8388608 - 1 = n / 8388608) ∧ (¬ n.tmod 8388608 < 0 → n.tdiv 8388608 = n / 8388608) := by
 have e1 := Int.mul_tdiv_add_tmod n 8388608
 have e2 := Int.tmod_lt_of_pos n (show (0 : Int) < 8388608 by decide)
 have e3 := Int.lt_tmod_of_pos n (show (0 : Int) < 8388608 by decide)
 generalize n.tmod 8388608 = r at *
 generalize n.tdiv 8388608 = q at *
 constructor <;> intro hr <;> omega
theorem zns (a b : Int) (ha : zP a) (hb' : zP b) : FnC Tryz.prog 158 [iv .i64 a, iv .i64 b] (iv .i64 (opV 5 (sgnW a) (sgnW b) % 16777216)) := by
 have sa := zh8 a ha
 have sb := zh8 b hb'
 have hm := zc3 (zlq ha) (zlq hb')
 rw [show opV 5 (sgnW a) (sgnW b) = sgnW a * sgnW b / 8388608 from rfl]
 obtain ⟨n, hn⟩ : ∃ n, sgnW a * sgnW b = n := ⟨_, rfl⟩
 rw [hn] at hm ⊢
 have hw : IntKind.i64.wrap (sgnW a * sgnW b) = n := by rw [hn, zg (by omega)]
 obtain ⟨t1, t2⟩ := zgG (show n.natAbs ≤ 70368744177664 by omega)
 have hq0 : IntKind.i64.wrap (n.tdiv 8388608) = n.tdiv 8388608 := by
  rw [zg]
  have e1 := Int.mul_tdiv_add_tmod n 8388608
  have e2 := Int.tmod_lt_of_pos n (show (0 : Int) < 8388608 by decide)
  have e3 := Int.lt_tmod_of_pos n (show (0 : Int) < 8388608 by decide)
  omega
 by_cases hr : n.tmod 8388608 < 0
 ·have e := t1 hr
  have hq1 : IntKind.i64.wrap (n.tdiv 8388608 - 1) = n / 8388608 := by rw [e, zg (by omega)]
  have hf : (n / 8388608 + 16777216).tmod 16777216 = n / 8388608 % 16777216 := by rw [zjT (by omega)]; omega
  refine hdC Tryz.func158 Tryz.ntmps158 (res := [.tmp 4]) fun w0 K0 => ?_
  repeat' first | refine zd ?_ | ((first | refine zf ?_ | refine zi ?_ | with_reducible refine regA ?_ | fail); conv => whnf) | exact abA hb | ((first | refine zsn (sa) ?_ | refine zsn (sb) ?_ | refine ⟨_, hw, ?_⟩ | refine ⟨_, hq0, ?_⟩ | refine ⟨_, hq1, ?_⟩ | refine ⟨_, hf, ?_⟩ | refine ⟨Int.tmod _ _, rfl, ?_⟩ | fail); conv => whnf) | (refine zso rfl (fun hb => ?_) (fun hb => ?_)) | ((first | refine zsq ?_ | refine andA ?_ | fail); conv => whnf) | fail
  rfl
 ·have e := t2 hr
  rw [e] at hq0
  have hf : (n / 8388608 + 16777216).tmod 16777216 = n / 8388608 % 16777216 := by rw [zjT (by omega)]; omega
  rw [← e] at hq0 hf ⊢
  refine hdC Tryz.func158 Tryz.ntmps158 (res := [.tmp 4]) fun w0 K0 => ?_
  repeat' first | refine zd ?_ | ((first | refine zf ?_ | refine zi ?_ | with_reducible refine regA ?_ | fail); conv => whnf) | exact abA hb | ((first | refine zsn (sa) ?_ | refine zsn (sb) ?_ | refine ⟨_, hw, ?_⟩ | refine ⟨_, hq0, ?_⟩ | refine ⟨_, hf, ?_⟩ | refine ⟨Int.tmod _ _, rfl, ?_⟩ | fail); conv => whnf) | (refine zso rfl (fun hb => ?_) (fun hb => ?_)) | ((first | refine zsq ?_ | refine andA ?_ | fail); conv => whnf) | fail
  rfl
theorem znD (k a b : Int) (hk : k = 3 ∨ k = 4 ∨ k = 5) (ha : zP a) (hb' : zP b) : FnC Tryz.prog 132 [iv .i64 k, iv .i64 a, iv .i64 b] (iv .i64 (opV k (sgnW a) (sgnW b) % 16777216)) := by
 have pr := zns a b ha hb'
 unfold zP at ha hb'
 rcases hk with rfl | rfl | rfl
 ·have e : (a + b).tmod 16777216 = opV 3 (sgnW a) (sgnW b) % 16777216 := by
   rw [zjT (by omega)]
   show _ = (sgnW a + sgnW b) % 16777216
   unfold sgnW
   split <;> split <;> omega
  refine hdC Tryz.func132 Tryz.ntmps132 (res := [.tmp 6]) fun w0 K0 => ?_
  repeat' first | refine zd ?_ | ((first | refine zi ?_ | with_reducible refine regA ?_ | refine ⟨_, e, ?_⟩ | fail); conv => whnf) | (refine zst rfl ?_) | ((first | refine zsq ?_ | refine andA ?_ | fail); conv => whnf) | fail
  rfl
 ·have e : (a - b + 16777216).tmod 16777216 = opV 4 (sgnW a) (sgnW b) % 16777216 := by
   rw [zjT (by omega)]
   show _ = (sgnW a - sgnW b) % 16777216
   unfold sgnW
   split <;> split <;> omega
  refine hdC Tryz.func132 Tryz.ntmps132 (res := [.tmp 6]) fun w0 K0 => ?_
  repeat' first | refine zd ?_ | ((first | refine zf ?_ | refine zi ?_ | with_reducible refine regA ?_ | refine ⟨_, e, ?_⟩ | fail); conv => whnf) | (refine zst rfl ?_) | (refine zss rfl ?_) | ((first | refine zsq ?_ | refine andA ?_ | fail); conv => whnf) | fail
  rfl
 ·refine hdC Tryz.func132 Tryz.ntmps132 (res := [.tmp 6]) fun w0 K0 => ?_
  repeat' first | refine zd ?_ | ((first | refine zf ?_ | refine zi ?_ | with_reducible refine regA ?_ | refine zsn (pr) ?_ | fail); conv => whnf) | (refine zss rfl ?_) | fail
  rfl
theorem zi6 {x t : Int} (h : 0 ≤ x) (ht : t = 10 ∨ t = 100 ∨ t = 1000 ∨ t = 10000 ∨ t = 100000 ∨ t = 1000000) : (2 * x + t) / (2 * t) = (x + t / 2) / t := by
 rcases ht with rfl | rfl | rfl | rfl | rfl | rfl <;> omega
theorem zhT {n : FNode} (h : 1 ≤ n.places ∧ n.places ≤ 6) : ten n = 10 ∨ ten n = 100 ∨ ten n = 1000 ∨ ten n = 10000 ∨ ten n = 100000 ∨ ten n = 1000000 := by
 unfold ten
 have : n.places = 1 ∨ n.places = 2 ∨ n.places = 3 ∨ n.places = 4 ∨ n.places = 5 ∨ n.places = 6 := by omega
 rcases this with e | e | e | e | e | e <;> rw [e] <;> decide
theorem zhZ (n : FNode) {nv : Nat} (hk : n.kind = 2) (hf : fine nv n) : FnC Tryz.prog 82 [ndAV n] (.t [iv .i64 (zbo n), bv (decide (zdz n = 0))]) := by
 obtain ⟨f1, f2, f3, f4⟩ := (zgA hk).1 hf
 have t := zls f2
 have tb := (zdk f2).2
 have e1 : zbo n = (2 * (n.num * 8388608) + ten n).tdiv (2 * ten n) := by
  rw [Int.tdiv_eq_ediv_of_nonneg (by omega), zi6 (by omega) (zhT f2)]; rfl
 have hb0 : zbo n = (n.num * 8388608 + ten n / 2) / ten n := rfl
 have hwb : 0 ≤ zbo n ∧ zbo n ≤ 8388608 := by
  rw [hb0]
  rcases zhT f2 with h | h | h | h | h | h <;> rw [h] at f3 ⊢ <;> omega
 have hw : IntKind.i64.wrap ((2 * (n.num * 8388608) + ten n).tdiv (2 * ten n)) = zbo n := by rw [← e1, zg (by omega)]
 have e2 : ((n.num * 8388608).tmod (ten n) == 0) = decide (zdz n = 0) := by
  rw [Int.tmod_eq_emod_of_nonneg (by omega), Bool.eq_iff_iff, beq_iff_eq, decide_eq_true_iff]
  unfold zdz
  split
  ·simp [*]
  ·simp [*]
 rw [← e2]
 generalize zbo n = W at *
 refine hdC Tryz.func82 Tryz.ntmps82 (res := [.tmp 2, .tmp 3]) fun w0 K0 => ?_
 repeat' first | refine zd ?_ | ((first | refine zi ?_ | with_reducible refine regA ?_ | refine drA (id := 1) 6 false [0, 1, 3, 0, 8, 24, 63, 127] ?_ | refine drA (id := 2) 12 false [0, 1, 0, 7, 0, 16, 63, 0, 0, 384, 896, 127, 4095] ?_ | refine zsp (t) ?_ | refine ⟨_, hw, ?_⟩ | refine ⟨Int.tmod _ _, rfl, ?_⟩ | refine And.intro (zay (by omega)) ?_ | refine zsq ?_ | refine andA ?_ | fail); conv => whnf) | fail
 rfl
end Go.Proofs.YtmceekhgnfpamaaGreatDoor
namespace Go.Proofs.YtmceekhgnfpamaaGreatDoor
open Go Go.QL FoT
set_option maxHeartbeats 3200000
attribute [local irreducible] ACall FnC
theorem ztM (a b : List Int) : FnC Tryz.prog 88 [sl a, sl b] (bv (decide (a = b))) := by
 have hla : (a.map fun n : Int => [PV.v (.int .i64 n)]).length = a.length := List.length_map _
 have hlb : (b.map fun n : Int => [PV.v (.int .i64 n)]).length = b.length := List.length_map _
 by_cases hl : a.length = b.length
 ·refine hdC Tryz.func88 Tryz.ntmps88 (res := [.tmp 4]) fun w0 K0 => ?_
  repeat' first | refine zd ?_ | refine zc ?_ | ((first | refine zf ?_ | refine zi ?_ | with_reducible refine regA ?_ | fail); conv => whnf) | exact abA hb | (refine zso rfl (fun hb => ?_) (fun hb => ?_)) | (refine lnA fun hln => ?_; conv => whnf) | fail
  refine zJ (fun i : Nat => [(5, iv .i64 i), (4, bv false), (1, sl b), (0, sl a)]) (fun _ => []) (fun i => i ≤ a.length ∧ a.take i = b.take i) (fun i => a.length - i) 0 ⟨Nat.zero_le _, rfl⟩ impA ?_
  rintro j ⟨hj, he⟩
  rcases Nat.lt_or_ge j a.length with hjl | hjl
  ·have ga : (a.map fun n : Int => [PV.v (.int .i64 n)])[(j : Int).toNat]? = some [PV.v (.int .i64 a[j])] := by rw [Int.toNat_natCast, List.getElem?_map, List.getElem?_eq_getElem hjl]; rfl
   have gb : (b.map fun n : Int => [PV.v (.int .i64 n)])[(j : Int).toNat]? = some [PV.v (.int .i64 (b[j]'(by omega)))] := by rw [Int.toNat_natCast, List.getElem?_map, List.getElem?_eq_getElem (by omega)]; rfl
   by_cases hx : a[j] = b[j]'(by omega)
   ·repeat' first | refine zd ?_ | refine zc ?_ | ((first | refine zf ?_ | refine zk ?_ | refine zi ?_ | with_reducible refine regA ?_ | refine drA (id := 6) 8 false [0, 0, 3, 7, 0, 0, 48, 112, 255] ?_ | fail); conv => whnf) | exact abA hb | ((first | refine ⟨_, ze ⟨by omega, ga⟩, ?_⟩ | refine ⟨_, ze ⟨by omega, gb⟩, ?_⟩ | fail); conv => whnf) | (refine zso rfl (fun hb => ?_) (fun hb => ?_)) | ((first | refine zsq ?_ | refine andA ?_ | fail); conv => whnf) | (refine lnA fun hln => ?_; conv => whnf) | fail
    exact ⟨j + 1, ⟨by omega, by rw [List.take_add_one, List.take_add_one, he, List.getElem?_eq_getElem hjl, List.getElem?_eq_getElem (show j < b.length by omega), hx]⟩, by omega, impA⟩
   ·have hd : decide (a = b) = false := decide_eq_false (by intro e; subst e; exact hx rfl)
    rw [hd]
    repeat' first | refine zd ?_ | refine zc ?_ | ((first | refine zf ?_ | refine zk ?_ | refine zi ?_ | with_reducible refine regA ?_ | refine drA (id := 6) 8 false [0, 0, 3, 7, 0, 0, 48, 112, 255] ?_ | fail); conv => whnf) | exact abA hb | ((first | refine ⟨_, ze ⟨by omega, ga⟩, ?_⟩ | refine ⟨_, ze ⟨by omega, gb⟩, ?_⟩ | fail); conv => whnf) | (refine zso rfl (fun hb => ?_) (fun hb => ?_)) | ((refine andA ?_); conv => whnf) | (refine lnA fun hln => ?_; conv => whnf) | fail
    rfl
  ·have hd : decide (a = b) = true := decide_eq_true (by rw [List.take_of_length_le (by omega), List.take_of_length_le (by omega)] at he; exact he)
   rw [hd]
   repeat' first | refine zd ?_ | refine zc ?_ | ((first | refine zf ?_ | refine zk ?_ | refine zi ?_ | with_reducible refine regA ?_ | refine drA (id := 6) 8 false [0, 0, 3, 7, 0, 0, 48, 112, 255] ?_ | fail); conv => whnf) | exact abA hb | (refine zso rfl (fun hb => ?_) (fun hb => ?_)) | (refine lnA fun hln => ?_; conv => whnf) | fail
   rfl
 ·have hd : decide (a = b) = false := decide_eq_false (by intro e; subst e; exact hl rfl)
  rw [hd]
  refine hdC Tryz.func88 Tryz.ntmps88 (res := [.tmp 4]) fun w0 K0 => ?_
  repeat' first | refine zd ?_ | refine zc ?_ | ((first | refine zf ?_ | refine zi ?_ | with_reducible refine regA ?_ | fail); conv => whnf) | exact abA hb | (refine zso rfl (fun hb => ?_) (fun hb => ?_)) | (refine lnA fun hln => ?_; conv => whnf) | fail
  rfl
theorem ztK (p : ProgT) : FnC Tryz.prog 29 [zoV p, zoV p] (bv true) := by
 have hi := ztM p.store p.store
 rw [decide_eq_true rfl] at hi
 have hfin : (bif (bif p.start == p.start then p.orders == p.orders else false) then true else false) = true := by simp
 refine hdC Tryz.func29 Tryz.ntmps29 (res := [.tmp 4]) fun w0 K0 => ?_
 repeat' first | refine zd ?_ | ((first | refine zi ?_ | with_reducible refine regA ?_ | refine zsp (hi) ?_ | refine pkA ?_ | fail); conv => whnf) | fail
 exact congrArg some (congrArg bv hfin)
theorem ztJ (op a b c : Int) (h0 : 0 ≤ op ∧ op ≤ 7) (h1 : 0 ≤ a ∧ a ≤ 127) (h2 : 0 ≤ b ∧ b ≤ 127) (h3 : 0 ≤ c ∧ c ≤ 127) : FnC Tryz.prog 87 [orAV op a b c] (iv .i64 (encW op a b c)) := by
 unfold encW
 refine hdC Tryz.func87 Tryz.ntmps87 (res := [.tmp 2]) fun w0 K0 => ?_
 repeat' first | refine zd ?_ | ((first | refine zi ?_ | with_reducible refine regA ?_ | refine zsq ?_ | refine andA ?_ | fail); conv => whnf) | fail
 rfl
end Go.Proofs.YtmceekhgnfpamaaGreatDoor
namespace Go.Proofs.YtmceekhgnfpamaaGreatDoor
open Go Go.QL FoT
set_option maxHeartbeats 3200000
attribute [local irreducible] ACall FnC fine ten zav zD
theorem zj9 {f : FormT} {i : Nat} (h : i < f.code.length) : (f.code.map ndPV)[(i : Int).toNat]? = some (ndPV f.code[i]) := by
 rw [Int.toNat_natCast, List.getElem?_map, List.getElem?_eq_getElem h]; rfl
theorem zfz {l : List Int} {i : Nat} {x : Int} (h : l[i]? = some x) : (l.map fun n : Int => [PV.v (.int .i64 n)])[i]? = some [PV.v (.int .i64 x)] := by
 rw [List.getElem?_map, h]; rfl
theorem zht {st : List (List PV)} {x : List PV} {n : Nat} (hn : n = 0 + st.length + 1) : n ≤ ((([] : List (List PV)).take 0 ++ st).take (0 + st.length) ++ [x]).length := by
 rw [hn]; simp
theorem zf7 {st : List (List PV)} {x : List PV} {n : Nat} (hn : n = 0 + st.length + 1) : ((([] : List (List PV)).take 0 ++ st).take (0 + st.length) ++ [x]).take n = st ++ [x] := by
 rw [hn, Nat.zero_add, List.take_zero, List.nil_append, List.take_length, List.take_of_length_le (by simp)]
theorem zl8 {words : List Int} {nv i : Nat} {n : FNode} (hl : words.length = nv) (hw : ∀ w ∈ words, zP w) (hk : n.kind = 1 ∨ n.kind = 2) (hf : fine nv n) : zP (zcw words i n) := by
 unfold zcw
 by_cases k1 : n.kind = 1
 ·rw [if_pos k1, List.getD_eq_getElem?_getD]
  cases h : words[n.var.toNat]? with
  | none => decide
  | some w => exact hw w (List.mem_of_getElem? h)
 ·rw [if_neg k1]
  have := zha (show n.kind = 2 by omega) hf
  unfold zP
  omega
theorem znp (f : FormT) (words : List Int) (hc : zD f = 0) (hl : words.length = f.vars.length) (hw : ∀ w ∈ words, zP w) : FnC Tryz.prog 74 [zaB f, sl words] (iv .i64 (valF f words)) := by
 obtain ⟨hv8, hc1, hc40⟩ := zbD hc
 have hst := zdt hc
 have hlc : (f.code.map ndPV).length = f.code.length := List.length_map _
 refine hdC Tryz.func74 Tryz.ntmps74 (res := [.tmp 4]) fun w0 K0 => ?_
 repeat' first | refine zd ?_ | refine zc ?_ | ((with_reducible refine regA ?_); conv => whnf) | fail
 refine zaq (Imp.nil 900 35 1 (fr' := [(6, iv .i64 0), (5, .x (.o 900 0 0)), (2, .x (.b 2 0)), (1, sl words)]) (σ' := [(2, .box (zb5 f))]) rfl ?_ ?_ rfl rfl) ?_
 ·exact ⟨⟨_, rfl, .inl rfl⟩, ⟨_, rfl, .inr ⟨rfl, rfl⟩⟩, ⟨_, rfl, .inl rfl⟩, ⟨_, rfl, .inl rfl⟩, trivial⟩
 ·exact ⟨⟨_, rfl, .inl rfl⟩, trivial⟩
 refine zaq (Imp.freeze 900 (fr' := [(6, iv .i64 0), (5, sl []), (2, .x (.b 2 0)), (1, sl words)]) (σ' := [(2, .box (zb5 f))]) rfl ⟨⟨_, rfl, .inl rfl⟩, ⟨_, rfl, .inr ⟨_, rfl, Nat.zero_le _, rfl⟩⟩, ⟨_, rfl, .inl rfl⟩, ⟨_, rfl, .inl rfl⟩, trivial⟩ ⟨rfl, trivial⟩ rfl rfl) ?_
 refine zJ (fun x : Nat × List Int => [(6, iv .i64 x.1), (5, sl x.2), (2, .x (.b 2 0)), (1, sl words)]) (fun _ => [(2, .box (zb5 f))])
  (fun x => x.1 ≤ f.code.length ∧ Ht f x.1 x.2.length ∧ (∀ w ∈ x.2, zP w) ∧ zaN 0 (zcw words) zdQ 0 f.code [] = zaN 0 (zcw words) zdQ x.1 (f.code.drop x.1) x.2) (fun x => f.code.length - x.1) (0, []) ⟨Nat.zero_le _, hst, by simp, rfl⟩ impA ?_
 rintro ⟨i, st⟩ ⟨hi, hh, hJ, hx⟩
 dsimp only at hi hh hJ hx ⊢
 have hp12 : st.length ≤ 12 := by obtain ⟨_, _, _, h, _⟩ := hh; exact h
 rcases Nat.lt_or_ge i f.code.length with hil | hil
 ·obtain ⟨hk, hf, hlf, hop⟩ := zdR hil hh
  have gn := zj9 hil
  have ro := zlv f.code[i]
  rw [List.drop_eq_getElem_cons hil, zaN] at hx
  by_cases k3 : f.code[i].kind < 3
  ·rw [decide_eq_false (by omega)] at ro
   rw [if_pos k3] at hx
   have hxw := zl8 hl hw (i := i) (show f.code[i].kind = 1 ∨ f.code[i].kind = 2 by omega) hf
   by_cases k1 : f.code[i].kind = 1
   ·have hfv := hf
    unfold fine at hfv
    rw [if_pos k1] at hfv
    have hg : words[f.code[i].var.toNat]? = some (zcw words i f.code[i]) := by
     unfold zcw
     rw [if_pos k1, List.getD_eq_getElem?_getD, List.getElem?_eq_getElem (by omega)]; rfl
    have hg2 := zfz hg
    generalize zcw words i f.code[i] = x at *
    have hJ2 : ∀ w ∈ st ++ [x], zP w := by intro w h; rcases List.mem_append.1 h with h | h; exact hJ w h; rw [List.mem_singleton.1 h]; exact hxw
    have hz : (st ++ [x]).map (fun n : Int => [PV.v (.int .i64 n)]) = st.map (fun n : Int => [PV.v (.int .i64 n)]) ++ [[PV.v (.int .i64 x)]] := List.map_append
    repeat' first | refine zd ?_ | refine zc ?_ | ((first | refine zf ?_ | refine zk ?_ | with_reducible refine regA ?_ | fail); conv => whnf) | exact abA hb | ((first | refine ⟨_, ze ⟨by omega, gn⟩, ?_⟩ | refine zsn (ro) ?_ | refine ⟨_, ze ⟨by omega, hg2⟩, ?_⟩ | fail); conv => whnf) | (refine zss rfl ?_) | (refine zso rfl (fun hb => ?_) (fun hb => ?_)) | ((first | refine zsq ?_ | refine andA ?_ | fail); conv => whnf) | ((refine And.intro (by refine ⟨?_, ?_, ?_⟩ <;> simp [zO, maxLen] <;> omega) ?_); conv => whnf) | (refine lnA fun hln => ?_; conv => whnf) | fail
    exact ⟨(i + 1, st ++ [x]), ⟨by show i + 1 ≤ _; omega, by show Ht f (i + 1) (st ++ [x]).length; rw [List.length_append]; exact hlf k3, hJ2, hx⟩, by show f.code.length - (i + 1) < f.code.length - i; omega, Imp.freeze 58 rfl ⟨⟨_, rfl, .inl rfl⟩, ⟨_, rfl, .inr ⟨_, rfl, zht rfl, congrArg (fun l => AV.x (.d (.s 1 l))) (hz.trans (zf7 rfl).symm)⟩⟩, ⟨_, rfl, .inl rfl⟩, ⟨_, rfl, .inl rfl⟩, trivial⟩ ⟨rfl, trivial⟩ rfl rfl⟩
   ·have k2 : f.code[i].kind = 2 := by omega
    have un := zhZ f.code[i] k2 hf
    have hx1 : zcw words i f.code[i] = zbo f.code[i] := by unfold zcw; rw [if_neg k1]
    rw [hx1] at hxw hx
    generalize zbo f.code[i] = x at *
    have hJ2 : ∀ w ∈ st ++ [x], zP w := by intro w h; rcases List.mem_append.1 h with h | h; exact hJ w h; rw [List.mem_singleton.1 h]; exact hxw
    have hz : (st ++ [x]).map (fun n : Int => [PV.v (.int .i64 n)]) = st.map (fun n : Int => [PV.v (.int .i64 n)]) ++ [[PV.v (.int .i64 x)]] := List.map_append
    repeat' first | refine zd ?_ | refine zc ?_ | ((first | refine zf ?_ | refine zk ?_ | with_reducible refine regA ?_ | fail); conv => whnf) | exact abA hb | ((first | refine ⟨_, ze ⟨by omega, gn⟩, ?_⟩ | refine zsn (ro) ?_ | refine zsn (un) ?_ | fail); conv => whnf) | (refine zss rfl ?_) | (refine zso rfl (fun hb => ?_) (fun hb => ?_)) | ((first | refine zsq ?_ | refine andA ?_ | fail); conv => whnf) | ((refine And.intro (by refine ⟨?_, ?_, ?_⟩ <;> simp [zO, maxLen] <;> omega) ?_); conv => whnf) | (refine lnA fun hln => ?_; conv => whnf) | fail
    exact ⟨(i + 1, st ++ [x]), ⟨by show i + 1 ≤ _; omega, by show Ht f (i + 1) (st ++ [x]).length; rw [List.length_append]; exact hlf k3, hJ2, hx⟩, by show f.code.length - (i + 1) < f.code.length - i; omega, Imp.freeze 58 rfl ⟨⟨_, rfl, .inl rfl⟩, ⟨_, rfl, .inr ⟨_, rfl, zht rfl, congrArg (fun l => AV.x (.d (.s 1 l))) (hz.trans (zf7 rfl).symm)⟩⟩, ⟨_, rfl, .inl rfl⟩, ⟨_, rfl, .inl rfl⟩, trivial⟩ ⟨rfl, trivial⟩ rfl rfl⟩
  ·rw [decide_eq_true (by omega)] at ro
   rw [if_neg k3] at hx
   obtain ⟨q, hq, hh'⟩ := hop (by omega)
   obtain ⟨r, a, b, rfl, hr⟩ := zfT hq
   have dn := znD f.code[i].kind a b (by omega) (hJ a (by simp)) (hJ b (by simp))
   have hxw : zP (opV f.code[i].kind (sgnW a) (sgnW b) % 16777216) := by unfold zP; omega
   have hx1 : (r ++ [a, b]).take ((r ++ [a, b]).length - 2) ++ [zdQ i f.code[i] ((r ++ [a, b]).getD ((r ++ [a, b]).length - 2) 0) ((r ++ [a, b]).getD ((r ++ [a, b]).length - 1) 0)] = r ++ [opV f.code[i].kind (sgnW a) (sgnW b) % 16777216] := by
    simp only [List.length_append, List.length_cons, List.length_nil]
    rw [List.take_left' (by omega)]
    congr 2
    try simp [zdQ, List.getD_eq_getElem?_getD]
   rw [hx1] at hx
   generalize opV f.code[i].kind (sgnW a) (sgnW b) % 16777216 = x at *
   have ga : ((r ++ [a, b]).map fun n : Int => [PV.v (.int .i64 n)])[q]? = some [PV.v (.int .i64 a)] := zfz (by rw [List.getElem?_append_right (by omega), hr]; simp)
   have gb : ((r ++ [a, b]).map fun n : Int => [PV.v (.int .i64 n)])[q + 1]? = some [PV.v (.int .i64 b)] := zfz (by rw [List.getElem?_append_right (by omega), hr]; simp)
   have hlen : ((r ++ [a, b]).map fun n : Int => [PV.v (.int .i64 n)]).length = q + 2 := by rw [List.length_map, hq]
   have htk : ((r ++ [a, b]).map fun n : Int => [PV.v (.int .i64 n)]).take q = r.map fun n : Int => [PV.v (.int .i64 n)] := by rw [List.map_append, List.take_left' (by rw [List.length_map, hr])]
   have hJ2 : ∀ w ∈ r ++ [x], zP w := by intro w h; rcases List.mem_append.1 h with h | h; exact hJ w (by simp [h]); rw [List.mem_singleton.1 h]; exact hxw
   have hz : (r ++ [x]).map (fun n : Int => [PV.v (.int .i64 n)]) = r.map (fun n : Int => [PV.v (.int .i64 n)]) ++ [[PV.v (.int .i64 x)]] := List.map_append
   have hsl : sl (r ++ [a, b]) = .x (.d (.s 1 ((r ++ [a, b]).map fun n : Int => [PV.v (.int .i64 n)]))) := rfl
   rw [hsl]
   generalize ((r ++ [a, b]).map fun n : Int => [PV.v (.int .i64 n)]) = xs at *
   have ga' : 0 ≤ (xs.length : Int) - 2 ∧ xs[((xs.length : Int) - 2).toNat]? = some [PV.v (.int .i64 a)] := ⟨by omega, by rw [show ((xs.length : Int) - 2).toNat = q by omega]; exact ga⟩
   have gb' : 0 ≤ (xs.length : Int) - 2 + 1 ∧ xs[((xs.length : Int) - 2 + 1).toNat]? = some [PV.v (.int .i64 b)] := ⟨by omega, by rw [show ((xs.length : Int) - 2 + 1).toNat = q + 1 by omega]; exact gb⟩
   have hYe : (xs.take ((xs.length : Int) - 2).toNat).drop (Int.toNat 0) = r.map (fun n : Int => [PV.v (.int .i64 n)]) := by rw [show ((xs.length : Int) - 2).toNat = q by omega]; exact htk
   have hYl : ((xs.take ((xs.length : Int) - 2).toNat).drop (Int.toNat 0)).length = q := by rw [hYe, List.length_map, hr]
   rw [← hYe] at hz
   repeat' first | refine zd ?_ | refine zc ?_ | ((first | refine zf ?_ | refine zk ?_ | with_reducible refine regA ?_ | refine drA (id := 13) 11 false [0, 1, 0, 0, 12, 28, 0, 0, 128, 448, 960, 2047, 4095] ?_ | fail); conv => whnf) | exact abA hb | ((first | refine ⟨_, ze ⟨by omega, gn⟩, ?_⟩ | refine zsn (ro) ?_ | refine ⟨_, ze ga', ?_⟩ | refine ⟨_, ze gb', ?_⟩ | refine zsn (dn) ?_ | fail); conv => whnf) | ((refine And.intro (by rw [hYl]; refine ⟨?_, ?_, ?_⟩ <;> simp [zO, maxLen] <;> omega) ?_); conv => whnf) | (refine zst rfl ?_) | (refine zso rfl (fun hb => ?_) (fun hb => ?_)) | ((first | refine zsq ?_ | refine andA ?_ | fail); conv => whnf) | (refine lnA fun hln => ?_; conv => whnf) | fail
   exact ⟨(i + 1, r ++ [x]), ⟨by show i + 1 ≤ _; omega, by show Ht f (i + 1) (r ++ [x]).length; rw [List.length_append, hr]; exact hh', hJ2, hx⟩, by show f.code.length - (i + 1) < f.code.length - i; omega, Imp.freeze 58 rfl ⟨⟨_, rfl, .inl rfl⟩, ⟨_, rfl, .inr ⟨_, rfl, zht rfl, congrArg (fun l => AV.x (.d (.s 1 l))) (hz.trans (zf7 rfl).symm)⟩⟩, ⟨_, rfl, .inl rfl⟩, ⟨_, rfl, .inl rfl⟩, trivial⟩ ⟨rfl, trivial⟩ rfl rfl⟩
 ·have h1 := ziw hil hh
  obtain ⟨v, rfl⟩ : ∃ v, st = [v] := List.length_eq_one_iff.1 h1
  rw [List.drop_eq_nil_of_le hil] at hx
  have hv : valF f words = v := by unfold valF; rw [hx]; rfl
  rw [hv]
  repeat' first | refine zd ?_ | refine zc ?_ | ((first | refine zf ?_ | refine zk ?_ | refine zi ?_ | with_reducible refine regA ?_ | fail); conv => whnf) | exact abA hb | ((refine ⟨_, ze ⟨by decide, rfl⟩, ?_⟩); conv => whnf) | (refine zso rfl (fun hb => ?_) (fun hb => ?_)) | ((refine andA ?_); conv => whnf) | (refine lnA fun hln => ?_; conv => whnf) | fail
  rfl
end Go.Proofs.YtmceekhgnfpamaaGreatDoor
namespace FoT
abbrev T3 := Int × Int × Int
def encL : Nat → List T3 → List Int
 | _, [] => []
 | k, x :: r => encW x.1 x.2.1 x.2.2 (k + 1) :: encL (k + 1) r
theorem ztI : ∀ (k : Nat) (l m : List T3), encL k (l ++ m) = encL k l ++ encL (k + l.length) m
 | k, [], m => by simp [encL]
 | k, x :: r, m => by
  simp only [List.cons_append, encL, ztI (k + 1) r m, List.length_cons, show k + 1 + r.length = k + (r.length + 1) by omega]
theorem ztw (l : List T3) (x : T3) : encL 0 (l ++ [x]) = encL 0 l ++ [encW x.1 x.2.1 x.2.2 (l.length + 1)] := by
 rw [ztI, Nat.zero_add]; rfl
theorem ztE : ∀ (k : Nat) (l : List T3), (encL k l).length = l.length
 | _, [] => rfl
 | k, x :: r => by simp [encL, ztE (k + 1) r]
def ztv (vars : Int) (n : Nat) : List T3 := (List.range n).map fun i : Nat => (6, 0, vars + i)
theorem ztB (v : Int) (i : Nat) : ztv v (i + 1) = ztv v i ++ [(6, 0, v + i)] := by
 unfold ztv
 rw [List.range_succ, List.map_append]; rfl
theorem zty (v : Int) (n : Nat) : (ztv v n).length = n := by simp [ztv]
theorem ztC (v : Int) : ∀ n : Nat, encL 0 (ztv v n) = zaT v n
 | 0 => rfl
 | n + 1 => by
  rw [ztB, ztw, ztC v n, zty]
  unfold zaT
  rw [List.range_succ, List.map_append]; rfl
def ztF (x : T3) : Prop := (0 ≤ x.1 ∧ x.1 ≤ 7) ∧ (0 ≤ x.2.1 ∧ x.2.1 ≤ 127) ∧ 0 ≤ x.2.2 ∧ x.2.2 ≤ 127
end FoT
namespace Go.Proofs.YtmceekhgnfpamaaGreatDoor
open Go Go.QL FoT
set_option maxHeartbeats 3200000
attribute [local irreducible] ACall FnC fine ten zav zD encW
def odR (n : Int) (x : T3) : List PV := [.v (.int .i64 x.1), .v (.int .i64 x.2.1), .v (.int .i64 x.2.2), .v (.int .i64 n)]
def odL (i : Nat) (l : List T3) : List (List PV) := l.mapIdx fun j x => odR (if j < i then (j : Int) + 1 else 0) x
theorem ztP (i : Nat) (l : List T3) : (odL i l).length = l.length := by simp [odL]
theorem ztN (l : List T3) : odL 0 l = l.map (odR 0) := by
 apply List.ext_getElem <;> simp [odL]
theorem ztL {i : Nat} {l : List T3} {j : Nat} (h : j < l.length) : (odL i l)[j]? = some (odR (if j < i then (j : Int) + 1 else 0) l[j]) := by
 simp [odL, h]
theorem ztO {i : Nat} {l : List T3} (h : i < l.length) : (odL i l).set i (odR ((i : Int) + 1) l[i]) = odL (i + 1) l := by
 apply List.ext_getElem
 ·simp [odL]
 ·intro j h1 h2
  have hj : j < l.length := by simpa [odL] using h2
  rw [List.getElem_set]
  by_cases e : i = j
  ·subst e; simp [odL]
  ·rw [if_neg e]
   simp only [odL, List.getElem_mapIdx]
   congr 1
   by_cases h3 : j < i
   ·rw [if_pos h3, if_pos (by omega)]
   ·rw [if_neg h3, if_neg (by omega)]
theorem ztx (l : List T3) (x : T3) : (l.map (odR 0)).take l.length ++ [odR 0 x] = (l ++ [x]).map (odR 0) := by
 rw [List.map_append, List.take_of_length_le (by rw [List.length_map]; exact Nat.le_refl _)]; rfl
theorem Stp.at45 {P : Program} {Γ : Cx} {y : Code} {ops : Array Oper} {b : Bool} {Q : Exit → Fr → Sg → Prop} {fr : Fr} {σ : Sg} (h : Stp P Γ (.seq (.region 45 ops b) y) Q fr σ) : AW P Γ (.seq (.region 45 ops b) y) Q fr σ := by unfold Stp at h; exact h
theorem ztA {a b c : Int} (h1 : 0 ≤ a ∧ a ≤ 7) (h2 : 0 ≤ b ∧ b ≤ 127) (h3 : 0 ≤ c ∧ c ≤ 127) : ztF (a, b, c) := ⟨h1, h2, h3⟩
theorem ztz : ∀ (l m : List FNode), zal (l ++ m) = zal l ++ zal m
 | [], m => rfl
 | x :: r, m => by
  rw [List.cons_append, zal, zal, ztz r m]
  split <;> rfl
theorem ztD (f : FormT) : ACall Tryz.prog 28 [zaB f] [] (fun r σ' => LeW r (.t [zoV (zbN f).1, iv .i64 (zbN f).2]) ∧ σ' = []) := by
 have hlv : (f.vars.map zaa).length = f.vars.length := List.length_map _
 have hlc : (f.code.map ndPV).length = f.code.length := List.length_map _
 have ck := zh7 f
 by_cases h0 : zD f = 0
 ·rw [h0] at ck
  obtain ⟨hv8, hc1, hc40⟩ := zbD h0
  have hst := zdt h0
  refine hdD Tryz.func28 Tryz.ntmps28 (res := [.cell 2 47, .tmp 3]) fun w0 K0 B => ?_
  repeat' first | refine zd ?_ | refine zc ?_ | ((first | refine zf ?_ | with_reducible refine regA ?_ | refine zsn (ck) ?_ | fail); conv => whnf) | (refine zss rfl ?_) | ((first | refine zsq ?_ | refine andA ?_ | fail); conv => whnf) | (refine lnA fun hln => ?_; conv => whnf) | fail
  obtain ⟨o, ho⟩ : ∃ o : Int, (f.vars.length : Int) + f.code.length + 2 = o := ⟨_, rfl⟩
  refine zJ (fun i : Nat => [(9, iv .i64 i), (8, iv .i64 (o + f.vars.length + (zal (f.code.take i)).length)), (7, iv .i64 (o + f.vars.length)), (6, iv .i64 o), (5, .x (.b 5 0)), (3, iv .i64 0), (2, .x (.b 2 0)), (1, .x (.b 1 0))])
   (fun _ => [(5, .box [.d (.v (.slice none 0 0)), .d (.v (.int .i64 0)), .d (.v (.int .i64 o))]), (2, .box [.d (.v (.slice none 0 0)), .d (.v (.int .i64 0)), .d (.v (.int .i64 0))]), (1, .box (zb5 f))])
   (fun i => i ≤ f.code.length) (fun i => f.code.length - i) 0 (Nat.zero_le _) (impX (by repeat' (first | exact trivial | refine And.intro ?_ ?_ | exact bx2E (by simp only [List.length_map]; omega) | exact ivE (by simp only [List.length_map, List.take_zero, zal, List.length_nil]; omega) | exact zsw))) ?_
  intro i hi
  rcases Nat.lt_or_ge i f.code.length with hil | hil
  ·have gn := zj9 hil
   have hcl := ze4 (f.code.take i)
   rw [List.length_take] at hcl
   have hsn := zgp (f.code.take i) f.code[i]
   rw [show f.code.take i ++ [f.code[i]] = f.code.take (i + 1) by rw [List.take_add_one, List.getElem?_eq_getElem hil]; rfl] at hsn
   generalize zal (f.code.take i) = C at *
   by_cases k2 : f.code[i].kind = 2
   ·rw [if_pos k2] at hsn
    have e1 : ((zal (f.code.take (i + 1))).length : Int) = C.length + 1 := by rw [hsn, List.length_append]; rfl
    repeat' first | refine zd ?_ | refine zc ?_ | ((first | refine zf ?_ | refine zk ?_ | with_reducible refine regA ?_ | fail); conv => whnf) | exact abA hb | ((refine ⟨_, ze ⟨by omega, gn⟩, ?_⟩); conv => whnf) | (refine zso rfl (fun hb => ?_) (fun hb => ?_)) | ((first | refine zsq ?_ | refine andA ?_ | fail); conv => whnf) | (refine lnA fun hln => ?_; conv => whnf) | fail
    exact ⟨i + 1, by omega, by omega, impA⟩
   ·rw [if_neg k2, List.append_nil] at hsn
    subst hsn
    repeat' first | refine zd ?_ | refine zc ?_ | ((first | refine zf ?_ | refine zk ?_ | with_reducible refine regA ?_ | fail); conv => whnf) | exact abA hb | ((refine ⟨_, ze ⟨by omega, gn⟩, ?_⟩); conv => whnf) | (refine zso rfl (fun hb => ?_) (fun hb => ?_)) | ((first | refine zsq ?_ | refine andA ?_ | fail); conv => whnf) | (refine lnA fun hln => ?_; conv => whnf) | fail
    exact ⟨i + 1, by omega, by omega, impA⟩
  ·rw [List.take_of_length_le hil]
   obtain ⟨C, hC⟩ : ∃ C, zal f.code = C := ⟨_, rfl⟩
   rw [hC]
   repeat' first | refine zd ?_ | refine zc ?_ | ((first | refine zf ?_ | refine zk ?_ | with_reducible refine regA ?_ | fail); conv => whnf) | exact abA hb | (refine zso rfl (fun hb => ?_) (fun hb => ?_)) | ((refine andA ?_); conv => whnf) | (refine lnA fun hln => ?_; conv => whnf) | fail
   have hCl : C.length ≤ f.code.length := by rw [← hC]; exact ze4 _
   obtain ⟨pl, hpl⟩ : ∃ pl : Int, o + f.vars.length + C.length = pl := ⟨_, rfl⟩
   rw [hpl]
   refine zaq (Imp.nil 900 140 4 (fr' := [(11, iv .i64 0), (10, .x (.o 900 0 0)), (8, iv .i64 pl), (7, iv .i64 (o + f.vars.length)), (6, iv .i64 o), (5, .x (.b 5 0)), (3, iv .i64 0), (2, .x (.b 2 0)), (1, .x (.b 1 0))])
    (σ' := [(5, .box [.d (.v (.slice none 0 0)), .d (.v (.int .i64 0)), .d (.v (.int .i64 o))]), (2, .box [.d (.v (.slice none 0 0)), .d (.v (.int .i64 0)), .d (.v (.int .i64 0))]), (1, .box (zb5 f))]) rfl ?_ ?_ rfl rfl) ?_
   ·exact ⟨⟨_, rfl, .inl rfl⟩, ⟨_, rfl, .inr ⟨rfl, rfl⟩⟩, ⟨_, rfl, .inl rfl⟩, ⟨_, rfl, .inl rfl⟩, ⟨_, rfl, .inl rfl⟩, ⟨_, rfl, .inl rfl⟩, ⟨_, rfl, .inl rfl⟩, ⟨_, rfl, .inl rfl⟩, ⟨_, rfl, .inl rfl⟩, trivial⟩
   ·exact ⟨⟨_, rfl, .inl rfl⟩, ⟨_, rfl, .inl rfl⟩, ⟨_, rfl, .inl rfl⟩, trivial⟩
   refine zJ (fun i : Nat => [(11, iv .i64 i), (10, .x (.o 900 i i)), (8, iv .i64 pl), (7, iv .i64 (o + f.vars.length)), (6, iv .i64 o), (5, .x (.b 5 0)), (3, iv .i64 0), (2, .x (.b 2 0)), (1, .x (.b 1 0))])
    (fun i => [(900, .chain 140 4 i ((ztv o i).map (odR 0))), (5, .box [.d (.v (.slice none 0 0)), .d (.v (.int .i64 0)), .d (.v (.int .i64 o))]), (2, .box [.d (.v (.slice none 0 0)), .d (.v (.int .i64 0)), .d (.v (.int .i64 0))]), (1, .box (zb5 f))])
    (fun i => i ≤ f.vars.length) (fun i => f.vars.length - i) 0 (Nat.zero_le _) impA ?_
   intro i hi
   rcases Nat.lt_or_ge i f.vars.length with hil2 | hil2
   ·have hl := zty o i
    have hsn := ztx (ztv o i) (6, 0, o + i)
    rw [← ztB, hl] at hsn
    have g0 : i ≤ ((ztv o i).map (odR 0)).length := by rw [List.length_map, hl]; exact Nat.le_refl _
    generalize (ztv o i).map (odR 0) = R at *
    repeat' first | refine zd ?_ | refine zc ?_ | ((first | refine zf ?_ | refine zk ?_ | with_reducible refine regA ?_ | fail); conv => whnf) | exact abA hb | ((refine And.intro ⟨g0, by show i + 1 ≤ _; unfold maxLen; omega, by show (i + 1) * 32 ≤ _; omega⟩ ?_); conv => whnf) | (refine zso rfl (fun hb => ?_) (fun hb => ?_)) | ((first | refine zsq ?_ | refine andA ?_ | fail); conv => whnf) | (refine lnA fun hln => ?_; conv => whnf) | fail
    exact ⟨i + 1, by omega, by omega, impA⟩
   ·have hie : i = f.vars.length := by omega
    subst hie
    repeat' first | refine zd ?_ | refine zc ?_ | ((first | refine zf ?_ | refine zk ?_ | with_reducible refine regA ?_ | fail); conv => whnf) | exact abA hb | (refine zso rfl (fun hb => ?_) (fun hb => ?_)) | ((refine andA ?_); conv => whnf) | (refine lnA fun hln => ?_; conv => whnf) | fail
    obtain ⟨q, hq⟩ : ∃ q, zbM o pl f.code f.vars.length ⟨o + f.vars.length, 0, 0⟩ = q := ⟨_, rfl⟩
    have hL0 : (ztv o f.vars.length).length = f.vars.length := zty _ _
    have hE0 := ztC o f.vars.length
    have hF0 : ∀ x ∈ ztv o f.vars.length, ztF x := by
     intro x hx
     obtain ⟨j, hj, rfl⟩ := List.mem_map.1 hx
     have := List.mem_range.1 hj
     unfold ztF
     dsimp only
     omega
    obtain ⟨L0, hL⟩ : ∃ L0, ztv o f.vars.length = L0 := ⟨_, rfl⟩
    rw [hL] at hL0 hE0 hF0 ⊢
    refine zaq (Imp.nil 901 3 1 (fr' := [(15, iv .i64 0), (14, .x (.o 901 0 0)), (13, iv .i64 0), (12, iv .i64 0), (10, .x (.o 900 f.vars.length f.vars.length)), (8, iv .i64 pl), (7, iv .i64 (o + f.vars.length)), (6, iv .i64 o), (5, .x (.b 5 0)), (3, iv .i64 0), (2, .x (.b 2 0)), (1, .x (.b 1 0))])
     (σ' := [(900, .chain 140 4 f.vars.length (L0.map (odR 0))), (5, .box [.d (.v (.slice none 0 0)), .d (.v (.int .i64 0)), .d (.v (.int .i64 o))]), (2, .box [.d (.v (.slice none 0 0)), .d (.v (.int .i64 0)), .d (.v (.int .i64 0))]), (1, .box (zb5 f))]) rfl ?_ ?_ rfl rfl) ?_
    ·exact ⟨⟨_, rfl, .inl rfl⟩, ⟨_, rfl, .inr ⟨rfl, rfl⟩⟩, ⟨_, rfl, .inl rfl⟩, ⟨_, rfl, .inl rfl⟩, ⟨_, rfl, .inl rfl⟩, ⟨_, rfl, .inl rfl⟩, ⟨_, rfl, .inl rfl⟩, ⟨_, rfl, .inl rfl⟩, ⟨_, rfl, .inl rfl⟩, ⟨_, rfl, .inl rfl⟩, ⟨_, rfl, .inl rfl⟩, ⟨_, rfl, .inl rfl⟩, trivial⟩
    ·exact ⟨⟨_, rfl, .inl rfl⟩, ⟨_, rfl, .inl rfl⟩, ⟨_, rfl, .inl rfl⟩, ⟨_, rfl, .inl rfl⟩, trivial⟩
    refine zJ (fun x : Nat × List T3 × Int × Int => [(15, iv .i64 x.1), (14, .x (.o 901 (zal (f.code.take x.1)).length (zal (f.code.take x.1)).length)), (13, iv .i64 x.2.2.2), (12, iv .i64 x.2.2.1), (10, .x (.o 900 x.2.1.length x.2.1.length)), (8, iv .i64 pl), (7, iv .i64 (o + f.vars.length)), (6, iv .i64 o), (5, .x (.b 5 0)), (3, iv .i64 0), (2, .x (.b 2 0)), (1, .x (.b 1 0))])
     (fun x => [(901, .chain 3 1 (zal (f.code.take x.1)).length ((zal (f.code.take x.1)).map iPV)), (900, .chain 140 4 x.2.1.length (x.2.1.map (odR 0))), (5, .box [.d (.v (.slice none 0 0)), .d (.v (.int .i64 0)), .d (.v (.int .i64 o))]), (2, .box [.d (.v (.slice none 0 0)), .d (.v (.int .i64 0)), .d (.v (.int .i64 0))]), (1, .box (zb5 f))])
     (fun x => x.1 ≤ f.code.length ∧ x.2.1.length = f.vars.length + x.1 ∧ (∃ p : Nat, x.2.2.1 = p ∧ Ht f x.1 p) ∧ (0 ≤ x.2.2.2 ∧ x.2.2.2 ≤ 12) ∧ (∀ y ∈ x.2.1, ztF y) ∧
      encL 0 x.2.1 ++ (zbM o pl (f.code.drop x.1) ((f.vars.length : Int) + x.1) ⟨o + f.vars.length + (zal (f.code.take x.1)).length, x.2.2.1, x.2.2.2⟩).1 = zaT o f.vars.length ++ q.1 ∧
      (zbM o pl (f.code.drop x.1) ((f.vars.length : Int) + x.1) ⟨o + f.vars.length + (zal (f.code.take x.1)).length, x.2.2.1, x.2.2.2⟩).2 = q.2)
     (fun x => f.code.length - x.1) (0, L0, 0, 0) ⟨Nat.zero_le _, hL0, ⟨0, rfl, hst⟩, ⟨by show (0 : Int) ≤ 0; decide, by show (0 : Int) ≤ 12; decide⟩, hF0, by
      show encL 0 L0 ++ (zbM o pl f.code ((f.vars.length : Int) + ((0 : Nat) : Int)) ⟨o + f.vars.length + ((0 : Nat) : Int), 0, 0⟩).1 = _
      rw [Int.ofNat_zero, Int.add_zero, Int.add_zero, hq, hE0], by
      show (zbM o pl f.code ((f.vars.length : Int) + ((0 : Nat) : Int)) ⟨o + f.vars.length + ((0 : Nat) : Int), 0, 0⟩).2 = _
      rw [Int.ofNat_zero, Int.add_zero, Int.add_zero, hq]⟩ (by rw [hL0]; exact impA) ?_
    rintro ⟨i, L, top, most⟩ ⟨hi, hLl, ⟨p, rfl, hh⟩, hm, hF, hT1, hT2⟩
    dsimp only at hi hLl hh hm hF hT1 hT2 ⊢
    rcases Nat.lt_or_ge i f.code.length with hil3 | hil3
    ·obtain ⟨hk, hf, hlf, hop⟩ := zdR hil3 hh
     have hp12 : p ≤ 12 := by obtain ⟨_, _, _, h, _⟩ := hh; exact h
     have gn := zj9 hil3
     have ro := zlv f.code[i]
     rw [List.drop_eq_getElem_cons hil3] at hT1 hT2
     have hcl := ze4 (f.code.take i)
     rw [List.length_take] at hcl
     have hcl2 : (zal (f.code.take i)).length ≤ C.length := by
      rw [← hC, ← List.take_append_drop i f.code, ztz, List.length_append, List.take_append_drop]; omega
     have hsn := zgp (f.code.take i) f.code[i]
     rw [show f.code.take i ++ [f.code[i]] = f.code.take (i + 1) by rw [List.take_add_one, List.getElem?_eq_getElem hil3]; rfl] at hsn
     generalize hW : zal (f.code.take i) = W at *
     have hWl : (W.map iPV).length = W.length := List.length_map _
     have hRl : (L.map (odR 0)).length = L.length := List.length_map _
     have hpos : (f.vars.length : Int) + (i : Int) + 1 = (f.vars.length : Int) + ((i + 1 : Nat) : Int) := by omega
     have hLp : (L.length : Int) + 1 = (f.vars.length : Int) + (i : Int) + 1 := by omega
     have g0 : L.length ≤ (L.map (odR 0)).length := by rw [hRl]; exact Nat.le_refl _
     by_cases k3 : f.code[i].kind < 3
     ·rw [decide_eq_false (by omega)] at ro
      have hh' := hlf k3
      have hp12' : p + 1 ≤ 12 := by obtain ⟨_, _, _, h, _⟩ := hh'; exact h
      by_cases k1 : f.code[i].kind = 1
      ·rw [if_neg (by omega), List.append_nil] at hsn
       rw [zqj k1] at hT1 hT2
       have hfv := hf
       unfold fine at hfv
       rw [if_pos k1] at hfv
       have hx := ztx L (1, o + f.code[i].var, pl + p)
       have hee := ztw L (1, o + f.code[i].var, pl + p)
       have hl1 : (L ++ [(1, o + f.code[i].var, pl + p)]).length = L.length + 1 := List.length_append
       repeat' first | refine zd ?_ | refine zc ?_ | ((first | refine zf ?_ | refine zk ?_ | with_reducible refine regA ?_ | fail); conv => whnf) | exact abA hb | ((first | refine ⟨_, ze ⟨by omega, gn⟩, ?_⟩ | refine zsn (ro) ?_ | refine And.intro ⟨g0, by show L.length + 1 ≤ _; unfold maxLen; omega, by show (L.length + 1) * 32 ≤ _; omega⟩ ?_ | fail); conv => whnf) | (refine zss rfl ?_) | (refine zso rfl (fun hb => ?_) (fun hb => ?_)) | ((first | refine zsq ?_ | refine andA ?_ | fail); conv => whnf) | (refine lnA fun hln => ?_; conv => whnf) | fail
       dsimp only at hT1 hT2 hee
       have hfit : ztF (1, o + f.code[i].var, pl + p) := ztA (by omega) (by omega) (by omega)
       have em : (if (p : Int) + 1 > most then (p : Int) + 1 else most) = max most ((p : Int) + 1) := by split <;> omega
       skip
       exact ⟨(i + 1, L ++ [(1, o + f.code[i].var, pl + p)], (p : Int) + 1, max most ((p : Int) + 1)), ⟨by show i + 1 ≤ _; omega, by show (L ++ [_]).length = _; rw [List.length_append]; show L.length + 1 = _; omega, ⟨p + 1, by show ((p : Int) + 1 : Int) = _; push_cast; omega, hh'⟩, ⟨by show 0 ≤ max most _; omega, by show max most _ ≤ 12; omega⟩, fun y hy => (List.mem_append.1 hy).elim (hF y) fun h => by rw [List.mem_singleton.1 h]; exact hfit, by
         show encL 0 (L ++ [_]) ++ (zbM o pl (f.code.drop (i + 1)) ((f.vars.length : Int) + ((i + 1 : Nat) : Int)) ⟨o + f.vars.length + (zal (f.code.take (i + 1))).length, (p : Int) + 1, max most ((p : Int) + 1)⟩).1 = _
         rw [hsn, hee, List.append_assoc, hLp, ← hpos]; exact hT1, by
         show (zbM o pl (f.code.drop (i + 1)) ((f.vars.length : Int) + ((i + 1 : Nat) : Int)) ⟨o + f.vars.length + (zal (f.code.take (i + 1))).length, (p : Int) + 1, max most ((p : Int) + 1)⟩).2 = _
         rw [hsn, ← hpos]; exact hT2⟩, by show f.code.length - (i + 1) < f.code.length - i; omega, by
         show Imp _ _ _ [(15, iv .i64 ((i + 1 : Nat) : Int)), (14, .x (.o 901 (zal (f.code.take (i + 1))).length (zal (f.code.take (i + 1))).length)), (13, iv .i64 (max most ((p : Int) + 1))), (12, iv .i64 ((p : Int) + 1)), (10, .x (.o 900 (L ++ [_]).length (L ++ [_]).length)), (8, iv .i64 pl), (7, iv .i64 (o + f.vars.length)), (6, iv .i64 o), (5, .x (.b 5 0)), (3, iv .i64 0), (2, .x (.b 2 0)), (1, .x (.b 1 0))]
          [(901, .chain 3 1 (zal (f.code.take (i + 1))).length ((zal (f.code.take (i + 1))).map iPV)), (900, .chain 140 4 (L ++ [_]).length ((L ++ [_]).map (odR 0))), (5, .box [.d (.v (.slice none 0 0)), .d (.v (.int .i64 0)), .d (.v (.int .i64 o))]), (2, .box [.d (.v (.slice none 0 0)), .d (.v (.int .i64 0)), .d (.v (.int .i64 0))]), (1, .box (zb5 f))]
         rw [hsn, ← hx, hl1]
         exact (impX (by repeat' (first | exact trivial | refine And.intro ?_ ?_ | exact ivE em | exact zsw)))⟩
      ·have k2 : f.code[i].kind = 2 := by omega
       obtain ⟨f1, f2, f3, f4⟩ := (zgA k2).1 hf
       have un := zhZ f.code[i] k2 hf
       rw [if_pos k2] at hsn
       rw [zqi k2] at hT1 hT2
       have hcl3 : W.length + 1 ≤ C.length := by
        rw [← hC, ← List.take_append_drop (i + 1) f.code, ztz, hsn]
        simp only [List.length_append, List.length_cons, List.length_nil]; omega
       have hx := ztx L (1, o + f.vars.length + W.length, pl + p)
       have hee := ztw L (1, o + f.vars.length + W.length, pl + p)
       have hl1 : (L ++ [(1, o + f.vars.length + W.length, pl + p)]).length = L.length + 1 := List.length_append
       dsimp only at hT1 hT2 hee
       have hfit : ztF (1, o + f.vars.length + W.length, pl + p) := ztA (by omega) (by omega) (by omega)
       have em : (if (p : Int) + 1 > most then (p : Int) + 1 else most) = max most ((p : Int) + 1) := by split <;> omega
       have hW1 : ((W ++ [zbo f.code[i]]).length : Int) = W.length + 1 := by rw [List.length_append]; rfl
       have hx2 : (W.map iPV).take W.length ++ [iPV (zbo f.code[i])] = (W ++ [zbo f.code[i]]).map iPV := by rw [List.map_append, List.take_of_length_le (by omega)]; rfl
       have gw : W.length ≤ (W.map iPV).length := by rw [hWl]; exact Nat.le_refl _
       generalize zbo f.code[i] = v at *
       repeat' first | refine zd ?_ | refine zc ?_ | ((first | refine zf ?_ | refine zk ?_ | with_reducible refine regA ?_ | fail); conv => whnf) | exact abA hb | ((first | refine ⟨_, ze ⟨by omega, gn⟩, ?_⟩ | refine zsn (ro) ?_ | refine zsn (un) ?_ | refine And.intro ⟨g0, by show L.length + 1 ≤ _; unfold maxLen; omega, by show (L.length + 1) * 32 ≤ _; omega⟩ ?_ | refine And.intro ⟨gw, by show W.length + 1 ≤ _; unfold maxLen; omega, by show (W.length + 1) * 8 ≤ _; omega⟩ ?_ | fail); conv => whnf) | (refine zss rfl ?_) | (refine zso rfl (fun hb => ?_) (fun hb => ?_)) | ((first | refine zsq ?_ | refine andA ?_ | fail); conv => whnf) | (refine lnA fun hln => ?_; conv => whnf) | fail
       exact ⟨(i + 1, L ++ [(1, o + f.vars.length + W.length, pl + p)], (p : Int) + 1, max most ((p : Int) + 1)), ⟨by show i + 1 ≤ _; omega, by show (L ++ [_]).length = _; rw [List.length_append]; show L.length + 1 = _; omega, ⟨p + 1, by show ((p : Int) + 1 : Int) = _; push_cast; omega, hh'⟩, ⟨by show 0 ≤ max most _; omega, by show max most _ ≤ 12; omega⟩, fun y hy => (List.mem_append.1 hy).elim (hF y) fun h => by rw [List.mem_singleton.1 h]; exact hfit, by
         show encL 0 (L ++ [_]) ++ (zbM o pl (f.code.drop (i + 1)) ((f.vars.length : Int) + ((i + 1 : Nat) : Int)) ⟨o + f.vars.length + (zal (f.code.take (i + 1))).length, (p : Int) + 1, max most ((p : Int) + 1)⟩).1 = _
         rw [hsn, hW1, hee, List.append_assoc, hLp, ← hpos, ← Int.add_assoc]; exact hT1, by
         show (zbM o pl (f.code.drop (i + 1)) ((f.vars.length : Int) + ((i + 1 : Nat) : Int)) ⟨o + f.vars.length + (zal (f.code.take (i + 1))).length, (p : Int) + 1, max most ((p : Int) + 1)⟩).2 = _
         rw [hsn, hW1, ← hpos, ← Int.add_assoc]; exact hT2⟩, by show f.code.length - (i + 1) < f.code.length - i; omega, by
         show Imp _ _ _ [(15, iv .i64 ((i + 1 : Nat) : Int)), (14, .x (.o 901 (zal (f.code.take (i + 1))).length (zal (f.code.take (i + 1))).length)), (13, iv .i64 (max most ((p : Int) + 1))), (12, iv .i64 ((p : Int) + 1)), (10, .x (.o 900 (L ++ [_]).length (L ++ [_]).length)), (8, iv .i64 pl), (7, iv .i64 (o + f.vars.length)), (6, iv .i64 o), (5, .x (.b 5 0)), (3, iv .i64 0), (2, .x (.b 2 0)), (1, .x (.b 1 0))]
          [(901, .chain 3 1 (zal (f.code.take (i + 1))).length ((zal (f.code.take (i + 1))).map iPV)), (900, .chain 140 4 (L ++ [_]).length ((L ++ [_]).map (odR 0))), (5, .box [.d (.v (.slice none 0 0)), .d (.v (.int .i64 0)), .d (.v (.int .i64 o))]), (2, .box [.d (.v (.slice none 0 0)), .d (.v (.int .i64 0)), .d (.v (.int .i64 0))]), (1, .box (zb5 f))]
         rw [hsn, ← hx, ← hx2, hl1, show (W ++ [v]).length = W.length + 1 from List.length_append]
         exact (impX (by repeat' (first | exact trivial | refine And.intro ?_ ?_ | exact ivE em | exact zsw)))⟩
     ·obtain ⟨q', hq', hh'⟩ := hop (by omega)
      rw [decide_eq_true (by omega)] at ro
      rw [if_neg (by omega), List.append_nil] at hsn
      rw [zqh (by omega)] at hT1 hT2
      have hx := ztx L (f.code[i].kind - 1, pl + p - 1, pl + p - 2)
      have hee := ztw L (f.code[i].kind - 1, pl + p - 1, pl + p - 2)
      have hl1 : (L ++ [(f.code[i].kind - 1, pl + p - 1, pl + p - 2)]).length = L.length + 1 := List.length_append
      dsimp only at hT1 hT2 hee
      have gop : ([[.v (.int .i64 2)], [.v (.int .i64 3)], [.v (.int .i64 4)]] : List (List PV))[(f.code[i].kind - 3).toNat]? = some [.v (.int .i64 (f.code[i].kind - 1))] := by
       rcases (show f.code[i].kind = 3 ∨ f.code[i].kind = 4 ∨ f.code[i].kind = 5 by omega) with h | h | h <;> rw [h] <;> rfl
      have hfit : ztF (f.code[i].kind - 1, pl + p - 1, pl + p - 2) := ztA (by omega) (by omega) (by omega)
      repeat' first | refine zd ?_ | refine zc ?_ | ((first | refine zf ?_ | refine zk ?_ | with_reducible refine regA ?_ | fail); conv => whnf) | exact abA hb | ((first | refine ⟨_, ze ⟨by omega, gn⟩, ?_⟩ | refine zsn (ro) ?_ | refine ⟨_, ze gop, ⟨Nat.le_of_ble_eq_true rfl, rfl⟩, ?_⟩ | refine And.intro ⟨g0, by show L.length + 1 ≤ _; unfold maxLen; omega, by show (L.length + 1) * 32 ≤ _; omega⟩ ?_ | fail); conv => whnf) | (refine zst rfl ?_) | (refine zso rfl (fun hb => ?_) (fun hb => ?_)) | ((first | refine zsq ?_ | refine andA ?_ | fail); conv => whnf) | ((refine And.intro (by refine ⟨?_, ?_, ?_⟩ <;> simp [zO, maxLen] <;> omega) ?_); conv => whnf) | (refine lnA fun hln => ?_; conv => whnf) | fail
      exact ⟨(i + 1, L ++ [(f.code[i].kind - 1, pl + p - 1, pl + p - 2)], (p : Int) - 1, most), ⟨by show i + 1 ≤ _; omega, by show (L ++ [_]).length = _; rw [List.length_append]; show L.length + 1 = _; omega, ⟨q' + 1, by show ((p : Int) - 1 : Int) = _; push_cast; omega, hh'⟩, hm, fun y hy => (List.mem_append.1 hy).elim (hF y) fun h => by rw [List.mem_singleton.1 h]; exact hfit, by
        show encL 0 (L ++ [_]) ++ (zbM o pl (f.code.drop (i + 1)) ((f.vars.length : Int) + ((i + 1 : Nat) : Int)) ⟨o + f.vars.length + (zal (f.code.take (i + 1))).length, (p : Int) - 1, most⟩).1 = _
        rw [hsn, hee, List.append_assoc, hLp, ← hpos]; exact hT1, by
        show (zbM o pl (f.code.drop (i + 1)) ((f.vars.length : Int) + ((i + 1 : Nat) : Int)) ⟨o + f.vars.length + (zal (f.code.take (i + 1))).length, (p : Int) - 1, most⟩).2 = _
        rw [hsn, ← hpos]; exact hT2⟩, by show f.code.length - (i + 1) < f.code.length - i; omega, by
        show Imp _ _ _ [(15, iv .i64 ((i + 1 : Nat) : Int)), (14, .x (.o 901 (zal (f.code.take (i + 1))).length (zal (f.code.take (i + 1))).length)), (13, iv .i64 most), (12, iv .i64 ((p : Int) - 1)), (10, .x (.o 900 (L ++ [_]).length (L ++ [_]).length)), (8, iv .i64 pl), (7, iv .i64 (o + f.vars.length)), (6, iv .i64 o), (5, .x (.b 5 0)), (3, iv .i64 0), (2, .x (.b 2 0)), (1, .x (.b 1 0))]
         [(901, .chain 3 1 (zal (f.code.take (i + 1))).length ((zal (f.code.take (i + 1))).map iPV)), (900, .chain 140 4 (L ++ [_]).length ((L ++ [_]).map (odR 0))), (5, .box [.d (.v (.slice none 0 0)), .d (.v (.int .i64 0)), .d (.v (.int .i64 o))]), (2, .box [.d (.v (.slice none 0 0)), .d (.v (.int .i64 0)), .d (.v (.int .i64 0))]), (1, .box (zb5 f))]
        rw [hsn, ← hx, hl1]
        exact impA⟩
    ·have hie3 : i = f.code.length := by omega
     subst hie3
     rw [List.drop_eq_nil_of_le (Nat.le_refl _), zbM] at hT1 hT2
     rw [List.take_of_length_le (Nat.le_refl _), hC] at hT1 hT2 ⊢
     rw [List.append_nil] at hT1
     dsimp only at hT2
     have hRl : (L.map (odR 0)).length = L.length := List.length_map _
     have g0 : L.length ≤ (L.map (odR 0)).length := by rw [hRl]; exact Nat.le_refl _
     have hx := ztx L (7, pl, 0)
     have hee := ztw L (7, pl, 0)
     have hl1 : (L ++ [(7, pl, 0)]).length = L.length + 1 := List.length_append
     have hF2 : ∀ y ∈ L ++ [(7, pl, 0)], ztF y := fun y hy => (List.mem_append.1 hy).elim (hF y) fun h => by rw [List.mem_singleton.1 h]; exact ztA (by omega) (by omega) (by omega)
     obtain ⟨M, hM⟩ : ∃ M, L ++ [(7, pl, 0)] = M := ⟨_, rfl⟩
     rw [hM] at hx hee hl1 hF2
     repeat' first | refine zd ?_ | refine zc ?_ | ((first | refine zf ?_ | refine zk ?_ | with_reducible refine regA ?_ | fail); conv => whnf) | exact abA hb | ((refine And.intro ⟨g0, by show L.length + 1 ≤ _; unfold maxLen; omega, by show (L.length + 1) * 32 ≤ _; omega⟩ ?_); conv => whnf) | (refine zso rfl (fun hb => ?_) (fun hb => ?_)) | ((refine andA ?_); conv => whnf) | (refine lnA fun hln => ?_; conv => whnf) | fail
     refine zaq (Imp.nil 902 3 1 (fr' := [(21, iv .i64 0), (14, .x (.o 901 C.length C.length)), (13, iv .i64 most), (10, .x (.o 900 M.length M.length)), (5, .x (.b 5 0)), (2, .x (.b 2 0)), (1, .x (.b 1 0))])
      (σ' := [(901, .chain 3 1 C.length (C.map iPV)), (900, .chain 140 4 M.length (odL 0 M)), (5, .box [.o 902 0 0, .d (.v (.int .i64 0)), .d (.v (.int .i64 o))]), (2, .box [.d (.v (.slice none 0 0)), .d (.v (.int .i64 0)), .d (.v (.int .i64 0))]), (1, .box (zb5 f))]) rfl ?_ ?_ rfl rfl) ?_
     ·rw [hl1]
      exact ⟨⟨_, rfl, .inl rfl⟩, ⟨_, rfl, .inl rfl⟩, ⟨_, rfl, .inl rfl⟩, ⟨_, rfl, .inl rfl⟩, ⟨_, rfl, .inl rfl⟩, ⟨_, rfl, .inl rfl⟩, ⟨_, rfl, .inl rfl⟩, trivial⟩
     ·rw [ztN, ← hx, hl1]
      exact ⟨⟨_, rfl, .inl rfl⟩, ⟨_, rfl, .inl rfl⟩, ⟨_, rfl, .inr ⟨_, _, rfl, rfl, .inr ⟨rfl, rfl⟩, .inl rfl, .inl rfl, trivial⟩⟩, ⟨_, rfl, .inl rfl⟩, ⟨_, rfl, .inl rfl⟩, trivial⟩
     refine zJ (fun j : Nat => [(21, iv .i64 j), (14, .x (.o 901 C.length C.length)), (13, iv .i64 most), (10, .x (.o 900 M.length M.length)), (5, .x (.b 5 0)), (2, .x (.b 2 0)), (1, .x (.b 1 0))])
      (fun j => [(902, .chain 3 1 j ((encL 0 (M.take j)).map iPV)), (901, .chain 3 1 C.length (C.map iPV)), (900, .chain 140 4 M.length (odL j M)), (5, .box [.o 902 j j, .d (.v (.int .i64 0)), .d (.v (.int .i64 o))]), (2, .box [.d (.v (.slice none 0 0)), .d (.v (.int .i64 0)), .d (.v (.int .i64 0))]), (1, .box (zb5 f))])
      (fun j => j ≤ M.length) (fun j => M.length - j) 0 (Nat.zero_le _) impA ?_
     intro j hj
     have hdl := ztP j M
     rcases Nat.lt_or_ge j M.length with hjl | hjl
     ·obtain ⟨r1, r2, r3⟩ := hF2 M[j] (List.getElem_mem hjl)
      have wr := ztJ M[j].1 M[j].2.1 M[j].2.2 ((j : Int) + 1) r1 r2 r3 (by omega)
      have gj := ztL (i := j) hjl
      have gs := ztO hjl
      have gj2 := ztL (i := j + 1) hjl
      rw [if_neg (Nat.lt_irrefl _)] at gj
      rw [if_pos (Nat.lt_succ_self _), ← gs] at gj2
      have hen : encL 0 (M.take (j + 1)) = encL 0 (M.take j) ++ [encW M[j].1 M[j].2.1 M[j].2.2 ((j : Int) + 1)] := by
       rw [List.take_add_one, List.getElem?_eq_getElem hjl]
       show encL 0 (M.take j ++ [M[j]]) = _
       rw [ztw, List.length_take, Nat.min_eq_left (by omega)]
      have hel : (encL 0 (M.take j)).length = j := by rw [ztE, List.length_take]; omega
      generalize encW M[j].1 M[j].2.1 M[j].2.2 ((j : Int) + 1) = E at *
      have g3 : j ≤ ((encL 0 (M.take j)).map iPV).length := by rw [List.length_map, hel]; exact Nat.le_refl _
      repeat' first | refine zd ?_ | refine zc ?_ | ((first | refine zf ?_ | refine zk ?_ | with_reducible refine regA ?_ | refine drA (id := 41) 8 true [0, 1, 0, 0, 12, 28, 60, 124, 255, 511, 1023] ?_ | fail); conv => whnf) | exact abA hb | ((first | refine zsp (wr) ?_ | refine ⟨_, gj, Nat.le_of_ble_eq_true rfl, ?_⟩ | refine ⟨_, ze gj2, ⟨Nat.le_of_ble_eq_true rfl, rfl⟩, ?_⟩ | refine And.intro ⟨g3, by show j + 1 ≤ _; unfold maxLen; omega, by show (j + 1) * 8 ≤ _; omega⟩ ?_ | fail); conv => whnf) | (refine zso rfl (fun hb => ?_) (fun hb => ?_)) | ((first | refine zsq ?_ | refine andA ?_ | with_reducible refine And.intro (ze (And.intro (by omega) (And.intro (by first | omega | (simp only [List.length_map]; omega)) (by first | omega | (simp only [List.length_map]; omega) | (simp only [List.length_set, List.length_map]; omega))))) ?_ | fail); conv => whnf) | (refine lnA fun hln => ?_; conv => whnf) | fail
      have hx2 : ((encL 0 (M.take j)).map iPV).take j ++ [iPV E] = (encL 0 (M.take (j + 1))).map iPV := by
       rw [hen, List.map_append, List.take_of_length_le (by rw [List.length_map, hel]; exact Nat.le_refl _)]; rfl
      exact ⟨j + 1, by omega, by omega, (impX (by repeat' (first | exact trivial | refine And.intro ?_ ?_ | exact chE gs | exact chE hx2 | exact zsw)))⟩
     ·have hje : j = M.length := by omega
      subst hje
      rw [List.take_of_length_le (Nat.le_refl _)]
      have hX : ((encL 0 M).map iPV).length = M.length := by rw [List.length_map, ztE]
      obtain ⟨X, hXe⟩ : ∃ X, (encL 0 M).map iPV = X := ⟨_, rfl⟩
      rw [hXe] at hX ⊢
      have hM3 : M.length ≤ 60 := by omega
      have hM3 : M.length ≤ 60 := by omega
      have hC3 : (C.map iPV).length = C.length := List.length_map _
      have hmo : q.2.most = most := by rw [← hT2]
      have hcm : zbN f = (⟨encL 0 M ++ List.replicate (1 + f.vars.length) 0 ++ C ++ List.replicate most.toNat 0, 0, o⟩, 0) := by
       unfold zbN
       rw [if_neg (by simp [h0])]
       simp only [ho, hC, hpl, hq, hmo]
       rw [hee, hT1, show (L.length : Int) + 1 = o - 1 by omega]
      have hLX : zR (encL 0 M ++ List.replicate (1 + f.vars.length) 0 ++ C ++ List.replicate most.toNat 0) = .s 1 (X ++ List.replicate (1 + f.vars.length) [.v (.int .i64 0)] ++ C.map iPV ++ List.replicate most.toNat [.v (.int .i64 0)]) := by
       rw [← hXe]
       simp only [zR, List.map_append, List.map_replicate]; rfl
      obtain ⟨z, hz⟩ : ∃ z, 1 + f.vars.length = z := ⟨_, rfl⟩
      have hz1 : (1 + ((f.vars.map zaa).length : Int)).toNat = z := by rw [hlv]; omega
      rw [hz] at hLX hcm
      rw [hcm]
      dsimp only
      repeat' first | (with_reducible refine Stp.at45 ?_) | refine zd ?_ | refine zc ?_ | ((first | refine zf ?_ | refine zk ?_ | with_reducible refine regA ?_ | fail); conv => whnf) | exact abA hb | ((first | refine And.intro ⟨Nat.le_of_eq hX.symm, by omega, by unfold maxLen; omega, by show _ * 8 ≤ _; omega⟩ ?_ | refine And.intro ⟨rfl, rfl, Nat.le_of_eq hC3.symm⟩ ?_ | refine And.intro ⟨by simp only [List.length_append, List.length_take, List.length_replicate, List.length_map]; omega, by simp only [List.length_append, List.length_take, List.length_replicate, List.length_map]; unfold maxLen; omega, by show _ * 8 ≤ _; simp only [List.length_append, List.length_take, List.length_replicate, List.length_map]; omega⟩ ?_ | refine And.intro ⟨by simp only [List.length_append, List.length_take, List.length_replicate, List.length_map]; omega, by omega, by simp only [List.length_append, List.length_take, List.length_replicate, List.length_map]; unfold maxLen; omega, by show _ * 8 ≤ _; simp only [List.length_append, List.length_take, List.length_replicate, List.length_map]; omega⟩ ?_ | fail); conv => whnf) | (refine zso rfl (fun hb => ?_) (fun hb => ?_)) | ((first | refine zsq ?_ | refine andA ?_ | fail); conv => whnf) | (refine lnA fun hln => ?_; conv => whnf) | fail
      rw [hz1]
      unfold Stp
      have hTk : ((((X.take M.length ++ List.replicate z [PV.v (.int .i64 0)]).take (M.length + z) ++ (C.map iPV).take C.length).take (M.length + z + ((C.map iPV).take C.length).length)) ++ List.replicate most.toNat [PV.v (.int .i64 0)]).take (M.length + z + ((C.map iPV).take C.length).length + most.toNat) = X ++ List.replicate z [.v (.int .i64 0)] ++ C.map iPV ++ List.replicate most.toNat [.v (.int .i64 0)] := by
       rw [List.take_of_length_le (Nat.le_of_eq hX), List.take_of_length_le (Nat.le_of_eq hC3), List.take_of_length_le (l := X ++ _) (by simp [hX]), List.take_of_length_le (l := X ++ _ ++ _) (by simp [hX]; omega), List.take_of_length_le (by simp [hX]; omega)]
      have hTl : M.length + z + ((C.map iPV).take C.length).length + most.toNat ≤ ((((X.take M.length ++ List.replicate z [PV.v (.int .i64 0)]).take (M.length + z) ++ (C.map iPV).take C.length).take (M.length + z + ((C.map iPV).take C.length).length)) ++ List.replicate most.toNat [PV.v (.int .i64 0)]).length := by
       simp only [List.length_append, List.length_take, List.length_replicate, hX, hC3]; omega
      refine zaq (Imp.freezeB 902 (fr' := [(5, .x (.b 5 0)), (2, .x (.b 2 0))])
       (σ' := [(5, .box [.d (zR (encL 0 M ++ List.replicate z 0 ++ C ++ List.replicate most.toNat 0)), .d (.v (.int .i64 0)), .d (.v (.int .i64 o))]), (2, .box [.d (.v (.slice none 0 0)), .d (.v (.int .i64 0)), .d (.v (.int .i64 0))])]) rfl
       ⟨⟨_, rfl, .inl rfl⟩, ⟨_, rfl, .inl rfl⟩, trivial⟩ ⟨⟨_, rfl, .inr ⟨_, _, rfl, rfl, ⟨.inr ⟨_, rfl, hTl, congrArg SV.d (hLX.trans (congrArg (PV.s 1) hTk.symm))⟩, .inl rfl, .inl rfl, trivial⟩⟩⟩, ⟨_, rfl, .inl rfl⟩, trivial⟩ rfl rfl) ?_
      repeat' first | refine zd ?_ | ((first | refine zi ?_ | with_reducible refine regA ?_ | fail); conv => whnf) | fail
      exact ⟨_, [], trivial, rfl, rfl, ⟨⟨.inl rfl, .inl rfl, .inl rfl, trivial⟩, .inl rfl, trivial⟩, rfl⟩
 ·have hr : zbN f = (⟨[], 0, 0⟩, zD f) := by unfold zbN; rw [if_pos h0]
  rw [hr]
  refine hdD Tryz.func28 Tryz.ntmps28 (res := [.cell 2 47, .tmp 3]) fun w0 K0 B => ?_
  repeat' first | refine zd ?_ | ((first | refine zf ?_ | refine zi ?_ | with_reducible refine regA ?_ | refine zsn (ck) ?_ | fail); conv => whnf) | (exact absurd hb h0) | (refine zso rfl (fun hb => ?_) (fun hb => ?_)) | fail
  exact ⟨_, [], trivial, rfl, rfl, ⟨⟨.inr ⟨rfl, _, rfl⟩, .inl rfl, .inl rfl, trivial⟩, .inl rfl, trivial⟩, rfl⟩
theorem ztG (f : FormT) : FnC Tryz.prog 28 [zaB f] (.t [zoV (zbN f).1, iv .i64 (zbN f).2]) :=
 zfd ((ztD f).leW fun _ _ h => ⟨_, h.1, rfl, h.2⟩)
end Go.Proofs.YtmceekhgnfpamaaGreatDoor
namespace Go.Proofs.YtmceekhgnfpamaaGreatDoor
open Go Go.QL FoT
set_option maxHeartbeats 3200000
attribute [local irreducible] ACall FnC zbN
theorem ztH (f : FormT) : FnC Tryz.prog 5 [zaB f] (bv true) := by
 have aw := zcK
 have c1 := zg0 f
 have c2 := ztG f
 obtain ⟨⟨p, e⟩, hp⟩ : ∃ p, zbN f = p := ⟨_, rfl⟩
 rw [hp] at c1 c2
 have pt := ztK p
 have hfin : (bif (bif true then e == e else false) then true else false) = true := by simp
 dsimp only at c1 c2
 refine hdC Tryz.func5 Tryz.ntmps5 (res := [.tmp 2]) fun w0 K0 => ?_
 repeat' first | refine zd ?_ | ((first | refine zi ?_ | with_reducible refine regA ?_ | refine zsn (c1) ?_ | refine zsn (c2) ?_ | refine zsn (pt) ?_ | refine zsp (aw) ?_ | refine pkA ?_ | fail); conv => whnf) | fail
 exact congrArg some (congrArg bv hfin)
end Go.Proofs.YtmceekhgnfpamaaGreatDoor
