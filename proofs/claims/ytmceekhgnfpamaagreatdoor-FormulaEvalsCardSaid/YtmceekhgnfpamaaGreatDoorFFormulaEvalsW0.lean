/- What the functions that this law reaches return: part 0. No condition. -/
import Derived.Test.YtmceekhgnfpamaaGreatDoorB05
set_option linter.all false
namespace Go.Proofs.YtmceekhgnfpamaaGreatDoor
open Go Go.QL FoT
set_option maxHeartbeats 1600000
attribute [local irreducible] ACall FnC
theorem zoS (n lo hi : Int) : FnC Tryz.prog 61 [iv .i64 n, iv .i64 lo, iv .i64 hi] (bv (bif decide (lo ≤ n) then decide (n ≤ hi) else false)) := by
 refine hdC Tryz.func61 Tryz.ntmps61 (res := [.tmp 6]) fun w0 K0 => ?_
 repeat' first | refine zd ?_ | ((first | refine zi ?_ | with_reducible refine regA ?_ | refine pkA ?_ | fail); conv => whnf) | fail
 rfl
theorem zjG (n lo hi : Int) : (bif decide (lo ≤ n) then decide (n ≤ hi) else false) = decide (lo ≤ n ∧ n ≤ hi) := by
 rw [Bool.eq_iff_iff, decide_eq_true_iff, Bool.cond_eq_ite]
 by_cases h : lo ≤ n <;> simp [h]
theorem zho (n lo hi : Int) : FnC Tryz.prog 61 [iv .i64 n, iv .i64 lo, iv .i64 hi] (bv (decide (lo ≤ n ∧ n ≤ hi))) := by
 rw [← zjG]; exact zoS n lo hi
theorem znG {i n : Nat} (h : i ≤ n) (hn : n ≤ 18) : 1 ≤ (10 : Int) ^ i ∧ (10 : Int) ^ i ≤ 1000000000000000000 := by
 have h1 : (10 : Nat) ^ i ≤ 10 ^ 18 := Nat.pow_le_pow_right (by decide) (by omega)
 have h2 : 1 ≤ (10 : Nat) ^ i := Nat.one_le_pow _ _ (by decide)
 have e : (10 : Int) ^ i = ((10 ^ i : Nat) : Int) := by norm_cast
 rw [e]
 omega
theorem zpv (n : Nat) (h : n ≤ 18) : FnC Tryz.prog 124 [iv .i64 n] (iv .i64 ((10 : Int) ^ n)) := by
 refine hdC Tryz.func124 Tryz.ntmps124 (res := [.tmp 2]) fun w0 K0 => ?_
 repeat' first | refine zd ?_ | refine zc ?_ | ((with_reducible refine regA ?_); conv => whnf) | fail
 refine zJ (fun i : Nat => [(4, iv .i64 i), (3, iv .i64 ((10 : Int) ^ i)), (0, iv .i64 n)]) (fun _ => []) (fun i => i ≤ n) (fun i => n - i) 0 (Nat.zero_le _) impA ?_
 intro i hi
 rcases Nat.lt_or_ge i n with hil | hil
 ·have h1 := znG (show i + 1 ≤ n by omega) h
  have e1 : (10 : Int) ^ (i + 1) = 10 * 10 ^ i := by rw [Int.pow_succ, Int.mul_comm]
  rw [e1] at h1
  generalize (10 : Int) ^ i = p at h1 e1
  repeat' first | refine zd ?_ | refine zc ?_ | ((first | refine zf ?_ | refine zk ?_ | refine zi ?_ | with_reducible refine regA ?_ | fail); conv => whnf) | exact abA hb | (refine zso rfl (fun hb => ?_) (fun hb => ?_)) | ((refine zsq ?_); conv => whnf) | fail
  exact ⟨i + 1, by omega, by omega, (impX (by repeat' (first | exact trivial | refine And.intro ?_ ?_ | exact ivE e1.symm | exact zsw)))⟩
 ·obtain rfl : i = n := by omega
  repeat' first | refine zd ?_ | refine zc ?_ | ((first | refine zf ?_ | refine zk ?_ | refine zi ?_ | with_reducible refine regA ?_ | fail); conv => whnf) | exact abA hb | (refine zso rfl (fun hb => ?_) (fun hb => ?_)) | fail
  rfl
theorem zls {n : FNode} (h : 1 ≤ n.places ∧ n.places ≤ 6) : FnC Tryz.prog 124 [iv .i64 n.places] (iv .i64 (ten n)) := by
 have t := zpv n.places.toNat (by omega)
 rw [show ((n.places.toNat : Nat) : Int) = n.places by omega] at t
 exact t
theorem zlv (n : FNode) : FnC Tryz.prog 64 [ndAV n] (bv (decide (3 ≤ n.kind ∧ n.kind ≤ 5))) := by
 have ri := zho
 refine hdC Tryz.func64 Tryz.ntmps64 (res := [.tmp 2]) fun w0 K0 => ?_
 repeat' first | refine zd ?_ | ((first | refine zi ?_ | with_reducible refine regA ?_ | refine zsn ((ri _ _ _)) ?_ | refine andA ?_ | fail); conv => whnf) | fail
 rfl
theorem b3 (a b c : Prop) [Decidable a] [Decidable b] [Decidable c] : (bif (bif decide a then decide b else false) then decide c else false) = decide (a ∧ b ∧ c) := by
 by_cases a <;> by_cases b <;> by_cases c <;> simp [*]
theorem znu (f : FormT) (n : FNode) : FnC Tryz.prog 63 [zaB f, ndAV n] (iv .i64 (zbA f.vars.length n)) := by
 have ri := zho
 have hlv : (f.vars.map zaa).length = f.vars.length := List.length_map _
 by_cases hk : 1 ≤ n.kind ∧ n.kind ≤ 5
 ·have hcf : (!decide (1 ≤ n.kind ∧ n.kind ≤ 5)) = false := by rw [decide_eq_true hk]; rfl
  have hn : zbA f.vars.length n = if fine f.vars.length n then 0 else 7 := by unfold zbA; rw [if_pos hk]
  rw [hn]
  by_cases k1 : n.kind = 1
  ·have e : fine f.vars.length n ↔ (0 ≤ n.var ∧ n.var ≤ (f.vars.length : Int) - 1) ∧ n.num = 0 ∧ n.places = 0 := by unfold fine; rw [if_pos k1]; exact ⟨fun ⟨a, b, c⟩ => ⟨⟨a, b⟩, c⟩, fun ⟨⟨a, b⟩, c⟩ => ⟨a, b, c⟩⟩
   have hq : (bif (bif decide (0 ≤ n.var ∧ n.var ≤ ((f.vars.map zaa).length : Int) - 1) then n.num == 0 else false) then n.places == 0 else false) = decide (fine f.vars.length n) := by
    rw [hlv]
    refine (b3 _ (n.num = 0) (n.places = 0)).trans ?_
    rw [Bool.eq_iff_iff, decide_eq_true_iff, decide_eq_true_iff, e]
   by_cases hf : fine f.vars.length n
   ·rw [if_pos hf]
    rw [decide_eq_true hf] at hq
    refine hdC Tryz.func63 Tryz.ntmps63 (res := [.tmp 4]) fun w0 K0 => ?_
    repeat' first | refine zd ?_ | ((first | refine zf ?_ | refine zi ?_ | with_reducible refine regA ?_ | refine drA (id := 7) 15 false [0, 1, 3, 7, 15, 31, 63, 127, 255, 511, 1023, 511, 2559, 6655, 14847, 32767, 65535, 131071, 262143, 524287, 1048575, 2097151, 4194303, 8388607, 16777215, 33554431, 67108863, 134217727, 268435455] ?_ | fail); conv => whnf) | exact abA hb | (refine za rfl (zM hcf) (fun _ => ?_)) | (refine za rfl (zM ((congrArg not hq).trans rfl)) (fun _ => ?_)) | ((first | refine zsn ((ri _ _ _)) ?_ | refine pkA ?_ | fail); conv => whnf) | (refine zso rfl (fun hb => ?_) (fun hb => ?_)) | ((refine zsq ?_); conv => whnf) | (refine lnA fun hln => ?_; conv => whnf) | fail
    rfl
   ·rw [if_neg hf]
    rw [decide_eq_false hf] at hq
    refine hdC Tryz.func63 Tryz.ntmps63 (res := [.tmp 4]) fun w0 K0 => ?_
    repeat' first | refine zd ?_ | ((first | refine zf ?_ | refine zi ?_ | with_reducible refine regA ?_ | refine drA (id := 7) 15 false [0, 1, 3, 7, 15, 31, 63, 127, 255, 511, 1023, 511, 2559, 6655, 14847, 32767, 65535, 131071, 262143, 524287, 1048575, 2097151, 4194303, 8388607, 16777215, 33554431, 67108863, 134217727, 268435455] ?_ | fail); conv => whnf) | exact abA hb | (refine za rfl (zM hcf) (fun _ => ?_)) | (refine za rfl (fun _ => ?_) (zaf ((congrArg not hq).trans rfl))) | ((first | refine zsn ((ri _ _ _)) ?_ | refine pkA ?_ | fail); conv => whnf) | (refine zso rfl (fun hb => ?_) (fun hb => ?_)) | ((refine zsq ?_); conv => whnf) | (refine lnA fun hln => ?_; conv => whnf) | fail
    rfl
  ·by_cases k2 : n.kind = 2
   ·have e := zgA (nv := f.vars.length) k2
    by_cases hp : n.var = 0 ∧ 1 ≤ n.places ∧ n.places ≤ 6
    ·have t := zls hp.2
     have ht := (zdk hp.2).2
     have hw : IntKind.i64.wrap (ten n - 1) = ten n - 1 := zg (by omega)
     have hq : (bif (bif (bif n.var == 0 then decide (1 ≤ n.places ∧ n.places ≤ 6) else false) then decide (0 ≤ n.num ∧ n.num ≤ ten n - 1) else false) then (bif n.places == 1 then true else (n.num.tmod 10 != 0)) else false) = decide (fine f.vars.length n) := by
      have h1 : (bif n.var == 0 then decide (1 ≤ n.places ∧ n.places ≤ 6) else false) = true := by rw [hp.1, decide_eq_true hp.2]; rfl
      rw [h1, cond_true, Bool.eq_iff_iff, decide_eq_true_iff, e]
      by_cases h2 : 0 ≤ n.num ∧ n.num ≤ ten n - 1
      ·rw [decide_eq_true h2, cond_true, Int.tmod_eq_emod_of_nonneg h2.1]
       by_cases h3 : n.places = 1
       ·simp [h3, h2, hp.1]
       ·simp [h3, h2, hp.1, hp.2]; omega
      ·rw [decide_eq_false h2, cond_false]
       simp [h2]
     by_cases hf : fine f.vars.length n
     ·rw [if_pos hf]
      rw [decide_eq_true hf] at hq
      refine hdC Tryz.func63 Tryz.ntmps63 (res := [.tmp 4]) fun w0 K0 => ?_
      repeat' first | refine zd ?_ | ((first | refine zf ?_ | refine zi ?_ | with_reducible refine regA ?_ | refine drA (id := 7) 15 false [0, 1, 3, 7, 15, 31, 63, 127, 255, 511, 1023, 511, 2559, 6655, 14847, 32767, 65535, 131071, 262143, 524287, 1048575, 2097151, 4194303, 8388607, 16777215, 33554431, 67108863, 134217727, 268435455] ?_ | fail); conv => whnf) | exact abA hb | (refine za rfl (zM hcf) (fun _ => ?_)) | (refine za rfl (zM ((congrArg not hq).trans rfl)) (fun _ => ?_)) | ((first | refine zsn ((ri _ _ _)) ?_ | refine zsp ((ri _ _ _)) ?_ | refine zsr ((ri _ _ _)) ?_ | refine zsr (t) ?_ | refine pkA ?_ | refine ⟨_, hw, ?_⟩ | refine ⟨Int.tmod _ _, rfl, ?_⟩ | fail); conv => whnf) | (refine zso rfl (fun hb => ?_) (fun hb => ?_)) | ((refine andA ?_); conv => whnf) | fail
      rfl
     ·rw [if_neg hf]
      rw [decide_eq_false hf] at hq
      refine hdC Tryz.func63 Tryz.ntmps63 (res := [.tmp 4]) fun w0 K0 => ?_
      repeat' first | refine zd ?_ | ((first | refine zf ?_ | refine zi ?_ | with_reducible refine regA ?_ | refine drA (id := 7) 15 false [0, 1, 3, 7, 15, 31, 63, 127, 255, 511, 1023, 511, 2559, 6655, 14847, 32767, 65535, 131071, 262143, 524287, 1048575, 2097151, 4194303, 8388607, 16777215, 33554431, 67108863, 134217727, 268435455] ?_ | fail); conv => whnf) | exact abA hb | (refine za rfl (zM hcf) (fun _ => ?_)) | (refine za rfl (fun _ => ?_) (zaf ((congrArg not hq).trans rfl))) | ((first | refine zsn ((ri _ _ _)) ?_ | refine zsp ((ri _ _ _)) ?_ | refine zsr ((ri _ _ _)) ?_ | refine zsr (t) ?_ | refine pkA ?_ | refine ⟨_, hw, ?_⟩ | refine ⟨Int.tmod _ _, rfl, ?_⟩ | fail); conv => whnf) | (refine zso rfl (fun hb => ?_) (fun hb => ?_)) | ((refine andA ?_); conv => whnf) | fail
      rfl
    ·have hf : ¬ fine f.vars.length n := fun h => hp ⟨(e.1 h).1, (e.1 h).2.1⟩
     rw [if_neg hf]
     have h1 : (bif n.var == 0 then decide (1 ≤ n.places ∧ n.places ≤ 6) else false) = false := by
      by_cases hv : n.var = 0
      ·rw [hv, decide_eq_false (fun h => hp ⟨hv, h⟩)]; rfl
      ·rw [beq_eq_false_iff_ne.2 hv]; rfl
     refine hdC Tryz.func63 Tryz.ntmps63 (res := [.tmp 4]) fun w0 K0 => ?_
     repeat' first | refine zd ?_ | ((first | refine zf ?_ | refine zi ?_ | with_reducible refine regA ?_ | refine drA (id := 7) 15 false [0, 1, 3, 7, 15, 31, 63, 127, 255, 511, 1023, 511, 2559, 6655, 14847, 32767, 65535, 131071, 262143, 524287, 1048575, 2097151, 4194303, 8388607, 16777215, 33554431, 67108863, 134217727, 268435455] ?_ | fail); conv => whnf) | exact abA hb | (refine za rfl (zM hcf) (fun _ => ?_)) | ((first | refine zsn ((ri _ _ _)) ?_ | refine zsp ((ri _ _ _)) ?_ | refine zsr ((ri _ _ _)) ?_ | refine pkA ?_ | refine ⟨iv .i64 0, zax (fun h => absurd (h1.symm.trans h) (by decide)), ?_⟩ | refine ⟨Int.tmod _ _, rfl, ?_⟩ | fail); conv => whnf) | (refine za rfl (fun _ => ?_) (zaf (by rw [h1]; rfl))) | (refine zso rfl (fun hb => ?_) (fun hb => ?_)) | ((first | refine zsq ?_ | refine andA ?_ | fail); conv => whnf) | fail
     rfl
   ·have hq : (bif (bif n.var == 0 then n.num == 0 else false) then n.places == 0 else false) = decide (fine f.vars.length n) := by
     refine (b3 (n.var = 0) (n.num = 0) (n.places = 0)).trans ?_
     unfold fine
     simp only [if_neg k1, if_neg k2]
    by_cases hf : fine f.vars.length n
    ·rw [if_pos hf]
     rw [decide_eq_true hf] at hq
     refine hdC Tryz.func63 Tryz.ntmps63 (res := [.tmp 4]) fun w0 K0 => ?_
     repeat' first | refine zd ?_ | ((first | refine zf ?_ | refine zi ?_ | with_reducible refine regA ?_ | refine drA (id := 7) 15 false [0, 1, 3, 7, 15, 31, 63, 127, 255, 511, 1023, 511, 2559, 6655, 14847, 32767, 65535, 131071, 262143, 524287, 1048575, 2097151, 4194303, 8388607, 16777215, 33554431, 67108863, 134217727, 268435455] ?_ | fail); conv => whnf) | exact abA hb | (refine za rfl (zM hcf) (fun _ => ?_)) | (refine za rfl (zM ((congrArg not hq).trans rfl)) (fun _ => ?_)) | ((first | refine zsn ((ri _ _ _)) ?_ | refine pkA ?_ | fail); conv => whnf) | (refine zso rfl (fun hb => ?_) (fun hb => ?_)) | fail
     rfl
    ·rw [if_neg hf]
     rw [decide_eq_false hf] at hq
     refine hdC Tryz.func63 Tryz.ntmps63 (res := [.tmp 4]) fun w0 K0 => ?_
     repeat' first | refine zd ?_ | ((first | refine zf ?_ | refine zi ?_ | with_reducible refine regA ?_ | refine drA (id := 7) 15 false [0, 1, 3, 7, 15, 31, 63, 127, 255, 511, 1023, 511, 2559, 6655, 14847, 32767, 65535, 131071, 262143, 524287, 1048575, 2097151, 4194303, 8388607, 16777215, 33554431, 67108863, 134217727, 268435455] ?_ | fail); conv => whnf) | exact abA hb | (refine za rfl (zM hcf) (fun _ => ?_)) | (refine za rfl (fun _ => ?_) (zaf ((congrArg not hq).trans rfl))) | ((first | refine zsn ((ri _ _ _)) ?_ | refine pkA ?_ | fail); conv => whnf) | (refine zso rfl (fun hb => ?_) (fun hb => ?_)) | fail
     rfl
 ·have hct : (!decide (1 ≤ n.kind ∧ n.kind ≤ 5)) = true := by rw [decide_eq_false hk]; rfl
  have hn : zbA f.vars.length n = 2 := by unfold zbA; rw [if_neg hk]
  rw [hn]
  refine hdC Tryz.func63 Tryz.ntmps63 (res := [.tmp 4]) fun w0 K0 => ?_
  repeat' first | refine zd ?_ | ((first | refine zi ?_ | with_reducible refine regA ?_ | fail); conv => whnf) | (refine za rfl (fun _ => ?_) (zaf hct)) | ((first | refine zsn ((ri _ _ _)) ?_ | refine pkA ?_ | fail); conv => whnf) | fail
  rfl
end Go.Proofs.YtmceekhgnfpamaaGreatDoor
namespace Go.Proofs.YtmceekhgnfpamaaGreatDoor
open Go Go.QL FoT
set_option maxHeartbeats 3200000
attribute [local irreducible] ACall FnC fine ten zbx zav zaw
theorem zpE (n lo hi : Int) : FnC Tryz.prog 123 [iv .i64 n, iv .i64 lo, iv .i64 hi] (bv (decide (lo ≤ n ∧ n ≤ hi))) := by
 rw [← zjG]
 refine hdC Tryz.func123 Tryz.ntmps123 (res := [.tmp 6]) fun w0 K0 => ?_
 repeat' first | refine zd ?_ | ((first | refine zi ?_ | with_reducible refine regA ?_ | refine pkA ?_ | fail); conv => whnf) | fail
 rfl
abbrev rLet (c : UInt8) : Bool := bif decide ((c.toNat : Int) ≥ 97) then decide ((c.toNat : Int) ≤ 122) else false
abbrev rOth (c : UInt8) : Bool := bif (bif decide ((c.toNat : Int) ≥ 48) then decide ((c.toNat : Int) ≤ 57) else false) then true else ((c.toNat : Int) == 95)
theorem znw (i : Nat) (c : UInt8) : (bif (!rLet c) then (bif ((i : Int) == 0) then true else !rOth c) else false) = !zg2 (decide (i = 0)) c := by
 rw [zg1]
 show _ = !(rLet c || zkW i c)
 cases rLet c with
 | true => rfl
 | false =>
  rw [Bool.false_or, Bool.not_false, cond_true]
  unfold zkW rOth
  by_cases hi : i = 0
  ·subst hi; rfl
  ·rw [beq_eq_false_iff_ne.2 (by omega), decide_eq_true (show (i : Int) > 0 by omega), cond_false, cond_true]
   cases decide ((c.toNat : Int) ≥ 48) <;> cases decide ((c.toNat : Int) ≤ 57) <;> cases ((c.toNat : Int) == 95) <;> rfl
theorem znv (l : Bs8) : FnC Tryz.prog 62 [sv (bs l)] (bv (zbb l)) := by
 have hsz := zbj l
 have hli := zco l
 have o := zpE (bs l).size 1 20
 by_cases h1 : 1 ≤ l.length ∧ l.length ≤ 20
 ·have ho : decide ((1 : Int) ≤ (bs l).size ∧ ((bs l).size : Int) ≤ 20) = true := decide_eq_true (by omega)
  rw [ho] at o
  have hg : (bs l).data.toList[((bs l).size - 1 : Int).toNat]? = some (l.getLastD 0) := by
   rw [hli, show ((bs l).size - 1 : Int).toNat = l.length - 1 by omega]
   exact zkd h1.1
  cases h2 : zpT l with
  | true =>
   have hr : zbb l = false := by
    unfold zbb
    rw [← zeo, h2]; simp
   rw [hr]
   refine hdC Tryz.func62 Tryz.ntmps62 (res := [.tmp 2]) fun w0 K0 => ?_
   repeat' first | refine zd ?_ | ((first | refine zi ?_ | with_reducible refine regA ?_ | refine zsn (o) ?_ | refine ⟨_, ze ⟨by omega, hg⟩, ?_⟩ | fail); conv => whnf) | (refine za rfl (fun _ => ?_) (zaf h2)) | ((first | refine zsq ?_ | refine andA ?_ | fail); conv => whnf) | fail
   rfl
  | false =>
   have hr : zbb l = z7 true l := by
    unfold zbb
    rw [← zeo, h2, decide_eq_true h1.1, decide_eq_true h1.2]; rfl
   rw [hr]
   refine hdC Tryz.func62 Tryz.ntmps62 (res := [.tmp 2]) fun w0 K0 => ?_
   repeat' first | refine zd ?_ | refine zc ?_ | ((first | refine zf ?_ | with_reducible refine regA ?_ | refine zsn (o) ?_ | refine ⟨_, ze ⟨by omega, hg⟩, ?_⟩ | fail); conv => whnf) | (refine za rfl (zM h2) (fun _ => ?_)) | ((first | refine zsq ?_ | refine andA ?_ | fail); conv => whnf) | fail
   refine zJ (fun i : Nat => [(3, iv .i64 i), (0, sv (bs l))]) (fun _ => [])
    (fun i => i ≤ l.length ∧ z7 true l = z7 (decide (i = 0)) (l.drop i)) (fun i => l.length - i) 0 ⟨Nat.zero_le _, rfl⟩ impA ?_
   rintro i ⟨hi, hn⟩
   rcases Nat.lt_or_ge i l.length with hil | hil
   ·rw [List.drop_eq_getElem_cons hil, z7] at hn
    have hgi : (bs l).data.toList[(i : Int).toNat]? = some l[i] := by rw [hli, Int.toNat_natCast, List.getElem?_eq_getElem hil]
    have hq := znw i l[i]
    cases ha : zg2 (decide (i = 0)) l[i] with
    | true =>
     rw [ha] at hn hq
     have hn : z7 true l = z7 (decide (i + 1 = 0)) (l.drop (i + 1)) := hn
     repeat' first | refine zd ?_ | refine zc ?_ | ((first | refine zf ?_ | refine zk ?_ | refine zi ?_ | with_reducible refine regA ?_ | refine drA (id := 6) 27 false [0, 0, 3, 7, 15, 31, 31, 127, 255, 511, 0, 0, 3072, 7168, 15391, 31775, 31775, 130079, 261151, 523295, 1047583, 2096159, 2096159, 8387615, 16776223, 33553439, 2097151, 134217727] ?_ | fail); conv => whnf) | exact abA hb | (refine za rfl (zM hq) (fun _ => ?_)) | ((first | refine pkA ?_ | refine ⟨_, ze ⟨by omega, hgi⟩, ?_⟩ | fail); conv => whnf) | (refine zso rfl (fun hb => ?_) (fun hb => ?_)) | ((first | refine zsq ?_ | refine andA ?_ | fail); conv => whnf) | fail
     exact ⟨i + 1, ⟨by omega, hn⟩, by omega, impA⟩
    | false =>
     rw [ha] at hn hq
     have hn : z7 true l = false := hn
     rw [hn]
     repeat' first | refine zd ?_ | refine zc ?_ | ((first | refine zf ?_ | refine zk ?_ | refine zi ?_ | with_reducible refine regA ?_ | refine drA (id := 6) 27 false [0, 0, 3, 7, 15, 31, 31, 127, 255, 511, 0, 0, 3072, 7168, 15391, 31775, 31775, 130079, 261151, 523295, 1047583, 2096159, 2096159, 8387615, 16776223, 33553439, 2097151, 134217727] ?_ | fail); conv => whnf) | exact abA hb | (refine za rfl (fun _ => ?_) (zaf hq)) | ((first | refine pkA ?_ | refine ⟨_, ze ⟨by omega, hgi⟩, ?_⟩ | fail); conv => whnf) | (refine zso rfl (fun hb => ?_) (fun hb => ?_)) | ((refine andA ?_); conv => whnf) | fail
     rfl
   ·rw [List.drop_eq_nil_of_le hil] at hn
    have hn : z7 true l = true := hn
    rw [hn]
    repeat' first | refine zd ?_ | refine zc ?_ | ((first | refine zf ?_ | refine zk ?_ | refine zi ?_ | with_reducible refine regA ?_ | refine drA (id := 6) 27 false [0, 0, 3, 7, 15, 31, 31, 127, 255, 511, 0, 0, 3072, 7168, 15391, 31775, 31775, 130079, 261151, 523295, 1047583, 2096159, 2096159, 8387615, 16776223, 33553439, 2097151, 134217727] ?_ | fail); conv => whnf) | exact abA hb | (refine zso rfl (fun hb => ?_) (fun hb => ?_)) | fail
    rfl
 ·have ho : decide ((1 : Int) ≤ (bs l).size ∧ ((bs l).size : Int) ≤ 20) = false := decide_eq_false (by omega)
  rw [ho] at o
  have hr : zbb l = false := by
   unfold zbb
   have : (decide (1 ≤ l.length) && decide (l.length ≤ 20)) = false := by
    rw [Bool.eq_false_iff]; simp; omega
   rw [this]; rfl
  rw [hr]
  refine hdC Tryz.func62 Tryz.ntmps62 (res := [.tmp 2]) fun w0 K0 => ?_
  repeat' first | refine zd ?_ | ((first | refine zi ?_ | with_reducible refine regA ?_ | refine zsn (o) ?_ | refine ⟨95, zax (fun h => absurd h (by decide)), ?_⟩ | fail); conv => whnf) | (refine zst rfl ?_) | ((first | refine ⟨IntKind.wrap _ _, rfl, ?_⟩ | refine andA ?_ | fail); conv => whnf) | fail
  rfl
theorem zrp {f : FormT} {s : CS} (hv : zaw [] f.vars = none) (h0 : ¬ (8 < f.vars.length ∨ ¬ (1 ≤ f.code.length ∧ f.code.length ≤ 40))) (h : CkR f f.code.length s) : zD f = if s.p ≠ 1 then 6 else if s.b = false ∨ s.u < f.vars.length then 2 else 0 := by
 unfold CkR at h
 unfold zD
 rw [if_neg h0, hv]
 dsimp only
 rw [h, List.drop_length, zav]
theorem str_eq {a b : Bs8} : ((bs a).toList == (bs b).toList) = decide (a = b) := zdf a b
theorem zjW {V : List Bs8} {i : Nat} (h : i < V.length) : (V.map zaa)[(i : Int).toNat]? = some [PV.v (.string (bs V[i]))] := by
 rw [Int.toNat_natCast, List.getElem?_map, List.getElem?_eq_getElem h]; rfl
theorem zh7 (f : FormT) : FnC Tryz.prog 21 [zaB f] (iv .i64 (zD f)) := by
 have hlv : (f.vars.map zaa).length = f.vars.length := List.length_map _
 have hlc : (f.code.map ndPV).length = f.code.length := List.length_map _
 have o1 := zho ((f.code.map ndPV).length : Int) 1 40
 by_cases h0 : 8 < f.vars.length ∨ ¬ (1 ≤ f.code.length ∧ f.code.length ≤ 40)
 ·have hr : zD f = 3 := by unfold zD; rw [if_pos h0]
  rw [hr]
  have hc : (bif decide (((f.vars.map zaa).length : Int) > 8) then true else !decide ((1 : Int) ≤ ((f.code.map ndPV).length : Int) ∧ ((f.code.map ndPV).length : Int) ≤ 40)) = true := by
   rcases h0 with h | h
   ·rw [decide_eq_true (show ((f.vars.map zaa).length : Int) > 8 by omega)]; rfl
   ·rw [decide_eq_false (show ¬ ((1 : Int) ≤ ((f.code.map ndPV).length : Int) ∧ ((f.code.map ndPV).length : Int) ≤ 40) by omega)]; cases decide (((f.vars.map zaa).length : Int) > 8) <;> rfl
  refine hdC Tryz.func21 Tryz.ntmps21 (res := [.tmp 2]) fun w0 K0 => ?_
  repeat' first | refine zd ?_ | ((first | refine zi ?_ | with_reducible refine regA ?_ | refine zsp (o1) ?_ | fail); conv => whnf) | (refine za rfl (fun _ => ?_) (zaf hc)) | ((refine andA ?_); conv => whnf) | (refine lnA fun hln => ?_; conv => whnf) | fail
  rfl
 ·have hc : (bif decide (((f.vars.map zaa).length : Int) > 8) then true else !decide ((1 : Int) ≤ ((f.code.map ndPV).length : Int) ∧ ((f.code.map ndPV).length : Int) ≤ 40)) = false := by
   rw [decide_eq_false (show ¬ ((f.vars.map zaa).length : Int) > 8 by omega), decide_eq_true (show ((1 : Int) ≤ ((f.code.map ndPV).length : Int) ∧ ((f.code.map ndPV).length : Int) ≤ 40) by omega)]; rfl
  have hv8 : f.vars.length ≤ 8 := by omega
  have hc40 : f.code.length ≤ 40 := by omega
  refine hdC Tryz.func21 Tryz.ntmps21 (res := [.tmp 2]) fun w0 K0 => ?_
  repeat' first | refine zd ?_ | refine zc ?_ | ((first | refine zf ?_ | with_reducible refine regA ?_ | refine zsp (o1) ?_ | fail); conv => whnf) | (refine za rfl (zM hc) (fun _ => ?_)) | ((refine andA ?_); conv => whnf) | (refine lnA fun hln => ?_; conv => whnf) | fail
  refine zJ (fun i : Nat => [(3, iv .i64 i), (1, .x (.b 1 0))]) (fun _ => [(1, .box (zb5 f))])
   (fun i => i ≤ f.vars.length ∧ zaw [] f.vars = zaw (f.vars.take i) (f.vars.drop i)) (fun i => f.vars.length - i) 0 ⟨Nat.zero_le _, by simp⟩ impA ?_
  rintro i ⟨hi, hz⟩
  rcases Nat.lt_or_ge i f.vars.length with hil | hil
  ·have nf := znv f.vars[i]
   rw [List.drop_eq_getElem_cons hil] at hz
   have gi := zjW hil
   cases hN : zbb f.vars[i] with
   | false =>
    have hr : zD f = 6 := by
     unfold zD
     rw [if_neg h0, hz, zaw, if_pos hN]
    rw [hr]
    rw [hN] at nf
    repeat' first | refine zd ?_ | refine zc ?_ | ((first | refine zf ?_ | refine zk ?_ | refine zi ?_ | with_reducible refine regA ?_ | fail); conv => whnf) | exact abA hb | ((first | refine zsn (nf) ?_ | refine ⟨_, ze ⟨by omega, gi⟩, ?_⟩ | fail); conv => whnf) | (refine zst rfl ?_) | (refine zso rfl (fun hb => ?_) (fun hb => ?_)) | ((refine andA ?_); conv => whnf) | (refine lnA fun hln => ?_; conv => whnf) | fail
    rfl
   | true =>
    rw [hN] at nf
    repeat' first | refine zd ?_ | refine zc ?_ | ((first | refine zf ?_ | refine zk ?_ | with_reducible refine regA ?_ | fail); conv => whnf) | exact abA hb | ((first | refine zsn (nf) ?_ | refine ⟨_, ze ⟨by omega, gi⟩, ?_⟩ | fail); conv => whnf) | (refine zss rfl ?_) | (refine zso rfl (fun hb => ?_) (fun hb => ?_)) | ((refine andA ?_); conv => whnf) | (refine lnA fun hln => ?_; conv => whnf) | fail
    refine zJ (fun k : Nat => [(4, iv .i64 k), (3, iv .i64 i), (1, .x (.b 1 0))]) (fun _ => [(1, .box (zb5 f))])
     (fun k => k ≤ i ∧ f.vars[i] ∉ f.vars.take k) (fun k => i - k) 0 ⟨Nat.zero_le _, by simp⟩ impA ?_
    rintro k ⟨hk, hm⟩
    rcases Nat.lt_or_ge k i with hki | hki
    ·have gk := zjW (show k < f.vars.length by omega)
     by_cases he : f.vars[k] = f.vars[i]
     ·have hr : zD f = 5 := by
       unfold zD
       rw [if_neg h0, hz, zaw, if_neg (by rw [hN]; decide), if_pos]
       rw [← he]
       refine List.mem_iff_getElem.2 ⟨k, by rw [List.length_take]; omega, ?_⟩
       rw [List.getElem_take]
      rw [hr]
      have hq : ((bs f.vars[k]).toList == (bs f.vars[i]).toList) = true := by rw [zdf]; exact decide_eq_true he
      repeat' first | refine zd ?_ | refine zc ?_ | ((first | refine zf ?_ | refine zk ?_ | refine zi ?_ | with_reducible refine regA ?_ | refine drA (id := 11) 10 false [0, 1, 0, 7, 15, 0, 32, 0, 224, 480, 1023] ?_ | fail); conv => whnf) | exact abA hb | (refine za rfl (fun _ => ?_) (zaf hq)) | ((first | refine ⟨_, ze ⟨by omega, gi⟩, ?_⟩ | refine ⟨_, ze ⟨by omega, gk⟩, ?_⟩ | fail); conv => whnf) | (refine zso rfl (fun hb => ?_) (fun hb => ?_)) | ((refine andA ?_); conv => whnf) | fail
      rfl
     ·have hq : ((bs f.vars[k]).toList == (bs f.vars[i]).toList) = false := by rw [zdf]; exact decide_eq_false he
      have hm2 : f.vars[i] ∉ f.vars.take (k + 1) := by
       rw [List.take_add_one, List.getElem?_eq_getElem (show k < f.vars.length by omega), List.mem_append, not_or]
       exact ⟨hm, by simp; exact fun h => he h.symm⟩
      repeat' first | refine zd ?_ | refine zc ?_ | ((first | refine zf ?_ | refine zk ?_ | with_reducible refine regA ?_ | refine drA (id := 11) 10 false [0, 1, 0, 7, 15, 0, 32, 0, 224, 480, 1023] ?_ | fail); conv => whnf) | exact abA hb | (refine za rfl (zM hq) (fun _ => ?_)) | ((first | refine ⟨_, ze ⟨by omega, gi⟩, ?_⟩ | refine ⟨_, ze ⟨by omega, gk⟩, ?_⟩ | fail); conv => whnf) | (refine zso rfl (fun hb => ?_) (fun hb => ?_)) | ((first | refine zsq ?_ | refine andA ?_ | fail); conv => whnf) | fail
      exact ⟨k + 1, ⟨by omega, hm2⟩, by omega, impA⟩
    ·obtain rfl : k = i := by omega
     have hz2 : zaw [] f.vars = zaw (f.vars.take (k + 1)) (f.vars.drop (k + 1)) := by
      rw [hz, zaw, if_neg (by rw [hN]; decide), if_neg hm, List.take_add_one, List.getElem?_eq_getElem hil]; rfl
     repeat' first | refine zd ?_ | refine zc ?_ | ((first | refine zf ?_ | refine zk ?_ | with_reducible refine regA ?_ | refine drA (id := 11) 10 false [0, 1, 0, 7, 15, 0, 32, 0, 224, 480, 1023] ?_ | fail); conv => whnf) | exact abA hb | (refine zso rfl (fun hb => ?_) (fun hb => ?_)) | ((refine zsq ?_); conv => whnf) | fail
     exact ⟨k + 1, ⟨by omega, hz2⟩, by omega, impA⟩
  ·have hv : zaw [] f.vars = none := by rw [hz, List.drop_eq_nil_of_le hil, zaw]
   obtain rfl : i = f.vars.length := by omega
   clear hz o1 hc
   repeat' first | refine zd ?_ | refine zc ?_ | ((first | refine zf ?_ | refine zk ?_ | with_reducible refine regA ?_ | fail); conv => whnf) | exact abA hb | (refine zso rfl (fun hb => ?_) (fun hb => ?_)) | ((refine andA ?_); conv => whnf) | (refine lnA fun hln => ?_; conv => whnf) | fail
   refine zJ (fun x : Nat × CS => [(8, iv .i64 x.1), (5, iv .i64 x.2.p), (6, iv .i64 x.2.u), (7, bv x.2.b), (1, .x (.b 1 0))]) (fun _ => [(1, .box (zb5 f))])
    (fun x => x.1 ≤ f.code.length ∧ x.2.p ≤ 12 ∧ x.2.u ≤ f.vars.length ∧ CkR f x.1 x.2) (fun x => f.code.length - x.1) (0, ⟨0, 0, true⟩) ⟨Nat.zero_le _, Nat.zero_le _, Nat.zero_le _, rfl⟩ impA ?_
   rintro ⟨i, s⟩ ⟨hi, hp, hu, hz⟩
   dsimp only at hi hp hu hz ⊢
   rcases Nat.lt_or_ge i f.code.length with hil | hil
   ·have stop := fun {e : Int} => zmX (e := e) hv h0 hil hz
    have next := fun {s' : CS} => zmY (s' := s') hil hz
    have nf := znu f f.code[i]
    have op := zlv f.code[i]
    clear hz
    by_cases hk : 1 ≤ f.code[i].kind ∧ f.code[i].kind ≤ 5
    ·by_cases hf : fine f.vars.length f.code[i]
     ·have hn0 : zbA f.vars.length f.code[i] = 0 := by unfold zbA; rw [if_pos hk, if_pos hf]
      rw [hn0] at nf
      by_cases k3 : 3 ≤ f.code[i].kind
      ·have st := zqJ (s := s) k3 hk.2 hp hf
       rw [decide_eq_true (show 3 ≤ f.code[i].kind ∧ f.code[i].kind ≤ 5 from ⟨k3, hk.2⟩)] at op
       have c1 : (bif f.code[i].kind == 1 then decide (f.code[i].var > s.u) else false) = false := by rw [beq_eq_false_iff_ne.2 (by omega)]; rfl
       have c2 : (bif f.code[i].kind == 1 then f.code[i].var == s.u else false) = false := by rw [beq_eq_false_iff_ne.2 (by omega)]; rfl
       by_cases hp2 : s.p < 2
       ·rw [if_pos hp2] at st
        rw [stop st]
        repeat' first | refine zd ?_ | refine zc ?_ | ((first | refine zf ?_ | refine zk ?_ | refine zi ?_ | with_reducible refine regA ?_ | fail); conv => whnf) | exact abA hb | ((first | refine zsn (nf) ?_ | refine zsn (op) ?_ | fail); conv => whnf) | (refine zst rfl ?_) | (refine zss rfl ?_) | (refine zso rfl (fun hb => ?_) (fun hb => ?_)) | ((first | refine andA ?_ | with_reducible refine exA fun _ => ?_ | fail); conv => whnf) | (refine lnA fun hln => ?_; conv => whnf) | fail
        rfl
       ·rw [if_neg hp2] at st
        repeat' first | refine zd ?_ | refine zc ?_ | ((first | refine zf ?_ | refine zk ?_ | refine zi ?_ | with_reducible refine regA ?_ | fail); conv => whnf) | exact abA hb | (refine za rfl (zM c1) (fun _ => ?_)) | (refine za rfl (zM c2) (fun _ => ?_)) | ((first | refine zsn (nf) ?_ | refine zsn (op) ?_ | refine pkA ?_ | fail); conv => whnf) | (refine zst rfl ?_) | (refine zss rfl ?_) | (refine zso rfl (fun hb => ?_) (fun hb => ?_)) | ((first | refine zsq ?_ | refine andA ?_ | with_reducible refine exA fun _ => ?_ | fail); conv => whnf) | (refine lnA fun hln => ?_; conv => whnf) | fail
        exact ⟨(i + 1, (⟨s.p - 2 + 1, s.u, s.b⟩ : CS)), ⟨by show i + 1 ≤ f.code.length; omega, by show s.p - 2 + 1 ≤ 12; omega, hu, next st⟩, by show f.code.length - (i + 1) < f.code.length - i; omega, impA⟩
      ·rw [decide_eq_false (fun h => k3 h.1)] at op
       have st := zhi (s := s) hk hf
       rw [if_neg (fun h => k3 h.1), if_neg k3] at st
       by_cases h12 : 12 < s.p + 1
       ·rw [if_pos h12] at st
        rw [stop st]
        repeat' first | refine zd ?_ | refine zc ?_ | ((first | refine zf ?_ | refine zk ?_ | refine zi ?_ | with_reducible refine regA ?_ | fail); conv => whnf) | exact abA hb | ((first | refine zsn (nf) ?_ | refine zsn (op) ?_ | fail); conv => whnf) | (refine zss rfl ?_) | (refine zso rfl (fun hb => ?_) (fun hb => ?_)) | ((first | refine zsq ?_ | refine andA ?_ | with_reducible refine exA fun _ => ?_ | fail); conv => whnf) | (refine lnA fun hln => ?_; conv => whnf) | fail
        rfl
       ·rw [if_neg h12] at st
        by_cases k1 : f.code[i].kind = 1
        ·have hvar := hf
         unfold fine at hvar
         rw [if_pos k1] at hvar
         by_cases hg : (s.u : Int) < f.code[i].var
         ·rw [if_neg (by omega), decide_eq_true k1, decide_eq_true hg] at st
          have c1 : (bif f.code[i].kind == 1 then decide (f.code[i].var > s.u) else false) = true := by rw [beq_iff_eq.2 k1, decide_eq_true (show f.code[i].var > s.u from hg)]; rfl
          have c2 : (bif f.code[i].kind == 1 then f.code[i].var == s.u else false) = false := by rw [beq_eq_false_iff_ne.2 (show f.code[i].var ≠ s.u by omega)]; cases (f.code[i].kind == 1) <;> rfl
          have hbb : false = (s.b && !(true && true)) := by simp
          repeat' first | refine zd ?_ | refine zc ?_ | ((first | refine zf ?_ | refine zk ?_ | refine zi ?_ | with_reducible refine regA ?_ | fail); conv => whnf) | exact abA hb | (refine za rfl (fun _ => ?_) (zaf c1)) | (refine za rfl (zM c2) (fun _ => ?_)) | ((first | refine zsn (nf) ?_ | refine zsn (op) ?_ | refine pkA ?_ | fail); conv => whnf) | (refine zss rfl ?_) | (refine zso rfl (fun hb => ?_) (fun hb => ?_)) | ((first | refine zsq ?_ | refine andA ?_ | with_reducible refine exA fun _ => ?_ | fail); conv => whnf) | (refine lnA fun hln => ?_; conv => whnf) | fail
          exact ⟨(i + 1, (⟨s.p + 1, s.u, s.b && !(true && true)⟩ : CS)), ⟨by show i + 1 ≤ _; omega, by show s.p + 1 ≤ 12; omega, hu, next st⟩, by show f.code.length - (i + 1) < f.code.length - i; omega, (impX (by repeat' (first | exact trivial | refine And.intro ?_ ?_ | exact bvE hbb | exact zsw)))⟩
         ·rw [decide_eq_false hg] at st
          have c1 : (bif f.code[i].kind == 1 then decide (f.code[i].var > s.u) else false) = false := by rw [decide_eq_false (show ¬ f.code[i].var > s.u from hg)]; cases (f.code[i].kind == 1) <;> rfl
          have hbb : s.b = (s.b && !(decide (f.code[i].kind = 1) && false)) := by simp
          by_cases hue : f.code[i].var = s.u
          ·rw [if_pos ⟨k1, hue⟩] at st
           have c2 : (bif f.code[i].kind == 1 then f.code[i].var == s.u else false) = true := by rw [beq_iff_eq.2 k1, beq_iff_eq.2 hue]; rfl
           repeat' first | refine zd ?_ | refine zc ?_ | ((first | refine zf ?_ | refine zk ?_ | refine zi ?_ | with_reducible refine regA ?_ | fail); conv => whnf) | exact abA hb | (refine za rfl (zM c1) (fun _ => ?_)) | (refine za rfl (fun _ => ?_) (zaf c2)) | ((first | refine zsn (nf) ?_ | refine zsn (op) ?_ | refine pkA ?_ | fail); conv => whnf) | (refine zss rfl ?_) | (refine zso rfl (fun hb => ?_) (fun hb => ?_)) | ((first | refine zsq ?_ | refine andA ?_ | with_reducible refine exA fun _ => ?_ | fail); conv => whnf) | (refine lnA fun hln => ?_; conv => whnf) | fail
           exact ⟨(i + 1, (⟨s.p + 1, s.u + 1, s.b && !(decide (f.code[i].kind = 1) && false)⟩ : CS)), ⟨by show i + 1 ≤ _; omega, by show s.p + 1 ≤ 12; omega, by show s.u + 1 ≤ f.vars.length; omega, next st⟩, by show f.code.length - (i + 1) < f.code.length - i; omega, (impX (by repeat' (first | exact trivial | refine And.intro ?_ ?_ | exact bvE hbb | exact zsw)))⟩
          ·rw [if_neg (fun h => hue h.2)] at st
           have c2 : (bif f.code[i].kind == 1 then f.code[i].var == s.u else false) = false := by rw [beq_eq_false_iff_ne.2 hue]; cases (f.code[i].kind == 1) <;> rfl
           repeat' first | refine zd ?_ | refine zc ?_ | ((first | refine zf ?_ | refine zk ?_ | refine zi ?_ | with_reducible refine regA ?_ | fail); conv => whnf) | exact abA hb | (refine za rfl (zM c1) (fun _ => ?_)) | (refine za rfl (zM c2) (fun _ => ?_)) | ((first | refine zsn (nf) ?_ | refine zsn (op) ?_ | refine pkA ?_ | fail); conv => whnf) | (refine zss rfl ?_) | (refine zso rfl (fun hb => ?_) (fun hb => ?_)) | ((first | refine zsq ?_ | refine andA ?_ | with_reducible refine exA fun _ => ?_ | fail); conv => whnf) | (refine lnA fun hln => ?_; conv => whnf) | fail
           exact ⟨(i + 1, (⟨s.p + 1, s.u, s.b && !(decide (f.code[i].kind = 1) && false)⟩ : CS)), ⟨by show i + 1 ≤ _; omega, by show s.p + 1 ≤ 12; omega, hu, next st⟩, by show f.code.length - (i + 1) < f.code.length - i; omega, (impX (by repeat' (first | exact trivial | refine And.intro ?_ ?_ | exact bvE hbb | exact zsw)))⟩
        ·rw [if_neg (fun h => k1 h.1), decide_eq_false k1] at st
         have c1 : (bif f.code[i].kind == 1 then decide (f.code[i].var > s.u) else false) = false := by rw [beq_eq_false_iff_ne.2 k1]; rfl
         have c2 : (bif f.code[i].kind == 1 then f.code[i].var == s.u else false) = false := by rw [beq_eq_false_iff_ne.2 k1]; rfl
         have hbb : s.b = (s.b && !(false && decide ((s.u : Int) < f.code[i].var))) := by simp
         repeat' first | refine zd ?_ | refine zc ?_ | ((first | refine zf ?_ | refine zk ?_ | refine zi ?_ | with_reducible refine regA ?_ | fail); conv => whnf) | exact abA hb | (refine za rfl (zM c1) (fun _ => ?_)) | (refine za rfl (zM c2) (fun _ => ?_)) | ((first | refine zsn (nf) ?_ | refine zsn (op) ?_ | refine pkA ?_ | fail); conv => whnf) | (refine zss rfl ?_) | (refine zso rfl (fun hb => ?_) (fun hb => ?_)) | ((first | refine zsq ?_ | refine andA ?_ | with_reducible refine exA fun _ => ?_ | fail); conv => whnf) | (refine lnA fun hln => ?_; conv => whnf) | fail
         exact ⟨(i + 1, (⟨s.p + 1, s.u, s.b && !(false && decide ((s.u : Int) < f.code[i].var))⟩ : CS)), ⟨by show i + 1 ≤ _; omega, by show s.p + 1 ≤ 12; omega, hu, next st⟩, by show f.code.length - (i + 1) < f.code.length - i; omega, (impX (by repeat' (first | exact trivial | refine And.intro ?_ ?_ | exact bvE hbb | exact zsw)))⟩
     ·have hn0 : zbA f.vars.length f.code[i] = 7 := by unfold zbA; rw [if_pos hk, if_neg hf]
      rw [hn0] at nf
      rw [stop (zjY hk hf)]
      repeat' first | refine zd ?_ | refine zc ?_ | ((first | refine zf ?_ | refine zk ?_ | refine zi ?_ | with_reducible refine regA ?_ | fail); conv => whnf) | exact abA hb | ((refine zsn (nf) ?_); conv => whnf) | (refine zst rfl ?_) | (refine zso rfl (fun hb => ?_) (fun hb => ?_)) | ((first | refine andA ?_ | with_reducible refine exA fun _ => ?_ | fail); conv => whnf) | (refine lnA fun hln => ?_; conv => whnf) | fail
      rfl
    ·have hn0 : zbA f.vars.length f.code[i] = 2 := by unfold zbA; rw [if_neg hk]
     rw [hn0] at nf
     rw [stop (zjZ hk)]
     repeat' first | refine zd ?_ | refine zc ?_ | ((first | refine zf ?_ | refine zk ?_ | refine zi ?_ | with_reducible refine regA ?_ | fail); conv => whnf) | exact abA hb | ((refine zsn (nf) ?_); conv => whnf) | (refine zst rfl ?_) | (refine zso rfl (fun hb => ?_) (fun hb => ?_)) | ((first | refine andA ?_ | with_reducible refine exA fun _ => ?_ | fail); conv => whnf) | (refine lnA fun hln => ?_; conv => whnf) | fail
     rfl
   ·obtain rfl : i = f.code.length := by omega
    have hfin := zrp hv h0 hz
    clear hz
    rw [hfin]
    by_cases p1 : s.p = 1
    ·rw [if_neg (fun h => h p1)]
     have e : (bif !s.b then true else ((s.u : Int) != ((f.vars.map zaa).length : Int))) = decide (s.b = false ∨ s.u < f.vars.length) := by
      rw [hlv, Bool.eq_iff_iff, decide_eq_true_iff]
      cases s.b with
      | false => simp
      | true =>
       rw [Bool.not_true, cond_false, bne_iff_ne]
       constructor
       ·intro h; right; omega
       ·rintro (h | h)
        ·cases h
        ·omega
     by_cases hE : s.b = false ∨ s.u < f.vars.length
     ·rw [if_pos hE]
      rw [decide_eq_true hE] at e
      repeat' first | refine zd ?_ | refine zc ?_ | ((first | refine zf ?_ | refine zk ?_ | refine zi ?_ | with_reducible refine regA ?_ | fail); conv => whnf) | exact abA hb | (refine za rfl (fun _ => ?_) (zaf e)) | ((refine pkA ?_); conv => whnf) | (refine zso rfl (fun hb => ?_) (fun hb => ?_)) | (refine lnA fun hln => ?_; conv => whnf) | fail
      rfl
     ·rw [if_neg hE]
      rw [decide_eq_false hE] at e
      repeat' first | refine zd ?_ | refine zc ?_ | ((first | refine zf ?_ | refine zk ?_ | refine zi ?_ | with_reducible refine regA ?_ | fail); conv => whnf) | exact abA hb | (refine za rfl (zM e) (fun _ => ?_)) | ((refine pkA ?_); conv => whnf) | (refine zso rfl (fun hb => ?_) (fun hb => ?_)) | (refine lnA fun hln => ?_; conv => whnf) | fail
      rfl
    ·rw [if_pos p1]
     repeat' first | refine zd ?_ | refine zc ?_ | ((first | refine zf ?_ | refine zk ?_ | refine zi ?_ | with_reducible refine regA ?_ | fail); conv => whnf) | exact abA hb | ((refine pkA ?_); conv => whnf) | (refine zso rfl (fun hb => ?_) (fun hb => ?_)) | (refine lnA fun hln => ?_; conv => whnf) | fail
     rfl
theorem zeh {st : List (List PV)} {x : List PV} {n : Nat} (hn : n = st.length + 1) : n ≤ (st.take st.length ++ [x]).length := by
 rw [hn]; simp
theorem zdo {st : List (List PV)} {x : List PV} {n : Nat} (hn : n = st.length + 1) : (st.take st.length ++ [x]).take n = st ++ [x] := by
 rw [hn, List.take_length, List.take_of_length_le (by simp)]
end Go.Proofs.YtmceekhgnfpamaaGreatDoor
namespace Go.Proofs.YtmceekhgnfpamaaGreatDoor
open Go Go.QL FoT
set_option maxHeartbeats 3200000
attribute [local irreducible] ACall FnC
theorem zpD (n lo hi : Int) : FnC Tryz.prog 94 [iv .i64 n, iv .i64 lo, iv .i64 hi] (bv (decide (lo ≤ n ∧ n ≤ hi))) := by
 rw [← zjG]
 refine hdC Tryz.func94 Tryz.ntmps94 (res := [.tmp 6]) fun w0 K0 => ?_
 repeat' first | refine zd ?_ | ((first | refine zi ?_ | with_reducible refine regA ?_ | refine pkA ?_ | fail); conv => whnf) | fail
 rfl
theorem zlD (n : Int) : FnC Tryz.prog 38 [iv .i64 n] (bv (decide (zP n))) := by
 have h := zpD n 0 16777215
 rw [show decide (0 ≤ n ∧ n ≤ 16777215) = decide (zP n) from rfl] at h
 refine hdC Tryz.func38 Tryz.ntmps38 (res := [.tmp 2]) fun w0 K0 => ?_
 repeat' first | refine zd ?_ | ((first | refine zi ?_ | with_reducible refine regA ?_ | refine zsn (h) ?_ | fail); conv => whnf) | fail
 rfl
theorem zh8 (w : Int) (h : zP w) : FnC Tryz.prog 39 [iv .i64 w] (iv .i64 (sgnW w)) := by
 unfold zP at h
 unfold sgnW
 by_cases hs : 8388608 ≤ w
 ·rw [if_pos hs]
  refine hdC Tryz.func39 Tryz.ntmps39 (res := [.tmp 2]) fun w0 K0 => ?_
  repeat' first | refine zd ?_ | ((first | refine zf ?_ | refine zi ?_ | with_reducible refine regA ?_ | fail); conv => whnf) | exact abA hb | (refine zso rfl (fun hb => ?_) (fun hb => ?_)) | ((refine zsq ?_); conv => whnf) | fail
  rfl
 ·rw [if_neg hs]
  refine hdC Tryz.func39 Tryz.ntmps39 (res := [.tmp 2]) fun w0 K0 => ?_
  repeat' first | refine zd ?_ | ((first | refine zf ?_ | refine zi ?_ | with_reducible refine regA ?_ | fail); conv => whnf) | exact abA hb | (refine zso rfl (fun hb => ?_) (fun hb => ?_)) | fail
  rfl
theorem zjT {x : Int} (h : 0 ≤ x) : x.tmod 16777216 = x % 16777216 := Int.tmod_eq_emod_of_nonneg h
theorem zlq {w : Int} (h : zP w) : -8388608 ≤ sgnW w ∧ sgnW w ≤ 8388607 := by
 unfold zP at h; unfold sgnW; split <;> omega
theorem zc3 {x y : Int} (hx : -8388608 ≤ x ∧ x ≤ 8388607) (hy : -8388608 ≤ y ∧ y ≤ 8388607) : -70368744177664 ≤ x * y ∧ x * y ≤ 70368744177664 := by
 have h := zl4 hx.1 hx.2 hy.1 hy.2
 unfold min4 max4 at h
 omega
theorem zgG {n : Int} (h : n.natAbs ≤ 70368744177664) : (n.tmod 8388608 < 0 → n.tdiv 8388608 - 1 = n / 8388608) ∧ (¬ n.tmod 8388608 < 0 → n.tdiv 8388608 = n / 8388608) := by
 have e1 := Int.mul_tdiv_add_tmod n 8388608
 have e2 := Int.tmod_lt_of_pos n (show (0 : Int) < 8388608 by decide)
 have e3 := Int.lt_tmod_of_pos n (show (0 : Int) < 8388608 by decide)
 generalize n.tmod 8388608 = r at *
 generalize n.tdiv 8388608 = q at *
 constructor <;> intro hr <;> omega
theorem zns (a b : Int) (ha : zP a) (hb' : zP b) : FnC Tryz.prog 158 [iv .i64 a, iv .i64 b] (iv .i64 (opV 5 (sgnW a) (sgnW b) % 16777216)) := by
 have sa := zh8 a ha
 have sb := zh8 b hb'
 have hm := zc3 (zlq ha) (zlq hb')
 rw [show opV 5 (sgnW a) (sgnW b) = sgnW a * sgnW b / 8388608 from rfl]
 obtain ⟨n, hn⟩ : ∃ n, sgnW a * sgnW b = n := ⟨_, rfl⟩
 rw [hn] at hm ⊢
 have hw : IntKind.i64.wrap (sgnW a * sgnW b) = n := by rw [hn, zg (by omega)]
 obtain ⟨t1, t2⟩ := zgG (show n.natAbs ≤ 70368744177664 by omega)
 have hq0 : IntKind.i64.wrap (n.tdiv 8388608) = n.tdiv 8388608 := by
  rw [zg]
  have e1 := Int.mul_tdiv_add_tmod n 8388608
  have e2 := Int.tmod_lt_of_pos n (show (0 : Int) < 8388608 by decide)
  have e3 := Int.lt_tmod_of_pos n (show (0 : Int) < 8388608 by decide)
  omega
 by_cases hr : n.tmod 8388608 < 0
 ·have e := t1 hr
  have hq1 : IntKind.i64.wrap (n.tdiv 8388608 - 1) = n / 8388608 := by rw [e, zg (by omega)]
  have hf : (n / 8388608 + 16777216).tmod 16777216 = n / 8388608 % 16777216 := by rw [zjT (by omega)]; omega
  refine hdC Tryz.func158 Tryz.ntmps158 (res := [.tmp 4]) fun w0 K0 => ?_
  repeat' first | refine zd ?_ | ((first | refine zf ?_ | refine zi ?_ | with_reducible refine regA ?_ | fail); conv => whnf) | exact abA hb | ((first | refine zsn (sa) ?_ | refine zsn (sb) ?_ | refine ⟨_, hw, ?_⟩ | refine ⟨_, hq0, ?_⟩ | refine ⟨_, hq1, ?_⟩ | refine ⟨_, hf, ?_⟩ | refine ⟨Int.tmod _ _, rfl, ?_⟩ | fail); conv => whnf) | (refine zso rfl (fun hb => ?_) (fun hb => ?_)) | ((first | refine zsq ?_ | refine andA ?_ | fail); conv => whnf) | fail
  rfl
 ·have e := t2 hr
  rw [e] at hq0
  have hf : (n / 8388608 + 16777216).tmod 16777216 = n / 8388608 % 16777216 := by rw [zjT (by omega)]; omega
  rw [← e] at hq0 hf ⊢
  refine hdC Tryz.func158 Tryz.ntmps158 (res := [.tmp 4]) fun w0 K0 => ?_
  repeat' first | refine zd ?_ | ((first | refine zf ?_ | refine zi ?_ | with_reducible refine regA ?_ | fail); conv => whnf) | exact abA hb | ((first | refine zsn (sa) ?_ | refine zsn (sb) ?_ | refine ⟨_, hw, ?_⟩ | refine ⟨_, hq0, ?_⟩ | refine ⟨_, hf, ?_⟩ | refine ⟨Int.tmod _ _, rfl, ?_⟩ | fail); conv => whnf) | (refine zso rfl (fun hb => ?_) (fun hb => ?_)) | ((first | refine zsq ?_ | refine andA ?_ | fail); conv => whnf) | fail
  rfl
theorem znD (k a b : Int) (hk : k = 3 ∨ k = 4 ∨ k = 5) (ha : zP a) (hb' : zP b) : FnC Tryz.prog 132 [iv .i64 k, iv .i64 a, iv .i64 b] (iv .i64 (opV k (sgnW a) (sgnW b) % 16777216)) := by
 have pr := zns a b ha hb'
 unfold zP at ha hb'
 rcases hk with rfl | rfl | rfl
 ·have e : (a + b).tmod 16777216 = opV 3 (sgnW a) (sgnW b) % 16777216 := by
   rw [zjT (by omega)]
   show _ = (sgnW a + sgnW b) % 16777216
   unfold sgnW
   split <;> split <;> omega
  refine hdC Tryz.func132 Tryz.ntmps132 (res := [.tmp 6]) fun w0 K0 => ?_
  repeat' first | refine zd ?_ | ((first | refine zi ?_ | with_reducible refine regA ?_ | refine ⟨_, e, ?_⟩ | fail); conv => whnf) | (refine zst rfl ?_) | ((first | refine zsq ?_ | refine andA ?_ | fail); conv => whnf) | fail
  rfl
 ·have e : (a - b + 16777216).tmod 16777216 = opV 4 (sgnW a) (sgnW b) % 16777216 := by
   rw [zjT (by omega)]
   show _ = (sgnW a - sgnW b) % 16777216
   unfold sgnW
   split <;> split <;> omega
  refine hdC Tryz.func132 Tryz.ntmps132 (res := [.tmp 6]) fun w0 K0 => ?_
  repeat' first | refine zd ?_ | ((first | refine zf ?_ | refine zi ?_ | with_reducible refine regA ?_ | refine ⟨_, e, ?_⟩ | fail); conv => whnf) | (refine zst rfl ?_) | (refine zss rfl ?_) | ((first | refine zsq ?_ | refine andA ?_ | fail); conv => whnf) | fail
  rfl
 ·refine hdC Tryz.func132 Tryz.ntmps132 (res := [.tmp 6]) fun w0 K0 => ?_
  repeat' first | refine zd ?_ | ((first | refine zf ?_ | refine zi ?_ | with_reducible refine regA ?_ | refine zsn (pr) ?_ | fail); conv => whnf) | (refine zss rfl ?_) | fail
  rfl
theorem zi6 {x t : Int} (h : 0 ≤ x) (ht : t = 10 ∨ t = 100 ∨ t = 1000 ∨ t = 10000 ∨ t = 100000 ∨ t = 1000000) : (2 * x + t) / (2 * t) = (x + t / 2) / t := by
 rcases ht with rfl | rfl | rfl | rfl | rfl | rfl <;> omega
theorem zhT {n : FNode} (h : 1 ≤ n.places ∧ n.places ≤ 6) : ten n = 10 ∨ ten n = 100 ∨ ten n = 1000 ∨ ten n = 10000 ∨ ten n = 100000 ∨ ten n = 1000000 := by
 unfold ten
 have : n.places = 1 ∨ n.places = 2 ∨ n.places = 3 ∨ n.places = 4 ∨ n.places = 5 ∨ n.places = 6 := by omega
 rcases this with e | e | e | e | e | e <;> rw [e] <;> decide
theorem zhZ (n : FNode) {nv : Nat} (hk : n.kind = 2) (hf : fine nv n) : FnC Tryz.prog 82 [ndAV n] (.t [iv .i64 (zbo n), bv (decide (zdz n = 0))]) := by
 obtain ⟨f1, f2, f3, f4⟩ := (zgA hk).1 hf
 have t := zls f2
 have tb := (zdk f2).2
 have e1 : zbo n = (2 * (n.num * 8388608) + ten n).tdiv (2 * ten n) := by
  rw [Int.tdiv_eq_ediv_of_nonneg (by omega), zi6 (by omega) (zhT f2)]; rfl
 have hb0 : zbo n = (n.num * 8388608 + ten n / 2) / ten n := rfl
 have hwb : 0 ≤ zbo n ∧ zbo n ≤ 8388608 := by
  rw [hb0]
  rcases zhT f2 with h | h | h | h | h | h <;> rw [h] at f3 ⊢ <;> omega
 have hw : IntKind.i64.wrap ((2 * (n.num * 8388608) + ten n).tdiv (2 * ten n)) = zbo n := by rw [← e1, zg (by omega)]
 have e2 : ((n.num * 8388608).tmod (ten n) == 0) = decide (zdz n = 0) := by
  rw [Int.tmod_eq_emod_of_nonneg (by omega), Bool.eq_iff_iff, beq_iff_eq, decide_eq_true_iff]
  unfold zdz
  split
  ·simp [*]
  ·simp [*]
 rw [← e2]
 generalize zbo n = W at *
 refine hdC Tryz.func82 Tryz.ntmps82 (res := [.tmp 2, .tmp 3]) fun w0 K0 => ?_
 repeat' first | refine zd ?_ | ((first | refine zi ?_ | with_reducible refine regA ?_ | refine drA (id := 1) 6 false [0, 1, 3, 0, 8, 24, 63, 127] ?_ | refine drA (id := 2) 12 false [0, 1, 0, 7, 0, 16, 63, 0, 0, 384, 896, 127, 4095] ?_ | refine zsp (t) ?_ | refine ⟨_, hw, ?_⟩ | refine ⟨Int.tmod _ _, rfl, ?_⟩ | refine And.intro (zay (by omega)) ?_ | refine zsq ?_ | refine andA ?_ | fail); conv => whnf) | fail
 rfl
end Go.Proofs.YtmceekhgnfpamaaGreatDoor
namespace Go.Proofs.YtmceekhgnfpamaaGreatDoor
open Go Go.QL FoT
set_option maxHeartbeats 3200000
attribute [local irreducible] ACall FnC fine ten zav zD
theorem zj9 {f : FormT} {i : Nat} (h : i < f.code.length) : (f.code.map ndPV)[(i : Int).toNat]? = some (ndPV f.code[i]) := by
 rw [Int.toNat_natCast, List.getElem?_map, List.getElem?_eq_getElem h]; rfl
theorem zfz {l : List Int} {i : Nat} {x : Int} (h : l[i]? = some x) : (l.map fun n : Int => [PV.v (.int .i64 n)])[i]? = some [PV.v (.int .i64 x)] := by
 rw [List.getElem?_map, h]; rfl
theorem zht {st : List (List PV)} {x : List PV} {n : Nat} (hn : n = 0 + st.length + 1) : n ≤ ((([] : List (List PV)).take 0 ++ st).take (0 + st.length) ++ [x]).length := by
 rw [hn]; simp
theorem zf7 {st : List (List PV)} {x : List PV} {n : Nat} (hn : n = 0 + st.length + 1) : ((([] : List (List PV)).take 0 ++ st).take (0 + st.length) ++ [x]).take n = st ++ [x] := by
 rw [hn, Nat.zero_add, List.take_zero, List.nil_append, List.take_length, List.take_of_length_le (by simp)]
theorem zl8 {words : List Int} {nv i : Nat} {n : FNode} (hl : words.length = nv) (hw : ∀ w ∈ words, zP w) (hk : n.kind = 1 ∨ n.kind = 2) (hf : fine nv n) : zP (zcw words i n) := by
 unfold zcw
 by_cases k1 : n.kind = 1
 ·rw [if_pos k1, List.getD_eq_getElem?_getD]
  cases h : words[n.var.toNat]? with
  | none => decide
  | some w => exact hw w (List.mem_of_getElem? h)
 ·rw [if_neg k1]
  have := zha (show n.kind = 2 by omega) hf
  unfold zP
  omega
theorem znp (f : FormT) (words : List Int) (hc : zD f = 0) (hl : words.length = f.vars.length) (hw : ∀ w ∈ words, zP w) : FnC Tryz.prog 74 [zaB f, sl words] (iv .i64 (valF f words)) := by
 obtain ⟨hv8, hc1, hc40⟩ := zbD hc
 have hst := zdt hc
 have hlc : (f.code.map ndPV).length = f.code.length := List.length_map _
 refine hdC Tryz.func74 Tryz.ntmps74 (res := [.tmp 4]) fun w0 K0 => ?_
 repeat' first | refine zd ?_ | refine zc ?_ | ((with_reducible refine regA ?_); conv => whnf) | fail
 refine zaq (Imp.nil 900 35 1 (fr' := [(6, iv .i64 0), (5, .x (.o 900 0 0)), (2, .x (.b 2 0)), (1, sl words)]) (σ' := [(2, .box (zb5 f))]) rfl ?_ ?_ rfl rfl) ?_
 ·exact ⟨⟨_, rfl, .inl rfl⟩, ⟨_, rfl, .inr ⟨rfl, rfl⟩⟩, ⟨_, rfl, .inl rfl⟩, ⟨_, rfl, .inl rfl⟩, trivial⟩
 ·exact ⟨⟨_, rfl, .inl rfl⟩, trivial⟩
 refine zaq (Imp.freeze 900 (fr' := [(6, iv .i64 0), (5, sl []), (2, .x (.b 2 0)), (1, sl words)]) (σ' := [(2, .box (zb5 f))]) rfl ⟨⟨_, rfl, .inl rfl⟩, ⟨_, rfl, .inr ⟨_, rfl, Nat.zero_le _, rfl⟩⟩, ⟨_, rfl, .inl rfl⟩, ⟨_, rfl, .inl rfl⟩, trivial⟩ ⟨rfl, trivial⟩ rfl rfl) ?_
 refine zJ (fun x : Nat × List Int => [(6, iv .i64 x.1), (5, sl x.2), (2, .x (.b 2 0)), (1, sl words)]) (fun _ => [(2, .box (zb5 f))])
  (fun x => x.1 ≤ f.code.length ∧ Ht f x.1 x.2.length ∧ (∀ w ∈ x.2, zP w) ∧ zaN 0 (zcw words) zdQ 0 f.code [] = zaN 0 (zcw words) zdQ x.1 (f.code.drop x.1) x.2) (fun x => f.code.length - x.1) (0, []) ⟨Nat.zero_le _, hst, by simp, rfl⟩ impA ?_
 rintro ⟨i, st⟩ ⟨hi, hh, hJ, hx⟩
 dsimp only at hi hh hJ hx ⊢
 have hp12 : st.length ≤ 12 := by obtain ⟨_, _, _, h, _⟩ := hh; exact h
 rcases Nat.lt_or_ge i f.code.length with hil | hil
 ·obtain ⟨hk, hf, hlf, hop⟩ := zdR hil hh
  have gn := zj9 hil
  have ro := zlv f.code[i]
  rw [List.drop_eq_getElem_cons hil, zaN] at hx
  by_cases k3 : f.code[i].kind < 3
  ·rw [decide_eq_false (by omega)] at ro
   rw [if_pos k3] at hx
   have hxw := zl8 hl hw (i := i) (show f.code[i].kind = 1 ∨ f.code[i].kind = 2 by omega) hf
   by_cases k1 : f.code[i].kind = 1
   ·have hfv := hf
    unfold fine at hfv
    rw [if_pos k1] at hfv
    have hg : words[f.code[i].var.toNat]? = some (zcw words i f.code[i]) := by
     unfold zcw
     rw [if_pos k1, List.getD_eq_getElem?_getD, List.getElem?_eq_getElem (by omega)]; rfl
    have hg2 := zfz hg
    generalize zcw words i f.code[i] = x at *
    have hJ2 : ∀ w ∈ st ++ [x], zP w := by intro w h; rcases List.mem_append.1 h with h | h; exact hJ w h; rw [List.mem_singleton.1 h]; exact hxw
    have hz : (st ++ [x]).map (fun n : Int => [PV.v (.int .i64 n)]) = st.map (fun n : Int => [PV.v (.int .i64 n)]) ++ [[PV.v (.int .i64 x)]] := List.map_append
    repeat' first | refine zd ?_ | refine zc ?_ | ((first | refine zf ?_ | refine zk ?_ | with_reducible refine regA ?_ | fail); conv => whnf) | exact abA hb | ((first | refine ⟨_, ze ⟨by omega, gn⟩, ?_⟩ | refine zsn (ro) ?_ | refine ⟨_, ze ⟨by omega, hg2⟩, ?_⟩ | fail); conv => whnf) | (refine zss rfl ?_) | (refine zso rfl (fun hb => ?_) (fun hb => ?_)) | ((first | refine zsq ?_ | refine andA ?_ | fail); conv => whnf) | ((refine And.intro (by refine ⟨?_, ?_, ?_⟩ <;> simp [zO, maxLen] <;> omega) ?_); conv => whnf) | (refine lnA fun hln => ?_; conv => whnf) | fail
    exact ⟨(i + 1, st ++ [x]), ⟨by show i + 1 ≤ _; omega, by show Ht f (i + 1) (st ++ [x]).length; rw [List.length_append]; exact hlf k3, hJ2, hx⟩, by show f.code.length - (i + 1) < f.code.length - i; omega, Imp.freeze 58 rfl ⟨⟨_, rfl, .inl rfl⟩, ⟨_, rfl, .inr ⟨_, rfl, zht rfl, congrArg (fun l => AV.x (.d (.s 1 l))) (hz.trans (zf7 rfl).symm)⟩⟩, ⟨_, rfl, .inl rfl⟩, ⟨_, rfl, .inl rfl⟩, trivial⟩ ⟨rfl, trivial⟩ rfl rfl⟩
   ·have k2 : f.code[i].kind = 2 := by omega
    have un := zhZ f.code[i] k2 hf
    have hx1 : zcw words i f.code[i] = zbo f.code[i] := by unfold zcw; rw [if_neg k1]
    rw [hx1] at hxw hx
    generalize zbo f.code[i] = x at *
    have hJ2 : ∀ w ∈ st ++ [x], zP w := by intro w h; rcases List.mem_append.1 h with h | h; exact hJ w h; rw [List.mem_singleton.1 h]; exact hxw
    have hz : (st ++ [x]).map (fun n : Int => [PV.v (.int .i64 n)]) = st.map (fun n : Int => [PV.v (.int .i64 n)]) ++ [[PV.v (.int .i64 x)]] := List.map_append
    repeat' first | refine zd ?_ | refine zc ?_ | ((first | refine zf ?_ | refine zk ?_ | with_reducible refine regA ?_ | fail); conv => whnf) | exact abA hb | ((first | refine ⟨_, ze ⟨by omega, gn⟩, ?_⟩ | refine zsn (ro) ?_ | refine zsn (un) ?_ | fail); conv => whnf) | (refine zss rfl ?_) | (refine zso rfl (fun hb => ?_) (fun hb => ?_)) | ((first | refine zsq ?_ | refine andA ?_ | fail); conv => whnf) | ((refine And.intro (by refine ⟨?_, ?_, ?_⟩ <;> simp [zO, maxLen] <;> omega) ?_); conv => whnf) | (refine lnA fun hln => ?_; conv => whnf) | fail
    exact ⟨(i + 1, st ++ [x]), ⟨by show i + 1 ≤ _; omega, by show Ht f (i + 1) (st ++ [x]).length; rw [List.length_append]; exact hlf k3, hJ2, hx⟩, by show f.code.length - (i + 1) < f.code.length - i; omega, Imp.freeze 58 rfl ⟨⟨_, rfl, .inl rfl⟩, ⟨_, rfl, .inr ⟨_, rfl, zht rfl, congrArg (fun l => AV.x (.d (.s 1 l))) (hz.trans (zf7 rfl).symm)⟩⟩, ⟨_, rfl, .inl rfl⟩, ⟨_, rfl, .inl rfl⟩, trivial⟩ ⟨rfl, trivial⟩ rfl rfl⟩
  ·rw [decide_eq_true (by omega)] at ro
   rw [if_neg k3] at hx
   obtain ⟨q, hq, hh'⟩ := hop (by omega)
   obtain ⟨r, a, b, rfl, hr⟩ := zfT hq
   have dn := znD f.code[i].kind a b (by omega) (hJ a (by simp)) (hJ b (by simp))
   have hxw : zP (opV f.code[i].kind (sgnW a) (sgnW b) % 16777216) := by unfold zP; omega
   have hx1 : (r ++ [a, b]).take ((r ++ [a, b]).length - 2) ++ [zdQ i f.code[i] ((r ++ [a, b]).getD ((r ++ [a, b]).length - 2) 0) ((r ++ [a, b]).getD ((r ++ [a, b]).length - 1) 0)] = r ++ [opV f.code[i].kind (sgnW a) (sgnW b) % 16777216] := by
    simp only [List.length_append, List.length_cons, List.length_nil]
    rw [List.take_left' (by omega)]
    congr 2
    try simp [zdQ, List.getD_eq_getElem?_getD]
   rw [hx1] at hx
   generalize opV f.code[i].kind (sgnW a) (sgnW b) % 16777216 = x at *
   have ga : ((r ++ [a, b]).map fun n : Int => [PV.v (.int .i64 n)])[q]? = some [PV.v (.int .i64 a)] := zfz (by rw [List.getElem?_append_right (by omega), hr]; simp)
   have gb : ((r ++ [a, b]).map fun n : Int => [PV.v (.int .i64 n)])[q + 1]? = some [PV.v (.int .i64 b)] := zfz (by rw [List.getElem?_append_right (by omega), hr]; simp)
   have hlen : ((r ++ [a, b]).map fun n : Int => [PV.v (.int .i64 n)]).length = q + 2 := by rw [List.length_map, hq]
   have htk : ((r ++ [a, b]).map fun n : Int => [PV.v (.int .i64 n)]).take q = r.map fun n : Int => [PV.v (.int .i64 n)] := by rw [List.map_append, List.take_left' (by rw [List.length_map, hr])]
   have hJ2 : ∀ w ∈ r ++ [x], zP w := by intro w h; rcases List.mem_append.1 h with h | h; exact hJ w (by simp [h]); rw [List.mem_singleton.1 h]; exact hxw
   have hz : (r ++ [x]).map (fun n : Int => [PV.v (.int .i64 n)]) = r.map (fun n : Int => [PV.v (.int .i64 n)]) ++ [[PV.v (.int .i64 x)]] := List.map_append
   have hsl : sl (r ++ [a, b]) = .x (.d (.s 1 ((r ++ [a, b]).map fun n : Int => [PV.v (.int .i64 n)]))) := rfl
   rw [hsl]
   generalize ((r ++ [a, b]).map fun n : Int => [PV.v (.int .i64 n)]) = xs at *
   have ga' : 0 ≤ (xs.length : Int) - 2 ∧ xs[((xs.length : Int) - 2).toNat]? = some [PV.v (.int .i64 a)] := ⟨by omega, by rw [show ((xs.length : Int) - 2).toNat = q by omega]; exact ga⟩
   have gb' : 0 ≤ (xs.length : Int) - 2 + 1 ∧ xs[((xs.length : Int) - 2 + 1).toNat]? = some [PV.v (.int .i64 b)] := ⟨by omega, by rw [show ((xs.length : Int) - 2 + 1).toNat = q + 1 by omega]; exact gb⟩
   have hYe : (xs.take ((xs.length : Int) - 2).toNat).drop (Int.toNat 0) = r.map (fun n : Int => [PV.v (.int .i64 n)]) := by rw [show ((xs.length : Int) - 2).toNat = q by omega]; exact htk
   have hYl : ((xs.take ((xs.length : Int) - 2).toNat).drop (Int.toNat 0)).length = q := by rw [hYe, List.length_map, hr]
   rw [← hYe] at hz
   repeat' first | refine zd ?_ | refine zc ?_ | ((first | refine zf ?_ | refine zk ?_ | with_reducible refine regA ?_ | refine drA (id := 13) 11 false [0, 1, 0, 0, 12, 28, 0, 0, 128, 448, 960, 2047, 4095] ?_ | fail); conv => whnf) | exact abA hb | ((first | refine ⟨_, ze ⟨by omega, gn⟩, ?_⟩ | refine zsn (ro) ?_ | refine ⟨_, ze ga', ?_⟩ | refine ⟨_, ze gb', ?_⟩ | refine zsn (dn) ?_ | fail); conv => whnf) | ((refine And.intro (by rw [hYl]; refine ⟨?_, ?_, ?_⟩ <;> simp [zO, maxLen] <;> omega) ?_); conv => whnf) | (refine zst rfl ?_) | (refine zso rfl (fun hb => ?_) (fun hb => ?_)) | ((first | refine zsq ?_ | refine andA ?_ | fail); conv => whnf) | (refine lnA fun hln => ?_; conv => whnf) | fail
   exact ⟨(i + 1, r ++ [x]), ⟨by show i + 1 ≤ _; omega, by show Ht f (i + 1) (r ++ [x]).length; rw [List.length_append, hr]; exact hh', hJ2, hx⟩, by show f.code.length - (i + 1) < f.code.length - i; omega, Imp.freeze 58 rfl ⟨⟨_, rfl, .inl rfl⟩, ⟨_, rfl, .inr ⟨_, rfl, zht rfl, congrArg (fun l => AV.x (.d (.s 1 l))) (hz.trans (zf7 rfl).symm)⟩⟩, ⟨_, rfl, .inl rfl⟩, ⟨_, rfl, .inl rfl⟩, trivial⟩ ⟨rfl, trivial⟩ rfl rfl⟩
 ·have h1 := ziw hil hh
  obtain ⟨v, rfl⟩ : ∃ v, st = [v] := List.length_eq_one_iff.1 h1
  rw [List.drop_eq_nil_of_le hil] at hx
  have hv : valF f words = v := by unfold valF; rw [hx]; rfl
  rw [hv]
  repeat' first | refine zd ?_ | refine zc ?_ | ((first | refine zf ?_ | refine zk ?_ | refine zi ?_ | with_reducible refine regA ?_ | fail); conv => whnf) | exact abA hb | ((refine ⟨_, ze ⟨by decide, rfl⟩, ?_⟩); conv => whnf) | (refine zso rfl (fun hb => ?_) (fun hb => ?_)) | ((refine andA ?_); conv => whnf) | (refine lnA fun hln => ?_; conv => whnf) | fail
  rfl
end Go.Proofs.YtmceekhgnfpamaaGreatDoor
namespace Go.Proofs.YtmceekhgnfpamaaGreatDoor
open Go Go.QL FoT
set_option maxHeartbeats 3200000
attribute [local irreducible] ACall FnC fine ten zav zD
theorem zrE (f : FormT) (words : List Int) : FnC Tryz.prog 24 [zaB f, sl words] (.t [iv .i64 (zdU f words).1, iv .i64 (zdU f words).2]) := by
 have ck := zh7 f
 have hlw : (words.map fun n : Int => [PV.v (.int .i64 n)]).length = words.length := List.length_map _
 have hlv : (f.vars.map zaa).length = f.vars.length := List.length_map _
 have split3 : (zD f ≠ 0 ∧ zdU f words = (0, zD f)) ∨ (zD f = 0 ∧ words.length ≠ f.vars.length ∧ zdU f words = (0, 2)) ∨ (zD f = 0 ∧ words.length = f.vars.length) := by
  by_cases h1 : zD f = 0
  ·by_cases h2 : words.length = f.vars.length
   ·exact .inr (.inr ⟨h1, h2⟩)
   ·refine .inr (.inl ⟨h1, h2, ?_⟩); unfold zdU; rw [if_neg (by omega), if_pos h2]
  ·refine .inl ⟨h1, ?_⟩; unfold zdU; rw [if_pos h1]
 have fin : ∀ (e : Int), e ≠ 0 → (bif decide ((0 : Int) < ((words.map fun n : Int => [PV.v (.int .i64 n)]).length : Int)) then e == 0 else false) = false := fun e h => by
  rw [beq_eq_false_iff_ne.2 h]; cases decide ((0 : Int) < ((words.map fun n : Int => [PV.v (.int .i64 n)]).length : Int)) <;> rfl
 rcases split3 with ⟨h1, h2⟩ | ⟨h1, h2, h3⟩ | ⟨h1, h2⟩
 ·rw [h2]
  generalize zD f = e at *
  have hcf : (bif (e == 0) then (((words.map fun n : Int => [PV.v (.int .i64 n)]).length : Int) != ((f.vars.map zaa).length : Int)) else false) = false := by rw [beq_eq_false_iff_ne.2 h1]; rfl
  have fe := fin e h1
  refine hdC Tryz.func24 Tryz.ntmps24 (res := [.tmp 4, .tmp 5]) fun w0 K0 => ?_
  repeat' first | refine zd ?_ | refine zc ?_ | ((first | refine zf ?_ | with_reducible refine regA ?_ | fail); conv => whnf) | (refine za rfl (zM hcf) (fun _ => ?_)) | ((first | refine zsn (ck) ?_ | refine pkA ?_ | fail); conv => whnf) | fail
  refine zJ (fun _ : Unit => [(7, iv .i64 0), (6, iv .i64 e), (2, .x (.b 2 0)), (1, sl words)]) (fun _ => [(2, .box (zb5 f))]) (fun _ => True) (fun _ => 0) () trivial impA ?_
  intro _ _
  repeat' first | refine zd ?_ | ((first | refine zf ?_ | refine zk ?_ | refine zi ?_ | with_reducible refine regA ?_ | fail); conv => whnf) | exact abA hb | (refine za rfl (zM fe) (fun _ => ?_)) | ((refine pkA ?_); conv => whnf) | (refine zso rfl (fun hb => ?_) (fun hb => ?_)) | (refine lnA fun hln => ?_; conv => whnf) | fail
  rfl
 ·rw [h3]
  rw [h1] at ck
  have hct : (bif ((0 : Int) == 0) then (((words.map fun n : Int => [PV.v (.int .i64 n)]).length : Int) != ((f.vars.map zaa).length : Int)) else false) = true := by
   rw [hlw, hlv]; show ((words.length : Int) != (f.vars.length : Int)) = true; rw [bne_iff_ne]; omega
  have fe := fin 2 (by decide)
  refine hdC Tryz.func24 Tryz.ntmps24 (res := [.tmp 4, .tmp 5]) fun w0 K0 => ?_
  repeat' first | refine zd ?_ | refine zc ?_ | ((with_reducible refine regA ?_); conv => whnf) | (refine za rfl (fun _ => ?_) (zaf hct)) | ((first | refine zsn (ck) ?_ | refine pkA ?_ | fail); conv => whnf) | fail
  refine zJ (fun _ : Unit => [(7, iv .i64 0), (6, iv .i64 2), (2, .x (.b 2 0)), (1, sl words)]) (fun _ => [(2, .box (zb5 f))]) (fun _ => True) (fun _ => 0) () trivial impA ?_
  intro _ _
  repeat' first | refine zd ?_ | ((first | refine zk ?_ | refine zi ?_ | with_reducible refine regA ?_ | fail); conv => whnf) | (refine za rfl (zM fe) (fun _ => ?_)) | ((refine pkA ?_); conv => whnf) | (refine zst rfl ?_) | (refine lnA fun hln => ?_; conv => whnf) | fail
  rfl
 ·rw [h1] at ck
  have hcf : (bif ((0 : Int) == 0) then (((words.map fun n : Int => [PV.v (.int .i64 n)]).length : Int) != ((f.vars.map zaa).length : Int)) else false) = false := by
   rw [hlw, hlv]; show ((words.length : Int) != (f.vars.length : Int)) = false; rw [bne_eq_false_iff_eq]; omega
  have e7 : ∀ i, (h : i < words.length) → ¬ zP words[i] → zdU f words = (0, 7) := fun i h hn => by
   unfold zdU
   rw [if_neg (by omega), if_neg (by omega), if_pos]
   rw [List.all_eq_false]
   exact ⟨words[i], List.getElem_mem h, by simpa using hn⟩
  have eok : (∀ i, (h : i < words.length) → zP words[i]) → zdU f words = (valF f words, 0) := fun h => by
   unfold zdU
   rw [if_neg (by omega), if_neg (by omega), if_neg]
   rw [Bool.not_eq_false, List.all_eq_true]
   intro w hw
   obtain ⟨i, hi, rfl⟩ := List.getElem_of_mem hw
   exact decide_eq_true (h i hi)
  have hv8 := (zbD h1).1
  refine hdC Tryz.func24 Tryz.ntmps24 (res := [.tmp 4, .tmp 5]) fun w0 K0 => ?_
  repeat' first | refine zd ?_ | refine zc ?_ | ((first | refine zf ?_ | with_reducible refine regA ?_ | fail); conv => whnf) | (refine za rfl (zM hcf) (fun _ => ?_)) | ((first | refine zsn (ck) ?_ | refine pkA ?_ | fail); conv => whnf) | fail
  refine zJ (fun x : Nat × Int => [(7, iv .i64 x.1), (6, iv .i64 x.2), (2, .x (.b 2 0)), (1, sl words)]) (fun _ => [(2, .box (zb5 f))])
   (fun x => x.1 ≤ words.length ∧ (x.2 = 0 ∧ (∀ j, (h : j < words.length) → j < x.1 → zP words[j]) ∨ x.2 = 7 ∧ zdU f words = (0, 7))) (fun x => words.length - x.1) (0, 0) ⟨Nat.zero_le _, .inl ⟨rfl, fun j _ h => absurd h (Nat.not_lt_zero j)⟩⟩ impA ?_
  rintro ⟨i, e⟩ ⟨hi, he⟩
  dsimp only at hi he ⊢
  rcases he with ⟨rfl, hj⟩ | ⟨rfl, h7⟩
  ·rcases Nat.lt_or_ge i words.length with hil | hil
   ·have hct : (bif decide ((i : Int) < ((words.map fun n : Int => [PV.v (.int .i64 n)]).length : Int)) then (0 : Int) == 0 else false) = true := by rw [decide_eq_true (by omega)]; rfl
    have gi := zfz (List.getElem?_eq_getElem hil)
    have wf := zlD words[i]
    by_cases hw : zP words[i]
    ·rw [decide_eq_true hw] at wf
     repeat' first | refine zd ?_ | refine zc ?_ | ((first | refine zf ?_ | with_reducible refine regA ?_ | fail); conv => whnf) | (refine za rfl (fun _ => ?_) (zaf hct)) | ((first | refine zsn (wf) ?_ | refine pkA ?_ | refine ⟨_, ze ⟨by omega, gi⟩, ?_⟩ | fail); conv => whnf) | (refine zss rfl ?_) | ((first | refine zsq ?_ | refine andA ?_ | fail); conv => whnf) | (refine lnA fun hln => ?_; conv => whnf) | fail
     exact ⟨(i + 1, 0), ⟨by show i + 1 ≤ _; omega, .inl ⟨rfl, fun j h hjl => by
      rcases Nat.lt_or_ge j i with h' | h'
      ·exact hj j h h'
      ·obtain rfl : j = i := by have hjl : j < i + 1 := hjl; omega
       exact hw⟩⟩, by show words.length - (i + 1) < words.length - i; omega, impA⟩
    ·rw [decide_eq_false hw] at wf
     repeat' first | refine zd ?_ | refine zc ?_ | ((first | refine zf ?_ | with_reducible refine regA ?_ | fail); conv => whnf) | (refine za rfl (fun _ => ?_) (zaf hct)) | ((first | refine zsn (wf) ?_ | refine pkA ?_ | refine ⟨_, ze ⟨by omega, gi⟩, ?_⟩ | fail); conv => whnf) | (refine zst rfl ?_) | ((first | refine zsq ?_ | refine andA ?_ | fail); conv => whnf) | (refine lnA fun hln => ?_; conv => whnf) | fail
     exact ⟨(i + 1, 7), ⟨by show i + 1 ≤ _; omega, .inr ⟨rfl, e7 i hil hw⟩⟩, by show words.length - (i + 1) < words.length - i; omega, impA⟩
   ·have hcf2 : (bif decide ((i : Int) < ((words.map fun n : Int => [PV.v (.int .i64 n)]).length : Int)) then (0 : Int) == 0 else false) = false := by rw [decide_eq_false (by omega)]; rfl
    rw [eok (fun j h => hj j h (by omega))]
    have rw_ := znp f words h1 h2 (fun w hw => by obtain ⟨j, hj2, rfl⟩ := List.getElem_of_mem hw; exact hj j hj2 (by omega))
    repeat' first | refine zd ?_ | ((first | refine zf ?_ | refine zk ?_ | refine zi ?_ | with_reducible refine regA ?_ | fail); conv => whnf) | (refine za rfl (zM hcf2) (fun _ => ?_)) | ((first | refine zsn (rw_) ?_ | refine pkA ?_ | fail); conv => whnf) | (refine zss rfl ?_) | (refine lnA fun hln => ?_; conv => whnf) | fail
    rfl
  ·have hcf2 : (bif decide ((i : Int) < ((words.map fun n : Int => [PV.v (.int .i64 n)]).length : Int)) then (7 : Int) == 0 else false) = false := by cases decide ((i : Int) < ((words.map fun n : Int => [PV.v (.int .i64 n)]).length : Int)) <;> rfl
   rw [h7]
   repeat' first | refine zd ?_ | ((first | refine zk ?_ | refine zi ?_ | with_reducible refine regA ?_ | fail); conv => whnf) | (refine za rfl (zM hcf2) (fun _ => ?_)) | ((refine pkA ?_); conv => whnf) | (refine zst rfl ?_) | (refine lnA fun hln => ?_; conv => whnf) | fail
   rfl
end Go.Proofs.YtmceekhgnfpamaaGreatDoor
namespace Go.Proofs.YtmceekhgnfpamaaGreatDoor
open Go Go.QL FoT
set_option maxHeartbeats 3200000
attribute [local irreducible] ACall FnC fine ten zav zD
theorem znh {n : Int} (h : n.natAbs ≤ 70368744177664) : -8388608 ≤ n.tdiv 8388608 ∧ n.tdiv 8388608 ≤ 8388608 := by
 have e1 := Int.mul_tdiv_add_tmod n 8388608
 have e2 := Int.tmod_lt_of_pos n (show (0 : Int) < 8388608 by decide)
 have e3 := Int.lt_tmod_of_pos n (show (0 : Int) < 8388608 by decide)
 omega
theorem zee (n : Int) (h : n.natAbs ≤ 70368744177664) : FnC Tryz.prog 135 [iv .i64 n, iv .i64 8388608] (iv .i64 (n / 8388608)) := by
 obtain ⟨t1, t2⟩ := zgG h
 have tr := znh h
 have hq0 : IntKind.i64.wrap (n.tdiv 8388608) = n.tdiv 8388608 := zg (by omega)
 by_cases hr : n.tmod 8388608 < 0
 ·have e := t1 hr
  have hq1 : IntKind.i64.wrap (n.tdiv 8388608 - 1) = n / 8388608 := by rw [e, zg (by omega)]
  refine hdC Tryz.func135 Tryz.ntmps135 (res := [.tmp 4]) fun w0 K0 => ?_
  repeat' first | refine zd ?_ | ((first | refine zf ?_ | refine zi ?_ | with_reducible refine regA ?_ | fail); conv => whnf) | exact abA hb | ((first | refine ⟨_, hq0, ?_⟩ | refine ⟨_, hq1, ?_⟩ | refine ⟨Int.tmod _ _, rfl, ?_⟩ | fail); conv => whnf) | (refine zso rfl (fun hb => ?_) (fun hb => ?_)) | ((refine andA ?_); conv => whnf) | fail
  rfl
 ·rw [← t2 hr]
  refine hdC Tryz.func135 Tryz.ntmps135 (res := [.tmp 4]) fun w0 K0 => ?_
  repeat' first | refine zd ?_ | ((first | refine zf ?_ | refine zi ?_ | with_reducible refine regA ?_ | fail); conv => whnf) | exact abA hb | ((first | refine ⟨_, hq0, ?_⟩ | refine ⟨Int.tmod _ _, rfl, ?_⟩ | fail); conv => whnf) | (refine zso rfl (fun hb => ?_) (fun hb => ?_)) | ((refine andA ?_); conv => whnf) | fail
  rfl
theorem zlz (lo hi err : Int) (h1 : -8388608 ≤ lo ∧ lo ≤ 8388607) (h2 : -8388608 ≤ hi ∧ hi ≤ 8388607) : FnC Tryz.prog 136 [.a [.d (.v (.int .i64 lo)), .d (.v (.int .i64 hi))]] (iv .i64 (farR ⟨lo, hi, err⟩)) := by
 have hw1 : IntKind.i64.wrap (0 - lo) = -lo := by rw [Int.zero_sub]; exact zg (by omega)
 have hw2 : IntKind.i64.wrap (0 - hi) = -hi := by rw [Int.zero_sub]; exact zg (by omega)
 refine hdC Tryz.func136 Tryz.ntmps136 (res := [.tmp 2]) fun w0 K0 => ?_
 repeat' first | refine zd ?_ | ((first | refine zi ?_ | with_reducible refine regA ?_ | refine ⟨_, hw1, ?_⟩ | refine ⟨_, hw2, ?_⟩ | refine andA ?_ | fail); conv => whnf) | fail
 refine congrArg (fun x : Int => some (iv .i64 x)) ?_
 unfold farR
 dsimp only
 show (bif _ then _ else _ : Int) = _
 simp only [cond_true, zer]
 omega
theorem zoc {a b : RangeT} (ha : a.lo ≤ a.hi) (hb : b.lo ≤ b.hi) : zT 3 a b = ⟨a.lo + b.lo, a.hi + b.hi, a.err + b.err⟩ := by
 have o : ∀ x y, opV 3 x y = x + y := fun _ _ => rfl
 have e1 : (zT 3 a b).lo = a.lo + b.lo := by show min4 _ _ _ _ = _; rw [o, o, o, o]; unfold min4; omega
 have e2 : (zT 3 a b).hi = a.hi + b.hi := by show max4 _ _ _ _ = _; rw [o, o, o, o]; unfold max4; omega
 have e3 : (zT 3 a b).err = a.err + b.err := rfl
 rw [← e1, ← e2, ← e3]
theorem zmy {a b : RangeT} (ha : a.lo ≤ a.hi) (hb : b.lo ≤ b.hi) : zT 4 a b = ⟨a.lo - b.hi, a.hi - b.lo, a.err + b.err⟩ := by
 have o : ∀ x y, opV 4 x y = x - y := fun _ _ => rfl
 have e1 : (zT 4 a b).lo = a.lo - b.hi := by show min4 _ _ _ _ = _; rw [o, o, o, o]; unfold min4; omega
 have e2 : (zT 4 a b).hi = a.hi - b.lo := by show max4 _ _ _ _ = _; rw [o, o, o, o]; unfold max4; omega
 have e3 : (zT 4 a b).err = a.err + b.err := rfl
 rw [← e1, ← e2, ← e3]
theorem zp7 (k : Int) (a b : RangeT) : (zT k a b).lo ≤ (zT k a b).hi := by
 show min4 _ _ _ _ ≤ max4 _ _ _ _
 unfold min4 max4
 omega
def mm2 (mx : Bool) (a b : Int) : Int := bif mx then (if b > a then b else a) else (if b < a then b else a)
theorem zpO (a b : Int) : mm2 false a b = min a b := by show (if b < a then b else a) = _; split <;> omega
theorem zpP (a b : Int) : mm2 true a b = max a b := by show (if b > a then b else a) = _; split <;> omega
theorem rgE {a b c a' b' c' : Int} (h1 : a = a') (h2 : b = b') (h3 : c = c') : some (rgAV ⟨a, b, c⟩) = some (rgAV ⟨a', b', c'⟩) := by rw [h1, h2, h3]
theorem zlC (k : Int) (a b : RangeT) (hk : k = 3 ∨ k = 4 ∨ k = 5) (ha : okR a) (hb' : okR b) (la : a.lo ≤ a.hi) (lb : b.lo ≤ b.hi) : FnC Tryz.prog 83 [iv .i64 k, rgAV a, rgAV b] (rgAV (zT k a b)) := by
 obtain ⟨al, ah, ae0, ae1⟩ := ha
 obtain ⟨bl, bh, be0, be1⟩ := hb'
 rcases hk with rfl | rfl | rfl
 ·rw [zoc la lb]
  refine hdC Tryz.func83 Tryz.ntmps83 (res := [.cell 6 42]) fun w0 K0 => ?_
  repeat' first | refine zd ?_ | ((first | refine zi ?_ | with_reducible refine regA ?_ | fail); conv => whnf) | (refine zst rfl ?_) | ((first | refine zsq ?_ | refine andA ?_ | fail); conv => whnf) | fail
  rfl
 ·rw [zmy la lb]
  refine hdC Tryz.func83 Tryz.ntmps83 (res := [.cell 6 42]) fun w0 K0 => ?_
  repeat' first | refine zd ?_ | ((first | refine zf ?_ | refine zi ?_ | with_reducible refine regA ?_ | fail); conv => whnf) | (refine zst rfl ?_) | (refine zss rfl ?_) | ((first | refine zsq ?_ | refine andA ?_ | fail); conv => whnf) | fail
  rfl
 ·have m1 := zc3 al bl
  have m2 := zc3 al bh
  have m3 := zc3 ah bl
  have m4 := zc3 ah bh
  have je : zT 5 a b = ⟨min4 (a.lo * b.lo / 8388608) (a.lo * b.hi / 8388608) (a.hi * b.lo / 8388608) (a.hi * b.hi / 8388608), max4 (a.lo * b.lo / 8388608) (a.lo * b.hi / 8388608) (a.hi * b.lo / 8388608) (a.hi * b.hi / 8388608),
    (2 * farR a * b.err + 2 * farR b * a.err + a.err * b.err + 16777215) / 16777216 + 2⟩ := rfl
  rw [je]
  have fA := zlz a.lo a.hi a.err al ah
  have fB := zlz b.lo b.hi b.err bl bh
  have A0 : 0 ≤ farR a ∧ farR a ≤ 8388608 := by unfold farR; omega
  have B0 : 0 ≤ farR b ∧ farR b ≤ 8388608 := by unfold farR; omega
  have e1 : farR ⟨a.lo, a.hi, a.err⟩ = farR a := rfl
  have e2 : farR ⟨b.lo, b.hi, b.err⟩ = farR b := rfl
  rw [e1] at fA
  rw [e2] at fB
  clear e1 e2 je
  generalize farR a = A at *
  generalize farR b = B' at *
  have p0 : 0 ≤ 2 * A * b.err ∧ 2 * A * b.err ≤ 16777216000 := ⟨Int.mul_nonneg (by omega) be0, by have := Int.mul_le_mul (show 2 * A ≤ 16777216 by omega) be1 be0 (by omega); omega⟩
  have q0 : 0 ≤ 2 * B' * a.err ∧ 2 * B' * a.err ≤ 16777216000 := ⟨Int.mul_nonneg (by omega) ae0, by have := Int.mul_le_mul (show 2 * B' ≤ 16777216 by omega) ae1 ae0 (by omega); omega⟩
  have r0 : 0 ≤ a.err * b.err ∧ a.err * b.err ≤ 1000000 := ⟨Int.mul_nonneg ae0 be0, by have := Int.mul_le_mul ae1 be1 be0 (by omega); omega⟩
  have f1 := zee (a.lo * b.lo) (by omega)
  have f2 := zee (a.lo * b.hi) (by omega)
  have f3 := zee (a.hi * b.lo) (by omega)
  have f4 := zee (a.hi * b.hi) (by omega)
  obtain ⟨n1, h1⟩ : ∃ n, a.lo * b.lo = n := ⟨_, rfl⟩
  obtain ⟨n2, h2⟩ : ∃ n, a.lo * b.hi = n := ⟨_, rfl⟩
  obtain ⟨n3, h3⟩ : ∃ n, a.hi * b.lo = n := ⟨_, rfl⟩
  obtain ⟨n4, h4⟩ : ∃ n, a.hi * b.hi = n := ⟨_, rfl⟩
  obtain ⟨n5, h5⟩ : ∃ n, 2 * A * b.err = n := ⟨_, rfl⟩
  obtain ⟨n6, h6⟩ : ∃ n, 2 * B' * a.err = n := ⟨_, rfl⟩
  obtain ⟨n7, h7⟩ : ∃ n, a.err * b.err = n := ⟨_, rfl⟩
  have w1 : IntKind.i64.wrap (a.lo * b.lo) = n1 := by rw [zg (by omega), h1]
  have w2 : IntKind.i64.wrap (a.lo * b.hi) = n2 := by rw [zg (by omega), h2]
  have w3 : IntKind.i64.wrap (a.hi * b.lo) = n3 := by rw [zg (by omega), h3]
  have w4 : IntKind.i64.wrap (a.hi * b.hi) = n4 := by rw [zg (by omega), h4]
  have w5 : IntKind.i64.wrap (2 * A * b.err) = n5 := by rw [zg (by omega), h5]
  have w6 : IntKind.i64.wrap (2 * B' * a.err) = n6 := by rw [zg (by omega), h6]
  have w7 : IntKind.i64.wrap (a.err * b.err) = n7 := by rw [zg (by omega), h7]
  rw [h1] at f1 m1
  rw [h2] at f2 m2
  rw [h3] at f3 m3
  rw [h4] at f4 m4
  rw [h5] at p0
  rw [h6] at q0
  rw [h7] at r0
  rw [h1, h2, h3, h4, h5, h6, h7]
  have w8 : IntKind.i64.wrap ((n5 + n6 + n7 + 16777216 - 1).tdiv 16777216) = (n5 + n6 + n7 + 16777215) / 16777216 := by
   rw [Int.tdiv_eq_ediv_of_nonneg (by omega), zg (by omega)]
   omega
  refine hdC Tryz.func83 Tryz.ntmps83 (res := [.cell 6 42]) fun w0 K0 => ?_
  repeat' first | refine zd ?_ | ((first | refine zf ?_ | refine zi ?_ | with_reducible refine regA ?_ | refine drA (id := 5) 15 false [0, 1, 3, 0, 8, 24, 63, 127, 0, 256, 768, 0, 2048, 6144, 16128, 32767, 65535, 131071] ?_ | refine drA (id := 6) 15 false [0, 1, 3, 0, 8, 24, 63, 127, 0, 256, 768, 0, 2048, 6144, 16128, 32767, 65535, 131071] ?_ | refine drA (id := 8) 20 false [0, 1, 3, 7, 0, 16, 63, 0, 128, 391, 903, 0, 2048, 8071, 16383, 0, 32768, 0, 131072, 491520, 1048575, 2097151] ?_ | refine ⟨_, w1, ?_⟩ | refine ⟨_, w2, ?_⟩ | refine ⟨_, w3, ?_⟩ | refine ⟨_, w4, ?_⟩ | refine ⟨_, w5, ?_⟩ | refine ⟨_, w6, ?_⟩ | refine ⟨_, w7, ?_⟩ | refine ⟨_, w8, ?_⟩ | refine zsp (fA) ?_ | refine zsp (fB) ?_ | refine zsp (f1) ?_ | refine zsn (f2) ?_ | refine zsp (f3) ?_ | refine zsn (f4) ?_ | fail); conv => whnf) | (refine zss rfl ?_) | ((first | refine zsq ?_ | refine andA ?_ | fail); conv => whnf) | fail
  show some (rgAV ⟨mm2 false (mm2 false (mm2 false (n1 / 8388608) (n2 / 8388608)) (n3 / 8388608)) (n4 / 8388608), mm2 true (mm2 true (mm2 true (n1 / 8388608) (n2 / 8388608)) (n3 / 8388608)) (n4 / 8388608), (n5 + n6 + n7 + 16777215) / 16777216 + 2⟩) = _
  refine rgE ?_ ?_ rfl
  ·simp only [zpO]
   unfold min4
   omega
  ·simp only [zpP]
   unfold max4
   omega
end Go.Proofs.YtmceekhgnfpamaaGreatDoor
namespace Go.Proofs.YtmceekhgnfpamaaGreatDoor
open Go Go.QL FoT
set_option maxHeartbeats 6400000
attribute [local irreducible] ACall FnC fine ten zav zD zT rngS
theorem zgL (n : Int) : FnC Tryz.prog 61 [iv .i64 n, iv .i64 (-8388608), iv .i64 8388607] (bv (!zC n)) := by
 have h := zho n (-8388608) 8388607
 have e : decide (-8388608 ≤ n ∧ n ≤ 8388607) = !zC n := by
  unfold zC
  rw [Bool.eq_iff_iff, decide_eq_true_iff, Bool.not_eq_true', Bool.or_eq_false_iff, decide_eq_false_iff_not, decide_eq_false_iff_not]
  omega
 rw [e] at h
 exact h
theorem zqY (b1 b2 : Bool) : (bif !!b1 then true else !!b2) = (b1 || b2) := by cases b1 <;> cases b2 <;> rfl
theorem zhX {l : List SpanT} {i : Nat} {x : SpanT} (h : l[i]? = some x) : (l.map spPV)[i]? = some (spPV x) := by
 rw [List.getElem?_map, h]; rfl
theorem zly {l : List RangeT} {i : Nat} {x : RangeT} (h : l[i]? = some x) : (l.map rgPV)[i]? = some (rgPV x) := by
 rw [List.getElem?_map, h]; rfl
abbrev znI (l : List RangeT) : AV := .x (.d (.s 3 (l.map rgPV)))
def pR (f : FormT) (spans : List SpanT) (i : Nat) (st : List RangeT) : Prop :=
 (∀ x ∈ st, lhR x ∧ x.lo ≤ x.hi) ∧ errS st ≤ 8 * i ∧ rngS spans 0 f.code [] = rngS spans i (f.code.drop i) st
theorem zqK (f : FormT) (spans : List SpanT) : FnC Tryz.prog 26 [zaB f, .x (.d (zcS spans))] (rmAV (z8 f spans)) := by
 have hlv : (f.vars.map zaa).length = f.vars.length := List.length_map _
 have hls : (spans.map spPV).length = spans.length := List.length_map _
 have hlc : (f.code.map ndPV).length = f.code.length := List.length_map _
 have ck := zh7 f
 by_cases h0 : zD f = 0
 ·rw [h0] at ck
  obtain ⟨hv8, hc1, hc40⟩ := zbD h0
  by_cases h1 : spans.length = f.vars.length
  ·have hcf : (bif ((0 : Int) == 0) then (((spans.map spPV).length : Int) != ((f.vars.map zaa).length : Int)) else false) = false := by
    rw [hls, hlv]; show ((spans.length : Int) != (f.vars.length : Int)) = false; rw [bne_eq_false_iff_eq]; omega
   refine hdC Tryz.func26 Tryz.ntmps26 (res := [.cell 4 42, .tmp 5, .tmp 6]) fun w0 K0 => ?_
   repeat' first | refine zd ?_ | refine zc ?_ | ((first | refine zf ?_ | with_reducible refine regA ?_ | fail); conv => whnf) | (refine za rfl (zM hcf) (fun _ => ?_)) | ((first | refine zsn (ck) ?_ | refine pkA ?_ | fail); conv => whnf) | (refine zss rfl ?_) | fail
   refine zJ (fun i : Nat => [(8, iv .i64 i), (2, .x (.b 2 0)), (4, .x (.b 4 0)), (1, .x (.d (zcS spans)))]) (fun _ => [(4, .box zrC), (2, .box (zb5 f))])
    (fun i => i ≤ spans.length ∧ ∀ k (h : k < spans.length), k < i → (zC spans[k].lo = false ∧ zC spans[k].hi = false ∧ spans[k].lo ≤ spans[k].hi)) (fun i => spans.length - i) 0 ⟨Nat.zero_le _, fun k _ h => absurd h (Nat.not_lt_zero _)⟩ impA ?_
   rintro i ⟨hi, hok⟩
   rcases Nat.lt_or_ge i spans.length with hil | hil
   ·have hbs := zdg spans i 0 hok hi
    rw [List.drop_eq_getElem_cons hil, zaF, Nat.zero_add] at hbs
    have g1 := zgL spans[i].lo
    have g2 := zgL spans[i].hi
    have gi := zhX (List.getElem?_eq_getElem hil)
    have hnn := zqY (zC spans[i].lo) (zC spans[i].hi)
    by_cases hg : zC spans[i].lo = true ∨ zC spans[i].hi = true
    ·rw [if_pos hg] at hbs
     rw [zj6 h0 h1 hbs]
     rw [show (zC spans[i].lo || zC spans[i].hi) = true by simpa using hg] at hnn
     generalize zC spans[i].lo = b1 at *
     generalize zC spans[i].hi = b2 at *
     repeat' first | refine zd ?_ | refine zc ?_ | ((first | refine zf ?_ | refine zk ?_ | refine zi ?_ | with_reducible refine regA ?_ | fail); conv => whnf) | exact abA hb | (refine za rfl (fun _ => ?_) (zaf hnn)) | ((first | refine zsn (g1) ?_ | refine zsp (g2) ?_ | refine pkA ?_ | refine ⟨_, ze ⟨by omega, gi⟩, ?_⟩ | fail); conv => whnf) | (refine zso rfl (fun hb => ?_) (fun hb => ?_)) | ((refine andA ?_); conv => whnf) | (refine lnA fun hln => ?_; conv => whnf) | fail
     rfl
    ·rw [if_neg hg] at hbs
     rw [not_or, Bool.not_eq_true, Bool.not_eq_true] at hg
     rw [hg.1, hg.2] at hnn
     rw [hg.1] at g1
     rw [hg.2] at g2
     by_cases hlt : spans[i].hi < spans[i].lo
     ·rw [if_pos hlt] at hbs
      rw [zj6 h0 h1 hbs]
      repeat' first | refine zd ?_ | refine zc ?_ | ((first | refine zf ?_ | refine zk ?_ | refine zi ?_ | with_reducible refine regA ?_ | refine drA (id := 11) 10 false [0, 0, 3, 7, 15, 0, 0, 96, 224, 480, 1023] ?_ | fail); conv => whnf) | exact abA hb | (refine za rfl (zM hnn) (fun _ => ?_)) | ((first | refine zsn (g1) ?_ | refine zsp (g2) ?_ | refine pkA ?_ | refine ⟨_, ze ⟨by omega, gi⟩, ?_⟩ | fail); conv => whnf) | (refine zso rfl (fun hb => ?_) (fun hb => ?_)) | ((refine andA ?_); conv => whnf) | (refine lnA fun hln => ?_; conv => whnf) | fail
      rfl
     ·repeat' first | refine zd ?_ | refine zc ?_ | ((first | refine zf ?_ | refine zk ?_ | refine zi ?_ | with_reducible refine regA ?_ | refine drA (id := 11) 10 false [0, 0, 3, 7, 15, 0, 0, 96, 224, 480, 1023] ?_ | fail); conv => whnf) | exact abA hb | (refine za rfl (zM hnn) (fun _ => ?_)) | ((first | refine zsn (g1) ?_ | refine zsp (g2) ?_ | refine pkA ?_ | refine ⟨_, ze ⟨by omega, gi⟩, ?_⟩ | fail); conv => whnf) | (refine zso rfl (fun hb => ?_) (fun hb => ?_)) | ((first | refine zsq ?_ | refine andA ?_ | fail); conv => whnf) | (refine lnA fun hln => ?_; conv => whnf) | fail
      exact ⟨i + 1, ⟨by omega, fun k h hk => by
       by_cases e : k = i
       ·subst e; exact ⟨hg.1, hg.2, by omega⟩
       ·exact hok k h (by omega)⟩, by omega, impA⟩
   ·have hie : i = spans.length := by omega
    subst hie
    have hall : ∀ s ∈ spans, zC s.lo = false ∧ zC s.hi = false ∧ s.lo ≤ s.hi := fun s hs => by
     obtain ⟨k, hk, rfl⟩ := List.getElem_of_mem hs
     exact hok k hk hk
    have hbs := (zbv (i := 0)).2 hall
    have hst := zdt h0
    clear hok
    repeat' first | refine zd ?_ | refine zc ?_ | ((first | refine zf ?_ | refine zk ?_ | with_reducible refine regA ?_ | fail); conv => whnf) | exact abA hb | (refine zso rfl (fun hb => ?_) (fun hb => ?_)) | (refine lnA fun hln => ?_; conv => whnf) | fail
    refine zaq (Imp.nil 900 130 3 (fr' := [(10, iv .i64 0), (9, .x (.o 900 0 0)), (2, .x (.b 2 0)), (4, .x (.b 4 0)), (1, .x (.d (zcS spans)))]) (σ' := [(4, .box zrC), (2, .box (zb5 f))]) rfl ?_ ?_ rfl rfl) ?_
    ·exact ⟨⟨_, rfl, .inl rfl⟩, ⟨_, rfl, .inr ⟨rfl, rfl⟩⟩, ⟨_, rfl, .inl rfl⟩, ⟨_, rfl, .inl rfl⟩, ⟨_, rfl, .inl rfl⟩, trivial⟩
    ·exact ⟨⟨_, rfl, .inl rfl⟩, ⟨_, rfl, .inl rfl⟩, trivial⟩
    refine zaq (Imp.freeze 900 (fr' := [(10, iv .i64 0), (9, znI []), (2, .x (.b 2 0)), (4, .x (.b 4 0)), (1, .x (.d (zcS spans)))]) (σ' := [(4, .box zrC), (2, .box (zb5 f))]) rfl ⟨⟨_, rfl, .inl rfl⟩, ⟨_, rfl, .inr ⟨_, rfl, Nat.zero_le _, rfl⟩⟩, ⟨_, rfl, .inl rfl⟩, ⟨_, rfl, .inl rfl⟩, ⟨_, rfl, .inl rfl⟩, trivial⟩ ⟨rfl, rfl, trivial⟩ rfl rfl) ?_
    refine zJ (fun x : Nat × List RangeT => [(10, iv .i64 x.1), (9, znI x.2), (2, .x (.b 2 0)), (4, .x (.b 4 0)), (1, .x (.d (zcS spans)))]) (fun _ => [(4, .box zrC), (2, .box (zb5 f))])
     (fun x => x.1 ≤ f.code.length ∧ Ht f x.1 x.2.length ∧ pR f spans x.1 x.2) (fun x => f.code.length - x.1) (0, []) ⟨Nat.zero_le _, hst, by simp, by simp [errS], rfl⟩ impA ?_
    rintro ⟨i, st⟩ ⟨hi, hh, hJ, hE, hx⟩
    dsimp only at hi hh hJ hE hx ⊢
    have hp12 : st.length ≤ 12 := by obtain ⟨_, _, _, h, _⟩ := hh; exact h
    rcases Nat.lt_or_ge i f.code.length with hil | hil
    ·obtain ⟨hk, hf, hlf, hop⟩ := zdR hil hh
     have gn := zj9 hil
     have ro := zlv f.code[i]
     rw [List.drop_eq_getElem_cons hil, rngS] at hx
     by_cases k3 : f.code[i].kind < 3
     ·rw [decide_eq_false (by omega)] at ro
      rw [if_pos k3] at hx
      have hf' := hf
      rw [← h1] at hf'
      obtain ⟨l1, l2⟩ := zkc hall (show f.code[i].kind = 1 ∨ f.code[i].kind = 2 by omega) hf'
      have ll : (zbB spans f.code[i]).lo ≤ (zbB spans f.code[i]).hi := by
       unfold zbB
       by_cases k1 : f.code[i].kind = 1
       ·rw [if_pos k1]
        rw [List.getD_eq_getElem?_getD]
        cases hq : spans[f.code[i].var.toNat]? with
        | none => exact Int.le_refl _
        | some s => exact (hall s (List.mem_of_getElem? hq)).2.2
       ·rw [if_neg k1]; exact Int.le_refl _
      have hJ2 : ∀ x ∈ st ++ [zbB spans f.code[i]], lhR x ∧ x.lo ≤ x.hi := by intro x h; rcases List.mem_append.1 h with h | h; exact hJ x h; rw [List.mem_singleton.1 h]; exact ⟨l1, ll⟩
      have hE2 : errS (st ++ [zbB spans f.code[i]]) ≤ 8 * ((i + 1 : Nat) : Int) := by rw [zbn, zbL]; push_cast; omega
      have gl : zC (zbB spans f.code[i]).lo = false := by unfold zC; rw [Bool.or_eq_false_iff, decide_eq_false_iff_not, decide_eq_false_iff_not]; obtain ⟨⟨_, _⟩, _⟩ := l1; omega
      have gh : zC (zbB spans f.code[i]).hi = false := by unfold zC; rw [Bool.or_eq_false_iff, decide_eq_false_iff_not, decide_eq_false_iff_not]; obtain ⟨_, ⟨_, _⟩, _⟩ := l1; omega
      have g1 := zgL (zbB spans f.code[i]).lo
      have g2 := zgL (zbB spans f.code[i]).hi
      rw [gl] at g1
      rw [gh] at g2
      by_cases k1 : f.code[i].kind = 1
      ·have hfv := hf
       unfold fine at hfv
       rw [if_pos k1] at hfv
       have hlf2 : zbB spans f.code[i] = ⟨(spans.getD f.code[i].var.toNat ⟨0, 0⟩).lo, (spans.getD f.code[i].var.toNat ⟨0, 0⟩).hi, 0⟩ := by unfold zbB; rw [if_pos k1]
       have hg : spans[f.code[i].var.toNat]? = some (spans.getD f.code[i].var.toNat ⟨0, 0⟩) := by
        rw [List.getD_eq_getElem?_getD, List.getElem?_eq_getElem (by omega)]; rfl
       have hg2 := zhX hg
       rw [hlf2] at hJ2 hE2 g1 g2 hx
       generalize spans.getD f.code[i].var.toNat ⟨0, 0⟩ = v at *
       clear ll l1 l2 gl gh hlf2
       rcases Nat.eq_zero_or_pos st.length with hs0 | hs0
       ·obtain rfl := List.eq_nil_of_length_eq_zero hs0
        repeat' first | refine zd ?_ | refine zc ?_ | ((first | refine zf ?_ | refine zk ?_ | with_reducible refine regA ?_ | refine drA (id := 32) 5 true [0, 0, 3, 0, 8, 31, 63] ?_ | fail); conv => whnf) | exact abA hb | ((first | refine Or.inl (And.intro rfl ?_) | refine ⟨_, ze ⟨by omega, gn⟩, ?_⟩ | refine zsn (ro) ?_ | refine ⟨_, ze ⟨by omega, hg2⟩, ?_⟩ | refine zsn (g1) ?_ | refine zsp (g2) ?_ | refine pkA ?_ | fail); conv => whnf) | (refine zss rfl ?_) | (refine zso rfl (fun hb => ?_) (fun hb => ?_)) | ((first | refine zsq ?_ | refine andA ?_ | fail); conv => whnf) | (refine lnA fun hln => ?_; conv => whnf) | fail
        exact ⟨(i + 1, [] ++ [(⟨v.lo, v.hi, 0⟩ : RangeT)]), ⟨by show i + 1 ≤ f.code.length; omega, by show Ht f (i + 1) ([] ++ [(⟨v.lo, v.hi, 0⟩ : RangeT)]).length; exact hlf k3, hJ2, hE2, hx⟩, by show f.code.length - (i + 1) < f.code.length - i; omega, impA⟩
       ·have hz : (st ++ [(⟨v.lo, v.hi, 0⟩ : RangeT)]).map rgPV = st.map rgPV ++ [rgPV ⟨v.lo, v.hi, 0⟩] := List.map_append
        repeat' first | refine zd ?_ | refine zc ?_ | ((first | refine zf ?_ | refine zk ?_ | with_reducible refine regA ?_ | refine drA (id := 32) 5 true [0, 0, 3, 0, 8, 31, 63] ?_ | fail); conv => whnf) | exact abA hb | ((refine Or.inr (And.intro (by rw [List.length_map]; omega) (And.intro (by rw [List.length_map]; refine ⟨?_, ?_⟩ <;> simp [maxLen] <;> omega) ?_))); conv => whnf) | ((first | refine ⟨_, ze ⟨by omega, gn⟩, ?_⟩ | refine zsn (ro) ?_ | refine ⟨_, ze ⟨by omega, hg2⟩, ?_⟩ | refine zsn (g1) ?_ | refine zsp (g2) ?_ | refine pkA ?_ | fail); conv => whnf) | (refine zss rfl ?_) | (refine zso rfl (fun hb => ?_) (fun hb => ?_)) | ((first | refine zsq ?_ | refine andA ?_ | fail); conv => whnf) | ((refine And.intro (by refine ⟨?_, ?_, ?_⟩ <;> simp [zO, maxLen] <;> omega) ?_); conv => whnf) | (refine lnA fun hln => ?_; conv => whnf) | fail
        exact ⟨(i + 1, st ++ [(⟨v.lo, v.hi, 0⟩ : RangeT)]), ⟨by show i + 1 ≤ f.code.length; omega, by show Ht f (i + 1) (st ++ [(⟨v.lo, v.hi, 0⟩ : RangeT)]).length; rw [List.length_append]; exact hlf k3, hJ2, hE2, hx⟩, by show f.code.length - (i + 1) < f.code.length - i; omega, Imp.freeze 141 rfl ⟨⟨_, rfl, .inl rfl⟩, ⟨_, rfl, .inr ⟨_, rfl, zeh rfl, congrArg (fun l => AV.x (.d (.s 3 l))) (hz.trans (zdo rfl).symm)⟩⟩, ⟨_, rfl, .inl rfl⟩, ⟨_, rfl, .inl rfl⟩, ⟨_, rfl, .inl rfl⟩, trivial⟩ ⟨rfl, rfl, trivial⟩ rfl rfl⟩
      ·have k2 : f.code[i].kind = 2 := by omega
       have un := zhZ f.code[i] k2 hf
       have hlf2 : zbB spans f.code[i] = ⟨zbo f.code[i], zbo f.code[i], zdz f.code[i]⟩ := by unfold zbB; rw [if_neg k1]
       have hh01 : zdz f.code[i] = 0 ∨ zdz f.code[i] = 1 := by unfold zdz; split <;> simp
       rw [hlf2] at hJ2 hE2 g1 g2 hx
       generalize zbo f.code[i] = v at *
       clear ll l1 l2 gl gh hlf2
       rcases hh01 with hh0 | hh1
       ·rw [hh0] at un hJ2 hE2 hx
        rw [decide_eq_true rfl] at un
        rcases Nat.eq_zero_or_pos st.length with hs0 | hs0
        ·obtain rfl := List.eq_nil_of_length_eq_zero hs0
         repeat' first | refine zd ?_ | refine zc ?_ | ((first | refine zf ?_ | refine zk ?_ | with_reducible refine regA ?_ | refine drA (id := 32) 5 true [0, 0, 3, 0, 8, 31, 63] ?_ | fail); conv => whnf) | exact abA hb | ((first | refine Or.inl (And.intro rfl ?_) | refine ⟨_, ze ⟨by omega, gn⟩, ?_⟩ | refine zsn (ro) ?_ | refine zsn (un) ?_ | refine zsn (g1) ?_ | refine zsp (g1) ?_ | refine pkA ?_ | fail); conv => whnf) | (refine zss rfl ?_) | (refine zso rfl (fun hb => ?_) (fun hb => ?_)) | ((first | refine zsq ?_ | refine andA ?_ | fail); conv => whnf) | (refine lnA fun hln => ?_; conv => whnf) | fail
         exact ⟨(i + 1, [] ++ [(⟨v, v, 0⟩ : RangeT)]), ⟨by show i + 1 ≤ f.code.length; omega, by show Ht f (i + 1) ([] ++ [(⟨v, v, 0⟩ : RangeT)]).length; exact hlf k3, hJ2, hE2, hx⟩, by show f.code.length - (i + 1) < f.code.length - i; omega, impA⟩
        ·have hz : (st ++ [(⟨v, v, 0⟩ : RangeT)]).map rgPV = st.map rgPV ++ [rgPV ⟨v, v, 0⟩] := List.map_append
         repeat' first | refine zd ?_ | refine zc ?_ | ((first | refine zf ?_ | refine zk ?_ | with_reducible refine regA ?_ | refine drA (id := 32) 5 true [0, 0, 3, 0, 8, 31, 63] ?_ | fail); conv => whnf) | exact abA hb | ((refine Or.inr (And.intro (by rw [List.length_map]; omega) (And.intro (by rw [List.length_map]; refine ⟨?_, ?_⟩ <;> simp [maxLen] <;> omega) ?_))); conv => whnf) | ((first | refine ⟨_, ze ⟨by omega, gn⟩, ?_⟩ | refine zsn (ro) ?_ | refine zsn (un) ?_ | refine zsn (g1) ?_ | refine zsp (g1) ?_ | refine pkA ?_ | fail); conv => whnf) | (refine zss rfl ?_) | (refine zso rfl (fun hb => ?_) (fun hb => ?_)) | ((first | refine zsq ?_ | refine andA ?_ | fail); conv => whnf) | ((refine And.intro (by refine ⟨?_, ?_, ?_⟩ <;> simp [zO, maxLen] <;> omega) ?_); conv => whnf) | (refine lnA fun hln => ?_; conv => whnf) | fail
         exact ⟨(i + 1, st ++ [(⟨v, v, 0⟩ : RangeT)]), ⟨by show i + 1 ≤ f.code.length; omega, by show Ht f (i + 1) (st ++ [(⟨v, v, 0⟩ : RangeT)]).length; rw [List.length_append]; exact hlf k3, hJ2, hE2, hx⟩, by show f.code.length - (i + 1) < f.code.length - i; omega, Imp.freeze 141 rfl ⟨⟨_, rfl, .inl rfl⟩, ⟨_, rfl, .inr ⟨_, rfl, zeh rfl, congrArg (fun l => AV.x (.d (.s 3 l))) (hz.trans (zdo rfl).symm)⟩⟩, ⟨_, rfl, .inl rfl⟩, ⟨_, rfl, .inl rfl⟩, ⟨_, rfl, .inl rfl⟩, trivial⟩ ⟨rfl, rfl, trivial⟩ rfl rfl⟩
       ·rw [hh1] at un hJ2 hE2 hx
        rw [decide_eq_false (by decide)] at un
        rcases Nat.eq_zero_or_pos st.length with hs0 | hs0
        ·obtain rfl := List.eq_nil_of_length_eq_zero hs0
         repeat' first | refine zd ?_ | refine zc ?_ | ((first | refine zf ?_ | refine zk ?_ | with_reducible refine regA ?_ | refine drA (id := 32) 5 true [0, 0, 3, 0, 8, 31, 63] ?_ | fail); conv => whnf) | exact abA hb | ((first | refine Or.inl (And.intro rfl ?_) | refine ⟨_, ze ⟨by omega, gn⟩, ?_⟩ | refine zsn (ro) ?_ | refine zsn (un) ?_ | refine zsn (g1) ?_ | refine zsp (g1) ?_ | refine pkA ?_ | fail); conv => whnf) | (refine zst rfl ?_) | (refine zss rfl ?_) | (refine zso rfl (fun hb => ?_) (fun hb => ?_)) | ((first | refine zsq ?_ | refine andA ?_ | fail); conv => whnf) | (refine lnA fun hln => ?_; conv => whnf) | fail
         exact ⟨(i + 1, [] ++ [(⟨v, v, 1⟩ : RangeT)]), ⟨by show i + 1 ≤ f.code.length; omega, by show Ht f (i + 1) ([] ++ [(⟨v, v, 1⟩ : RangeT)]).length; exact hlf k3, hJ2, hE2, hx⟩, by show f.code.length - (i + 1) < f.code.length - i; omega, impA⟩
        ·have hz : (st ++ [(⟨v, v, 1⟩ : RangeT)]).map rgPV = st.map rgPV ++ [rgPV ⟨v, v, 1⟩] := List.map_append
         repeat' first | refine zd ?_ | refine zc ?_ | ((first | refine zf ?_ | refine zk ?_ | with_reducible refine regA ?_ | refine drA (id := 32) 5 true [0, 0, 3, 0, 8, 31, 63] ?_ | fail); conv => whnf) | exact abA hb | ((refine Or.inr (And.intro (by rw [List.length_map]; omega) (And.intro (by rw [List.length_map]; refine ⟨?_, ?_⟩ <;> simp [maxLen] <;> omega) ?_))); conv => whnf) | ((first | refine ⟨_, ze ⟨by omega, gn⟩, ?_⟩ | refine zsn (ro) ?_ | refine zsn (un) ?_ | refine zsn (g1) ?_ | refine zsp (g1) ?_ | refine pkA ?_ | fail); conv => whnf) | (refine zst rfl ?_) | (refine zss rfl ?_) | (refine zso rfl (fun hb => ?_) (fun hb => ?_)) | ((first | refine zsq ?_ | refine andA ?_ | fail); conv => whnf) | ((refine And.intro (by refine ⟨?_, ?_, ?_⟩ <;> simp [zO, maxLen] <;> omega) ?_); conv => whnf) | (refine lnA fun hln => ?_; conv => whnf) | fail
         exact ⟨(i + 1, st ++ [(⟨v, v, 1⟩ : RangeT)]), ⟨by show i + 1 ≤ f.code.length; omega, by show Ht f (i + 1) (st ++ [(⟨v, v, 1⟩ : RangeT)]).length; rw [List.length_append]; exact hlf k3, hJ2, hE2, hx⟩, by show f.code.length - (i + 1) < f.code.length - i; omega, Imp.freeze 141 rfl ⟨⟨_, rfl, .inl rfl⟩, ⟨_, rfl, .inr ⟨_, rfl, zeh rfl, congrArg (fun l => AV.x (.d (.s 3 l))) (hz.trans (zdo rfl).symm)⟩⟩, ⟨_, rfl, .inl rfl⟩, ⟨_, rfl, .inl rfl⟩, ⟨_, rfl, .inl rfl⟩, trivial⟩ ⟨rfl, rfl, trivial⟩ rfl rfl⟩
     ·rw [decide_eq_true (by omega)] at ro
      rw [if_neg k3] at hx
      obtain ⟨q, hq, hh'⟩ := hop (by omega)
      obtain ⟨r, a, b, rfl, hr⟩ := zfT hq
      have hok := zqT (f := f) (by omega) (fun x hx => (hJ x hx).1) hE
      have ha := hok a (by simp)
      have hb2 := hok b (by simp)
      have rg := zlC f.code[i].kind a b (by omega) ha hb2 (hJ a (by simp)).2 (hJ b (by simp)).2
      dsimp only at hx
      have e1 : (r ++ [a, b]).getD ((r ++ [a, b]).length - 2) zaI = a := by simp [List.getD_eq_getElem?_getD]
      have e2 : (r ++ [a, b]).getD ((r ++ [a, b]).length - 1) zaI = b := by simp [List.getD_eq_getElem?_getD]
      have e3 : (r ++ [a, b]).take ((r ++ [a, b]).length - 2) = r := by simp
      rw [e1, e2, e3] at hx
      have hjl := zp7 f.code[i].kind a b
      have g1 := zgL (zT f.code[i].kind a b).lo
      have g2 := zgL (zT f.code[i].kind a b).hi
      have hnn := zqY (zC (zT f.code[i].kind a b).lo) (zC (zT f.code[i].kind a b).hi)
      have ga : ((r ++ [a, b]).map rgPV)[q]? = some (rgPV a) := zly (by rw [List.getElem?_append_right (by omega), hr]; simp)
      have gb : ((r ++ [a, b]).map rgPV)[q + 1]? = some (rgPV b) := zly (by rw [List.getElem?_append_right (by omega), hr]; simp)
      have hlen : ((r ++ [a, b]).map rgPV).length = q + 2 := by rw [List.length_map, hq]
      have htk : ((r ++ [a, b]).map rgPV).take q = r.map rgPV := by rw [List.map_append, List.take_left' (by rw [List.length_map, hr])]
      by_cases hg : zC (zT f.code[i].kind a b).lo = true ∨ zC (zT f.code[i].kind a b).hi = true
      ·rw [if_pos hg] at hx
       rw [zoU h0 h1 hbs hx]
       rw [show (zC (zT f.code[i].kind a b).lo || zC (zT f.code[i].kind a b).hi) = true by simpa using hg] at hnn
       have hsl : znI (r ++ [a, b]) = .x (.d (.s 3 ((r ++ [a, b]).map rgPV))) := rfl
       rw [hsl]
       generalize ((r ++ [a, b]).map rgPV) = xs at *
       have ga' : 0 ≤ (xs.length : Int) - 2 ∧ xs[((xs.length : Int) - 2).toNat]? = some (rgPV a) := ⟨by omega, by rw [show ((xs.length : Int) - 2).toNat = q by omega]; exact ga⟩
       have gb' : 0 ≤ (xs.length : Int) - 2 + 1 ∧ xs[((xs.length : Int) - 2 + 1).toNat]? = some (rgPV b) := ⟨by omega, by rw [show ((xs.length : Int) - 2 + 1).toNat = q + 1 by omega]; exact gb⟩
       generalize zT f.code[i].kind a b = x at *
       generalize zC x.lo = b1 at *
       generalize zC x.hi = b2 at *
       clear hok hE hJ
       repeat' first | refine zd ?_ | refine zc ?_ | ((first | refine zf ?_ | refine zk ?_ | refine zi ?_ | with_reducible refine regA ?_ | refine drA (id := 28) 11 false [0, 1, 0, 0, 12, 28, 0, 0, 128, 448, 960, 2047, 4095] ?_ | fail); conv => whnf) | exact abA hb | (refine za rfl (fun _ => ?_) (zaf hnn)) | ((first | refine ⟨_, ze ⟨by omega, gn⟩, ?_⟩ | refine zsn (ro) ?_ | refine ⟨_, ze ga', ?_⟩ | refine ⟨_, ze gb', ?_⟩ | refine zsn (rg) ?_ | refine zsn (g1) ?_ | refine zsp (g2) ?_ | refine pkA ?_ | fail); conv => whnf) | (refine zst rfl ?_) | (refine zso rfl (fun hb => ?_) (fun hb => ?_)) | ((first | refine zsq ?_ | refine andA ?_ | fail); conv => whnf) | (refine lnA fun hln => ?_; conv => whnf) | fail
       rfl
      ·rw [if_neg hg] at hx
       obtain ⟨j1, j2⟩ := zkj ha hb2 hg
       rw [not_or, Bool.not_eq_true, Bool.not_eq_true] at hg
       rw [hg.1, hg.2] at hnn
       rw [hg.1] at g1
       rw [hg.2] at g2
       have hJ2 : ∀ x ∈ r ++ [zT f.code[i].kind a b], lhR x ∧ x.lo ≤ x.hi := by intro x h; rcases List.mem_append.1 h with h | h; exact hJ x (by simp [h]); rw [List.mem_singleton.1 h]; exact ⟨j1, hjl⟩
       have hE2 : errS (r ++ [zT f.code[i].kind a b]) ≤ 8 * ((i + 1 : Nat) : Int) := by
        rw [zbn, zbL]
        rw [zbn, show ([a, b] : List RangeT) = [a] ++ [b] from rfl, zbn, zbL, zbL] at hE
        push_cast; omega
       generalize zT f.code[i].kind a b = x at *
       have hz : (r ++ [x]).map rgPV = r.map rgPV ++ [rgPV x] := List.map_append
       have hsl : znI (r ++ [a, b]) = .x (.d (.s 3 ((r ++ [a, b]).map rgPV))) := rfl
       rw [hsl]
       generalize ((r ++ [a, b]).map rgPV) = xs at *
       have ga' : 0 ≤ (xs.length : Int) - 2 ∧ xs[((xs.length : Int) - 2).toNat]? = some (rgPV a) := ⟨by omega, by rw [show ((xs.length : Int) - 2).toNat = q by omega]; exact ga⟩
       have gb' : 0 ≤ (xs.length : Int) - 2 + 1 ∧ xs[((xs.length : Int) - 2 + 1).toNat]? = some (rgPV b) := ⟨by omega, by rw [show ((xs.length : Int) - 2 + 1).toNat = q + 1 by omega]; exact gb⟩
       have hYe : (xs.take ((xs.length : Int) - 2).toNat).drop (Int.toNat 0) = r.map rgPV := by rw [show ((xs.length : Int) - 2).toNat = q by omega]; exact htk
       have hYl : ((xs.take ((xs.length : Int) - 2).toNat).drop (Int.toNat 0)).length = q := by rw [hYe, List.length_map, hr]
       rw [← hYe] at hz
       clear hok hE hJ hnn
       rcases Nat.eq_zero_or_pos q with hq0 | hq0
       ·have hY0 : ((xs.take ((xs.length : Int) - 2).toNat).drop (Int.toNat 0)).length = 0 := by rw [hYl, hq0]
        obtain rfl : r = [] := List.eq_nil_of_length_eq_zero (by omega)
        repeat' first | refine zd ?_ | refine zc ?_ | ((first | refine zf ?_ | refine zk ?_ | with_reducible refine regA ?_ | refine drA (id := 28) 11 false [0, 1, 0, 0, 12, 28, 0, 0, 128, 448, 960, 2047, 4095] ?_ | refine drA (id := 32) 5 true [0, 0, 3, 0, 8, 31, 63] ?_ | fail); conv => whnf) | exact abA hb | ((first | refine Or.inl (And.intro hY0 ?_) | refine ⟨_, ze ⟨by omega, gn⟩, ?_⟩ | refine zsn (ro) ?_ | refine ⟨_, ze ga', ?_⟩ | refine ⟨_, ze gb', ?_⟩ | refine zsn (rg) ?_ | refine zsn (g1) ?_ | refine zsp (g2) ?_ | refine pkA ?_ | fail); conv => whnf) | (refine zst rfl ?_) | (refine zss rfl ?_) | (refine zso rfl (fun hb => ?_) (fun hb => ?_)) | ((first | refine zsq ?_ | refine andA ?_ | fail); conv => whnf) | (refine lnA fun hln => ?_; conv => whnf) | fail
        exact ⟨(i + 1, [] ++ [x]), ⟨by show i + 1 ≤ f.code.length; omega, by show Ht f (i + 1) ([] ++ [x]).length; exact (show 0 + 1 = 1 from rfl) ▸ (by rw [hq0] at hh'; exact hh'), hJ2, hE2, hx⟩, by show f.code.length - (i + 1) < f.code.length - i; omega, impA⟩
       ·repeat' first | refine zd ?_ | refine zc ?_ | ((first | refine zf ?_ | refine zk ?_ | with_reducible refine regA ?_ | refine drA (id := 28) 11 false [0, 1, 0, 0, 12, 28, 0, 0, 128, 448, 960, 2047, 4095] ?_ | refine drA (id := 32) 5 true [0, 0, 3, 0, 8, 31, 63] ?_ | fail); conv => whnf) | exact abA hb | ((refine Or.inr (And.intro (by rw [hYl]; exact hq0) (And.intro (by rw [hYl]; refine ⟨?_, ?_⟩ <;> simp [maxLen] <;> omega) ?_))); conv => whnf) | ((first | refine ⟨_, ze ⟨by omega, gn⟩, ?_⟩ | refine zsn (ro) ?_ | refine ⟨_, ze ga', ?_⟩ | refine ⟨_, ze gb', ?_⟩ | refine zsn (rg) ?_ | refine zsn (g1) ?_ | refine zsp (g2) ?_ | refine pkA ?_ | fail); conv => whnf) | ((refine And.intro (by rw [hYl]; refine ⟨?_, ?_, ?_⟩ <;> simp [zO, maxLen] <;> omega) ?_); conv => whnf) | (refine zst rfl ?_) | (refine zss rfl ?_) | (refine zso rfl (fun hb => ?_) (fun hb => ?_)) | ((first | refine zsq ?_ | refine andA ?_ | fail); conv => whnf) | (refine lnA fun hln => ?_; conv => whnf) | fail
        exact ⟨(i + 1, r ++ [x]), ⟨by show i + 1 ≤ f.code.length; omega, by show Ht f (i + 1) (r ++ [x]).length; rw [List.length_append, hr]; exact hh', hJ2, hE2, hx⟩, by show f.code.length - (i + 1) < f.code.length - i; omega, Imp.freeze 141 rfl ⟨⟨_, rfl, .inl rfl⟩, ⟨_, rfl, .inr ⟨_, rfl, zeh rfl, congrArg (fun l => AV.x (.d (.s 3 l))) (hz.trans (zdo rfl).symm)⟩⟩, ⟨_, rfl, .inl rfl⟩, ⟨_, rfl, .inl rfl⟩, ⟨_, rfl, .inl rfl⟩, trivial⟩ ⟨rfl, rfl, trivial⟩ rfl rfl⟩
    ·have h1 := ziw hil hh
     obtain ⟨v, rfl⟩ : ∃ v, st = [v] := List.length_eq_one_iff.1 h1
     rw [List.drop_eq_nil_of_le hil, rngS] at hx
     rw [zoT h0 (by assumption) hbs hx]
     repeat' first | refine zd ?_ | refine zc ?_ | ((first | refine zf ?_ | refine zk ?_ | refine zi ?_ | with_reducible refine regA ?_ | fail); conv => whnf) | exact abA hb | ((refine ⟨_, ze ⟨by decide, rfl⟩, ?_⟩); conv => whnf) | (refine zso rfl (fun hb => ?_) (fun hb => ?_)) | ((refine andA ?_); conv => whnf) | (refine lnA fun hln => ?_; conv => whnf) | fail
     rfl
  ·have hct : (bif ((0 : Int) == 0) then (((spans.map spPV).length : Int) != ((f.vars.map zaa).length : Int)) else false) = true := by
    rw [hls, hlv]; show ((spans.length : Int) != (f.vars.length : Int)) = true; rw [bne_iff_ne]; omega
   have hr : z8 f spans = (zaI, 0, 2) := by unfold z8; rw [if_neg (by omega), if_pos h1]
   rw [hr]
   refine hdC Tryz.func26 Tryz.ntmps26 (res := [.cell 4 42, .tmp 5, .tmp 6]) fun w0 K0 => ?_
   repeat' first | refine zd ?_ | ((first | refine zi ?_ | with_reducible refine regA ?_ | fail); conv => whnf) | (refine za rfl (fun _ => ?_) (zaf hct)) | ((first | refine zsn (ck) ?_ | refine pkA ?_ | fail); conv => whnf) | (refine zst rfl ?_) | fail
   rfl
 ·have hr : z8 f spans = (zaI, 0, zD f) := by unfold z8; rw [if_pos h0]
  rw [hr]
  generalize zD f = e at *
  have hcf : (bif (e == 0) then (((spans.map spPV).length : Int) != ((f.vars.map zaa).length : Int)) else false) = false := by rw [beq_eq_false_iff_ne.2 h0]; rfl
  refine hdC Tryz.func26 Tryz.ntmps26 (res := [.cell 4 42, .tmp 5, .tmp 6]) fun w0 K0 => ?_
  repeat' first | refine zd ?_ | refine zc ?_ | ((first | refine zf ?_ | refine zi ?_ | with_reducible refine regA ?_ | fail); conv => whnf) | exact abA hb | (refine za rfl (zM hcf) (fun _ => ?_)) | ((first | refine zsn (ck) ?_ | refine pkA ?_ | fail); conv => whnf) | (refine zso rfl (fun hb => ?_) (fun hb => ?_)) | fail
  rfl
end Go.Proofs.YtmceekhgnfpamaaGreatDoor
namespace Go.Proofs.YtmceekhgnfpamaaGreatDoor
open Go Go.QL FoT
set_option maxHeartbeats 6400000
attribute [local irreducible] ACall FnC zbH zd0 zD zdU z8 zeL
theorem ztl (f : FormT) (words : List Int) (spans : List SpanT) : FnC Tryz.prog 4 [zaB f, sl words, .x (.d (zcS spans))] (bv true) := by
 have aw := zcK
 have e1 := znJ f words
 have e2 := zrE f words
 obtain ⟨⟨a, e⟩, ha⟩ : ∃ p, zdU f words = p := ⟨_, rfl⟩
 rw [ha] at e1 e2
 have g1 := zeg f spans
 have g2 := zqK f spans
 obtain ⟨⟨r, at_, er⟩, hr⟩ : ∃ p, z8 f spans = p := ⟨_, rfl⟩
 rw [hr] at g1 g2
 have hcf : (bif a != a then true else e != e) = false := by simp
 have hfin : (bif (bif (bif eqL [Value.int .i64 r.lo, Value.int .i64 r.hi, Value.int .i64 r.err] [Value.int .i64 r.lo, Value.int .i64 r.hi, Value.int .i64 r.err] then at_ == at_ else false) then er == er else false) then true else false) = true := by simp [eqL, zmL]
 dsimp only at e1 e2
 refine hdC Tryz.func4 Tryz.ntmps4 (res := [.tmp 6]) fun w0 K0 => ?_
 repeat' first | refine zd ?_ | refine zc ?_ | refine zA ?_ | ((first | refine zf ?_ | refine zB ?_ | refine zk ?_ | refine zi ?_ | with_reducible refine regA ?_ | fail); conv => whnf) | exact abA hb | (refine za rfl (zM hcf) (fun _ => ?_)) | ((first | refine zsn (e1) ?_ | refine zsp (e1) ?_ | refine zsr (e1) ?_ | refine zsn (e2) ?_ | refine zsp (e2) ?_ | refine zsr (e2) ?_ | refine zsn (g1) ?_ | refine zsp (g1) ?_ | refine zsr (g1) ?_ | refine zsn (g2) ?_ | refine zsp (g2) ?_ | refine zsr (g2) ?_ | refine zsn (aw) ?_ | refine zsp (aw) ?_ | refine zsr (aw) ?_ | refine pkA ?_ | fail); conv => whnf) | (refine zst rfl ?_) | (refine zss rfl ?_) | (refine zsu rfl ?_) | (refine zsv rfl ?_) | (refine zso rfl (fun hb => ?_) (fun hb => ?_)) | ((first | refine zsq ?_ | refine ⟨IntKind.wrap _ _, rfl, ?_⟩ | refine andA ?_ | with_reducible refine exA fun _ => ?_ | with_reducible refine And.intro (ze (And.intro (by omega) (And.intro (by first | omega | (simp only [List.length_map]; omega)) (by first | omega | (simp only [List.length_map]; omega) | (simp only [List.length_set, List.length_map]; omega))))) ?_ | with_reducible refine Exists.intro _ (And.intro (ze (zh (by omega) (by omega))) (And.intro (And.intro (Nat.le_of_ble_eq_true rfl) rfl) ?_)) | with_reducible refine Exists.intro _ (And.intro (ze (And.intro (by omega) (zh (by omega) (by omega)))) ?_) | with_reducible refine And.intro (And.intro (by omega) (And.intro (by first | omega | (simp only [List.length_map]; omega)) (by first | omega | (simp only [List.length_map, List.length_set]; omega)))) ?_ | with_reducible refine Exists.intro _ (And.intro (zh (by omega) (by omega)) (And.intro (Nat.le_of_ble_eq_true rfl) ?_)) | fail); conv => whnf) | ((refine And.intro (by refine ⟨?_, ?_, ?_⟩ <;> simp [zO, maxLen] <;> omega) ?_); conv => whnf) | (refine lnA fun hln => ?_; conv => whnf) | fail
 exact congrArg some (congrArg bv hfin)
end Go.Proofs.YtmceekhgnfpamaaGreatDoor
