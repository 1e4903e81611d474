/- The logic of walks, and what the functions of the program return: part 4. No condition. -/
import Derived.Test.YtmceekhgnfpamaaGreatDoorB03
import Derived.Shelf.Spec.SlicesGrow
set_option linter.all false
namespace Go.Proofs.YtmceekhgnfpamaaGreatDoor
open Go Go.QL FoT
set_option maxHeartbeats 3200000
attribute [local irreducible] ACall FnC fine ten zbx zav zaw
theorem zli (V : List Bs8) (i : Nat) : (PV.s 1 (List.drop (Int.toNat 0) (List.take ((i : Int)).toNat (V.map zaa)))) = zac (V.take i) := by
 unfold zac
 rw [List.map_take]
 simp
theorem bvE {a b : Bool} (h : a = b) : some (bv a) = some (bv b) := by rw [h]
theorem gcut {b c : Bool} (h0 : b = true) {P : Prop} : (!bif b then true else c) = true → P := fun e => by subst h0; cases e
theorem zhc {V : List Bs8} : ∀ (l seen : List Bs8), zaw seen l = none ∨ zaw seen l = some 6 ∨ zaw seen l = some 5
 | [], _ => .inl (by unfold zaw; rfl)
 | s :: r, seen => by
  unfold zaw
  split
  ·exact .inr (.inl rfl)
  ·split
   ·exact .inr (.inr rfl)
   ·exact zhc (V := V) r _
theorem ziO (f : FormT) : FnC Tryz.prog 20 [zaB f] (iv .i64 (zD f)) := by
 have hlv : (f.vars.map zaa).length = f.vars.length := List.length_map _
 have hlc : (f.code.map ndPV).length = f.code.length := List.length_map _
 have o1 := zaL ((f.code.map ndPV).length : Int) 1 40
 by_cases h0 : 8 < f.vars.length ∨ ¬ (1 ≤ f.code.length ∧ f.code.length ≤ 40)
 ·have hr : zD f = 3 := by unfold zD; rw [if_pos h0]
  rw [hr]
  by_cases h8 : 8 < f.vars.length
  ·generalize hob : outB ((f.code.map ndPV).length : Int) 1 40 = ob at o1
   have hc : (bif decide (((f.vars.map zaa).length : Int) > 8) then true else ob) = true := by rw [decide_eq_true (by omega)]; rfl
   refine hdC Tryz.func20 Tryz.ntmps20 (res := [.tmp 2]) fun w0 K0 => ?_
   repeat' first | refine zd ?_ | ((first | refine zi ?_ | refine regA ?_ | refine zsp (o1) ?_ | fail); conv => whnf) | (refine za rfl (fun _ => ?_) (zaf hc)) | ((refine andA ?_); conv => whnf) | (refine lnA fun hln => ?_; conv => whnf) | fail
   rfl
  ·have ho : outB ((f.code.map ndPV).length : Int) 1 40 = true := outB_true.2 (by omega)
   rw [ho] at o1
   have hc : (bif decide (((f.vars.map zaa).length : Int) > 8) then true else true) = true := by cases decide (((f.vars.map zaa).length : Int) > 8) <;> rfl
   refine hdC Tryz.func20 Tryz.ntmps20 (res := [.tmp 2]) fun w0 K0 => ?_
   repeat' first | refine zd ?_ | ((first | refine zi ?_ | refine regA ?_ | refine zsp (o1) ?_ | fail); conv => whnf) | (refine za rfl (fun _ => ?_) (zaf hc)) | ((refine andA ?_); conv => whnf) | (refine lnA fun hln => ?_; conv => whnf) | fail
   rfl
 ·have ho : outB ((f.code.map ndPV).length : Int) 1 40 = false := zQ.2 (by omega)
  rw [ho] at o1
  have hc : (bif decide (((f.vars.map zaa).length : Int) > 8) then true else false) = false := by rw [decide_eq_false (by omega)]; rfl
  have hv8 : f.vars.length ≤ 8 := by omega
  have hc40 : f.code.length ≤ 40 := by omega
  refine hdC Tryz.func20 Tryz.ntmps20 (res := [.tmp 2]) fun w0 K0 => ?_
  repeat' first | refine zd ?_ | refine zc ?_ | ((first | refine zf ?_ | refine regA ?_ | refine zsp (o1) ?_ | fail); conv => whnf) | (refine za rfl (zM hc) (fun _ => ?_)) | ((refine andA ?_); conv => whnf) | (refine lnA fun hln => ?_; conv => whnf) | fail
  refine zJ (fun i : Nat => [(24, iv .i64 i), (23, iv .i64 f.vars.length), (22, .x (.d (zac f.vars))), (1, .x (.b 1 0))]) (fun _ => [(1, .box (zb5 f))])
   (fun i => i ≤ f.vars.length ∧ zaw [] f.vars = zaw (f.vars.take i) (f.vars.drop i)) (fun i => f.vars.length - i) 0 ⟨Nat.zero_le _, by simp⟩ impA ?_
  rintro i ⟨hi, hz⟩
  rcases Nat.lt_or_ge i f.vars.length with hil | hil
  ·have nf := zl3 f.vars[i]
   have cf := zdW (f.vars.take i) f.vars[i]
   rw [← zli] at cf
   rw [List.drop_eq_getElem_cons hil] at hz
   cases hN : zbb f.vars[i] with
   | false =>
    have hr : zD f = 6 := by
     unfold zD
     rw [if_neg h0, hz, zaw, if_pos hN]
    rw [hr]
    rw [hN] at nf
    repeat' first | refine zd ?_ | refine zc ?_ | ((first | refine zf ?_ | refine zk ?_ | refine zi ?_ | refine regA ?_ | fail); conv => whnf) | exact abA hb | ((refine zsn (nf) ?_); conv => whnf) | (refine zst rfl ?_) | (refine zso rfl (fun hb => ?_) (fun hb => ?_)) | ((first | refine andA ?_ | with_reducible refine exA fun _ => ?_ | fail); conv => whnf) | fail
    rfl
   | true =>
    rw [hN] at nf
    by_cases hM : f.vars[i] ∈ f.vars.take i
    ·have hr : zD f = 5 := by
      unfold zD
      rw [if_neg h0, hz, zaw, if_neg (by rw [hN]; decide), if_pos hM]
     rw [hr]
     rw [decide_eq_true hM] at cf
     repeat' first | refine zd ?_ | refine zc ?_ | ((first | refine zf ?_ | refine zk ?_ | refine zi ?_ | refine regA ?_ | fail); conv => whnf) | exact abA hb | ((first | refine zsn (nf) ?_ | refine zsn (cf) ?_ | fail); conv => whnf) | (refine zst rfl ?_) | (refine zss rfl ?_) | (refine zso rfl (fun hb => ?_) (fun hb => ?_)) | ((first | refine andA ?_ | with_reducible refine exA fun _ => ?_ | fail); conv => whnf) | fail
     rfl
    ·have hz2 : zaw [] f.vars = zaw (f.vars.take (i + 1)) (f.vars.drop (i + 1)) := by
      rw [hz, zaw, if_neg (by rw [hN]; decide), if_neg hM, List.take_add_one, List.getElem?_eq_getElem hil]; rfl
     rw [decide_eq_false hM] at cf
     repeat' first | refine zd ?_ | refine zc ?_ | ((first | refine zf ?_ | refine zk ?_ | refine regA ?_ | fail); conv => whnf) | exact abA hb | ((first | refine zsn (nf) ?_ | refine zsn (cf) ?_ | fail); conv => whnf) | (refine zss rfl ?_) | (refine zso rfl (fun hb => ?_) (fun hb => ?_)) | ((first | refine zsq ?_ | refine andA ?_ | with_reducible refine exA fun _ => ?_ | fail); conv => whnf) | fail
     exact ⟨i + 1, ⟨by omega, hz2⟩, by omega, impA⟩
  ·have hv : zaw [] f.vars = none := by rw [hz, List.drop_eq_nil_of_le hil, zaw]
   obtain rfl : i = f.vars.length := by omega
   clear hz o1 hc ho
   repeat' first | refine zd ?_ | refine zc ?_ | ((first | refine zf ?_ | refine zk ?_ | refine regA ?_ | fail); conv => whnf) | exact abA hb | (refine zso rfl (fun hb => ?_) (fun hb => ?_)) | ((refine andA ?_); conv => whnf) | (refine lnA fun hln => ?_; conv => whnf) | fail
   refine zJ (fun x : Nat × CS => [(44, iv .i64 x.1), (43, iv .i64 f.code.length), (42, .x (.d (zS f.code))), (5, iv .i64 x.2.p), (6, iv .i64 x.2.u), (7, bv (!x.2.b)), (1, .x (.b 1 0))]) (fun _ => [(1, .box (zb5 f))])
    (fun x => x.1 ≤ f.code.length ∧ x.2.p ≤ 12 ∧ x.2.u ≤ x.1 ∧ CkR f x.1 x.2) (fun x => f.code.length - x.1) (0, ⟨0, 0, true⟩) ⟨Nat.zero_le _, Nat.zero_le _, Nat.zero_le _, rfl⟩ impA ?_
   rintro ⟨i, s⟩ ⟨hi, hp, hu, hz⟩
   dsimp only at hi hp hu hz ⊢
   have hv8i : (f.vars.map zaa).length ≤ 8 := by omega
   rcases Nat.lt_or_ge i f.code.length with hil | hil
   ·have stop := fun {e : Int} => zmX (e := e) hv h0 hil hz
    have next := fun {s' : CS} => zmY (s' := s') hil hz
    have pl := znH f.code[i]
    by_cases hk : 1 ≤ f.code[i].kind ∧ f.code[i].kind ≤ 5
    ·by_cases hf : fine f.vars.length f.code[i]
     ·have st := zhi (s := s) hk hf
      by_cases k1 : f.code[i].kind = 1
      ·have hodd := zrb (nv := f.vars.length) k1
       rw [decide_eq_true hf, ← hlv] at hodd
       have ou := zaL f.code[i].var 0 (((f.vars.map zaa).length : Int) - 1)
       rw [if_pos k1] at pl
       rw [if_neg (by omega), if_neg (by omega : ¬ (3 ≤ f.code[i].kind))] at st
       have hw : (bif (!s.b) then true else decide (f.code[i].var > (s.u : Int))) = !(s.b && !(decide (f.code[i].kind = 1) && decide ((s.u : Int) < f.code[i].var))) := by
        rw [decide_eq_true k1]; cases s.b <;> simp
       clear hz
       by_cases h12 : 12 < s.p + 1
       ·rw [if_pos h12] at st
        rw [stop st]
        repeat' first | refine zd ?_ | refine zc ?_ | ((first | refine zf ?_ | refine zk ?_ | refine zi ?_ | refine regA ?_ | refine drA (id := 15) 5 false [0, 1, 0, 4, 12, 31, 63] ?_ | fail); conv => whnf) | exact abA hb | ((first | refine zsp (pl) ?_ | refine zsp (ou) ?_ | fail); conv => whnf) | (refine za rfl (zM hodd) (fun _ => ?_)) | (refine zss rfl ?_) | (refine zso rfl (fun hb => ?_) (fun hb => ?_)) | ((first | refine zsq ?_ | refine andA ?_ | with_reducible refine exA fun _ => ?_ | fail); conv => whnf) | fail
        all_goals rfl
       ·rw [if_neg h12] at st
        by_cases hu1 : f.code[i].var = s.u
        ·rw [if_pos ⟨k1, hu1⟩] at st
         repeat' first | refine zd ?_ | refine zc ?_ | ((first | refine zf ?_ | refine zk ?_ | refine zi ?_ | refine regA ?_ | refine drA (id := 15) 5 false [0, 1, 0, 4, 12, 31, 63] ?_ | fail); conv => whnf) | exact abA hb | ((first | refine zsp (pl) ?_ | refine zsp (ou) ?_ | fail); conv => whnf) | (refine za rfl (zM hodd) (fun _ => ?_)) | (refine zss rfl ?_) | (refine zso rfl (fun hb => ?_) (fun hb => ?_)) | ((first | refine zsq ?_ | refine andA ?_ | with_reducible refine exA fun _ => ?_ | fail); conv => whnf) | fail
         exact ⟨(i + 1, _), ⟨by show i + 1 ≤ _; omega, by show s.p + 1 ≤ 12; omega, by show s.u + 1 ≤ i + 1; omega, next st⟩, by show f.code.length - (i + 1) < f.code.length - i; omega, (impX (by repeat' (first | exact trivial | refine And.intro ?_ ?_ | exact bvE hw | exact zsw)))⟩
        ·rw [if_neg (by omega)] at st
         repeat' first | refine zd ?_ | refine zc ?_ | ((first | refine zf ?_ | refine zk ?_ | refine zi ?_ | refine regA ?_ | refine drA (id := 15) 5 false [0, 1, 0, 4, 12, 31, 63] ?_ | fail); conv => whnf) | exact abA hb | ((first | refine zsp (pl) ?_ | refine zsp (ou) ?_ | fail); conv => whnf) | (refine za rfl (zM hodd) (fun _ => ?_)) | (refine zss rfl ?_) | (refine zso rfl (fun hb => ?_) (fun hb => ?_)) | ((first | refine zsq ?_ | refine andA ?_ | with_reducible refine exA fun _ => ?_ | fail); conv => whnf) | fail
         exact ⟨(i + 1, _), ⟨by show i + 1 ≤ _; omega, by show s.p + 1 ≤ 12; omega, by show s.u ≤ i + 1; omega, next st⟩, by show f.code.length - (i + 1) < f.code.length - i; omega, (impX (by repeat' (first | exact trivial | refine And.intro ?_ ?_ | exact bvE hw | exact zsw)))⟩
      ·clear st
       by_cases k2 : f.code[i].kind = 2
       ·obtain ⟨f1, f2, f3, f4⟩ := (zgA k2).1 hf
        obtain ⟨tg, t1, t2⟩ := zdk f2
        have o2 := zaL f.code[i].places 1 6
        have o3 := zaL f.code[i].num 0 (ten f.code[i] - 1)
        rw [zQ.2 f2] at o2
        rw [zQ.2 f3] at o3
        rw [if_neg k1, if_pos k2] at pl
        have st := zrT (s := s) k2 hf
        have hodd : (bif (bif (bif !(eqL [.int .i64 f.code[i].kind, .int .i64 f.code[i].var, .int .i64 0, .int .i64 0] [.int .i64 f.code[i].kind, .int .i64 0, .int .i64 0, .int .i64 0]) then true else false) then true else false) then true else bif decide (f.code[i].places > 1) then f.code[i].num.tmod 10 == 0 else false) = false := by
         rw [eqL4, f1]
         simp
         intro h5
         have := Int.tmod_eq_emod_of_nonneg f3.1 (b := 10)
         omega
        have hb0 : (!(eqL [.int .i64 f.code[i].kind, .int .i64 f.code[i].var, .int .i64 0, .int .i64 0] [.int .i64 f.code[i].kind, .int .i64 0, .int .i64 0, .int .i64 0])) = false := by rw [eqL4, f1]; simp
        clear hz
        by_cases h12 : 12 < s.p + 1
        ·rw [if_pos h12] at st
         rw [stop st]
         repeat' first | refine zd ?_ | refine zc ?_ | ((first | refine zf ?_ | refine zk ?_ | refine zi ?_ | refine regA ?_ | refine drA (id := 15) 5 false [0, 1, 0, 4, 12, 31, 63] ?_ | refine drA (id := 24) 14 false [0, 1, 3, 7, 15, 31, 63, 127, 255, 127, 127, 1151, 3711, 7807, 16383, 32767, 65535, 131071, 262143, 524287, 1048575, 2097151, 4194303, 8388607, 16777215, 33554431, 67108863, 134217727] ?_ | fail); conv => whnf) | exact abA hb | ((first | refine zsr (zdI) ?_ | refine ⟨f.code[i].num.tmod 10, rfl, ?_⟩ | refine zsp (pl) ?_ | refine zsr (o2) ?_ | refine zsp (o3) ?_ | fail); conv => whnf) | (refine za rfl (zM hodd) (fun _ => ?_)) | ((first | refine ⟨_, ze ⟨by omega, tg⟩, ?_⟩ | refine pkA ?_ | fail); conv => whnf) | (refine zss rfl ?_) | (refine zso rfl (fun hb => ?_) (fun hb => ?_)) | ((first | refine zsq ?_ | refine andA ?_ | with_reducible refine exA fun _ => ?_ | fail); conv => whnf) | fail
         rfl
        ·rw [if_neg h12] at st
         repeat' first | refine zd ?_ | refine zc ?_ | ((first | refine zf ?_ | refine zk ?_ | refine zi ?_ | refine regA ?_ | refine drA (id := 15) 5 false [0, 1, 0, 4, 12, 31, 63] ?_ | refine drA (id := 24) 14 false [0, 1, 3, 7, 15, 31, 63, 127, 255, 127, 127, 1151, 3711, 7807, 16383, 32767, 65535, 131071, 262143, 524287, 1048575, 2097151, 4194303, 8388607, 16777215, 33554431, 67108863, 134217727] ?_ | fail); conv => whnf) | exact abA hb | ((first | refine zsr (zdI) ?_ | refine ⟨f.code[i].num.tmod 10, rfl, ?_⟩ | refine zsp (pl) ?_ | refine zsr (o2) ?_ | refine zsp (o3) ?_ | fail); conv => whnf) | (refine za rfl (zM hodd) (fun _ => ?_)) | ((first | refine ⟨_, ze ⟨by omega, tg⟩, ?_⟩ | refine pkA ?_ | fail); conv => whnf) | (refine zss rfl ?_) | (refine zso rfl (fun hb => ?_) (fun hb => ?_)) | ((first | refine zsq ?_ | refine andA ?_ | with_reducible refine exA fun _ => ?_ | fail); conv => whnf) | fail
         exact ⟨(i + 1, _), ⟨by show i + 1 ≤ _; omega, by show s.p + 1 ≤ 12; omega, by show s.u ≤ i + 1; omega, next st⟩, by show f.code.length - (i + 1) < f.code.length - i; omega, impA⟩
       ·have hodd := zra (nv := f.vars.length) k1 k2
        rw [decide_eq_true hf] at hodd
        rw [if_neg k1, if_neg k2] at pl
        have st := zqJ (s := s) (by omega) hk.2 hp hf
        clear hz
        have hkk : f.code[i].kind = 3 ∨ f.code[i].kind = 4 ∨ f.code[i].kind = 5 := by omega
        by_cases hp2 : s.p < 2
        ·rw [if_pos hp2] at st
         rw [stop st]
         rcases hkk with hkk | hkk | hkk
         ·repeat' first | refine zd ?_ | refine zc ?_ | ((first | refine zf ?_ | refine zk ?_ | refine zi ?_ | refine regA ?_ | refine drA (id := 15) 5 false [0, 1, 0, 4, 12, 31, 63] ?_ | refine drA (id := 24) 14 false [0, 1, 3, 7, 15, 31, 63, 127, 255, 127, 127, 1151, 3711, 7807, 16383, 32767, 65535, 131071, 262143, 524287, 1048575, 2097151, 4194303, 8388607, 16777215, 33554431, 67108863, 134217727] ?_ | fail); conv => whnf) | exact abA hb | ((refine zsp (pl) ?_); conv => whnf) | (refine za rfl (zM hodd) (fun _ => ?_)) | (refine zso rfl (fun hb => ?_) (fun hb => ?_)) | ((first | refine zsq ?_ | refine andA ?_ | with_reducible refine exA fun _ => ?_ | fail); conv => whnf) | fail
          rfl
         ·repeat' first | refine zd ?_ | refine zc ?_ | ((first | refine zf ?_ | refine zk ?_ | refine zi ?_ | refine regA ?_ | refine drA (id := 15) 5 false [0, 1, 0, 4, 12, 31, 63] ?_ | refine drA (id := 24) 14 false [0, 1, 3, 7, 15, 31, 63, 127, 255, 127, 127, 1151, 3711, 7807, 16383, 32767, 65535, 131071, 262143, 524287, 1048575, 2097151, 4194303, 8388607, 16777215, 33554431, 67108863, 134217727] ?_ | fail); conv => whnf) | exact abA hb | ((refine zsp (pl) ?_); conv => whnf) | (refine za rfl (zM hodd) (fun _ => ?_)) | (refine zso rfl (fun hb => ?_) (fun hb => ?_)) | ((first | refine zsq ?_ | refine andA ?_ | with_reducible refine exA fun _ => ?_ | fail); conv => whnf) | fail
          rfl
         ·repeat' first | refine zd ?_ | refine zc ?_ | ((first | refine zf ?_ | refine zk ?_ | refine zi ?_ | refine regA ?_ | refine drA (id := 15) 5 false [0, 1, 0, 4, 12, 31, 63] ?_ | refine drA (id := 24) 14 false [0, 1, 3, 7, 15, 31, 63, 127, 255, 127, 127, 1151, 3711, 7807, 16383, 32767, 65535, 131071, 262143, 524287, 1048575, 2097151, 4194303, 8388607, 16777215, 33554431, 67108863, 134217727] ?_ | fail); conv => whnf) | exact abA hb | ((refine zsp (pl) ?_); conv => whnf) | (refine za rfl (zM hodd) (fun _ => ?_)) | (refine zso rfl (fun hb => ?_) (fun hb => ?_)) | ((first | refine zsq ?_ | refine andA ?_ | with_reducible refine exA fun _ => ?_ | fail); conv => whnf) | fail
          rfl
        ·rw [if_neg hp2] at st
         rcases hkk with hkk | hkk | hkk
         ·repeat' first | refine zd ?_ | refine zc ?_ | ((first | refine zf ?_ | refine zk ?_ | refine zi ?_ | refine regA ?_ | refine drA (id := 15) 5 false [0, 1, 0, 4, 12, 31, 63] ?_ | refine drA (id := 24) 14 false [0, 1, 3, 7, 15, 31, 63, 127, 255, 127, 127, 1151, 3711, 7807, 16383, 32767, 65535, 131071, 262143, 524287, 1048575, 2097151, 4194303, 8388607, 16777215, 33554431, 67108863, 134217727] ?_ | fail); conv => whnf) | exact abA hb | ((refine zsp (pl) ?_); conv => whnf) | (refine za rfl (zM hodd) (fun _ => ?_)) | (refine zso rfl (fun hb => ?_) (fun hb => ?_)) | ((first | refine zsq ?_ | refine andA ?_ | with_reducible refine exA fun _ => ?_ | fail); conv => whnf) | fail
          exact ⟨(i + 1, _), ⟨by show i + 1 ≤ _; omega, by show s.p - 2 + 1 ≤ 12; omega, by show s.u ≤ i + 1; omega, next st⟩, by show f.code.length - (i + 1) < f.code.length - i; omega, impA⟩
         ·repeat' first | refine zd ?_ | refine zc ?_ | ((first | refine zf ?_ | refine zk ?_ | refine zi ?_ | refine regA ?_ | refine drA (id := 15) 5 false [0, 1, 0, 4, 12, 31, 63] ?_ | refine drA (id := 24) 14 false [0, 1, 3, 7, 15, 31, 63, 127, 255, 127, 127, 1151, 3711, 7807, 16383, 32767, 65535, 131071, 262143, 524287, 1048575, 2097151, 4194303, 8388607, 16777215, 33554431, 67108863, 134217727] ?_ | fail); conv => whnf) | exact abA hb | ((refine zsp (pl) ?_); conv => whnf) | (refine za rfl (zM hodd) (fun _ => ?_)) | (refine zso rfl (fun hb => ?_) (fun hb => ?_)) | ((first | refine zsq ?_ | refine andA ?_ | with_reducible refine exA fun _ => ?_ | fail); conv => whnf) | fail
          exact ⟨(i + 1, _), ⟨by show i + 1 ≤ _; omega, by show s.p - 2 + 1 ≤ 12; omega, by show s.u ≤ i + 1; omega, next st⟩, by show f.code.length - (i + 1) < f.code.length - i; omega, impA⟩
         ·repeat' first | refine zd ?_ | refine zc ?_ | ((first | refine zf ?_ | refine zk ?_ | refine zi ?_ | refine regA ?_ | refine drA (id := 15) 5 false [0, 1, 0, 4, 12, 31, 63] ?_ | refine drA (id := 24) 14 false [0, 1, 3, 7, 15, 31, 63, 127, 255, 127, 127, 1151, 3711, 7807, 16383, 32767, 65535, 131071, 262143, 524287, 1048575, 2097151, 4194303, 8388607, 16777215, 33554431, 67108863, 134217727] ?_ | fail); conv => whnf) | exact abA hb | ((refine zsp (pl) ?_); conv => whnf) | (refine za rfl (zM hodd) (fun _ => ?_)) | (refine zso rfl (fun hb => ?_) (fun hb => ?_)) | ((first | refine zsq ?_ | refine andA ?_ | with_reducible refine exA fun _ => ?_ | fail); conv => whnf) | fail
          exact ⟨(i + 1, _), ⟨by show i + 1 ≤ _; omega, by show s.p - 2 + 1 ≤ 12; omega, by show s.u ≤ i + 1; omega, next st⟩, by show f.code.length - (i + 1) < f.code.length - i; omega, impA⟩
     ·have hr := stop (zjY hk hf)
      rw [hr]
      clear hz
      by_cases k1 : f.code[i].kind = 1
      ·have hodd := zrb (nv := f.vars.length) k1
       rw [decide_eq_false hf, ← hlv] at hodd
       have ou := zaL f.code[i].var 0 (((f.vars.map zaa).length : Int) - 1)
       rw [if_pos k1] at pl
       repeat' first | refine zd ?_ | refine zc ?_ | ((first | refine zf ?_ | refine zk ?_ | refine zi ?_ | refine regA ?_ | refine drA (id := 15) 5 false [0, 1, 0, 4, 12, 31, 63] ?_ | fail); conv => whnf) | exact abA hb | ((first | refine zsp (pl) ?_ | refine zsp (ou) ?_ | fail); conv => whnf) | (refine za rfl (fun _ => ?_) (zaf hodd)) | (refine zso rfl (fun hb => ?_) (fun hb => ?_)) | ((first | refine zsq ?_ | refine andA ?_ | with_reducible refine exA fun _ => ?_ | fail); conv => whnf) | fail
       all_goals rfl
      ·by_cases k2 : f.code[i].kind = 2
       ·rw [if_neg k1, if_pos k2] at pl
        have o2 := zaL f.code[i].places 1 6
        by_cases f1 : f.code[i].var = 0
        ·have hb0 : (!(eqL [.int .i64 f.code[i].kind, .int .i64 f.code[i].var, .int .i64 0, .int .i64 0] [.int .i64 f.code[i].kind, .int .i64 0, .int .i64 0, .int .i64 0])) = false := by rw [eqL4, f1]; simp
         by_cases f2 : 1 ≤ f.code[i].places ∧ f.code[i].places ≤ 6
         ·obtain ⟨tg, t1, t2⟩ := zdk f2
          rw [zQ.2 f2] at o2
          have o3 := zaL f.code[i].num 0 (ten f.code[i] - 1)
          have hodd : (bif (bif (bif !(eqL [.int .i64 f.code[i].kind, .int .i64 f.code[i].var, .int .i64 0, .int .i64 0] [.int .i64 f.code[i].kind, .int .i64 0, .int .i64 0, .int .i64 0]) then true else false) then true else outB f.code[i].num 0 (ten f.code[i] - 1)) then true else bif decide (f.code[i].places > 1) then f.code[i].num.tmod 10 == 0 else false) = true := by
           rw [hb0]
           by_cases f3 : 0 ≤ f.code[i].num ∧ f.code[i].num ≤ ten f.code[i] - 1
           ·rw [zQ.2 f3]
            have f4 : ¬ (f.code[i].places ≤ 1 ∨ f.code[i].num % 10 ≠ 0) := fun e => hf ((zgA k2).2 ⟨f1, f2, f3, e⟩)
            have := Int.tmod_eq_emod_of_nonneg f3.1 (b := 10)
            have e1 : decide (f.code[i].places > 1) = true := decide_eq_true (by omega)
            have e2 : (f.code[i].num.tmod 10 == 0) = true := beq_iff_eq.2 (by omega)
            rw [e1, e2]; rfl
           ·rw [outB_true.2 f3]; rfl
          generalize outB f.code[i].num 0 (ten f.code[i] - 1) = b3 at o3 hodd
          repeat' first | refine zd ?_ | refine zc ?_ | ((first | refine zf ?_ | refine zk ?_ | refine zi ?_ | refine regA ?_ | refine drA (id := 15) 5 false [0, 1, 0, 4, 12, 31, 63] ?_ | refine drA (id := 24) 14 false [0, 1, 3, 7, 15, 31, 63, 127, 255, 127, 127, 1151, 3711, 7807, 16383, 32767, 65535, 131071, 262143, 524287, 1048575, 2097151, 4194303, 8388607, 16777215, 33554431, 67108863, 134217727] ?_ | fail); conv => whnf) | exact abA hb | ((first | refine zsr (zdI) ?_ | refine ⟨f.code[i].num.tmod 10, rfl, ?_⟩ | refine zsp (pl) ?_ | refine zsr (o2) ?_ | refine zsp (o3) ?_ | fail); conv => whnf) | (refine za rfl (fun _ => ?_) (zaf hodd)) | ((first | refine ⟨_, ze ⟨by omega, tg⟩, ?_⟩ | refine pkA ?_ | fail); conv => whnf) | (refine zso rfl (fun hb => ?_) (fun hb => ?_)) | ((first | refine zsq ?_ | refine andA ?_ | with_reducible refine exA fun _ => ?_ | fail); conv => whnf) | fail
          rfl
         ·rw [outB_true.2 f2] at o2
          have o3 := fun k => zaL f.code[i].num 0 k
          have hodd : ∀ b1 b2, (bif (bif (bif !(eqL [.int .i64 f.code[i].kind, .int .i64 f.code[i].var, .int .i64 0, .int .i64 0] [.int .i64 f.code[i].kind, .int .i64 0, .int .i64 0, .int .i64 0]) then true else true) then true else b1) then true else b2) = true := by
           rw [hb0]; intros; rfl
          repeat' first | refine zd ?_ | refine zc ?_ | ((first | refine zf ?_ | refine zk ?_ | refine zi ?_ | refine regA ?_ | refine drA (id := 15) 5 false [0, 1, 0, 4, 12, 31, 63] ?_ | refine drA (id := 24) 14 false [0, 1, 3, 7, 15, 31, 63, 127, 255, 127, 127, 1151, 3711, 7807, 16383, 32767, 65535, 131071, 262143, 524287, 1048575, 2097151, 4194303, 8388607, 16777215, 33554431, 67108863, 134217727] ?_ | fail); conv => whnf) | exact abA hb | ((first | refine zsr (zdI) ?_ | refine ⟨f.code[i].num.tmod 10, rfl, ?_⟩ | refine zsp (pl) ?_ | refine zsr (o2) ?_ | refine zsp ((o3 _)) ?_ | fail); conv => whnf) | (refine za rfl (fun _ => ?_) (zaf (hodd _ _))) | ((first | refine ⟨.d (.v (.int .i64 1)), zax (fun h => absurd h (by rw [hb0]; decide)), ?_⟩ | refine pkA ?_ | fail); conv => whnf) | (refine zso rfl (fun hb => ?_) (fun hb => ?_)) | ((first | refine zsq ?_ | refine andA ?_ | with_reducible refine exA fun _ => ?_ | fail); conv => whnf) | fail
          rfl
        ·have hb0 : (!(eqL [.int .i64 f.code[i].kind, .int .i64 f.code[i].var, .int .i64 0, .int .i64 0] [.int .i64 f.code[i].kind, .int .i64 0, .int .i64 0, .int .i64 0])) = true := by rw [eqL4]; simp [f1]
         have o3 := fun k => zaL f.code[i].num 0 k
         have hodd : ∀ b0 b1 b2, (bif (bif (bif !(eqL [.int .i64 f.code[i].kind, .int .i64 f.code[i].var, .int .i64 0, .int .i64 0] [.int .i64 f.code[i].kind, .int .i64 0, .int .i64 0, .int .i64 0]) then true else b0) then true else b1) then true else b2) = true := by
           rw [hb0]; intros; rfl
         repeat' first | refine zd ?_ | refine zc ?_ | ((first | refine zf ?_ | refine zk ?_ | refine zi ?_ | refine regA ?_ | refine drA (id := 15) 5 false [0, 1, 0, 4, 12, 31, 63] ?_ | refine drA (id := 24) 14 false [0, 1, 3, 7, 15, 31, 63, 127, 255, 127, 127, 1151, 3711, 7807, 16383, 32767, 65535, 131071, 262143, 524287, 1048575, 2097151, 4194303, 8388607, 16777215, 33554431, 67108863, 134217727] ?_ | fail); conv => whnf) | exact abA hb | ((first | refine zsr (zdI) ?_ | refine ⟨f.code[i].num.tmod 10, rfl, ?_⟩ | refine zsp (pl) ?_ | refine zsr (o2) ?_ | refine zsp ((o3 _)) ?_ | fail); conv => whnf) | (refine za rfl (fun _ => ?_) (zaf (hodd _ _ _))) | ((first | refine ⟨.d (.v (.int .i64 1)), zax (gcut hb0), ?_⟩ | refine pkA ?_ | fail); conv => whnf) | (refine zso rfl (fun hb => ?_) (fun hb => ?_)) | ((first | refine zsq ?_ | refine andA ?_ | with_reducible refine exA fun _ => ?_ | fail); conv => whnf) | fail
         rfl
       ·have hodd := zra (nv := f.vars.length) k1 k2
        rw [decide_eq_false hf] at hodd
        rw [if_neg k1, if_neg k2] at pl
        have hkk : f.code[i].kind = 3 ∨ f.code[i].kind = 4 ∨ f.code[i].kind = 5 := by omega
        rcases hkk with hkk | hkk | hkk
        ·repeat' first | refine zd ?_ | refine zc ?_ | ((first | refine zf ?_ | refine zk ?_ | refine zi ?_ | refine regA ?_ | refine drA (id := 15) 5 false [0, 1, 0, 4, 12, 31, 63] ?_ | refine drA (id := 24) 14 false [0, 1, 3, 7, 15, 31, 63, 127, 255, 127, 127, 1151, 3711, 7807, 16383, 32767, 65535, 131071, 262143, 524287, 1048575, 2097151, 4194303, 8388607, 16777215, 33554431, 67108863, 134217727] ?_ | fail); conv => whnf) | exact abA hb | ((refine zsp (pl) ?_); conv => whnf) | (refine za rfl (fun _ => ?_) (zaf hodd)) | (refine zso rfl (fun hb => ?_) (fun hb => ?_)) | ((first | refine zsq ?_ | refine andA ?_ | with_reducible refine exA fun _ => ?_ | fail); conv => whnf) | fail
         rfl
        ·repeat' first | refine zd ?_ | refine zc ?_ | ((first | refine zf ?_ | refine zk ?_ | refine zi ?_ | refine regA ?_ | refine drA (id := 15) 5 false [0, 1, 0, 4, 12, 31, 63] ?_ | refine drA (id := 24) 14 false [0, 1, 3, 7, 15, 31, 63, 127, 255, 127, 127, 1151, 3711, 7807, 16383, 32767, 65535, 131071, 262143, 524287, 1048575, 2097151, 4194303, 8388607, 16777215, 33554431, 67108863, 134217727] ?_ | fail); conv => whnf) | exact abA hb | ((refine zsp (pl) ?_); conv => whnf) | (refine za rfl (fun _ => ?_) (zaf hodd)) | (refine zso rfl (fun hb => ?_) (fun hb => ?_)) | ((first | refine zsq ?_ | refine andA ?_ | with_reducible refine exA fun _ => ?_ | fail); conv => whnf) | fail
         rfl
        ·repeat' first | refine zd ?_ | refine zc ?_ | ((first | refine zf ?_ | refine zk ?_ | refine zi ?_ | refine regA ?_ | refine drA (id := 15) 5 false [0, 1, 0, 4, 12, 31, 63] ?_ | refine drA (id := 24) 14 false [0, 1, 3, 7, 15, 31, 63, 127, 255, 127, 127, 1151, 3711, 7807, 16383, 32767, 65535, 131071, 262143, 524287, 1048575, 2097151, 4194303, 8388607, 16777215, 33554431, 67108863, 134217727] ?_ | fail); conv => whnf) | exact abA hb | ((refine zsp (pl) ?_); conv => whnf) | (refine za rfl (fun _ => ?_) (zaf hodd)) | (refine zso rfl (fun hb => ?_) (fun hb => ?_)) | ((first | refine zsq ?_ | refine andA ?_ | with_reducible refine exA fun _ => ?_ | fail); conv => whnf) | fail
         rfl
    ·have hr := stop (zjZ hk)
     rw [hr]
     clear hz
     rw [if_neg (by omega), if_neg (by omega)] at pl
     repeat' first | refine zd ?_ | refine zc ?_ | ((first | refine zf ?_ | refine zk ?_ | refine zi ?_ | refine regA ?_ | refine drA (id := 15) 5 false [0, 1, 0, 4, 12, 31, 63] ?_ | refine drA (id := 24) 14 false [0, 1, 3, 7, 15, 31, 63, 127, 255, 127, 127, 1151, 3711, 7807, 16383, 32767, 65535, 131071, 262143, 524287, 1048575, 2097151, 4194303, 8388607, 16777215, 33554431, 67108863, 134217727] ?_ | fail); conv => whnf) | exact abA hb | ((refine zsp (pl) ?_); conv => whnf) | (refine zso rfl (fun hb => ?_) (fun hb => ?_)) | ((first | refine andA ?_ | with_reducible refine exA fun _ => ?_ | fail); conv => whnf) | fail
     rfl
   ·have hfin : zD f = if s.p ≠ 1 then 6 else if s.b = false ∨ s.u < f.vars.length then 2 else 0 := by
     unfold CkR at hz
     unfold zD
     rw [if_neg h0, hv]
     dsimp only
     rw [hz, List.drop_eq_nil_of_le hil, zav]
    rw [hfin]
    clear hz hfin hv
    by_cases hp1 : s.p = 1
    ·rw [if_neg (by omega)]
     cases hsb : s.b with
     | false =>
      rw [if_pos (.inl rfl)]
      have hc : ∀ b : Bool, (bif (!s.b) then true else b) = true := by rw [hsb]; intro b; rfl
      repeat' first | refine zd ?_ | refine zc ?_ | ((first | refine zf ?_ | refine zk ?_ | refine zi ?_ | refine regA ?_ | fail); conv => whnf) | exact abA hb | (refine zst rfl ?_) | (refine zso rfl (fun hb => ?_) (fun hb => ?_)) | ((refine andA ?_); conv => whnf) | fail
      rfl
     | true =>
      by_cases hul : s.u < f.vars.length
      ·rw [if_pos (.inr hul)]
       have hc : (bif (!s.b) then true else decide ((s.u : Int) < ((f.vars.map zaa).length : Int))) = true := by rw [hsb, decide_eq_true (by omega)]; rfl
       repeat' first | refine zd ?_ | refine zc ?_ | ((first | refine zf ?_ | refine zk ?_ | refine zi ?_ | refine regA ?_ | fail); conv => whnf) | exact abA hb | (refine zso rfl (fun hb => ?_) (fun hb => ?_)) | ((refine andA ?_); conv => whnf) | fail
       rfl
      ·rw [if_neg (by simp; omega)]
       have hc : (bif (!s.b) then true else decide ((s.u : Int) < ((f.vars.map zaa).length : Int))) = false := by rw [hsb, decide_eq_false (by omega)]; rfl
       repeat' first | refine zd ?_ | refine zc ?_ | ((first | refine zf ?_ | refine zk ?_ | refine zi ?_ | refine regA ?_ | fail); conv => whnf) | exact abA hb | (refine zso rfl (fun hb => ?_) (fun hb => ?_)) | ((refine andA ?_); conv => whnf) | fail
       rfl
    ·rw [if_pos (by omega)]
     repeat' first | refine zd ?_ | refine zc ?_ | ((first | refine zf ?_ | refine zk ?_ | refine zi ?_ | refine regA ?_ | fail); conv => whnf) | exact abA hb | (refine zso rfl (fun hb => ?_) (fun hb => ?_)) | fail
     rfl
end Go.Proofs.YtmceekhgnfpamaaGreatDoor
namespace Go.QL
open Go Go.RowKit
def LeC : List SV → List SV → Prop
 | [], [] => True
 | s :: r, t :: q => LeSV s t ∧ LeC r q
 | _, _ => False
def LeW1 : AV → AV → Prop
 | .x s, .x t => LeSV s t
 | .a cs, .a ds => LeC cs ds
 | _, _ => False
def LeW2 : List AV → List AV → Prop
 | [], [] => True
 | x :: r, y :: q => LeW1 x y ∧ LeW2 r q
 | _, _ => False
def LeW : AV → AV → Prop
 | .t xs, .t ys => LeW2 xs ys
 | x, y => LeW1 x y
section
variable {P : Program} {σ : Sg} {g : Gh} {w : World}
theorem LeC.get : ∀ {cs ds : List SV}, LeC cs ds → cs.length = ds.length ∧ ∀ (i : Nat) (t : SV), ds[i]? = some t → ∃ s, cs[i]? = some s ∧ LeSV s t
 | [], [], _ => ⟨rfl, fun i t h => by simp at h⟩
 | s :: r, t :: q, h => by
  obtain ⟨e, ih⟩ := LeC.get h.2
  refine ⟨by simp [e], fun i z hi => ?_⟩
  cases i with
  | zero => cases hi; exact ⟨s, rfl, h.1⟩
  | succ i => exact ih i z hi
 | [], _ :: _, h => h.elim
 | _ :: _, [], h => h.elim
theorem LeW2.get : ∀ {cs ds : List AV}, LeW2 cs ds → cs.length = ds.length ∧ ∀ (i : Nat) (t : AV), ds[i]? = some t → ∃ s, cs[i]? = some s ∧ LeW1 s t
 | [], [], _ => ⟨rfl, fun i t h => by simp at h⟩
 | s :: r, t :: q, h => by
  obtain ⟨e, ih⟩ := LeW2.get h.2
  refine ⟨by simp [e], fun i z hi => ?_⟩
  cases i with
  | zero => cases hi; exact ⟨s, rfl, h.1⟩
  | succ i => exact ih i z hi
 | [], _ :: _, h => h.elim
 | _ :: _, [], h => h.elim
theorem LeW1.ok {x y : AV} (h : LeW1 x y) {v : Value} (hv : VR1 σ g w x v) : VR1 σ g w y v := by
 cases x with
 | x s =>
  cases y with
  | x t => exact LeSV.ok h hv
  | _ => exact h.elim
 | a cs =>
  cases y with
  | a ds =>
   obtain ⟨vs, rfl, hs, hr⟩ := hv
   obtain ⟨e, hg⟩ := LeC.get h
   exact ⟨vs, rfl, by omega, fun i t u hi hu => let ⟨s, h1, h2⟩ := hg i t hi; h2.ok (hr i s u h1 hu)⟩
  | _ => exact h.elim
 | t _ => exact h.elim
 | g _ _ => exact h.elim
theorem LeW.ok {x y : AV} (h : LeW x y) {v : Value} (hv : VR2 σ g w x v) : VR2 σ g w y v := by
 cases x with
 | x s =>
  cases y with
  | x t => exact LeW1.ok (x := .x s) (y := .x t) h hv
  | _ => exact h.elim
 | a cs =>
  cases y with
  | a ds => exact LeW1.ok (x := .a cs) (y := .a ds) h hv
  | _ => exact h.elim
 | t xs =>
  cases y with
  | t ys =>
   obtain ⟨vs, rfl, hs, hr⟩ := hv
   obtain ⟨e, hg⟩ := LeW2.get h
   exact ⟨vs, rfl, by omega, fun i t u hi hu => let ⟨s, h1, h2⟩ := hg i t hi; h2.ok (hr i s u h1 hu)⟩
  | _ => exact h.elim
 | g _ _ =>
  cases y with
  | g _ _ => exact h.elim
  | _ => exact h.elim
theorem ACall.leW {f : FuncId} {args : List AV} {R R' : AV → Sg → Prop} (h : ACall P f args σ R) (hr : ∀ r σ', R r σ' → ∃ r', LeW r r' ∧ R' r' σ') : ACall P f args σ R' :=
 ⟨h.1, fun w0 K0 g w vs hL hp hs hv => (h.2 w0 K0 g w vs hL hp hs hv).mono fun e w' ⟨v, g', σ', r, a, b, c, d⟩ => let ⟨r', l, d'⟩ := hr r σ' d; ⟨v, g', σ', r', a, b, l.ok c, d'⟩⟩
theorem zfd {f : FuncId} {args : List AV} {r : AV} (h : ACall P f args [] fun r' σ' => r' = r ∧ σ' = []) : FnC P f args r := by
 refine ⟨h.1, fun K w vs hL hK hs hv => ?_⟩
 have hp : Hp w ⟨K, (· < w.heap.size)⟩ [] ⟨K, fun _ => undef⟩ w := ⟨.refl _ _, fun _ h => h, .refl _ _, fun _ _ _ h => h, hK, (fun id ob hid => by cases hid), (fun id b hi => by cases hi), (fun i j b hi => by cases hi)⟩
 refine (h.2 w ⟨K, (· < w.heap.size)⟩ ⟨K, fun _ => undef⟩ w vs hL hp hs hv).mono ?_
 rintro e w' ⟨v, g', σ', r', rfl, hd, hv, rfl, rfl⟩
 refine ⟨v, g'.K, rfl, hd.hp.kept.below, hd.hp.ext, fun b o hb hk => hd.hp.old b o hb hk, hd.hp.val, ?_⟩
 exact VR2.keep (fun s u hs => SR.keep (σ := []) (σ' := []) (g := g') (g' := ⟨g'.K, fun _ => undef⟩) ⟨fun _ cs h => (by cases h), fun _ _ _ _ xs h => (by cases h), fun _ o h => (by cases h)⟩ (Ext.refl _ _) hs) hv
end
end Go.QL
namespace Go.QL
open Go Go.RowKit
def FzSV (c sz st : Nat) (xs : List (List PV)) (s s' : SV) : Prop := s = s' ∨ ∃ n, s = .o c st n ∧ n ≤ xs.length ∧ s' = .d (.s sz (xs.take n))
def zjP (c sz st : Nat) (xs : List (List PV)) : List SV → List SV → Prop
 | [], [] => True
 | s :: r, s' :: r' => FzSV c sz st xs s s' ∧ zjP c sz st xs r r'
 | _, _ => False
def FzOb (c sz st : Nat) (xs : List (List PV)) (o o' : Ob) : Prop := o = o' ∨ ∃ cs cs', o = .box cs ∧ o' = .box cs' ∧ zjP c sz st xs cs cs'
def FzS (c sz st : Nat) (xs : List (List PV)) (σ : Sg) : Sg → Prop
 | [] => True
 | (i, o') :: r => (∃ o, lk i σ = some o ∧ FzOb c sz st xs o o') ∧ FzS c sz st xs σ r
theorem zg6 {c sz st : Nat} {xs : List (List PV)} {σ : Sg} : ∀ {σ' : Sg}, FzS c sz st xs σ σ' → ∀ t v', lk t σ' = some v' → ∃ v, lk t σ = some v ∧ FzOb c sz st xs v v'
 | [], _, t, v, h => by cases h
 | (s, x) :: r, hs, t, v, h => by
  rw [zr] at h
  by_cases e : s = t
  ·subst e; rw [if_pos rfl] at h; cases h; exact hs.1
  ·rw [if_neg e] at h; exact zg6 hs.2 t v h
theorem zgy {c sz st : Nat} {xs : List (List PV)} : ∀ {cs cs' : List SV}, zjP c sz st xs cs cs' → cs.length = cs'.length ∧ ∀ (i : Nat) (s' : SV), cs'[i]? = some s' → ∃ s, cs[i]? = some s ∧ FzSV c sz st xs s s'
 | [], [], _ => ⟨rfl, fun i s h => by simp at h⟩
 | s :: r, s' :: r', h => by
  obtain ⟨h1, h2⟩ := zgy h.2
  refine ⟨by simp [h1], fun i x hx => ?_⟩
  cases i with
  | zero => cases hx; exact ⟨s, rfl, h.1⟩
  | succ i => exact h2 i x hx
 | [], _ :: _, h => h.elim
 | _ :: _, [], h => h.elim
section
variable {P : Program} {Γ : Cx} {fr fr' : Fr} {σ σ' : Sg} {g : Gh} {a : Act} {w : World} {Q : Exit → Fr → Sg → Prop}
theorem Imp.freezeB {fr' : Fr} {σ' : Sg} (c : Nat) {ce sz st : Nat} {xs : List (List PV)} (hc : lk c σ = some (.chain ce sz st xs)) (hf : FzF c sz st xs fr fr') (hs : FzS c sz st xs σ σ') (hn : lk c σ' = none)
  (hr : (rsFr σ' fr' && rsSg σ' σ') = true) (hB : zbC Γ.ids σ' = true := by rfl) (hD : ziL Γ.dfs σ σ' = true := by rfl) : Imp Γ fr σ fr' σ' := by
 intro g a w hrel
 simp only [Bool.and_eq_true] at hr
 let K' : Nat → Nat → Prop := fun b o => g.K b o ∨ (blk (g.μ c) = some b ∧ b < w.heap.size)
 let g' : Gh := ⟨K', g.μ⟩
 have hext : Ext g.K w K' w := ⟨fun _ _ h => .inl h, fun _ _ _ => rfl⟩
 have hbox : ∀ i cs, lk i σ = some (.box cs) → (lk i σ').isSome → ∃ cs', lk i σ' = some (.box cs') := by
  intro i cs hi hi'
  obtain ⟨o', ho'⟩ := Option.isSome_iff_exists.1 hi'
  obtain ⟨o, ho, hnl⟩ := zg6 hs i o' ho'
  rw [hi] at ho; cases ho
  rcases hnl with rfl | ⟨cs1, cs', h1, h2, _⟩
  ·exact ⟨cs, ho'⟩
  ·simp_all
 have hch : ∀ i e0 sz0 st xs, lk i σ = some (.chain e0 sz0 st xs) → (lk i σ').isSome → lk i σ' = some (.chain e0 sz0 st xs) := by
  intro i e0 sz0 st xs hi hi'
  obtain ⟨o', ho'⟩ := Option.isSome_iff_exists.1 hi'
  obtain ⟨o, ho, hnl⟩ := zg6 hs i o' ho'
  rw [hi] at ho; cases ho
  rcases hnl with rfl | ⟨cs1, cs', h1, _⟩
  ·exact ho'
  ·cases h1
 have hoth : ∀ i o, lk i σ = some (.x o) → (lk i σ').isSome → lk i σ' = some (.x o) := by
  intro i o hi hi'
  obtain ⟨o', ho'⟩ := Option.isSome_iff_exists.1 hi'
  obtain ⟨o1, ho, hnl⟩ := zg6 hs i o' ho'
  rw [hi] at ho; cases ho
  rcases hnl with rfl | ⟨cs1, cs', h1, _⟩
  ·exact ho'
  ·cases h1
 have sr1 : ∀ s v, rs1 σ' s = true → SR σ g w s v → SR σ' g' w s v := by
  intro s v hrs hv
  have up : ∀ i, (lk i σ).isSome → (lk i σ').isSome = true → (lk i σ').isSome ∧ g'.μ i = g.μ i := fun i hi hi' => by
   exact ⟨hi', rfl⟩
  cases hv with
  | d x v h => exact .d x v (h.mono hext)
  | old c0 st n e0 sz0 st' xs v hl hlt h1 =>
   have hs0 : (lk c0 σ).isSome := by rw [hl]; rfl
   obtain ⟨h2, h3⟩ := up c0 hs0 hrs
   exact .old c0 st n e0 sz0 st' xs v (hch _ _ _ _ _ hl h2) hlt h1
  | o c0 st n e0 sz0 xs a cap hl hn hμ =>
   have hs0 : (lk c0 σ).isSome := by rw [hl]; rfl
   obtain ⟨h2, h3⟩ := up c0 hs0 hrs
   exact .o c0 st n e0 sz0 xs a cap (hch _ _ _ _ _ hl h2) hn (by rw [h3, hμ])
  | b id off cs k hl hμ =>
   have hs0 : (lk id σ).isSome := by rw [hl]; rfl
   obtain ⟨h2, h3⟩ := up id hs0 hrs
   obtain ⟨cs', hcs'⟩ := hbox _ _ hl h2
   exact .b id off cs' k (hcs') (by rw [h3, hμ])
  | se e off k l vs h1 h2 h3 => exact .se e off k l vs (fun j hj => .inl (h1 j hj)) h2 (fun j x hj => (h3 j x hj).mono hext)
  | oeold c0 st i off e0 sz0 st' xs v hl hlt h1 =>
   have hs0 : (lk c0 σ).isSome := by rw [hl]; rfl
   obtain ⟨h2, h3⟩ := up c0 hs0 hrs
   exact .oeold c0 st i off e0 sz0 st' xs v (hch _ _ _ _ _ hl h2) hlt h1
  | oe c0 st i off e0 sz0 xs k cap hl hμ =>
   have hs0 : (lk c0 σ).isSome := by rw [hl]; rfl
   obtain ⟨h2, h3⟩ := up c0 hs0 hrs
   exact .oe c0 st i off e0 sz0 xs k cap (hch _ _ _ _ _ hl h2) (by rw [h3, hμ])
  | f => cases hrs
  | j v h1 => exact .j v h1
  | h id o k hl hμ =>
   have hs0 : (lk id σ).isSome := by rw [hl]; rfl
   obtain ⟨h2, h3⟩ := up id hs0 hrs
   exact .h id o k (hoth _ _ hl h2) (by rw [h3, hμ])
  | sb id off n cap cs k hl hμ hn hcc =>
   have hs0 : (lk id σ).isSome := by rw [hl]; rfl
   obtain ⟨h2, h3⟩ := up id hs0 hrs
   obtain ⟨cs', hcs'⟩ := hbox _ _ hl h2
   exact .sb id off n cap cs' k (hcs') (by rw [h3, hμ]) hn hcc
 have sr : ∀ s v, rsSV σ' s = true → SR σ g w s v → SR σ' g' w s v := by
  intro s v hrs hv
  cases s with
  | f fn a b =>
   simp only [rsSV, Bool.and_eq_true, List.all_eq_true] at hrs
   cases hv with
   | f _ _ _ v1 v2 h1 h2 r1 r2 =>
    exact .f fn a b v1 v2 h1 h2 (fun i s v hi hv => sr1 _ _ (hrs.1 s (List.mem_of_getElem? hi)) (r1 i s v hi hv)) (fun i s v hi hv => sr1 _ _ (hrs.2 s (List.mem_of_getElem? hi)) (r2 i s v hi hv))
  | d x => exact sr1 _ _ hrs hv
  | o c st n => exact sr1 _ _ hrs hv
  | b id off => exact sr1 _ _ hrs hv
  | se e off => exact sr1 _ _ hrs hv
  | oe c st i off => exact sr1 _ _ hrs hv
  | j => exact sr1 _ _ hrs hv
  | h id => exact sr1 _ _ hrs hv
  | sb id off n cap => exact sr1 _ _ hrs hv
 have srfz : ∀ n v, n ≤ xs.length → SR σ g w (.o c st n) v → SR σ' g' w (.d (.s sz (xs.take n))) v := fun n v hn hv =>
  Imp.freeze.freeze_one (a := { a with tmps := #[v] }) (t := 0) (σ' := σ') hrel.hp hc hn hv
 have vr1 : ∀ x v, zec σ' x = true → VR1 σ g w x v → VR1 σ' g' w x v := by
  intro x v hrs hv
  cases x with
  | x s => exact sr _ _ hrs hv
  | a cs =>
   obtain ⟨vs, rfl, hl, hr⟩ := hv
   simp only [zec, List.all_eq_true] at hrs
   exact ⟨vs, rfl, hl, fun i s u hi hu => sr _ _ (hrs s (List.mem_of_getElem? hi)) (hr i s u hi hu)⟩
  | _ => exact hv.elim
 have vr2 : ∀ x v, zeR σ' x = true → VR2 σ g w x v → VR2 σ' g' w x v := by
  intro x v hrs hv
  cases x with
  | t xs =>
   obtain ⟨vs, rfl, hl, hr⟩ := hv
   simp only [zeR, List.all_eq_true] at hrs
   exact ⟨vs, rfl, hl, fun i s u hi hu => vr1 _ _ (hrs s (List.mem_of_getElem? hi)) (hr i s u hi hu)⟩
  | x s => exact vr1 (.x s) _ hrs hv
  | a cs => exact vr1 (.a cs) _ hrs hv
  | g _ _ => exact hv.elim
 have vr : ∀ x v, rsAV σ' x = true → VR σ g w x v → VR σ' g' w x v := by
  intro x v hrs hv
  cases x with
  | g c0 y => exact ⟨fun hc0 => vr2 _ _ hrs (hv.1 hc0), hv.2⟩
  | x s => exact vr2 (.x s) _ hrs hv
  | a cs => exact vr2 (.a cs) _ hrs hv
  | t xs => exact vr2 (.t xs) _ hrs hv
 have upI : ∀ i, (lk i σ).isSome → i ∈ Γ.ids → (lk i σ').isSome ∧ g'.μ i = g.μ i := fun i hi hi' => ⟨zbJ hB hi', rfl⟩
 have srI : ∀ s v, SR σ g w s v → InI Γ.ids s → SR σ' g' w s v := by
  intro s v hv
  induction hv with
  | d x v h => exact fun _ => .d x v (h.mono hext)
  | old c0 st n e0 sz0 st' xs v hl hlt h1 =>
   intro h; cases h with
   | o _ _ _ h =>
    have hs0 : (lk c0 σ).isSome := by rw [hl]; rfl
    obtain ⟨h2, h3⟩ := upI c0 hs0 h
    exact .old c0 st n e0 sz0 st' xs v (hch _ _ _ _ _ hl h2) hlt h1
  | o c0 st n e0 sz0 xs a cap hl hn hμ =>
   intro h; cases h with
   | o _ _ _ h =>
    have hs0 : (lk c0 σ).isSome := by rw [hl]; rfl
    obtain ⟨h2, h3⟩ := upI c0 hs0 h
    exact .o c0 st n e0 sz0 xs a cap (hch _ _ _ _ _ hl h2) hn (by rw [h3, hμ])
  | b id off cs k hl hμ =>
   intro h; cases h with
   | b _ _ h =>
    have hs0 : (lk id σ).isSome := by rw [hl]; rfl
    obtain ⟨h2, h3⟩ := upI id hs0 h
    obtain ⟨cs', hcs'⟩ := hbox _ _ hl h2
    exact .b id off cs' k (hcs') (by rw [h3, hμ])
  | se e off k l vs h1 h2 h3 => exact fun _ => .se e off k l vs (fun j hj => .inl (h1 j hj)) h2 (fun j x hj => (h3 j x hj).mono hext)
  | oeold c0 st i off e0 sz0 st' xs v hl hlt h1 =>
   intro h; cases h with
   | oe _ _ _ _ h =>
    have hs0 : (lk c0 σ).isSome := by rw [hl]; rfl
    obtain ⟨h2, h3⟩ := upI c0 hs0 h
    exact .oeold c0 st i off e0 sz0 st' xs v (hch _ _ _ _ _ hl h2) hlt h1
  | oe c0 st i off e0 sz0 xs k cap hl hμ =>
   intro h; cases h with
   | oe _ _ _ _ h =>
    have hs0 : (lk c0 σ).isSome := by rw [hl]; rfl
    obtain ⟨h2, h3⟩ := upI c0 hs0 h
    exact .oe c0 st i off e0 sz0 xs k cap (hch _ _ _ _ _ hl h2) (by rw [h3, hμ])
  | f fn a b v1 v2 h1 h2 _ _ ih1 ih2 =>
   intro h
   cases h with
   | f _ _ _ k1 k2 => exact .f fn a b v1 v2 h1 h2 (fun i s v hi hv => ih1 i s v hi hv (k1 s (List.mem_of_getElem? hi))) (fun i s v hi hv => ih2 i s v hi hv (k2 s (List.mem_of_getElem? hi)))
  | j v h1 => exact fun _ => .j v h1
  | h id o k hl hμ =>
   intro h; cases h with
   | h _ h =>
    have hs0 : (lk id σ).isSome := by rw [hl]; rfl
    obtain ⟨h2, h3⟩ := upI id hs0 h
    exact .h id o k (hoth _ _ hl h2) (by rw [h3, hμ])
  | sb id off n cap cs k hl hμ hn hcc =>
   intro h; cases h with
   | sb _ _ _ _ h =>
    have hs0 : (lk id σ).isSome := by rw [hl]; rfl
    obtain ⟨h2, h3⟩ := upI id hs0 h
    obtain ⟨cs', hcs'⟩ := hbox _ _ hl h2
    exact .sb id off n cap cs' k (hcs') (by rw [h3, hμ]) hn hcc
 have ins : ∀ i, (lk i σ').isSome → (lk i σ).isSome := fun i hi => by
  obtain ⟨o', ho'⟩ := Option.isSome_iff_exists.1 hi
  obtain ⟨o, ho, _⟩ := zg6 hs i o' ho'
  rw [ho]; rfl
 have hap : ∀ i, (lk i σ').isSome → ∀ b, blk (g.μ i) = some b → blk (g.μ c) ≠ some b := by
  intro i hi b hb hb'
  have := hrel.hp.inj i c b (ins i hi) (by rw [hc]; rfl) hb hb'
  simp_all
 have hK : ∀ id ob b, lk id σ' = some ob → blk (g.μ id) = some b → (∀ o, ¬ g.K b o) → ∀ o, ¬ K' b o :=
  fun id ob b hid hb hk o h => h.elim (hk o) (fun h => hap id (by rw [hid]; rfl) b hb h.1)
 refine ⟨g', ⟨⟨hrel.hp.kept, hrel.hp.flt, hrel.hp.ext.trans hext, ?_, ?_, ?_, fun i b hi hb => hrel.hp.own i b (ins i hi) hb, fun i j b hi hj => hrel.hp.inj i j b (ins i hi) (ins j hj)⟩, ?_, hrel.size,
  hrel.defers.map (fun i d hi hl hμ => ⟨hoth _ _ hl (zfE hD hi hl ▸ rfl), hμ⟩), fun s v hb => ⟨srI _ _ (hrel.base s v hb).1 (hrel.base s v hb).2, (hrel.base s v hb).2⟩⟩⟩
 ·intro b o hb hk
  rcases hk with hk | ⟨hk, _⟩
  ·exact hrel.hp.old b o hb hk
  ·exact absurd hb (hrel.hp.own c b (by rw [hc]; rfl) hk)
 ·intro b o hk
  rcases hk with hk | ⟨_, hk⟩
  ·exact hrel.hp.val b o hk
  ·exact hk
 ·intro id ob hid
  obtain ⟨o, ho, hnl⟩ := zg6 hs id ob hid
  have hO := hrel.hp.obs id o ho
  cases ob with
  | x o1 =>
   have : o = .x o1 := by
    rcases hnl with h | ⟨cs1, cs', _, h2, _⟩
    ·exact h
    ·cases h2
   subst this
   have hrb := za2 hr.2 _ _ hid
   obtain ⟨b, k1, k2, k3, k4⟩ := hO
   refine ⟨b, k1, k2, ?_, hK _ _ b hid (by rw [k1]; rfl) k4⟩
   cases o1 with
   | map kt kvs => obtain ⟨es, h1, h2, h3, h4⟩ := k3; exact ⟨es, h1, h2, fun i k x hi => let ⟨e, a, c, d, f⟩ := h3 i k x hi; ⟨e, a, c, d, vr1 _ _ (zeb (h4.2.2 i k x hi)) f⟩, h4⟩
   | mapIter m since seen last =>
    cases m with
    | some m => obtain ⟨mb, h1, h2⟩ := k3; exact ⟨mb, h1, sr1 (.h m) _ hrb h2⟩
    | none => exact k3
   | strIter s pos => exact k3
   | loop st pend params assign body nt fr dfr =>
    simp only [rsOb, rsO2, Bool.and_eq_true] at hrb
    obtain ⟨f, tmps, d, h1, h2, h3, h4⟩ := k3
    exact ⟨f, tmps, d, h1, h2, fun t v ht => ⟨(h3 t v ht).1, vr _ _ (zaO hrb.1 t v ht) (h3 t v ht).2⟩, sr1 (.h dfr) _ hrb.2 h4⟩
   | dfr => exact k3
  | chain e0 sz0 st0 xs0 =>
   have : o = .chain e0 sz0 st0 xs0 := by
    rcases hnl with h | ⟨cs1, cs', _, h2, _⟩
    ·exact h
    ·cases h2
   subst this
   obtain ⟨vs, h1, h2, h3, h4, h5⟩ := hO
   exact ⟨vs, h1, h2, h3, fun i x hi j p hp => let ⟨v, q, r⟩ := h4 i x hi j p hp; ⟨v, q, r.mono hext⟩, fun b hb => hK _ _ b hid hb (h5 b hb)⟩
  | box cs' =>
   have hrb := za2 hr.2 _ _ hid
   simp only [rsOb, List.all_eq_true] at hrb
   rcases hnl with h | ⟨cs, cs1, h1, h2, h3⟩
   ·subst h
    obtain ⟨b, vs, T, k1, k2, k3, k4, k5, k6⟩ := hO
    exact ⟨b, vs, T, k1, k2, k3, k4, fun i s hi => let ⟨v, p, q⟩ := k5 i s hi; ⟨v, p, sr _ _ (hrb s (List.mem_of_getElem? hi)) q⟩, hK _ _ b hid (by rw [k1]; rfl) k6⟩
   ·subst h1; cases h2
    obtain ⟨b, vs, T, k1, k2, k3, k4, k5, k6⟩ := hO
    obtain ⟨hl, hg⟩ := zgy h3
    refine ⟨b, vs, T, k1, k2, k3, by rw [k4, hl], fun i s hi => ?_, hK _ _ b hid (by rw [k1]; rfl) k6⟩
    obtain ⟨s0, hs0, hnl0⟩ := hg i s hi
    obtain ⟨v, p, q⟩ := k5 i s0 hs0
    refine ⟨v, p, ?_⟩
    rcases hnl0 with rfl | ⟨n, rfl, hn1, rfl⟩
    ·grind
    ·exact srfz _ _ hn1 q
 ·intro t v' ht
  obtain ⟨v, hv, hnl⟩ := zm7 hf t v' ht
  obtain ⟨hlt, hvr⟩ := hrel.fr t v hv
  refine ⟨hlt, ?_⟩
  rcases hnl with rfl | ⟨n, rfl, hn1, rfl⟩
  ·exact vr _ _ (zaO hr.1 t v ht) hvr
  ·exact srfz _ _ hn1 hvr
end
end Go.QL
namespace FoT
theorem zja (i : Nat) (cur : Option (Nat × Bs8)) (c : UInt8) (r : Bs8) : tk i cur (c :: r) = if zaM c then tk (i + 1) (match cur with | none => some (i, [c]) | some p => some (p.1, p.2 ++ [c])) r else zc7 cur ++ (if c = 32 then [] else [(i, [c])]) ++ tk (i + 1) none r := by
 cases cur <;> rw [tk]
theorem zhf : ∀ (l : Bs8) (i : Nat) (cur : Option (Nat × Bs8)), ∃ p a, tk i cur l = p ++ [(a, [])]
 | [], i, cur => ⟨zc7 cur, i, by rw [tk]⟩
 | c :: r, i, cur => by
  rw [zja]
  by_cases h : zaM c
  ·rw [if_pos h]
   cases cur with
   | none => exact zhf r (i + 1) _
   | some q => exact zhf r (i + 1) _
  ·rw [if_neg h]
   obtain ⟨p, a, hp⟩ := zhf r (i + 1) none
   exact ⟨zc7 cur ++ (if c = 32 then [] else [(i, [c])]) ++ p, a, by rw [hp]; simp⟩
def curN : Option (Nat × Bs8) → Nat
 | none => 0
 | some _ => 1
def curL : Option (Nat × Bs8) → Nat
 | none => 0
 | some p => p.2.length
theorem ziz : ∀ cur, (zc7 cur).length = curN cur
 | none => rfl
 | some _ => rfl
theorem zfk : ∀ (l : Bs8) (i : Nat) (cur : Option (Nat × Bs8)), (tk i cur l).length ≤ l.length + 1 + curN cur
 | [], i, cur => by
  rw [tk, List.length_append, ziz]
  simp only [List.length_cons, List.length_nil]
  omega
 | c :: r, i, cur => by
  rw [zja]
  by_cases h : zaM c
  ·rw [if_pos h]
   cases cur with
   | none =>
    have := zfk r (i + 1) (some (i, [c]))
    simp only [curN, List.length_cons] at this ⊢
    omega
   | some q =>
    have := zfk r (i + 1) (some (q.1, q.2 ++ [c]))
    simp only [curN, List.length_cons] at this ⊢
    omega
  ·rw [if_neg h]
   have := zfk r (i + 1) none
   have h1 : (if c = 32 then [] else [(i, [c])] : List (Nat × Bs8)).length ≤ 1 := by split <;> simp
   rw [List.length_append, List.length_append, ziz]
   simp only [curN, List.length_cons] at this ⊢
   omega
theorem zhe : ∀ (l : Bs8) (i : Nat) (cur : Option (Nat × Bs8)), ∀ p ∈ tk i cur l, p.2.length ≤ l.length + curL cur
 | [], i, cur, p, hp => by
  rw [tk, List.mem_append] at hp
  rcases hp with hp | hp
  ·cases cur with
   | none => simp [zc7] at hp
   | some q => simp [zc7] at hp; subst hp; simp [curL]
  ·simp at hp; subst hp; simp
 | c :: r, i, cur, p, hp => by
  rw [zja] at hp
  by_cases h : zaM c
  ·rw [if_pos h] at hp
   cases cur with
   | none =>
    have := zhe r (i + 1) (some (i, [c])) p hp
    simp only [curL, List.length_cons, List.length_nil] at this ⊢
    omega
   | some q =>
    have := zhe r (i + 1) (some (q.1, q.2 ++ [c])) p hp
    simp only [curL, List.length_cons, List.length_nil, List.length_append] at this ⊢
    omega
  ·rw [if_neg h, List.mem_append, List.mem_append] at hp
   rcases hp with (hp | hp) | hp
   ·cases cur with
    | none => simp [zc7] at hp
    | some q => simp [zc7] at hp; subst hp; simp [curL]
   ·split at hp
    ·simp at hp
    ·simp at hp; subst hp; simp; omega
   ·have := zhe r (i + 1) none p hp
    simp only [curL, List.length_cons] at this ⊢
    omega
theorem zqD {s : Bs8} (h : s.length ≤ 600) : RInv 2000 ⟨tk 0 none s, [], []⟩ := by
 have h1 := zfk s 0 none
 simp only [curN] at h1
 refine ⟨zhf s 0 none, fun p hp => ?_, by dsimp only [List.length_nil]; omega, by dsimp only [List.length_nil]; omega⟩
 have := zhe s 0 none p hp
 simp only [curL] at this
 omega
end FoT
namespace Go.Proofs.YtmceekhgnfpamaaGreatDoor
open Go Go.QL Go.RowKit FoT
set_option maxHeartbeats 3200000
attribute [local irreducible] ACall FnC YC FnP PCall AWx EndX zm8 zD sumM
theorem zmC : ∃ ms, Tryz.prog.underlying 20 = some (.interface ms) := ⟨_, Tryz.underlying20⟩
theorem zlB (σ : Sg) (hs : SubS σ σ) (hc : (rsSg σ σ && zbC (σ.map (·.1)) σ) = true) : zm8 Tryz.prog 44 ([].map AV.x ++ [SV.b 2 0, SV.b 3 0, SV.b 4 0].map .x) σ .returning (fun u' σ' => u' = .returning ∧ σ' = σ) := by
 refine zcR hTt .none rfl Tryz.func44 rfl rfl rfl (by kernel_rfl) (res := []) rfl Tryz.ntmps44 (by simp) fun w0 K0 B => ?_
 conv => whnf
 repeat' first | ((with_reducible refine zH hTt (id := 1) ?_); conv => whnf) | refine zd ?_ | ((refine zf ?_); conv => whnf) | (refine And.intro zmC ?_; conv => whnf) | (refine zss rfl ?_) | fail
 exact ⟨_, σ, hs, hc, rfl, rfl, rfl⟩
abbrev resF (a b : PV) (c d : PV) : Sg := [(4, .box [.d a]), (3, .box [.d b]), (2, .box [.d c, .d d])]
theorem zpB (k : Nat) (a b c d : PV) : zm8 Tryz.prog 44 ([].map AV.x ++ [SV.b 2 0, SV.b 3 0, SV.b 4 0].map .x) (resF a b c d) (.panicking [{ v := errA k, recovered := false }])
  (fun u' σ' => u' = .panicking [{ v := errA k, recovered := true }] ∧ σ' = resF (.v (.int .i64 6)) (.v (.int .i64 k)) (.v (.slice none 0 0)) (.v (.slice none 0 0))) := by
 refine zcR hTt (.some _) rfl Tryz.func44 rfl rfl rfl (by kernel_rfl) (res := []) rfl Tryz.ntmps44 (by simp) fun w0 K0 B => ?_
 conv => whnf
 repeat' first | (with_reducible exact trivial) | (exact impA) | ((with_reducible refine And.intro (b := allN _ _ _) ?_ ?_) <;> conv => whnf) | ((refine zoL hTt hMix (id := 2) [0, 0, 2, 1, 15, 31] (by kernel_rfl) [] (resF (.v (.int .i64 6)) (.v (.int .i64 k)) (.v (.slice none 0 0)) (.v (.slice none 0 0))) ?_ ?_) <;> conv => whnf) | ((with_reducible refine zH hTt (id := 1) ?_); conv => whnf) | refine zd ?_ | (refine And.intro zmC ?_; conv => whnf) | (refine And.intro zfF ?_; conv => whnf) | (refine And.intro (rfl : _ = 3) ?_; conv => whnf) | (refine zst rfl ?_) | ((refine andA ?_); conv => whnf) | fail
 exact ⟨_, resF (.v (.int .i64 6)) (.v (.int .i64 k)) (.v (.slice none 0 0)) (.v (.slice none 0 0)), ⟨rfl, rfl, rfl, trivial⟩, rfl, rfl, rfl, rfl⟩
def RdF (s : Bs8) (r : AV) (σ' : Sg) : Prop := LeW r (.t [zaB (zbH s).1, iv .i64 (zbH s).2.1, iv .i64 (zbH s).2.2]) ∧ σ' = []
theorem zkp (s : Bs8) (k : Nat) (hR : zbH s = (zdw, (k : Int), 6)) (a b c d : PV) {fr : Fr} {τ : Sg} (hf : SubF fr [(4, .x (.b 4 0)), (3, .x (.b 3 0)), (2, .x (.b 2 0))]) (hs : SubS τ (resF a b c d)) :
  zhL Tryz.prog Tt [.cell 2 25, .cell 3 3, .cell 4 26] [] [4, 3, 2] [931] (RdF s) 44 [] [.b 2 0, .b 3 0, .b 4 0] (.panicking [{ v := errA k, recovered := false }]) fr τ := by
 refine ⟨_, _, hf, hs, by kernel_rfl, _, zpB .., ?_⟩
 rintro _ _ ⟨rfl, rfl⟩
 refine ⟨rfl, .t [.a [.d (.v (.slice none 0 0)), .d (.v (.slice none 0 0))], iv .i64 k, iv .i64 6], [], trivial, rfl, rfl, ?_, rfl⟩
 rw [hR]
 exact ⟨⟨.inr ⟨rfl, _, rfl⟩, .inr ⟨rfl, _, rfl⟩, trivial⟩, .inl rfl, .inl rfl, trivial⟩
def StpR (P : Program) (Γ : Cx) (c : Code) (Q : Exit → Fr → Sg → Prop) (fr : Fr) (σ : Sg) : Prop := AW P Γ c Q fr σ
theorem StpR.at10 {P : Program} {Γ : Cx} {y : Code} {ops : Array Oper} {b : Bool} {Q : Exit → Fr → Sg → Prop} {fr : Fr} {σ : Sg} (h : StpR P Γ (.seq (.region 10 ops b) y) Q fr σ) : AW P Γ (.seq (.region 10 ops b) y) Q fr σ := h
attribute [irreducible] StpR
def finF : Except Nat PS → FormT × Int × Int
 | .error a => (zdw, (a : Int), 6)
 | .ok st => match st.toks with
  | (a, _) :: _ :: _ => (zdw, (a : Int), 6)
  | _ => if zD ⟨st.vars, st.code⟩ = 0 then (⟨st.vars, st.code⟩, 0, 0) else (zdw, 0, 3)
theorem bxT {a b : PV} {c d n m : Nat} (h : n = m) : some (Ob.box [.d a, .d b, .o c n n, .o d n n]) = some (Ob.box [.d a, .d b, .o c m m, .o d m m]) := by rw [h]
theorem chT {e sz n m : Nat} {xs ys : List (List PV)} (h : n = m) (k : xs = ys) : some (Ob.chain e sz n xs) = some (Ob.chain e sz m ys) := by rw [h, k]
theorem zkX (s : Bs8) : ACall Tryz.prog 15 [sv (bs s)] [] (RdF s) := by
 have hsz := zbj s
 refine zi0 [931] Tryz.func15 rfl (by kernel_rfl) Tryz.ntmps15 (by simp) fun w0 K0 g w hL => ?_
 dsimp only [entry]
 refine zm9 (Q := zk6 Tt [.cell 2 25, .cell 3 3, .cell 4 26] [] [931] (RdF s)) ?_ (fun e fr τ g' a' w' hr hq => zg8 (σ := []) (res := [.cell 2 25, .cell 3 3, .cell 4 26]) (dfs := [931]) hTt (by rfl) hr hq)
 repeat' first | ((refine regA ?_); conv => whnf) | fail
 refine zm9 (Q := zk6 Tt [.cell 2 25, .cell 3 3, .cell 4 26] [] [931] (RdF s)) ?_ (fun e fr τ g' a' w' hr hq => zg8 (σ := []) (res := [.cell 2 25, .cell 3 3, .cell 4 26]) (dfs := [931]) hTt (by rfl) hr hq)
 repeat' first | refine zd ?_ | ((first | refine zf ?_ | refine zi ?_ | refine regA ?_ | fail); conv => whnf) | (refine zso rfl (fun hb => ?_) (fun hb => ?_)) | fail
 ·have hR : zbH s = (zdw, 0, 3) := by
   unfold zbH
   rw [if_pos (by omega)]
  refine ⟨[(4, .x (.b 4 0)), (3, .x (.b 3 0)), (2, .x (.b 2 0))], resF (.v (.int .i64 3)) (.v (.int .i64 0)) (.v (.slice none 0 0)) (.v (.slice none 0 0)), ⟨rfl, rfl, rfl, trivial⟩, ⟨rfl, rfl, rfl, trivial⟩, rfl, .t [.a [.d (.v (.slice none 0 0)), .d (.v (.slice none 0 0))], iv .i64 0, iv .i64 3], [], trivial, rfl, rfl, ?_, rfl⟩
  rw [hR]
  exact ⟨⟨.inr ⟨rfl, _, rfl⟩, .inr ⟨rfl, _, rfl⟩, trivial⟩, .inl rfl, .inl rfl, trivial⟩
 ·refine zna hTt rfl ?_
  conv => whnf
  refine ⟨rfl, ?_⟩
  conv => whnf
  refine ⟨rfl, fun B' d hd => ?_⟩
  conv => whnf
  refine zrx (Q := zpc Tryz.prog Tt [.cell 2 25, .cell 3 3, .cell 4 26] [] [4, 3, 2] [931] (RdF s) 44 [] [.b 2 0, .b 3 0, .b 4 0]) ?_ (fun e fr τ g' a' w' hr hq => zoJ (σ := []) (res := [.cell 2 25, .cell 3 3, .cell 4 26]) hTt hL (by rfl) hd hr hq)
  have tok := zi8 s
  repeat' first | refine zd ?_ | refine zc ?_ | ((first | refine regA ?_ | refine frA (tok) [(1, 950)] ?_ | fail); conv => whnf) | fail
  refine zaq (Imp.nil 73 3 1 (fr' := frX) (σ' := [(5, .box [.b 14 0]), (14, .box [.d (.v (.slice none 0 0)), .d (.v (.slice none 0 0)), .o 73 0 0, .d (.v (.slice none 0 0))]), (4, .box [.d (.v (.int .i64 0))]), (3, .box [.d (.v (.int .i64 0))]), (2, .box [.d (.v (.slice none 0 0)), .d (.v (.slice none 0 0))]), (950, .box [.d (.v (.string (bs s)))])]) rfl ?_ ?_ rfl rfl) ?_
  ·exact ⟨⟨_, rfl, .inl rfl⟩, ⟨_, rfl, .inl rfl⟩, ⟨_, rfl, .inl rfl⟩, ⟨_, rfl, .inl rfl⟩, ⟨_, rfl, .inl rfl⟩, trivial⟩
  ·exact ⟨⟨_, rfl, .inl rfl⟩, ⟨_, rfl, .inr ⟨_, _, rfl, rfl, .inl rfl, .inl rfl, .inr ⟨rfl, rfl⟩, .inl rfl, trivial⟩⟩, ⟨_, rfl, .inl rfl⟩, ⟨_, rfl, .inl rfl⟩, ⟨_, rfl, .inl rfl⟩, ⟨_, rfl, .inl rfl⟩, trivial⟩
  refine zaq (Imp.nil 74 9 1 (fr' := frX) (σ' := [(73, .chain 3 1 0 []), (5, .box [.b 14 0]), (14, .box [.d (.v (.slice none 0 0)), .d (.v (.slice none 0 0)), .o 73 0 0, .o 74 0 0]), (4, .box [.d (.v (.int .i64 0))]), (3, .box [.d (.v (.int .i64 0))]), (2, .box [.d (.v (.slice none 0 0)), .d (.v (.slice none 0 0))]), (950, .box [.d (.v (.string (bs s)))])]) rfl ?_ ?_ rfl rfl) ?_
  ·exact ⟨⟨_, rfl, .inl rfl⟩, ⟨_, rfl, .inl rfl⟩, ⟨_, rfl, .inl rfl⟩, ⟨_, rfl, .inl rfl⟩, ⟨_, rfl, .inl rfl⟩, trivial⟩
  ·exact ⟨⟨_, rfl, .inl rfl⟩, ⟨_, rfl, .inl rfl⟩, ⟨_, rfl, .inr ⟨_, _, rfl, rfl, .inl rfl, .inl rfl, .inl rfl, .inr ⟨rfl, rfl⟩, trivial⟩⟩, ⟨_, rfl, .inl rfl⟩, ⟨_, rfl, .inl rfl⟩, ⟨_, rfl, .inl rfl⟩, ⟨_, rfl, .inl rfl⟩, trivial⟩
  refine zaq (Imp.forget (fr' := frX) (σ' := (sgX .skip .skip [] s).tail.tail) ⟨rfl, rfl, rfl, rfl, rfl, trivial⟩ ⟨rfl, rfl, rfl, rfl, rfl, rfl, rfl, rfl, trivial⟩ rfl) ?_
  refine ziZ 930 931 rfl rfl rfl (by decide) (by simp [Cx.dfrd]) rfl _ (zlf (s := s) (by omega) ?hy) ?hk
  case hy =>
   intro acc a t hacc ha
   have e1 : (atX acc).take acc.length ++ [[PV.v (.int .i64 a)]] = atX (acc ++ [(a, t)]) := by rw [List.take_of_length_le (by simp)]; simp [atX]
   have e2 : (tkX acc).take acc.length ++ [[PV.v (.string (bs t))]] = tkX (acc ++ [(a, t)]) := by rw [List.take_of_length_le (by simp)]; simp [tkX]
   have el : acc.length + 1 = (acc ++ [(a, t)]).length := by simp
   have ga : acc.length ≤ (atX acc).length ∧ acc.length + 1 ≤ maxLen ∧ (acc.length + 1) * 8 ≤ 140737488355328 := ⟨by simp, by unfold maxLen; omega, by omega⟩
   have gt : acc.length ≤ (tkX acc).length ∧ acc.length + 1 ≤ maxLen ∧ (acc.length + 1) * 16 ≤ 140737488355328 := ⟨by simp, by unfold maxLen; omega, by omega⟩
   refine zoH (pend := none) rfl rfl (by decide) rfl ?_
   intro w0 K0 B b
   dsimp only [zk2]
   repeat' first | refine zd ?_ | ((refine regA ?_); conv => whnf) | fail
   refine ⟨_, rfl, ?_⟩
   repeat' first | ((first | refine zkA hTt hMix (id := 8) 19 [0, 1, 2, 3, 4, 5, 6, 7, 9, 10, 11, 12, 13, 14] [⟨8, false, false, [0, 1, 9, 10, 11, 12, 13, 14], []⟩, ⟨15, false, false, [0, 1], [16, 17]⟩, ⟨18, false, false, [1], []⟩] [0, 0, 0, 4, 12, 28, 0, 64, 252, 0, 512, 1536, 3584, 0, 8192, 32764, 65533, 131069, 262141, 524287, 1048575, 2097151] (by kernel_rfl) rfl (by kernel_rfl) (by kernel_rfl) (by kernel_rfl) ?_ | refine LateGo.mk ⟨_, rfl, ?_⟩ | fail); conv => whnf) | refine zc ?_ | ((first | refine LateGo.mk ⟨.x .j, rfl, ?_⟩ | refine And.intro ga ?_ | refine And.intro gt ?_ | refine andA ?_ | fail); conv => whnf) | fail
   refine ⟨zat 930 (.x (.loop .busy none #[17, 18] ?asg ?bdy 65 frX 931)) (sgX ?asg ?bdy (acc ++ [(a, t)]) s), none, ?h1, ?h2, ?h3, ?h4⟩
   case h3 => exact rfl
   case h1 => exact ⟨rfl, rfl, rfl, bxT el, chT el e1, chT el e2, rfl, rfl, rfl, rfl, trivial⟩
   case h2 => rfl
   case h4 => exact ⟨rfl, rfl⟩
  case hk =>
   rintro rv σ' ⟨rfl, rfl⟩
   refine ⟨rfl, .ready, none, rfl, by decide, ?_⟩
   have hi := zqD (s := s) (by omega)
   generalize hl : tk 0 none s = l at hi ⊢
   dsimp only
   conv => whnf
   have hla : (atX l).length = l.length := List.length_map _
   have hlt : (tkX l).length = l.length := List.length_map _
   have hle1 : l.length ≤ (atX l).length := by omega
   have hle2 : l.length ≤ (tkX l).length := by omega
   have hz1 : atPV l = .s 1 ((atX l).take l.length) := by rw [List.take_of_length_le (by omega)]; simp [atPV, zR, atX]
   have hz2 : tkPV l = .s 1 ((tkX l).take l.length) := by rw [List.take_of_length_le (by omega)]; simp [tkPV, zac, tkX, zaa]
   refine zaq (Imp.freezeB 73 (fr' := [(5, .x (.b 5 0)), (4, .x (.b 4 0)), (3, .x (.b 3 0)), (2, .x (.b 2 0))])
    (σ' := [(931, .x .dfr), (5, .box [.b 14 0]), (14, .box [.d (.v (.slice none 0 0)), .d (.v (.slice none 0 0)), .d (atPV l), .o 74 l.length l.length]), (74, .chain 9 1 l.length (tkX l)), (4, .box [.d (.v (.int .i64 0))]), (3, .box [.d (.v (.int .i64 0))]), (2, .box [.d (.v (.slice none 0 0)), .d (.v (.slice none 0 0))])]) rfl
    ⟨⟨_, rfl, .inl rfl⟩, ⟨_, rfl, .inl rfl⟩, ⟨_, rfl, .inl rfl⟩, ⟨_, rfl, .inl rfl⟩, trivial⟩ ⟨⟨_, rfl, .inl rfl⟩, ⟨_, rfl, .inl rfl⟩, ⟨_, rfl, .inr ⟨_, _, rfl, rfl, ⟨.inl rfl, .inl rfl, .inr ⟨_, rfl, hle1, congrArg SV.d hz1⟩, .inl rfl, trivial⟩⟩⟩, ⟨_, rfl, .inl rfl⟩, ⟨_, rfl, .inl rfl⟩, ⟨_, rfl, .inl rfl⟩, ⟨_, rfl, .inl rfl⟩, trivial⟩ rfl rfl) ?_
   refine zaq (Imp.freezeB 74 (fr' := [(5, .x (.b 5 0)), (4, .x (.b 4 0)), (3, .x (.b 3 0)), (2, .x (.b 2 0))])
    (σ' := [(931, .x .dfr), (5, .box [.b 14 0]), (14, .box [.d (.v (.slice none 0 0)), .d (.v (.slice none 0 0)), .d (atPV l), .d (tkPV l)]), (4, .box [.d (.v (.int .i64 0))]), (3, .box [.d (.v (.int .i64 0))]), (2, .box [.d (.v (.slice none 0 0)), .d (.v (.slice none 0 0))])]) rfl
    ⟨⟨_, rfl, .inl rfl⟩, ⟨_, rfl, .inl rfl⟩, ⟨_, rfl, .inl rfl⟩, ⟨_, rfl, .inl rfl⟩, trivial⟩ ⟨⟨_, rfl, .inl rfl⟩, ⟨_, rfl, .inl rfl⟩, ⟨_, rfl, .inr ⟨_, _, rfl, rfl, ⟨.inl rfl, .inl rfl, .inl rfl, .inr ⟨_, rfl, hle2, congrArg SV.d hz2⟩, trivial⟩⟩⟩, ⟨_, rfl, .inl rfl⟩, ⟨_, rfl, .inl rfl⟩, ⟨_, rfl, .inl rfl⟩, trivial⟩ rfl rfl) ?_
   refine zaq (Imp.nil 71 9 1 (fr' := [(5, .x (.b 5 0)), (4, .x (.b 4 0)), (3, .x (.b 3 0)), (2, .x (.b 2 0))])
    (σ' := [(931, .x .dfr), (5, .box [.b 14 0]), (14, .box [.o 71 0 0, .d (.v (.slice none 0 0)), .d (atPV l), .d (tkPV l)]), (4, .box [.d (.v (.int .i64 0))]), (3, .box [.d (.v (.int .i64 0))]), (2, .box [.d (.v (.slice none 0 0)), .d (.v (.slice none 0 0))])]) rfl ?_ ?_ rfl rfl) ?_
   ·exact ⟨⟨_, rfl, .inl rfl⟩, ⟨_, rfl, .inl rfl⟩, ⟨_, rfl, .inl rfl⟩, ⟨_, rfl, .inl rfl⟩, trivial⟩
   ·exact ⟨⟨_, rfl, .inl rfl⟩, ⟨_, rfl, .inl rfl⟩, ⟨_, rfl, .inr ⟨_, _, rfl, rfl, .inr ⟨rfl, rfl⟩, .inl rfl, .inl rfl, .inl rfl, trivial⟩⟩, ⟨_, rfl, .inl rfl⟩, ⟨_, rfl, .inl rfl⟩, ⟨_, rfl, .inl rfl⟩, trivial⟩
   refine zaq (Imp.nil 72 95 4 (fr' := [(5, .x (.b 5 0)), (4, .x (.b 4 0)), (3, .x (.b 3 0)), (2, .x (.b 2 0))])
    (σ' := [(71, .chain 9 1 0 []), (931, .x .dfr), (5, .box [.b 14 0]), (14, .box [.o 71 0 0, .o 72 0 0, .d (atPV l), .d (tkPV l)]), (4, .box [.d (.v (.int .i64 0))]), (3, .box [.d (.v (.int .i64 0))]), (2, .box [.d (.v (.slice none 0 0)), .d (.v (.slice none 0 0))])]) rfl ?_ ?_ rfl rfl) ?_
   ·exact ⟨⟨_, rfl, .inl rfl⟩, ⟨_, rfl, .inl rfl⟩, ⟨_, rfl, .inl rfl⟩, ⟨_, rfl, .inl rfl⟩, trivial⟩
   ·exact ⟨⟨_, rfl, .inl rfl⟩, ⟨_, rfl, .inl rfl⟩, ⟨_, rfl, .inl rfl⟩, ⟨_, rfl, .inr ⟨_, _, rfl, rfl, .inl rfl, .inr ⟨rfl, rfl⟩, .inl rfl, .inl rfl, trivial⟩⟩, ⟨_, rfl, .inl rfl⟩, ⟨_, rfl, .inl rfl⟩, ⟨_, rfl, .inl rfl⟩, trivial⟩
   have hsum := (zj5 (4 * l.length + 3)).2.2 _ (Nat.le_refl _) _ hi
   obtain ⟨r, hr, _⟩ := (zqB l.length).2.2.2.2 ⟨l, [], []⟩ rfl
   have hrf : zbH s = finF r := by
    unfold zbH
    rw [if_neg (by omega), hl, hr]
    cases r <;> rfl
   cases r with
   | error e =>
    have hs2 := (hsum.2 e hr 0 0)
    dsimp only at hs2 hrf
    have hs3 := hs2.frame (σ := (72, .chain 95 4 0 []) :: (71, .chain 9 1 0 []) :: (931, .x .dfr) :: (5, .box [.b 14 0]) :: (14, .box [.o 71 0 0, .o 72 0 0, .d (atPV l), .d (tkPV l)]) :: resF (.v (.int .i64 0)) (.v (.int .i64 0)) (.v (.slice none 0 0)) (.v (.slice none 0 0))) (asc [(70, 14)]) (by repeat (first | exact trivial | refine ⟨rfl, ?_⟩)) rfl (fun _ _ h => h.elim) (by rintro _ _ ⟨_, V', C', s1', s2', l', rfl⟩; rfl)
    repeat' first | ((with_reducible refine zH hTt (id := 9) ?_); conv => whnf) | refine zd ?_ | ((refine ⟨_, _, hs3, ?_, ?_⟩) <;> first | (rintro _ _ ⟨_, _, h, _⟩; exact h.elim) | (rintro _ _ ⟨_, ⟨rfl, V', C', s1', s2', l', rfl⟩, rfl⟩; conv => whnf)) | fail
    exact zkp s e hrf _ _ _ _ ⟨rfl, rfl, rfl, trivial⟩ ⟨rfl, rfl, rfl, trivial⟩
   | ok st =>
    obtain ⟨hi2, _⟩ := (zdn 2000 _).2.2.2.1 _ _ hi hr
    have hs2 := (hsum.1 st hr 0 0)
    clear hsum hi hr hz1 hz2 hle1 hle2 hla hlt tok
    obtain ⟨t1, V1, C1⟩ := st
    obtain ⟨a1, w1, l1, ht, _⟩ := hi2.cons
    dsimp only at hs2 ht
    have hs3 := hs2.frame (σ := (72, .chain 95 4 0 []) :: (71, .chain 9 1 0 []) :: (931, .x .dfr) :: (5, .box [.b 14 0]) :: (14, .box [.o 71 0 0, .o 72 0 0, .d (atPV l), .d (tkPV l)]) :: resF (.v (.int .i64 0)) (.v (.int .i64 0)) (.v (.slice none 0 0)) (.v (.slice none 0 0))) (asc [(70, 14)]) (by repeat (first | exact trivial | refine ⟨rfl, ?_⟩)) rfl (by rintro _ _ ⟨_, s1', s2', rfl⟩; rfl) (fun _ _ h => h.elim)
    have hlV : (V1.map zaa).length = V1.length := List.length_map _
    have hlC : (C1.map ndPV).length = C1.length := List.length_map _
    have hle1 : V1.length ≤ (V1.map zaa).length := by omega
    have hle2 : C1.length ≤ (C1.map ndPV).length := by omega
    have hz1 : zac V1 = .s 1 ((V1.map zaa).take V1.length) := by rw [List.take_of_length_le (by omega)]; rfl
    have hz2 : zS C1 = .s 4 ((C1.map ndPV).take C1.length) := by rw [List.take_of_length_le (by omega)]; rfl
    have ck := ziO ⟨V1, C1⟩
    repeat' first | (with_reducible refine StpR.at10 ?_) | ((with_reducible refine zH hTt (id := 9) ?_); conv => whnf) | refine zd ?_ | ((refine ⟨_, _, hs3, ?_, ?_⟩) <;> first | (rintro _ _ ⟨_, h, _⟩; exact h.elim) | (rintro _ _ ⟨_, _, ⟨rfl, s1', s2', rfl⟩, rfl, rfl⟩; conv => whnf)) | fail
    unfold StpR
    refine zaq (Imp.freezeB 71 (fr' := [(5, .x (.b 5 0)), (4, .x (.b 4 0)), (3, .x (.b 3 0)), (2, .x (.b 2 0))])
     (σ' := [(931, .x .dfr), (5, .box [.b 14 0]), (14, .box [.d (zac V1), .o 72 s2' C1.length, .d (atPV t1), .d (tkPV t1)]), (72, .chain 95 4 s2' (C1.map ndPV)), (4, .box [.d (.v (.int .i64 0))]), (3, .box [.d (.v (.int .i64 0))]), (2, .box [.d (.v (.slice none 0 0)), .d (.v (.slice none 0 0))])]) rfl
     ⟨⟨_, rfl, .inl rfl⟩, ⟨_, rfl, .inl rfl⟩, ⟨_, rfl, .inl rfl⟩, ⟨_, rfl, .inl rfl⟩, trivial⟩ ⟨⟨_, rfl, .inl rfl⟩, ⟨_, rfl, .inl rfl⟩, ⟨_, rfl, .inr ⟨_, _, rfl, rfl, ⟨.inr ⟨_, rfl, hle1, congrArg SV.d hz1⟩, .inl rfl, .inl rfl, .inl rfl, trivial⟩⟩⟩, ⟨_, rfl, .inl rfl⟩, ⟨_, rfl, .inl rfl⟩, ⟨_, rfl, .inl rfl⟩, ⟨_, rfl, .inl rfl⟩, trivial⟩ rfl rfl) ?_
    refine zaq (Imp.freezeB 72 (fr' := [(5, .x (.b 5 0)), (4, .x (.b 4 0)), (3, .x (.b 3 0)), (2, .x (.b 2 0))])
     (σ' := [(931, .x .dfr), (5, .box [.b 14 0]), (14, .box [.d (zac V1), .d (zS C1), .d (atPV t1), .d (tkPV t1)]), (4, .box [.d (.v (.int .i64 0))]), (3, .box [.d (.v (.int .i64 0))]), (2, .box [.d (.v (.slice none 0 0)), .d (.v (.slice none 0 0))])]) rfl
     ⟨⟨_, rfl, .inl rfl⟩, ⟨_, rfl, .inl rfl⟩, ⟨_, rfl, .inl rfl⟩, ⟨_, rfl, .inl rfl⟩, trivial⟩ ⟨⟨_, rfl, .inl rfl⟩, ⟨_, rfl, .inl rfl⟩, ⟨_, rfl, .inr ⟨_, _, rfl, rfl, ⟨.inl rfl, .inr ⟨_, rfl, hle2, congrArg SV.d hz2⟩, .inl rfl, .inl rfl, trivial⟩⟩⟩, ⟨_, rfl, .inl rfl⟩, ⟨_, rfl, .inl rfl⟩, ⟨_, rfl, .inl rfl⟩, trivial⟩ rfl rfl) ?_
    cases l1 with
    | cons q l2 =>
     rw [ht] at hrf ⊢
     have hrf : zbH s = (zdw, (a1 : Int), 6) := hrf
     have hln : ((a1, w1) :: q :: l2).length = l2.length + 2 := rfl
     repeat' first | ((with_reducible refine zH hTt (id := 11) ?_); conv => whnf) | refine zd ?_ | ((first | refine zf ?_ | refine regA ?_ | fail); conv => whnf) | exact abA hb | ((refine ⟨_, ze ⟨by omega, rfl⟩, ?_⟩); conv => whnf) | (refine And.intro zfF ?_; conv => whnf) | (refine zso rfl (fun hb => ?_) (fun hb => ?_)) | ((refine andA ?_); conv => whnf) | (refine lnA fun hln => ?_; conv => whnf) | fail
     exact zkp s a1 hrf _ _ _ _ ⟨rfl, rfl, rfl, trivial⟩ ⟨rfl, rfl, rfl, trivial⟩
    | nil =>
     rw [ht] at hrf ⊢
     have hrf : zbH s = if zD ⟨V1, C1⟩ = 0 then (⟨V1, C1⟩, 0, 0) else (zdw, 0, 3) := hrf
     by_cases hc : zD ⟨V1, C1⟩ = 0
     ·rw [if_pos hc] at hrf
      rw [hc] at ck
      repeat' first | refine zd ?_ | ((first | refine zf ?_ | refine zi ?_ | refine regA ?_ | refine zsn (ck) ?_ | fail); conv => whnf) | (refine zss rfl ?_) | ((refine andA ?_); conv => whnf) | (refine lnA fun hln => ?_; conv => whnf) | fail
      refine ⟨[(4, .x (.b 4 0)), (3, .x (.b 3 0)), (2, .x (.b 2 0))], resF (.v (.int .i64 0)) (.v (.int .i64 0)) (zac V1) (zS C1), ⟨rfl, rfl, rfl, trivial⟩, ⟨rfl, rfl, rfl, trivial⟩, by kernel_rfl, _, zlB _ ⟨rfl, rfl, rfl, trivial⟩ (by kernel_rfl), ?_⟩
      rintro _ _ ⟨rfl, rfl⟩
      refine ⟨rfl, .t [.a [.d (zac V1), .d (zS C1)], iv .i64 0, iv .i64 0], [], trivial, rfl, rfl, ?_, rfl⟩
      rw [hrf]
      exact ⟨⟨.inl rfl, .inl rfl, trivial⟩, .inl rfl, .inl rfl, trivial⟩
     ·rw [if_neg hc] at hrf
      repeat' first | refine zd ?_ | ((first | refine zf ?_ | refine zi ?_ | refine regA ?_ | fail); conv => whnf) | exact abA hb | ((refine zsn (ck) ?_); conv => whnf) | (refine zss rfl ?_) | (refine zso rfl (fun hb => ?_) (fun hb => ?_)) | ((refine andA ?_); conv => whnf) | (refine lnA fun hln => ?_; conv => whnf) | fail
      refine ⟨[(4, .x (.b 4 0)), (3, .x (.b 3 0)), (2, .x (.b 2 0))], resF (.v (.int .i64 3)) (.v (.int .i64 0)) (.v (.slice none 0 0)) (.v (.slice none 0 0)), ⟨rfl, rfl, rfl, trivial⟩, ⟨rfl, rfl, rfl, trivial⟩, by kernel_rfl, _, zlB _ ⟨rfl, rfl, rfl, trivial⟩ (by kernel_rfl), ?_⟩
      rintro _ _ ⟨rfl, rfl⟩
      refine ⟨rfl, .t [.a [.d (.v (.slice none 0 0)), .d (.v (.slice none 0 0))], iv .i64 0, iv .i64 3], [], trivial, rfl, rfl, ?_, rfl⟩
      rw [hrf]
      exact ⟨⟨.inr ⟨rfl, _, rfl⟩, .inr ⟨rfl, _, rfl⟩, trivial⟩, .inl rfl, .inl rfl, trivial⟩
theorem zbK (s : Bs8) : FnC Tryz.prog 15 [sv (bs s)] (.t [zaB (zbH s).1, iv .i64 (zbH s).2.1, iv .i64 (zbH s).2.2]) :=
 zfd ((zkX s).leW fun _ _ h => ⟨_, h.1, rfl, h.2⟩)
end Go.Proofs.YtmceekhgnfpamaaGreatDoor
namespace Go.Proofs.YtmceekhgnfpamaaGreatDoor
open Go Go.QL FoT
set_option maxHeartbeats 1600000
attribute [local irreducible] ACall FnC fine ten
theorem zlh {a b : Int} (h : 0 ≤ a) : a.tdiv b = a / b := Int.tdiv_eq_ediv_of_nonneg h
theorem zpo {a b : Int} (h : 0 ≤ a) : a.tmod b = a % b := Int.tmod_eq_emod_of_nonneg h
theorem zi1 (n : FNode) (hp : 1 ≤ n.places ∧ n.places ≤ 6) (hn : 0 ≤ n.num ∧ n.num ≤ ten n - 1) : FnC Tryz.prog 71 [ndAV n] (.t [iv .i64 (zbo n), iv .i64 (zdz n)]) := by
 obtain ⟨tg, t1, t2⟩ := zdk hp
 have e1 : (n.num * 8388608).tmod (ten n) = n.num * 8388608 % ten n := zpo (by omega)
 have e2 : IntKind.i64.wrap ((ten n).tdiv 2) = ten n / 2 := by rw [zlh (by omega)]; exact zg (by omega)
 have q1 := Int.ediv_le_self (ten n) (a := n.num * 8388608 + ten n / 2) (by omega)
 have q0 : 0 ≤ (n.num * 8388608 + ten n / 2) / ten n := Int.ediv_nonneg (by omega) (by omega)
 have e3 : IntKind.i64.wrap ((n.num * 8388608 + ten n / 2).tdiv (ten n)) = (n.num * 8388608 + ten n / 2) / ten n := by rw [zlh (by omega)]; exact zg (by omega)
 have w0 : IntKind.i64.wrap (n.num * 8388608) = n.num * 8388608 := zg (by omega)
 have h0 : ten n ≠ 0 := by omega
 unfold zbo zdz
 generalize ten n = t at *
 by_cases hz : n.num * 8388608 % t = 0
 ·rw [if_pos hz]
  refine hdC Tryz.func71 Tryz.ntmps71 (res := [.tmp 2, .tmp 3]) fun w0 K0 => ?_
  repeat' first | refine zd ?_ | ((first | refine zf ?_ | refine zi ?_ | refine regA ?_ | refine drA (id := 1) 8 false [0, 1, 3, 0, 0, 16, 56, 15, 255] ?_ | refine zsp (zdI) ?_ | refine ⟨_, ze ⟨by omega, tg⟩, ?_⟩ | refine ⟨_, e1, ?_⟩ | refine ⟨_, e2, ?_⟩ | refine ⟨_, e3, ?_⟩ | refine And.intro (zay h0) ?_ | fail); conv => whnf) | (exact absurd hz hb) | (refine zso rfl (fun hb => ?_) (fun hb => ?_)) | ((first | refine zsq ?_ | refine andA ?_ | fail); conv => whnf) | fail
  all_goals rfl
 ·rw [if_neg hz]
  refine hdC Tryz.func71 Tryz.ntmps71 (res := [.tmp 2, .tmp 3]) fun w0 K0 => ?_
  repeat' first | refine zd ?_ | ((first | refine zf ?_ | refine zi ?_ | refine regA ?_ | refine drA (id := 1) 8 false [0, 1, 3, 0, 0, 16, 56, 15, 255] ?_ | refine zsp (zdI) ?_ | refine ⟨_, ze ⟨by omega, tg⟩, ?_⟩ | refine ⟨_, e1, ?_⟩ | refine ⟨_, e2, ?_⟩ | refine ⟨_, e3, ?_⟩ | refine And.intro (zay h0) ?_ | fail); conv => whnf) | (exact absurd hb hz) | (refine zso rfl (fun hb => ?_) (fun hb => ?_)) | ((first | refine zsq ?_ | refine andA ?_ | fail); conv => whnf) | fail
  all_goals rfl
theorem zpa (a b : Int) (h : -4611686018427387904 ≤ a + b ∧ a + b ≤ 4611686018427387904) : FnC Tryz.prog 126 [.a [], iv .i64 a, iv .i64 b] (iv .i64 (a + b)) := by
 refine hdC Tryz.func126 Tryz.ntmps126 (res := [.tmp 6]) fun w0 K0 => ?_
 repeat' first | refine zd ?_ | ((first | refine zi ?_ | refine regA ?_ | refine zsq ?_ | fail); conv => whnf) | fail
 rfl
theorem zoQ (a b : Int) (h : -4611686018427387904 ≤ a - b ∧ a - b ≤ 4611686018427387904) : FnC Tryz.prog 127 [.a [], iv .i64 a, iv .i64 b] (iv .i64 (a - b)) := by
 refine hdC Tryz.func127 Tryz.ntmps127 (res := [.tmp 6]) fun w0 K0 => ?_
 repeat' first | refine zd ?_ | ((first | refine zi ?_ | refine regA ?_ | refine zsq ?_ | fail); conv => whnf) | fail
 rfl
theorem zo1 (a b : Int) (h : -4611686018427387904 ≤ a * b ∧ a * b ≤ 4611686018427387904) : FnC Tryz.prog 128 [.a [], iv .i64 a, iv .i64 b] (iv .i64 (a * b / 8388608)) := by
 have w0' : IntKind.i64.wrap (a * b) = a * b := zg (by omega)
 have hsh : (a * b).fdiv (2 ^ min (Int.toNat 23) IntKind.i64.bits) = a * b / 8388608 := Int.fdiv_eq_ediv_of_nonneg _ (by decide)
 refine hdC Tryz.func128 Tryz.ntmps128 (res := [.tmp 6]) fun w0 K0 => ?_
 repeat' first | refine zd ?_ | ((first | refine zi ?_ | refine regA ?_ | refine ⟨_, w0', ?_⟩ | refine ⟨_, hsh, ?_⟩ | refine andA ?_ | fail); conv => whnf) | fail
 rfl
def opF (k : FuncId) : AV := .x (.d (.v (.func (.func k) #[.agg #[]] #[])))
def opsM : List (Value × AV) := [(.int .i64 3, opF 126), (.int .i64 4, opF 127), (.int .i64 5, opF 128)]
theorem zqz (k : Value) (x : AV) : zk5 [] k x [(k, x)] := .inr ⟨fun i y h => by simp at h, rfl⟩
theorem zjR {kvs : List (Value × AV)} {k : Int} {x : AV} (h : ∀ p ∈ kvs, p.1 ≠ .int .i64 k) : zk5 kvs (.int .i64 k) x (kvs ++ [(.int .i64 k, x)]) :=
 .inr ⟨fun i y hi => h _ (List.mem_of_getElem? hi) rfl, rfl⟩
theorem zlR : ACall Tryz.prog 68 [] [] (fun r σ' => r = .x (.h 2) ∧ σ' = [(2, .x (.map (.one (.int .i64)) opsM))]) := by
 have u1 : zk5 [] (.int .i64 3) (opF 126) _ := zqz _ _
 have u2 : zk5 [(.int .i64 3, opF 126)] (.int .i64 4) (opF 127) _ := zjR (by simp)
 have u3 : zk5 [(.int .i64 3, opF 126), (.int .i64 4, opF 127)] (.int .i64 5) (opF 128) _ := zjR (by simp)
 refine hdD Tryz.func68 Tryz.ntmps68 (res := [.tmp 0]) fun w0 K0 B => ?_
 repeat' first | refine zd ?_ | ((first | refine zi ?_ | refine regA ?_ | refine ⟨_, u1, ?_⟩ | refine ⟨_, u2, ?_⟩ | refine ⟨_, u3, ?_⟩ | refine andA ?_ | fail); conv => whnf) | fail
 exact ⟨_, [(2, .x (.map (.one (.int .i64)) opsM))], ⟨rfl, trivial⟩, rfl, rfl, rfl, rfl⟩
end Go.Proofs.YtmceekhgnfpamaaGreatDoor
namespace Go.Proofs.YtmceekhgnfpamaaGreatDoor
open Go Go.QL FoT
set_option maxHeartbeats 1600000
attribute [local irreducible] ACall FnC fine ten
def fstI {α : Type} (p : α → Bool) : List α → Nat → Option Nat
 | [], _ => none
 | x :: r, j => if p x = true then some j else fstI p r (j + 1)
def idxI {α : Type} (p : α → Bool) (xs : List α) : Int :=
 match fstI p xs 0 with
 | some j => j
 | none => -1
theorem zoj {α : Type} (p : α → Bool) (xs : List α) (j : Nat) : (fstI p xs j).isSome = xs.any p := by
 induction xs generalizing j with
 | nil => rfl
 | cons x r ih =>
  simp only [fstI, List.any_cons]
  cases h : p x with
  | true => simp
  | false => simp [ih]
theorem zoh {α : Type} (p : α → Bool) (xs : List α) : decide (0 ≤ idxI p xs) = xs.any p := by
 rw [← zoj p xs 0]
 unfold idxI
 cases fstI p xs 0 with
 | none => rfl
 | some j => simp
theorem zp9 (fid : FuncId) (cs : List SV) (p : Int → Bool) (xs : List Int) (σ : Sg)
  (hf : ∀ x ∈ xs, ACall Tryz.prog fid ([].map AV.x ++ [iv .i64 x] ++ cs.map .x) σ (fun r σ' => r = bv (p x) ∧ σ' = σ)) :
  ACall Tryz.prog 125 [sl xs, .x (.f (.func fid) [] cs)] σ (fun r σ' => r = iv .i64 (idxI p xs) ∧ σ' = σ) := by
 refine zcN hTt Tryz.func125 rfl (by kernel_rfl) (res := [.tmp 4]) rfl Tryz.ntmps125 (by simp) fun w0 K0 B => ?_
 dsimp only [entry]
 repeat' first | refine zd ?_ | refine zc ?_ | ((refine regA ?_); conv => whnf) | (refine lnA fun hln => ?_; conv => whnf) | fail
 refine zJ (fun i : Nat => [(8, iv .i64 i), (7, iv .i64 xs.length), (0, sl xs), (1, .x (.f (.func fid) [] cs))]) (fun _ => σ)
  (fun i => i ≤ xs.length ∧ fstI p xs 0 = fstI p (xs.drop i) i) (fun i => xs.length - i) 0 (by simp) (Imp.slots ⟨rfl, congrArg (fun k : Nat => some (iv .i64 k)) (List.length_map _), rfl, rfl, trivial⟩) ?_
 rintro i ⟨hi, hfo⟩
 rcases Nat.lt_or_ge i xs.length with hil | hil
 ·have hc := hf xs[i] (List.getElem_mem hil)
  rw [List.drop_eq_getElem_cons hil] at hfo
  simp only [fstI] at hfo
  generalize p xs[i] = b at hc hfo
  cases b with
  | true =>
   rw [if_pos rfl] at hfo
   repeat' first | refine zd ?_ | refine zc ?_ | ((first | refine zf ?_ | refine zk ?_ | refine zi ?_ | refine regA ?_ | fail); conv => whnf) | exact abA hb | ((refine ⟨_, hc, ?_⟩); (rintro _ _ ⟨rfl, rfl⟩); conv => whnf) | (refine zst rfl ?_) | (refine zso rfl (fun hb => ?_) (fun hb => ?_)) | ((first | refine andA ?_ | with_reducible refine exA fun _ => ?_ | fail); conv => whnf) | fail
   exact ⟨_, rfl, by unfold idxI; rw [hfo], rfl⟩
  | false =>
   rw [if_neg (by decide)] at hfo
   repeat' first | refine zd ?_ | refine zc ?_ | ((first | refine zf ?_ | refine zk ?_ | refine zi ?_ | refine regA ?_ | fail); conv => whnf) | exact abA hb | ((refine ⟨_, hc, ?_⟩); (rintro _ _ ⟨rfl, rfl⟩); conv => whnf) | (refine zss rfl ?_) | (refine zso rfl (fun hb => ?_) (fun hb => ?_)) | ((first | refine zsq ?_ | refine andA ?_ | with_reducible refine exA fun _ => ?_ | fail); conv => whnf) | fail
   exact ⟨i + 1, ⟨by omega, hfo⟩, by omega, Imp.slots ⟨rfl, rfl, rfl, rfl, trivial⟩⟩
 ·rw [List.drop_eq_nil_of_le hil] at hfo
  repeat' first | refine zd ?_ | refine zc ?_ | ((first | refine zf ?_ | refine zk ?_ | refine zi ?_ | refine regA ?_ | fail); conv => whnf) | exact abA hb | (refine zso rfl (fun hb => ?_) (fun hb => ?_)) | fail
  exact ⟨_, rfl, by unfold idxI; rw [hfo]; rfl, rfl⟩
theorem zdc (fid : FuncId) (cs : List SV) (p : Int → Bool) (xs : List Int) (σ : Sg)
  (hf : ∀ x ∈ xs, ACall Tryz.prog fid ([].map AV.x ++ [iv .i64 x] ++ cs.map .x) σ (fun r σ' => r = bv (p x) ∧ σ' = σ)) :
  ACall Tryz.prog 66 [sl xs, .x (.f (.func fid) [] cs)] σ (fun r σ' => r = bv (xs.any p) ∧ σ' = σ) := by
 have hc := zp9 fid cs p xs σ hf
 rw [← zoh]
 refine zcN hTt Tryz.func66 rfl (by kernel_rfl) (res := [.tmp 4]) rfl Tryz.ntmps66 (by simp) fun w0 K0 B => ?_
 dsimp only [entry]
 repeat' first | refine zd ?_ | ((first | refine zi ?_ | refine regA ?_ | ((refine ⟨_, hc, ?_⟩); (rintro _ _ ⟨rfl, rfl⟩)) | fail); conv => whnf) | fail
 exact ⟨_, rfl, rfl, rfl⟩
theorem znM (hi x : Int) : ACall Tryz.prog 171 [iv .i64 x, .x (.b 2 0)] [(2, .box [.d (.v (.int .i64 hi))])]
  (fun r σ' => r = bv (outB x 0 hi) ∧ σ' = [(2, .box [.d (.v (.int .i64 hi))])]) := by
 refine zcN hTt Tryz.func171 rfl (by kernel_rfl) (res := [.tmp 3]) rfl Tryz.ntmps171 (by simp) fun w0 K0 B => ?_
 dsimp only [entry]
 repeat' first | refine zd ?_ | ((first | refine zi ?_ | refine regA ?_ | refine andA ?_ | fail); conv => whnf) | fail
 exact ⟨_, rfl, rfl, rfl⟩
theorem zjl (hi : Int) (xs : List Int) : FnC Tryz.prog 156 [iv .i64 hi, sl xs] (bv (xs.any fun x => outB x 0 hi)) := by
 have hc := zdc 171 [.b 2 0] (fun x => outB x 0 hi) xs _ (fun x _ => znM hi x)
 generalize (xs.any fun x => outB x 0 hi) = b at hc
 refine hdC Tryz.func156 Tryz.ntmps156 (res := [.tmp 4]) fun w0 K0 => ?_
 repeat' first | refine zd ?_ | ((first | refine zi ?_ | refine regA ?_ | ((refine ⟨_, hc, ?_⟩); (rintro _ _ ⟨rfl, rfl⟩)) | fail); conv => whnf) | fail
 rfl
theorem zps (v : Int) (h : zP v) : FnC Tryz.prog 157 [iv .i64 v] (iv .i64 (sgnW v)) := by
 unfold zP at h
 have hs : ∃ b : Int, (b = 0 ∨ b = 1) ∧ v.fdiv (2 ^ min (Int.toNat 23) IntKind.i64.bits) = b ∧ sgnW v = v - b * 16777216 := by
  refine ⟨v / 8388608, by omega, Int.fdiv_eq_ediv_of_nonneg _ (by decide), ?_⟩
  unfold sgnW
  split <;> omega
 obtain ⟨b, hb01, hs1, hs2⟩ := hs
 have hs3 : IntKind.i64.wrap (1 * 2 ^ min (Int.toNat 24) IntKind.i64.bits) = 16777216 := by decide
 rw [hs2]
 rcases hb01 with rfl | rfl
 ·refine hdC Tryz.func157 Tryz.ntmps157 (res := [.tmp 2]) fun w0 K0 => ?_
  repeat' first | refine zd ?_ | ((first | refine zi ?_ | refine regA ?_ | refine ⟨_, hs1, ?_⟩ | refine zsq ?_ | refine andA ?_ | fail); conv => whnf) | fail
  rfl
 ·refine hdC Tryz.func157 Tryz.ntmps157 (res := [.tmp 2]) fun w0 K0 => ?_
  repeat' first | refine zd ?_ | ((first | refine zi ?_ | refine regA ?_ | refine ⟨_, hs1, ?_⟩ | refine ⟨_, hs3, ?_⟩ | refine zsq ?_ | refine andA ?_ | fail); conv => whnf) | fail
  rfl
theorem zpG (v : Int) (h : zP v) : FnC Tryz.prog 131 [iv .i64 v] (.t [iv .i64 (sgnW v), iv .i64 0]) := by
 have h1 := zjl 16777215 [v]
 have e : ([v].any fun x => outB x 0 16777215) = false := by
  unfold zP at h
  rw [List.any_cons, List.any_nil, Bool.or_false]
  exact zQ.2 h
 rw [e] at h1
 have h2 := zps v h
 refine hdC Tryz.func131 Tryz.ntmps131 (res := [.tmp 2, .tmp 3]) fun w0 K0 => ?_
 repeat' first | refine zd ?_ | ((first | refine zf ?_ | refine zi ?_ | refine regA ?_ | refine zsn (h1) ?_ | refine zsn (h2) ?_ | fail); conv => whnf) | (refine zss rfl ?_) | fail
 rfl
theorem zoR (v : Int) (h : zP v) : FnC Tryz.prog 73 [iv .i64 v] (iv .i64 (sgnW v)) := by
 have h1 := zpG v h
 refine hdC Tryz.func73 Tryz.ntmps73 (res := [.tmp 2]) fun w0 K0 => ?_
 repeat' first | refine zd ?_ | ((first | refine zi ?_ | refine regA ?_ | refine zsn (h1) ?_ | fail); conv => whnf) | fail
 rfl
theorem zo8 (x : Int) {σ : Sg} : ACall Tryz.prog 67 ([].map AV.x ++ [iv .i64 x] ++ [].map .x) σ (fun r σ' => r = bv (outB x 0 16777215) ∧ σ' = σ) := by
 have h1 := zaL x 0 16777215
 have : FnC Tryz.prog 67 [iv .i64 x] (bv (outB x 0 16777215)) := by
  refine hdC Tryz.func67 Tryz.ntmps67 (res := [.tmp 2]) fun w0 K0 => ?_
  repeat' first | refine zd ?_ | ((first | refine zi ?_ | refine regA ?_ | refine zsn (h1) ?_ | fail); conv => whnf) | fail
  rfl
 exact this.call rfl rfl
abbrev mpS : Nat × Ob := (102, .x (.map (.one (.int .i64)) opsM))
abbrev evS (words : List Int) : Sg := [(100, .box [.d (zR words)]), (101, .box [.h 102]), mpS]
theorem zrf (words : List Int) (i : Int) (n : FNode) (hk : n.kind = 1 ∨ n.kind = 2) (hf : fine words.length n) :
  ACall Tryz.prog 70 ([].map AV.x ++ [iv .i64 i, ndAV n] ++ [.b 100 0].map .x) (evS words) (fun r σ' => r = iv .i64 (zcw words 0 n) ∧ σ' = evS words) := by
 unfold zcw
 by_cases k1 : n.kind = 1
 ·rw [if_pos k1]
  unfold fine at hf
  rw [if_pos k1] at hf
  have hlt : n.var.toNat < words.length := by omega
  have hg : words[n.var.toNat]? = some (words.getD n.var.toNat 0) := by
   rw [List.getD_eq_getElem?_getD, List.getElem?_eq_getElem hlt]; rfl
  generalize words.getD n.var.toNat 0 = v at hg
  show ACall Tryz.prog 70 [iv .i64 i, ndAV n, .x (.b 100 0)] _ _
  refine hdD Tryz.func70 Tryz.ntmps70 (res := [.tmp 5]) fun w0 K0 B => ?_
  repeat' first | refine zd ?_ | ((first | refine zf ?_ | refine zi ?_ | refine regA ?_ | fail); conv => whnf) | exact abA hb | ((with_reducible refine Exists.intro _ (And.intro (ze (And.intro (by omega) (zgb hg))) ?_)); conv => whnf) | (refine zso rfl (fun hb => ?_) (fun hb => ?_)) | ((refine andA ?_); conv => whnf) | fail
  exact ⟨_, evS words, ⟨rfl, rfl, rfl, trivial⟩, rfl, rfl, rfl, rfl⟩
 ·rw [if_neg k1]
  have k2 : n.kind = 2 := by omega
  obtain ⟨f1, f2, f3, f4⟩ := (zgA k2).1 hf
  have hw := zi1 n f2 f3
  show ACall Tryz.prog 70 [iv .i64 i, ndAV n, .x (.b 100 0)] _ _
  refine hdD Tryz.func70 Tryz.ntmps70 (res := [.tmp 5]) fun w0 K0 B => ?_
  repeat' first | refine zd ?_ | ((first | refine zf ?_ | refine zi ?_ | refine regA ?_ | fail); conv => whnf) | exact abA hb | ((refine zsn (hw) ?_); conv => whnf) | (refine zso rfl (fun hb => ?_) (fun hb => ?_)) | ((refine andA ?_); conv => whnf) | fail
  exact ⟨_, evS words, ⟨rfl, rfl, rfl, trivial⟩, rfl, rfl, rfl, rfl⟩
end Go.Proofs.YtmceekhgnfpamaaGreatDoor
namespace Go.Proofs.YtmceekhgnfpamaaGreatDoor
open Go Go.QL FoT
set_option maxHeartbeats 1600000
attribute [local irreducible] ACall FnC fine ten
theorem zlr {v : Int} (h : zP v) : -8388608 ≤ sgnW v ∧ sgnW v ≤ 8388607 := by
 unfold zP at h; unfold sgnW; split <;> omega
theorem zhv {a b : Int} (ha : -8388608 ≤ a ∧ a ≤ 8388607) (hb : -8388608 ≤ b ∧ b ≤ 8388607) : -70368744177664 ≤ a * b ∧ a * b ≤ 70368744177664 := by
 have h1 : (a * b).natAbs ≤ 8388608 * 8388608 := by
  rw [Int.natAbs_mul]
  exact Nat.mul_le_mul (by omega) (by omega)
 omega
theorem zsh (v : Int) : ze6 .and .i64 v 16777215 = v % 16777216 := by
 have e : (BitVec.ofInt 64 v &&& BitVec.ofInt 64 16777215).toNat = (v % 16777216).toNat := by
  rw [BitVec.toNat_and, BitVec.toNat_ofInt, BitVec.toNat_ofInt]
  have e2 : ((16777215 : Int) % ((2 ^ 64 : Nat) : Int)).toNat = 2 ^ 24 - 1 := by decide
  rw [e2, Nat.and_two_pow_sub_one_eq_mod]
  have e3 : ((2 ^ 64 : Nat) : Int) = 18446744073709551616 := by decide
  rw [e3]
  omega
 show IntKind.i64.wrap ((BitVec.ofInt 64 v &&& BitVec.ofInt 64 16777215).toNat : Int) = _
 rw [e, Int.toNat_of_nonneg (by omega)]
 exact zg (by omega)
theorem zre (words : List Int) (i : Int) (n : FNode) (a b : Int) (hk : n.kind = 3 ∨ n.kind = 4 ∨ n.kind = 5) (ha : zP a) (hb' : zP b) :
  ACall Tryz.prog 72 ([].map AV.x ++ [iv .i64 i, ndAV n, iv .i64 a, iv .i64 b] ++ [.b 101 0].map .x) (evS words) (fun r σ' => r = iv .i64 (zdQ 0 n a b) ∧ σ' = evS words) := by
 have h1 := zoR a ha
 have h2 := zoR b hb'
 have b1 := zlr ha
 have b2 := zlr hb'
 show ACall Tryz.prog 72 [iv .i64 i, ndAV n, iv .i64 a, iv .i64 b, .x (.b 101 0)] _ _
 unfold zdQ
 generalize sgnW a = x at *
 generalize sgnW b = y at *
 have hand := zsh
 rcases hk with hk | hk | hk
 ·have hlk : ∀ z, ziY z opsM (.int .i64 n.kind) (opF 126) true := fun z => .inl ⟨rfl, 0, by rw [hk]; rfl⟩
  have h3 := zpa x y (by omega)
  rw [show opV n.kind x y = x + y by unfold opV; rw [if_pos hk]]
  have h4 := hand (x + y)
  refine hdD Tryz.func72 Tryz.ntmps72 (res := [.tmp 9]) fun w0 K0 B => ?_
  repeat' first | refine zd ?_ | ((first | refine zi ?_ | refine regA ?_ | refine drA (id := 1) 8 false [0, 0, 2, 7, 0, 16, 0, 112, 255, 511, 1023] ?_ | refine zsp (h1) ?_ | refine zsp (h2) ?_ | refine zsn (h3) ?_ | refine ⟨_, true, hlk _, rfl, ?_⟩ | refine ⟨_, h4, ?_⟩ | refine andA ?_ | fail); conv => whnf) | fail
  exact ⟨_, evS words, ⟨rfl, rfl, rfl, trivial⟩, rfl, rfl, rfl, rfl⟩
 ·have hlk : ∀ z, ziY z opsM (.int .i64 n.kind) (opF 127) true := fun z => .inl ⟨rfl, 1, by rw [hk]; rfl⟩
  have h3 := zoQ x y (by omega)
  rw [show opV n.kind x y = x - y by unfold opV; rw [if_neg (by omega), if_pos hk]]
  have h4 := hand (x - y)
  refine hdD Tryz.func72 Tryz.ntmps72 (res := [.tmp 9]) fun w0 K0 B => ?_
  repeat' first | refine zd ?_ | ((first | refine zi ?_ | refine regA ?_ | refine drA (id := 1) 8 false [0, 0, 2, 7, 0, 16, 0, 112, 255, 511, 1023] ?_ | refine zsp (h1) ?_ | refine zsp (h2) ?_ | refine zsn (h3) ?_ | refine ⟨_, true, hlk _, rfl, ?_⟩ | refine ⟨_, h4, ?_⟩ | refine andA ?_ | fail); conv => whnf) | fail
  exact ⟨_, evS words, ⟨rfl, rfl, rfl, trivial⟩, rfl, rfl, rfl, rfl⟩
 ·have hlk : ∀ z, ziY z opsM (.int .i64 n.kind) (opF 128) true := fun z => .inl ⟨rfl, 2, by rw [hk]; rfl⟩
  have m := zhv b1 b2
  have h3 := zo1 x y (by omega)
  rw [show opV n.kind x y = x * y / 8388608 by unfold opV; rw [if_neg (by omega), if_neg (by omega)]]
  have h4 := hand (x * y / 8388608)
  refine hdD Tryz.func72 Tryz.ntmps72 (res := [.tmp 9]) fun w0 K0 B => ?_
  repeat' first | refine zd ?_ | ((first | refine zi ?_ | refine regA ?_ | refine drA (id := 1) 8 false [0, 0, 2, 7, 0, 16, 0, 112, 255, 511, 1023] ?_ | refine zsp (h1) ?_ | refine zsp (h2) ?_ | refine zsn (h3) ?_ | refine ⟨_, true, hlk _, rfl, ?_⟩ | refine ⟨_, h4, ?_⟩ | refine andA ?_ | fail); conv => whnf) | fail
  exact ⟨_, evS words, ⟨rfl, rfl, rfl, trivial⟩, rfl, rfl, rfl, rfl⟩
end Go.Proofs.YtmceekhgnfpamaaGreatDoor
namespace Go.Proofs.YtmceekhgnfpamaaGreatDoor
open Go Go.QL FoT
set_option maxHeartbeats 1600000
attribute [local irreducible] ACall FnC fine ten
def iPV (v : Int) : List PV := [.v (.int .i64 v)]
abbrev plI (st k : Nat) (xs : List (List PV)) : Sg := [(50, .box [.o 51 st k]), (51, .chain 3 1 st xs)]
theorem zlH (v : Int) (st k : Nat) (xs : List (List PV)) (hk : k ≤ xs.length) (hl : k ≤ 100) :
  ACall Tryz.prog 129 [.x (.b 50 0), iv .i64 v] (plI st k xs) (fun r σ' => r = .t [] ∧ σ' = plI (st + 1) (k + 1) (xs.take k ++ [iPV v])) := by
 have g1 : k + [iPV v].length ≤ maxLen := by show k + 1 ≤ _; unfold maxLen; omega
 have g2 : (k + [iPV v].length) * 8 ≤ 140737488355328 := by show (k + 1) * 8 ≤ _; omega
 refine hdD Tryz.func129 Tryz.ntmps129 (res := []) fun w0 K0 B => ?_
 repeat' first | ((first | refine regA ?_ | refine And.intro ⟨hk, g1, g2⟩ ?_ | refine andA ?_ | fail); conv => whnf) | fail
 exact ⟨_, plI (st + 1) (k + 1) (xs.take k ++ [iPV v]), ⟨rfl, rfl, trivial⟩, rfl, rfl, rfl, rfl⟩
theorem zpm (a b : Int) (st k : Nat) (xs : List (List PV)) (hk : k + 2 ≤ xs.length) (hl : k ≤ 100) (ha : xs[k]? = some (iPV a)) (hb' : xs[k + 1]? = some (iPV b)) :
  ACall Tryz.prog 130 [.x (.b 50 0)] (plI st (k + 2) xs) (fun r σ' => r = .t [iv .i64 a, iv .i64 b] ∧ σ' = plI st k xs) := by
 have ha' : xs[(((k + 2 : Nat) : Int) - 2).toNat]? = some (iPV a) := by rw [show (((k + 2 : Nat) : Int) - 2).toNat = k by omega]; exact ha
 have hb2 : xs[(((k + 2 : Nat) : Int) - 1).toNat]? = some (iPV b) := by rw [show (((k + 2 : Nat) : Int) - 1).toNat = k + 1 by omega]; exact hb'
 have he : (((k + 2 : Nat) : Int) - 2).toNat = k := by omega
 refine hdD Tryz.func130 Tryz.ntmps130 (res := [.tmp 2, .tmp 3]) fun w0 K0 B => ?_
 repeat' first | refine zd ?_ | ((first | refine zi ?_ | refine regA ?_ | refine drA (id := 2) 17 false [0, 1, 3, 7, 0, 16, 63, 127, 0, 256, 768, 1792, 0, 4096, 16128, 32512, 255, 131071] ?_ | refine ⟨_, ze ha', ⟨Nat.le_of_ble_eq_true rfl, rfl⟩, ?_⟩ | refine ⟨_, ze hb2, ⟨Nat.le_of_ble_eq_true rfl, rfl⟩, ?_⟩ | refine zsq ?_ | refine andA ?_ | fail); conv => whnf) | (refine lnA fun hln => ?_; conv => whnf) | fail
 exact ⟨_, plI st k xs, ⟨congrArg (fun n : Nat => some (Ob.box [.o 51 st n])) he, rfl, trivial⟩, rfl, rfl, rfl, rfl⟩
end Go.Proofs.YtmceekhgnfpamaaGreatDoor
namespace Go.Proofs.YtmceekhgnfpamaaGreatDoor
open Go Go.QL FoT
set_option maxHeartbeats 1600000
attribute [local irreducible] ACall FnC fine ten
def Ht (f : FormT) (i p : Nat) : Prop := ∃ s e : CS, s.p = p ∧ p ≤ 12 ∧ zav f.vars.length (f.code.drop i) s = .ok e ∧ e.p = 1
theorem zdt {f : FormT} (h : zD f = 0) : Ht f 0 0 := by
 unfold zD at h
 split at h
 ·cases h
 ·split at h
  ·rename_i e he
   rcases zhc (V := f.vars) f.vars [] with h1 | h1 | h1 <;> rw [h1] at he <;> cases he <;> cases h
  ·split at h
   ·rename_i e he
    exact absurd h (fun h0 => by
     have key : ∀ (l : List FNode) (s : CS) (e : Int), zav f.vars.length l s = .error e → e ≠ 0 := by
      intro l
      induction l with
      | nil => intro s e he; cases he
      | cons n r ih =>
       intro s e he
       unfold zav at he
       cases hs : zbx f.vars.length n s with
       | error e' => rw [hs] at he; cases he; exact zfX hs
       | ok s' => rw [hs] at he; exact ih _ _ he
     exact key _ _ _ he h0)
   ·rename_i s hs
    refine ⟨⟨0, 0, true⟩, s, rfl, Nat.zero_le _, hs, ?_⟩
    by_cases hp : s.p = 1
    ·exact hp
    ·rw [if_pos hp] at h; cases h
theorem zdR {f : FormT} {i p : Nat} (hi : i < f.code.length) (h : Ht f i p) : (1 ≤ f.code[i].kind ∧ f.code[i].kind ≤ 5) ∧ fine f.vars.length f.code[i] ∧ (f.code[i].kind < 3 → Ht f (i + 1) (p + 1)) ∧ (3 ≤ f.code[i].kind → ∃ q, p = q + 2 ∧ Ht f (i + 1) (q + 1)) := by
 obtain ⟨s, e, h1, hp12, h2, h3⟩ := h
 rw [List.drop_eq_getElem_cons hi] at h2
 unfold zav at h2
 cases hs : zbx f.vars.length f.code[i] s with
 | error e' => rw [hs] at h2; cases h2
 | ok s' =>
  rw [hs] at h2
  obtain ⟨a, b, c, d⟩ := zd7 hs
  obtain ⟨k1, k2, k3⟩ := zfu a
  subst d
  refine ⟨⟨k1, k2⟩, k3, fun hk => ?_, fun hk => ?_⟩
  ·rw [if_neg (by omega)] at h2 c
   exact ⟨_, e, by show s.p + 1 = p + 1; omega, by omega, h2, h3⟩
  ·rw [if_pos hk] at h2 c
   refine ⟨s.p - 2, by omega, _, e, by show s.p - 2 + 1 = _; rfl, by omega, h2, h3⟩
theorem ziw {f : FormT} {i p : Nat} (hi : f.code.length ≤ i) (h : Ht f i p) : p = 1 := by
 obtain ⟨s, e, h1, _, h2, h3⟩ := h
 rw [List.drop_eq_nil_of_le hi] at h2
 cases h2
 omega
theorem zbD {f : FormT} (h : zD f = 0) : f.vars.length ≤ 8 ∧ 1 ≤ f.code.length ∧ f.code.length ≤ 40 := by
 unfold zD at h
 split at h
 ·cases h
 ·rename_i h0
  omega
theorem zfT {α : Type} {l : List α} {q : Nat} (h : l.length = q + 2) : ∃ (r : List α) (a b : α), l = r ++ [a, b] ∧ r.length = q := by
 have h1 : l = l.take q ++ l.drop q := (List.take_append_drop q l).symm
 have h2 : (l.drop q).length = 2 := by rw [List.length_drop]; omega
 match hd : l.drop q, h2 with
 | [a, b], _ => exact ⟨l.take q, a, b, by rw [← hd]; exact h1, by rw [List.length_take]; omega⟩
theorem zaG {α : Type} {pv : α → List PV} {xs : List (List PV)} {st : List α} {k : Nat} (hk : st.length = k) (h : xs.take k = st.map pv) (x : α) : (xs.take k ++ [pv x]).take (k + 1) = (st ++ [x]).map pv := by
 rw [h, List.map_append, List.take_of_length_le (by simp [hk])]; rfl
theorem zi7 {α : Type} {pv : α → List PV} {xs : List (List PV)} {r : List α} {a b : α} {q : Nat} (hq : r.length = q) (h : xs.take (q + 2) = (r ++ [a, b]).map pv) : q + 2 ≤ xs.length ∧ xs[q]? = some (pv a) ∧ xs[q + 1]? = some (pv b) ∧ xs.take q = r.map pv := by
 have hl : (xs.take (q + 2)).length = q + 2 := by rw [h]; simp [hq]
 rw [List.length_take] at hl
 have g1 : (xs.take (q + 2))[q]? = some (pv a) := by rw [h, List.map_append, List.getElem?_append_right (by simp [hq])]; simp [hq]
 have g2 : (xs.take (q + 2))[q + 1]? = some (pv b) := by rw [h, List.map_append, List.getElem?_append_right (by simp [hq])]; simp [hq]
 rw [List.getElem?_take, if_pos (by omega)] at g1 g2
 refine ⟨by omega, g1, g2, ?_⟩
 have : xs.take q = (xs.take (q + 2)).take q := by rw [List.take_take, Nat.min_eq_left (by omega)]
 rw [this, h, List.map_append, List.take_append_of_le_length (by simp [hq]), List.take_of_length_le (by simp [hq])]
end Go.Proofs.YtmceekhgnfpamaaGreatDoor
namespace Go.Proofs.YtmceekhgnfpamaaGreatDoor
open Go Go.QL FoT
set_option maxHeartbeats 1600000
attribute [local irreducible] ACall FnC fine ten
abbrev orAV (op a b c : Int) : AV := .a [.d (.v (.int .i64 op)), .d (.v (.int .i64 a)), .d (.v (.int .i64 b)), .d (.v (.int .i64 c))]
abbrev orPV (op a b c : Int) : List PV := [.v (.int .i64 op), .v (.int .i64 a), .v (.int .i64 b), .v (.int .i64 c)]
theorem or7 {a b : Int} (ha : 0 ≤ a ∧ a ≤ 1000000000) (hb : 0 ≤ b ∧ b ≤ 127) : ze6 .or .i64 (a * 128) b = a * 128 + b := by
 obtain ⟨x, rfl⟩ : ∃ x : Nat, a = x := ⟨a.toNat, by omega⟩
 obtain ⟨y, rfl⟩ : ∃ y : Nat, b = y := ⟨b.toNat, by omega⟩
 have e1 : BitVec.ofInt 64 ((x : Int) * 128) = BitVec.ofNat 64 (x * 128) := by
  rw [show (x : Int) * 128 = ((x * 128 : Nat) : Int) by push_cast; rfl, BitVec.ofInt_natCast]
 have e2 : BitVec.ofInt 64 ((y : Int)) = BitVec.ofNat 64 y := BitVec.ofInt_natCast ..
 show IntKind.i64.wrap ((BitVec.ofInt 64 ((x : Int) * 128) ||| BitVec.ofInt 64 (y : Int)).toNat : Int) = _
 rw [e1, e2, BitVec.toNat_or, BitVec.toNat_ofNat, BitVec.toNat_ofNat, Nat.mod_eq_of_lt (by omega), Nat.mod_eq_of_lt (by omega)]
 have e3 : x * 128 ||| y = x * 128 + y := by
  have := Nat.two_pow_add_eq_or_of_lt (i := 7) (show y < 2 ^ 7 by omega) x
  rw [show 2 ^ 7 * x = x * 128 by omega] at this
  exact this.symm
 rw [e3]
 push_cast
 exact zg (by omega)
theorem zjj (a b : Int) (ha : 0 ≤ a ∧ a ≤ 1000000000) (hb' : 0 ≤ b ∧ b ≤ 127) : FnC Tryz.prog 160 [iv .i64 a, iv .i64 b] (iv .i64 (a * 128 + b)) := by
 have h1 : IntKind.i64.wrap (a * 2 ^ min (Int.toNat 7) IntKind.i64.bits) = a * 128 := by
  show IntKind.i64.wrap (a * 128) = _
  exact zg (by omega)
 have h2 := or7 ha hb'
 refine hdC Tryz.func160 Tryz.ntmps160 (res := [.tmp 4]) fun w0 K0 => ?_
 repeat' first | refine zd ?_ | ((first | refine zi ?_ | refine regA ?_ | refine ⟨_, h1, ?_⟩ | refine ⟨_, h2, ?_⟩ | refine andA ?_ | fail); conv => whnf) | fail
 rfl
theorem zkG (op a b c : Int) (h0 : 0 ≤ op ∧ op ≤ 7) (h1 : 0 ≤ a ∧ a ≤ 127) (h2 : 0 ≤ b ∧ b ≤ 127) (h3 : 0 ≤ c ∧ c ≤ 127) : FnC Tryz.prog 159 [orAV op a b c] (bv false) := by
 have o1 := zjl 7 [op]
 have o2 := zjl 127 [a, b, c]
 have e1 : ([op].any fun x => outB x 0 7) = false := by
  rw [List.any_cons, List.any_nil, Bool.or_false]
  exact zQ.2 h0
 have e2 : ([a, b, c].any fun x => outB x 0 127) = false := by
  rw [List.any_cons, List.any_cons, List.any_cons, List.any_nil, zQ.2 h1, zQ.2 h2, zQ.2 h3]; rfl
 rw [e1] at o1
 rw [e2] at o2
 refine hdC Tryz.func159 Tryz.ntmps159 (res := [.tmp 2]) fun w0 K0 => ?_
 repeat' first | refine zd ?_ | ((first | refine zi ?_ | refine regA ?_ | refine zsn (o1) ?_ | refine zsp (o2) ?_ | refine andA ?_ | fail); conv => whnf) | fail
 rfl
theorem zri (op a b c : Int) (h0 : 0 ≤ op ∧ op ≤ 7) (h1 : 0 ≤ a ∧ a ≤ 127) (h2 : 0 ≤ b ∧ b ≤ 127) (h3 : 0 ≤ c ∧ c ≤ 127) : FnC Tryz.prog 137 [orAV op a b c] (.t [iv .i64 (encW op a b c), iv .i64 0]) := by
 have st := zkG op a b c h0 h1 h2 h3
 have p1 := zjj op a (by omega) h1
 have p2 := zjj (op * 128 + a) b (by omega) h2
 have p3 := zjj ((op * 128 + a) * 128 + b) c (by omega) h3
 unfold encW
 refine hdC Tryz.func137 Tryz.ntmps137 (res := [.tmp 2, .tmp 3]) fun w0 K0 => ?_
 repeat' first | refine zd ?_ | ((first | refine zf ?_ | refine zi ?_ | refine regA ?_ | refine drA (id := 3) 10 false [0, 1, 0, 4, 15, 0, 32, 127, 0, 256, 1023, 2047, 4095] ?_ | refine zsn (st) ?_ | refine zsp (p1) ?_ | refine zsp (p2) ?_ | refine zsn (p3) ?_ | fail); conv => whnf) | (refine zss rfl ?_) | ((refine andA ?_); conv => whnf) | fail
 rfl
abbrev emS (f : FormT) (st k : Nat) (xs : List (List PV)) : Sg := [(60, .box [.d (zac f.vars), .d (zS f.code), .o 61 st k]), (61, .chain 3 1 st xs)]
theorem zgo (f : FormT) (op a b : Int) (st k : Nat) (xs : List (List PV)) (hk : k ≤ xs.length) (hk2 : k ≤ 126) (h0 : 0 ≤ op ∧ op ≤ 7) (h1 : 0 ≤ a ∧ a ≤ 127) (h2 : 0 ≤ b ∧ b ≤ 127) :
  ACall Tryz.prog 85 [.x (.b 60 0), .x (.d (.s 4 [orPV op a b 0]))] (emS f st k xs) (fun r σ' => r = .t [] ∧ σ' = emS f (st + 1) (k + 1) (xs.take k ++ [iPV (encW op a b (k + 1))])) := by
 have en := zri op a b ((k : Int) + 1) h0 h1 h2 (by omega)
 generalize encW op a b ((k : Int) + 1) = E at *
 have g1 : k + [iPV E].length ≤ maxLen := by show k + 1 ≤ _; unfold maxLen; omega
 have g2 : (k + [iPV E].length) * 8 ≤ 140737488355328 := by show (k + 1) * 8 ≤ _; omega
 refine hdD Tryz.func85 Tryz.ntmps85 (res := []) fun w0 K0 B => ?_
 repeat' first | refine zd ?_ | refine zc ?_ | ((refine regA ?_); conv => whnf) | (refine lnA fun hln => ?_; conv => whnf) | fail
 refine zJ (fun j : Nat => [(10, iv .i64 j), (9, iv .i64 1), (8, .x (.d (.s 4 [orPV op a b 0]))), (0, .x (.b 60 0))])
  (fun j => emS f (st + j) (k + j) (if j = 0 then xs else xs.take k ++ [iPV E])) (fun j => j ≤ 1) (fun j => 1 - j) 0 (Nat.zero_le _) impA ?_
 intro j hj
 have hj' : j = 0 ∨ j = 1 := by omega
 rcases hj' with rfl | rfl
 ·repeat' first | refine zd ?_ | refine zc ?_ | ((first | refine zf ?_ | refine regA ?_ | refine ⟨orPV op a b 0, ze ⟨by omega, rfl⟩, ?_⟩ | refine zsn (en) ?_ | refine And.intro ⟨hk, g1, g2⟩ ?_ | fail); conv => whnf) | (refine zst rfl ?_) | ((first | refine zsq ?_ | refine andA ?_ | fail); conv => whnf) | (refine lnA fun hln => ?_; conv => whnf) | fail
  exact ⟨1, by omega, by omega, impA⟩
 ·repeat' first | refine zd ?_ | ((first | refine zk ?_ | refine regA ?_ | fail); conv => whnf) | (refine zss rfl ?_) | fail
  all_goals trace_state
  exact ⟨_, emS f (st + 1) (k + 1) (xs.take k ++ [iPV E]), ⟨rfl, rfl, trivial⟩, rfl, rfl, rfl, rfl⟩
end Go.Proofs.YtmceekhgnfpamaaGreatDoor
namespace Go.Proofs.YtmceekhgnfpamaaGreatDoor
open Go Go.QL Go.RowKit Go.Shelf FoT
set_option maxHeartbeats 1600000
attribute [local irreducible] ACall FnC
def zoi : Go.Shelf.Ren := ⟨fun | 4 => 138 | n => n, fun | 0 => 0 | 3 => 3 | 4 => 4 | 9 => 9 | 20 => 20 | 22 => 35 | 25 => 3 | n => n, fun n => n⟩
theorem zmD : Go.Proofs.Lays8.n4 Tryz.prog zoi := {
 mixed := by kernel_rfl
 f4 := ⟨Tryz.f138.name, by kernel_rfl, Tryz.func138.trans (congrArg some (by kernel_rfl))⟩
 t0 := Tryz.underlying0
 a0 := Tryz.isAgg0
 z0 := Tryz.sizeOf0
 v0 := Tryz.zeroValue0
 t3 := Tryz.underlying3
 a3 := Tryz.isAgg3
 z3 := Tryz.sizeOf3
 v3 := Tryz.zeroValue3
 t4 := Tryz.underlying4
 a4 := Tryz.isAgg4
 z4 := Tryz.sizeOf4
 v4 := Tryz.zeroValue4
 t9 := Tryz.underlying9
 a9 := Tryz.isAgg9
 z9 := Tryz.sizeOf9
 v9 := Tryz.zeroValue9
 t20 := Tryz.underlying20
 a20 := Tryz.isAgg20
 z20 := Tryz.sizeOf20
 v20 := Tryz.zeroValue20
 t22 := Tryz.underlying35
 a22 := Tryz.isAgg35
 z22 := Tryz.sizeOf35
 v22 := Tryz.zeroValue35 }
theorem zqa (n : Nat) (h0 : 0 < n) (hn : n ≤ 100000) : ACall Tryz.prog 138 [.x (.d (.v (.slice none 0 0))), iv .i64 n] [] (fun r σ' => r = .x (.o 50 0 0) ∧ σ' = [(50, .chain 3 1 0 [])]) := by
 unfold ACall
 refine ⟨⟨_, Tryz.func138, rfl, rfl⟩, fun w0 K0 g w vs hL hp hs' hv => ?_⟩
 obtain ⟨u, v, rfl⟩ : ∃ u v, vs = #[u, v] := by
  match vs, hs' with
  | ⟨[u, v]⟩, _ => exact ⟨u, v, rfl⟩
 have h2 := zm (hv 0 (.x (.d (.v (.slice none 0 0)))) u rfl rfl)
 have h3 := zm (hv 1 (iv .i64 n) v rfl rfl)
 subst h2; subst h3
 obtain ⟨info, z, i1, i2, i3, i4, i5⟩ := (hTt 3 _ rfl).info
 have hsz : info.size = 1 := i2
 have hby : info.bytes = 8 := i3
 have hzl : z.cells.size = 1 := by rw [i5]; rfl
 refine (show Calls Tryz.prog 138 #[.slice none 0 0, .int .i64 n] w _ from Any8.slices_Grow_grow zmD info z i1 i4 (by omega) none 0 0 n [] w (by omega) (by omega) (by rw [hby]; omega) (by omega) (by simp) (fun _ => rfl) (fun a h => by cases h)).mono ?_
 rintro e w' ⟨rfl, rfl⟩
 have hd1 := hp.grow (w' := w.drew) (K' := g.K) (Below.refl w.heap.size w).drew ⟨fun _ _ h => h, fun b o hk => rfl⟩ (fun _ _ _ h => h) (fun b o hk => hp.val b o hk)
 have hcap : grownCap w (0 + n) 0 3 ≤ maxLen := grownCap_le_maxLen w (0 + n) 0 3 (by unfold maxLen; omega)
 have hge : 0 + n ≤ grownCap w (0 + n) 0 3 := grownCap_ge w _ _ _
 have hge2 := hge
 rw [Nat.zero_add] at hge2
 have hd2 := hd1.hp.addChain 50 rfl 3 1 (grownCap w (0 + n) 0 3) [] (([] : List Value).toArray ++ Builtin.zeroCells z.cells (0 + n - 0) ++ Builtin.zeroCells z.cells (grownCap w (0 + n) 0 3 - (0 + n))) (by simp) hcap
  (by simp [Builtin.zeroCells, hzl]; omega) (by simp) (fun i x h => by simp at h)
 refine ⟨_, _, _, _, rfl, hd1.trans hd2, ?_, rfl, rfl⟩
 refine .o 50 0 0 3 1 [] _ _ rfl (Nat.le_refl _) ?_
 dsimp only
 rw [zy]
 rfl
theorem zlQ {tt : TT} {a : Nat} {fr : Fr} {σ : Sg} {c st n : Nat} {e : TypeId} {sz : Nat} {xs : List (List PV)} (h1 : lk a fr = some (.x (.o c st n))) (h3 : lk c σ = some (.chain e sz st xs)) (h4 : n ≤ xs.length) :
  za6 tt [.tmp a] fr σ = some (.x (.d (.s sz (xs.take n)))) := by
 simp [za6, zbY, zhp, h1, zd1, zbV, zbW, zbq, h3, h4]
theorem zN {l : List Int} : (l.map fun n => [PV.v (.int .i64 n)]).length = l.length := List.length_map _
theorem zmV (a b c d : List Int) (h1 : 0 < a.length) (ha : a.length ≤ 1000) (hb' : b.length ≤ 1000) (hc : c.length ≤ 1000) (hd : d.length ≤ 1000) :
  FnC Tryz.prog 86 [.x (.d (.s 1 [[zR a], [zR b], [zR c], [zR d]]))] (sl (a ++ b ++ c ++ d)) := by
 have gr := zqa (a.length + b.length + c.length + d.length) (by omega) (by omega)
 refine hdC Tryz.func86 Tryz.ntmps86 (res := [.tmp 2]) fun w0 K0 => ?_
 repeat' first | refine zd ?_ | refine zc ?_ | ((refine regA ?_); conv => whnf) | (refine lnA fun hln => ?_; conv => whnf) | fail
 refine zJ (fun x : Nat × Nat => [(11, iv .i64 x.1), (10, iv .i64 4), (9, .x (.d (.s 1 [[zR a], [zR b], [zR c], [zR d]]))), (0, .x (.d (.s 1 [[zR a], [zR b], [zR c], [zR d]]))), (3, iv .i64 x.2)]) (fun _ => [])
  (fun x => (x.1 = 0 ∧ x.2 = 0) ∨ (x.1 = 1 ∧ x.2 = a.length) ∨ (x.1 = 2 ∧ x.2 = a.length + b.length) ∨ (x.1 = 3 ∧ x.2 = a.length + b.length + c.length) ∨ (x.1 = 4 ∧ x.2 = a.length + b.length + c.length + d.length)) (fun x => 4 - x.1) (0, 0) (.inl ⟨rfl, rfl⟩) impA ?_
 rintro ⟨i, m⟩ h
 dsimp only at h ⊢
 rcases h with ⟨rfl, rfl⟩ | ⟨rfl, rfl⟩ | ⟨rfl, rfl⟩ | ⟨rfl, rfl⟩ | ⟨rfl, rfl⟩
 ·repeat' first | refine zd ?_ | refine zc ?_ | ((first | refine zf ?_ | refine regA ?_ | refine ⟨[zR a], ze ⟨by omega, rfl⟩, ?_⟩ | fail); conv => whnf) | (refine zst rfl ?_) | (refine zss rfl ?_) | ((first | refine zsq ?_ | refine andA ?_ | fail); conv => whnf) | (refine lnA fun hln => ?_; conv => whnf) | fail
  exact ⟨(1, a.length), .inr (.inl ⟨rfl, rfl⟩), by show 4 - 1 < 4 - 0; decide, (impX (by repeat' (first | exact trivial | refine And.intro ?_ ?_ | exact ivE (show ((0 : Nat) : Int) + 1 = ((1 : Nat) : Int) from rfl) | exact ivE (by rw [zN]; push_cast; omega) | exact zsw)))⟩
 ·repeat' first | refine zd ?_ | refine zc ?_ | ((first | refine zf ?_ | refine regA ?_ | refine ⟨[zR b], ze ⟨by omega, rfl⟩, ?_⟩ | fail); conv => whnf) | (refine zst rfl ?_) | (refine zss rfl ?_) | ((first | refine zsq ?_ | refine andA ?_ | fail); conv => whnf) | (refine lnA fun hln => ?_; conv => whnf) | fail
  exact ⟨(2, a.length + b.length), .inr (.inr (.inl ⟨rfl, rfl⟩)), by show 4 - 2 < 4 - 1; decide, (impX (by repeat' (first | exact trivial | refine And.intro ?_ ?_ | exact ivE (show ((1 : Nat) : Int) + 1 = ((2 : Nat) : Int) from rfl) | exact ivE (by rw [zN]; push_cast; omega) | exact zsw)))⟩
 ·repeat' first | refine zd ?_ | refine zc ?_ | ((first | refine zf ?_ | refine regA ?_ | refine ⟨[zR c], ze ⟨by omega, rfl⟩, ?_⟩ | fail); conv => whnf) | (refine zst rfl ?_) | (refine zss rfl ?_) | ((first | refine zsq ?_ | refine andA ?_ | fail); conv => whnf) | (refine lnA fun hln => ?_; conv => whnf) | fail
  exact ⟨(3, a.length + b.length + c.length), .inr (.inr (.inr (.inl ⟨rfl, rfl⟩))), by show 4 - 3 < 4 - 2; decide, (impX (by repeat' (first | exact trivial | refine And.intro ?_ ?_ | exact ivE (show ((2 : Nat) : Int) + 1 = ((3 : Nat) : Int) from rfl) | exact ivE (by rw [zN]; push_cast; omega) | exact zsw)))⟩
 ·repeat' first | refine zd ?_ | refine zc ?_ | ((first | refine zf ?_ | refine regA ?_ | refine ⟨[zR d], ze ⟨by omega, rfl⟩, ?_⟩ | fail); conv => whnf) | (refine zst rfl ?_) | (refine zss rfl ?_) | ((first | refine zsq ?_ | refine andA ?_ | fail); conv => whnf) | (refine lnA fun hln => ?_; conv => whnf) | fail
  exact ⟨(4, a.length + b.length + c.length + d.length), .inr (.inr (.inr (.inr ⟨rfl, rfl⟩))), by show 4 - 4 < 4 - 3; decide, (impX (by repeat' (first | exact trivial | refine And.intro ?_ ?_ | exact ivE (show ((3 : Nat) : Int) + 1 = ((4 : Nat) : Int) from rfl) | exact ivE (by rw [zN]; push_cast; omega) | exact zsw)))⟩
 ·repeat' first | refine zd ?_ | refine zc ?_ | ((first | refine zk ?_ | refine regA ?_ | refine frA (gr) [(50, 900)] ?_ | fail); conv => whnf) | (refine zss rfl ?_) | (refine lnA fun hln => ?_; conv => whnf) | fail
  refine zJ (fun x : Nat × List Int => [(27, iv .i64 x.1), (26, iv .i64 4), (25, .x (.d (.s 1 [[zR a], [zR b], [zR c], [zR d]]))), (6, .x (.o 900 x.1 x.2.length))]) (fun x => [(900, .chain 3 1 x.1 (x.2.map fun n => [PV.v (.int .i64 n)]))])
   (fun x => (x.1 = 0 ∧ x.2 = []) ∨ (x.1 = 1 ∧ a = x.2) ∨ (x.1 = 2 ∧ x.2 = a ++ b) ∨ (x.1 = 3 ∧ x.2 = a ++ b ++ c) ∨ (x.1 = 4 ∧ x.2 = a ++ b ++ c ++ d)) (fun x => 4 - x.1) (0, []) (.inl ⟨rfl, rfl⟩) impA ?_
  rintro ⟨i, l⟩ h
  dsimp only at h ⊢
  rcases h with ⟨rfl, rfl⟩ | ⟨rfl, rfl⟩ | ⟨rfl, rfl⟩ | ⟨rfl, rfl⟩ | ⟨rfl, rfl⟩
  ·have g0 : (([] : List Int)).length ≤ ((([] : List Int)).map fun n => [PV.v (.int .i64 n)]).length := by rw [zN]; exact Nat.le_refl _
   have g1 : (([] : List Int)).length + ((a).map fun n => [PV.v (.int .i64 n)]).length ≤ maxLen := by rw [zN]; (try simp only [List.length_append, List.length_nil]); unfold maxLen; omega
   have g2 : ((([] : List Int)).length + ((a).map fun n => [PV.v (.int .i64 n)]).length) * 8 ≤ 140737488355328 := by rw [zN]; (try simp only [List.length_append, List.length_nil]); omega
   have e : ((([] : List Int)).map fun n => [PV.v (.int .i64 n)]).take (([] : List Int)).length ++ ((a).map fun n => [PV.v (.int .i64 n)]) = ((a)).map fun n => [PV.v (.int .i64 n)] := by
    rw [List.take_of_length_le (by rw [zN]; exact Nat.le_refl _)]; rfl
   repeat' first | refine zd ?_ | refine zc ?_ | ((first | refine zf ?_ | refine regA ?_ | refine ⟨[zR a], ze ⟨by omega, rfl⟩, ?_⟩ | refine And.intro ⟨g0, g1, g2⟩ ?_ | fail); conv => whnf) | (refine zst rfl ?_) | ((first | refine zsq ?_ | refine andA ?_ | fail); conv => whnf) | fail
   exact ⟨(1, (a)), .inr (.inl ⟨rfl, rfl⟩), by show 4 - 1 < 4 - 0; decide, (impX (by repeat' (first | exact trivial | refine And.intro ?_ ?_ | exact ivE (show ((0 : Nat) : Int) + 1 = ((1 : Nat) : Int) from rfl) | exact oE (by rw [zN]; exact List.length_append.symm) | exact oE (by rw [zN]; exact Nat.zero_add _) | exact chE e | exact zsw)))⟩
  ·have g0 : ((a)).length ≤ (((a)).map fun n => [PV.v (.int .i64 n)]).length := by rw [zN]; exact Nat.le_refl _
   have g1 : ((a)).length + ((b).map fun n => [PV.v (.int .i64 n)]).length ≤ maxLen := by rw [zN]; (try simp only [List.length_append, List.length_nil]); unfold maxLen; omega
   have g2 : (((a)).length + ((b).map fun n => [PV.v (.int .i64 n)]).length) * 8 ≤ 140737488355328 := by rw [zN]; (try simp only [List.length_append, List.length_nil]); omega
   have e : (((a)).map fun n => [PV.v (.int .i64 n)]).take ((a)).length ++ ((b).map fun n => [PV.v (.int .i64 n)]) = ((a ++ b)).map fun n => [PV.v (.int .i64 n)] := by
    rw [List.take_of_length_le (by rw [zN]; exact Nat.le_refl _)]; exact List.map_append.symm
   repeat' first | refine zd ?_ | refine zc ?_ | ((first | refine zf ?_ | refine regA ?_ | refine ⟨[zR b], ze ⟨by omega, rfl⟩, ?_⟩ | refine And.intro ⟨g0, g1, g2⟩ ?_ | fail); conv => whnf) | (refine zst rfl ?_) | ((first | refine zsq ?_ | refine andA ?_ | fail); conv => whnf) | fail
   exact ⟨(2, (a ++ b)), .inr (.inr (.inl ⟨rfl, rfl⟩)), by show 4 - 2 < 4 - 1; decide, (impX (by repeat' (first | exact trivial | refine And.intro ?_ ?_ | exact ivE (show ((1 : Nat) : Int) + 1 = ((2 : Nat) : Int) from rfl) | exact oE (by rw [zN]; exact List.length_append.symm) | exact oE (by rw [zN]; exact Nat.zero_add _) | exact chE e | exact zsw)))⟩
  ·have g0 : ((a ++ b)).length ≤ (((a ++ b)).map fun n => [PV.v (.int .i64 n)]).length := by rw [zN]; exact Nat.le_refl _
   have g1 : ((a ++ b)).length + ((c).map fun n => [PV.v (.int .i64 n)]).length ≤ maxLen := by rw [zN]; (try simp only [List.length_append, List.length_nil]); unfold maxLen; omega
   have g2 : (((a ++ b)).length + ((c).map fun n => [PV.v (.int .i64 n)]).length) * 8 ≤ 140737488355328 := by rw [zN]; (try simp only [List.length_append, List.length_nil]); omega
   have e : (((a ++ b)).map fun n => [PV.v (.int .i64 n)]).take ((a ++ b)).length ++ ((c).map fun n => [PV.v (.int .i64 n)]) = ((a ++ b ++ c)).map fun n => [PV.v (.int .i64 n)] := by
    rw [List.take_of_length_le (by rw [zN]; exact Nat.le_refl _)]; exact List.map_append.symm
   repeat' first | refine zd ?_ | refine zc ?_ | ((first | refine zf ?_ | refine regA ?_ | refine ⟨[zR c], ze ⟨by omega, rfl⟩, ?_⟩ | refine And.intro ⟨g0, g1, g2⟩ ?_ | fail); conv => whnf) | (refine zst rfl ?_) | ((first | refine zsq ?_ | refine andA ?_ | fail); conv => whnf) | fail
   exact ⟨(3, (a ++ b ++ c)), .inr (.inr (.inr (.inl ⟨rfl, rfl⟩))), by show 4 - 3 < 4 - 2; decide, (impX (by repeat' (first | exact trivial | refine And.intro ?_ ?_ | exact ivE (show ((2 : Nat) : Int) + 1 = ((3 : Nat) : Int) from rfl) | exact oE (by rw [zN]; exact List.length_append.symm) | exact oE (by rw [zN]; exact Nat.zero_add _) | exact chE e | exact zsw)))⟩
  ·have g0 : ((a ++ b ++ c)).length ≤ (((a ++ b ++ c)).map fun n => [PV.v (.int .i64 n)]).length := by rw [zN]; exact Nat.le_refl _
   have g1 : ((a ++ b ++ c)).length + ((d).map fun n => [PV.v (.int .i64 n)]).length ≤ maxLen := by rw [zN]; (try simp only [List.length_append, List.length_nil]); unfold maxLen; omega
   have g2 : (((a ++ b ++ c)).length + ((d).map fun n => [PV.v (.int .i64 n)]).length) * 8 ≤ 140737488355328 := by rw [zN]; (try simp only [List.length_append, List.length_nil]); omega
   have e : (((a ++ b ++ c)).map fun n => [PV.v (.int .i64 n)]).take ((a ++ b ++ c)).length ++ ((d).map fun n => [PV.v (.int .i64 n)]) = ((a ++ b ++ c ++ d)).map fun n => [PV.v (.int .i64 n)] := by
    rw [List.take_of_length_le (by rw [zN]; exact Nat.le_refl _)]; exact List.map_append.symm
   repeat' first | refine zd ?_ | refine zc ?_ | ((first | refine zf ?_ | refine regA ?_ | refine ⟨[zR d], ze ⟨by omega, rfl⟩, ?_⟩ | refine And.intro ⟨g0, g1, g2⟩ ?_ | fail); conv => whnf) | (refine zst rfl ?_) | ((first | refine zsq ?_ | refine andA ?_ | fail); conv => whnf) | fail
   exact ⟨(4, (a ++ b ++ c ++ d)), .inr (.inr (.inr (.inr ⟨rfl, rfl⟩))), by show 4 - 4 < 4 - 3; decide, (impX (by repeat' (first | exact trivial | refine And.intro ?_ ?_ | exact ivE (show ((3 : Nat) : Int) + 1 = ((4 : Nat) : Int) from rfl) | exact oE (by rw [zN]; exact List.length_append.symm) | exact oE (by rw [zN]; exact Nat.zero_add _) | exact chE e | exact zsw)))⟩
  ·repeat' first | refine zd ?_ | ((first | refine zk ?_ | refine zi ?_ | refine regA ?_ | fail); conv => whnf) | (refine zss rfl ?_) | fail
   rw [zlQ rfl rfl (by rw [zN]; exact Nat.le_refl _), List.take_of_length_le (by rw [zN]; exact Nat.le_refl _)]
   rfl
end Go.Proofs.YtmceekhgnfpamaaGreatDoor
namespace Go.Proofs.YtmceekhgnfpamaaGreatDoor
open Go Go.QL FoT
set_option maxHeartbeats 3200000
attribute [local irreducible] ACall FnC fine ten zav zD encW
abbrev gwS (h m c : Int) : Sg := [(11, .box [.d (.v (.int .i64 h))]), (13, .box [.d (.v (.int .i64 m))]), (10, .box [.d (.v (.int .i64 c))])]
theorem zq7 (h m c : Int) (h0 : 0 ≤ h ∧ h ≤ 1000) (hc : 0 ≤ c ∧ c ≤ 1000) : ACall Tryz.prog 84 ([].map AV.x ++ [] ++ [.b 11 0, .b 13 0, .b 10 0].map .x) (gwS h m c) (fun r σ' => r = iv .i64 (c + h) ∧ σ' = gwS (h + 1) (max m (h + 1)) c) := by
 show ACall Tryz.prog 84 [.x (.b 11 0), .x (.b 13 0), .x (.b 10 0)] _ _
 have hw : IntKind.i64.wrap (c + (h + 1) - 1) = c + h := by rw [zg (by omega)]; omega
 have em : (if h + 1 > m then h + 1 else m) = max m (h + 1) := by split <;> omega
 rw [← em]
 refine hdD Tryz.func84 Tryz.ntmps84 (res := [.tmp 3]) fun w0 K0 B => ?_
 repeat' first | refine zd ?_ | ((first | refine zi ?_ | refine regA ?_ | refine ⟨_, hw, ?_⟩ | refine zsq ?_ | fail); conv => whnf) | fail
 exact ⟨_, gwS (h + 1) (if h + 1 > m then h + 1 else m) c, ⟨rfl, rfl, rfl, trivial⟩, rfl, rfl, rfl, rfl⟩
theorem zgp : ∀ (l : List FNode) (n : FNode), zal (l ++ [n]) = zal l ++ (if n.kind = 2 then [zbo n] else [])
 | [], n => by by_cases h : n.kind = 2 <;> simp [zal, h]
 | x :: r, n => by
  rw [List.cons_append, zal, zal, zgp r n]
  split <;> rfl
theorem ze4 : ∀ (l : List FNode), (zal l).length ≤ l.length
 | [] => Nat.le_refl _
 | x :: r => by
  have := ze4 r
  rw [zal]
  split
  ·simp only [List.length_cons]; try omega
  ·simp only [List.length_cons]; try omega
theorem zkJ (v : Int) (i : Nat) : zaT v (i + 1) = zaT v i ++ [encW 6 0 (v + i) (i + 1)] := by
 unfold zaT
 rw [List.range_succ, List.map_append]; rfl
theorem zcs (v : Int) (i : Nat) : (zaT v i).length = i := by unfold zaT; simp
theorem bx3E {a b : PV} {c st n m : Nat} (h : n = m) : some (Ob.box [.d a, .d b, .o c st n]) = some (Ob.box [.d a, .d b, .o c st m]) := by rw [h]
theorem bxE {a b : Int} (h : a = b) : some (Ob.box [.d (.v (.int .i64 a))]) = some (Ob.box [.d (.v (.int .i64 b))]) := by rw [h]
theorem bx2E {p q : PV} {a b : Int} (h : a = b) : some (Ob.box [.d p, .d q, .d (.v (.int .i64 a))]) = some (Ob.box [.d p, .d q, .d (.v (.int .i64 b))]) := by rw [h]
theorem zqj {v p pos : Int} {n : FNode} {r : List FNode} {s : ES} (h : n.kind = 1) : zbM v p (n :: r) pos s = (encW 1 (v + n.var) (p + s.h) (pos + 1) :: (zbM v p r (pos + 1) ⟨s.next, s.h + 1, max s.most (s.h + 1)⟩).1, (zbM v p r (pos + 1) ⟨s.next, s.h + 1, max s.most (s.h + 1)⟩).2) := by
 rw [zbM, if_pos h]
theorem zqi {v p pos : Int} {n : FNode} {r : List FNode} {s : ES} (h : n.kind = 2) : zbM v p (n :: r) pos s = (encW 1 s.next (p + s.h) (pos + 1) :: (zbM v p r (pos + 1) ⟨s.next + 1, s.h + 1, max s.most (s.h + 1)⟩).1, (zbM v p r (pos + 1) ⟨s.next + 1, s.h + 1, max s.most (s.h + 1)⟩).2) := by
 rw [zbM, if_neg (by omega), if_pos h]
theorem zqh {v p pos : Int} {n : FNode} {r : List FNode} {s : ES} (h : 3 ≤ n.kind) : zbM v p (n :: r) pos s = (encW (n.kind - 1) (p + s.h - 1) (p + s.h - 2) (pos + 1) :: (zbM v p r (pos + 1) ⟨s.next, s.h - 1, s.most⟩).1, (zbM v p r (pos + 1) ⟨s.next, s.h - 1, s.most⟩).2) := by
 rw [zbM, if_neg (by omega), if_neg (by omega)]
abbrev cpS (f : FormT) (A C : List Int) (sa : Nat) (h m c o : Int) : Sg := (26, .box [.d (zac f.vars), .d (zS f.code), .o 900 sa A.length]) :: (900, .chain 3 1 sa (A.map iPV)) :: (5, .chain 3 1 C.length (C.map iPV)) ::
 (2, .box [.d (.v (.slice none 0 0)), .d (.v (.int .i64 0)), .d (.v (.int .i64 o))]) :: gwS h m c
def Stp (P : Program) (Γ : Cx) (c : Code) (Q : Exit → Fr → Sg → Prop) (fr : Fr) (σ : Sg) : Prop := AW P Γ c Q fr σ
theorem Stp.at35 {P : Program} {Γ : Cx} {y : Code} {ops : Array Oper} {b : Bool} {Q : Exit → Fr → Sg → Prop} {fr : Fr} {σ : Sg} (h : Stp P Γ (.seq (.region 35 ops b) y) Q fr σ) : AW P Γ (.seq (.region 35 ops b) y) Q fr σ := h
attribute [irreducible] Stp
theorem zhu (f : FormT) : ACall Tryz.prog 27 [zaB f] [] (fun r σ' => LeW r (.t [zoV (zbN f).1, iv .i64 (zbN f).2]) ∧ σ' = []) := by
 have hlv : (f.vars.map zaa).length = f.vars.length := List.length_map _
 have hlc : (f.code.map ndPV).length = f.code.length := List.length_map _
 have ck := ziO f
 by_cases h0 : zD f = 0
 ·rw [h0] at ck
  obtain ⟨hv8, hc1, hc40⟩ := zbD h0
  have hst := zdt h0
  refine hdD Tryz.func27 Tryz.ntmps27 (res := [.cell 2 47, .tmp 3]) fun w0 K0 B => ?_
  repeat' first | refine zd ?_ | refine zc ?_ | ((first | refine zf ?_ | refine regA ?_ | refine zsn (ck) ?_ | fail); conv => whnf) | (refine zss rfl ?_) | ((refine andA ?_); conv => whnf) | (refine lnA fun hln => ?_; conv => whnf) | fail
  refine zaq (Imp.nil 5 3 1 (fr' := [(30, iv .i64 0), (29, iv .i64 f.code.length), (28, .x (.d (zS f.code))), (5, .x (.o 5 0 0)), (4, .x (.b 26 0)), (2, .x (.b 2 0))])
   (σ' := [(26, .box [.d (zac f.vars), .d (zS f.code), .d (.v (.slice none 0 0))]), (2, .box [.d (.v (.slice none 0 0)), .d (.v (.int .i64 0)), .d (.v (.int .i64 0))])]) rfl ?_ ?_ rfl rfl) ?_
  ·exact ⟨⟨_, rfl, .inl rfl⟩, ⟨_, congrArg (fun k : Nat => some (iv .i64 k)) hlc, .inl rfl⟩, ⟨_, rfl, .inl rfl⟩, ⟨_, rfl, .inr ⟨rfl, rfl⟩⟩, ⟨_, rfl, .inl rfl⟩, ⟨_, rfl, .inl rfl⟩, trivial⟩
  ·exact ⟨⟨_, rfl, .inl rfl⟩, ⟨_, rfl, .inl rfl⟩, trivial⟩
  refine zaq (Imp.nil 900 3 1 (fr' := [(30, iv .i64 0), (29, iv .i64 f.code.length), (28, .x (.d (zS f.code))), (5, .x (.o 5 0 0)), (4, .x (.b 26 0)), (2, .x (.b 2 0))])
   (σ' := [(5, .chain 3 1 0 []), (26, .box [.d (zac f.vars), .d (zS f.code), .o 900 0 0]), (2, .box [.d (.v (.slice none 0 0)), .d (.v (.int .i64 0)), .d (.v (.int .i64 0))])]) rfl ?_ ?_ rfl rfl) ?_
  ·exact ⟨⟨_, rfl, .inl rfl⟩, ⟨_, rfl, .inl rfl⟩, ⟨_, rfl, .inl rfl⟩, ⟨_, rfl, .inl rfl⟩, ⟨_, rfl, .inl rfl⟩, ⟨_, rfl, .inl rfl⟩, trivial⟩
  ·exact ⟨⟨_, rfl, .inl rfl⟩, ⟨_, rfl, .inr ⟨_, _, rfl, rfl, .inl rfl, .inl rfl, .inr ⟨rfl, rfl⟩, trivial⟩⟩, ⟨_, rfl, .inl rfl⟩, trivial⟩
  refine zJ (fun i : Nat => [(30, iv .i64 i), (29, iv .i64 f.code.length), (28, .x (.d (zS f.code))), (5, .x (.o 5 (zal (f.code.take i)).length (zal (f.code.take i)).length)), (4, .x (.b 26 0)), (2, .x (.b 2 0))])
   (fun i => [(900, .chain 3 1 0 []), (5, .chain 3 1 (zal (f.code.take i)).length ((zal (f.code.take i)).map iPV)), (26, .box [.d (zac f.vars), .d (zS f.code), .o 900 0 0]), (2, .box [.d (.v (.slice none 0 0)), .d (.v (.int .i64 0)), .d (.v (.int .i64 0))])])
   (fun i => i ≤ f.code.length ∧ ∃ p, Ht f i p) (fun i => f.code.length - i) 0 ⟨Nat.zero_le _, 0, hst⟩ impA ?_
  rintro i ⟨hi, p, hh⟩
  rcases Nat.lt_or_ge i f.code.length with hil | hil
  ·obtain ⟨hk, hf, hlf, hop⟩ := zdR hil hh
   have hnx : ∃ p, Ht f (i + 1) p := by
    by_cases k3 : f.code[i].kind < 3
    ·exact ⟨_, hlf k3⟩
    ·obtain ⟨q, _, h⟩ := hop (by omega); exact ⟨_, h⟩
   have hcl := ze4 (f.code.take i)
   rw [List.length_take] at hcl
   have hsn := zgp (f.code.take i) f.code[i]
   rw [show f.code.take i ++ [f.code[i]] = f.code.take (i + 1) by rw [List.take_add_one, List.getElem?_eq_getElem hil]; rfl] at hsn
   generalize hC : zal (f.code.take i) = C at *
   have hCl : (C.map iPV).length = C.length := List.length_map _
   by_cases k2 : f.code[i].kind = 2
   ·obtain ⟨f1, f2, f3, f4⟩ := (zgA k2).1 hf
    have hw := zi1 _ f2 f3
    rw [if_pos k2] at hsn
    have e1 : C.length + 1 = (zal (f.code.take (i + 1))).length := by rw [hsn]; simp
    have e2 : (C.map iPV).take C.length ++ [iPV (zbo f.code[i])] = (zal (f.code.take (i + 1))).map iPV := by
     rw [hsn, List.map_append, List.take_of_length_le (by omega)]; rfl
    repeat' first | refine zd ?_ | refine zc ?_ | ((first | refine zf ?_ | refine zk ?_ | refine regA ?_ | refine drA (id := 13) 12 false [0, 1, 3, 7, 15, 31, 0, 64, 192, 448, 960, 1984, 4095, 8191, 16383, 32767] ?_ | fail); conv => whnf) | exact abA hb | ((refine zsn (hw) ?_); conv => whnf) | (refine zso rfl (fun hb => ?_) (fun hb => ?_)) | ((first | refine zsq ?_ | refine andA ?_ | with_reducible refine exA fun _ => ?_ | fail); conv => whnf) | ((refine And.intro (by refine ⟨?_, ?_, ?_⟩ <;> simp [zO, maxLen] <;> omega) ?_); conv => whnf) | fail
    exact ⟨i + 1, ⟨by omega, hnx⟩, by omega, by rw [← e1, ← e2]; exact impA⟩
   ·rw [if_neg k2, List.append_nil] at hsn
    repeat' first | refine zd ?_ | refine zc ?_ | ((first | refine zf ?_ | refine zk ?_ | refine regA ?_ | refine drA (id := 13) 12 false [0, 1, 3, 7, 15, 31, 0, 64, 192, 448, 960, 1984, 4095, 8191, 16383, 32767] ?_ | fail); conv => whnf) | exact abA hb | (refine zso rfl (fun hb => ?_) (fun hb => ?_)) | ((first | refine zsq ?_ | refine andA ?_ | with_reducible refine exA fun _ => ?_ | fail); conv => whnf) | fail
    exact ⟨i + 1, ⟨by omega, hnx⟩, by omega, by rw [hsn]; exact impA⟩
  ·have hie : i = f.code.length := by omega
   subst hie
   rw [List.take_length]
   have hcl := ze4 f.code
   have hr : zbN f = (⟨zaT (f.vars.length + f.code.length + 2 : Int) f.vars.length ++ (zbM (f.vars.length + f.code.length + 2) ((f.vars.length + f.code.length + 2 : Int) + f.vars.length + (zal f.code).length) f.code f.vars.length ⟨(f.vars.length + f.code.length + 2 : Int) + f.vars.length, 0, 0⟩).1 ++ [encW 7 ((f.vars.length + f.code.length + 2 : Int) + f.vars.length + (zal f.code).length) 0 ((f.vars.length + f.code.length + 2 : Int) - 1)] ++ List.replicate (1 + f.vars.length) 0 ++ zal f.code ++ List.replicate (zbM (f.vars.length + f.code.length + 2) ((f.vars.length + f.code.length + 2 : Int) + f.vars.length + (zal f.code).length) f.code f.vars.length ⟨(f.vars.length + f.code.length + 2 : Int) + f.vars.length, 0, 0⟩).2.most.toNat 0, 0, (f.vars.length + f.code.length + 2 : Int)⟩, 0) := by
    unfold zbN; rw [if_neg (by omega)]
   rw [hr]
   clear hr
   generalize zal f.code = C at *
   have hCl : (C.map iPV).length = C.length := List.length_map _
   obtain ⟨o, ho⟩ : ∃ o : Int, o = (f.vars.length + f.code.length + 2 : Int) := ⟨_, rfl⟩
   obtain ⟨pl, hpl⟩ : ∃ pl : Int, pl = o + f.vars.length + C.length := ⟨_, rfl⟩
   rw [← ho, ← hpl]
   generalize hT : zbM o pl f.code f.vars.length ⟨o + f.vars.length, 0, 0⟩ = T
   have ew : IntKind.i64.wrap (((f.vars.map zaa).length : Int) + ((f.code.map ndPV).length : Int)) = ((f.vars.map zaa).length : Int) + ((f.code.map ndPV).length : Int) := zg (by omega)
   repeat' first | refine zd ?_ | refine zc ?_ | ((first | refine zf ?_ | refine zk ?_ | refine regA ?_ | refine drA (id := 13) 12 false [0, 1, 3, 7, 15, 31, 0, 64, 192, 448, 960, 1984, 4095, 8191, 16383, 32767] ?_ | refine drA (id := 14) 13 true [0, 1, 0, 4, 12, 28, 60, 124, 255, 0, 512, 2047, 0, 8191] ?_ | refine drM (id := 15) 11 [0, 1, 2, 3, 4, 5, 6, 7, 8] true [0, 1, 0, 4, 12, 28, 60, 124, 255, 0, 0, 1536, 4095, 8191] ?_ | refine LateGo.mk ⟨.x .j, rfl, ?_⟩ | fail); conv => whnf) | exact abA hb | (refine zso rfl (fun hb => ?_) (fun hb => ?_)) | ((first | refine zsq ?_ | refine andA ?_ | fail); conv => whnf) | (refine lnA fun hln => ?_; conv => whnf) | fail
   refine zJ (fun i : Nat => [(90, iv .i64 i), (89, iv .i64 f.vars.length), (4, .x (.b 26 0)), (2, .x (.b 2 0)), (12, iv .i64 (o + f.vars.length)), (14, .x (.f (.func 84) [] [.b 11 0, .b 13 0, .b 10 0])), (5, .x (.o 5 C.length C.length)), (10, .x (.b 10 0)), (11, .x (.b 11 0)), (13, .x (.b 13 0))])
    (fun i => cpS f (zaT o i) C i 0 0 pl o) (fun i => i ≤ f.vars.length) (fun i => f.vars.length - i) 0 (Nat.zero_le _) (impX (by repeat' (first | exact trivial | refine And.intro ?_ ?_ | exact ivE (by omega) | exact bx3E (by omega) | exact bx2E (by omega) | exact bxE (by omega) | exact zsw))) ?_
   intro i hi
   have hrl := zcs o i
   have hrm : ((zaT o i).map iPV).length = i := by rw [List.length_map, hrl]
   rcases Nat.lt_or_ge i f.vars.length with hil | hil
   ·have em := zgo f 6 0 (o + i) i (zaT o i).length ((zaT o i).map iPV) (by omega) (by omega) (by omega) (by omega) (by omega)
    have e2 : ((zaT o i).map iPV).take (zaT o i).length ++ [iPV (encW 6 0 (o + i) ((zaT o i).length + 1))] = (zaT o (i + 1)).map iPV := by
     rw [zkJ, List.map_append, List.take_of_length_le (by omega), hrl]; rfl
    have e3 : (zaT o (i + 1)).length = (zaT o i).length + 1 := by rw [zcs, zcs]
    rw [e2] at em
    repeat' first | refine zd ?_ | refine zc ?_ | ((first | refine zf ?_ | refine zk ?_ | refine regA ?_ | fail); conv => whnf) | exact abA hb | ((refine frA (em) [(60, 26), (61, 900)] ?_); conv => whnf) | (refine zso rfl (fun hb => ?_) (fun hb => ?_)) | ((first | refine zsq ?_ | refine andA ?_ | fail); conv => whnf) | fail
    exact ⟨i + 1, by omega, by omega, (impX (by repeat' (first | exact trivial | refine And.intro ?_ ?_ | exact ivE (by omega) | exact bx3E (by omega) | exact bx2E (by omega) | exact bxE (by omega) | exact zsw)))⟩
   ·have hie : i = f.vars.length := by omega
    subst hie
    repeat' first | refine zd ?_ | refine zc ?_ | ((first | refine zf ?_ | refine zk ?_ | refine regA ?_ | fail); conv => whnf) | exact abA hb | (refine zso rfl (fun hb => ?_) (fun hb => ?_)) | ((refine andA ?_); conv => whnf) | (refine lnA fun hln => ?_; conv => whnf) | fail
    refine zJ (fun x : Nat × List Int × ES => [(108, iv .i64 x.1), (107, iv .i64 f.code.length), (106, .x (.d (zS f.code))), (4, .x (.b 26 0)), (2, .x (.b 2 0)), (12, iv .i64 x.2.2.next), (14, .x (.f (.func 84) [] [.b 11 0, .b 13 0, .b 10 0])), (5, .x (.o 5 C.length C.length)), (10, .x (.b 10 0)), (11, .x (.b 11 0)), (13, .x (.b 13 0))])
     (fun x => cpS f x.2.1 C (f.vars.length + x.1) x.2.2.h x.2.2.most pl o)
     (fun x => x.1 ≤ f.code.length ∧ x.2.1.length = f.vars.length + x.1 ∧ (∃ p : Nat, x.2.2.h = p ∧ Ht f x.1 p) ∧ (0 ≤ x.2.2.most ∧ x.2.2.most ≤ 12) ∧ (o + f.vars.length ≤ x.2.2.next ∧ x.2.2.next ≤ o + f.vars.length + x.1) ∧
      x.2.1 ++ (zbM o pl (f.code.drop x.1) (f.vars.length + x.1) x.2.2).1 = zaT o f.vars.length ++ T.1 ∧ (zbM o pl (f.code.drop x.1) (f.vars.length + x.1) x.2.2).2 = T.2)
     (fun x => f.code.length - x.1) (0, zaT o f.vars.length, ⟨o + f.vars.length, 0, 0⟩) ⟨Nat.zero_le _, by rw [zcs]; rfl, ⟨0, rfl, hst⟩, ⟨Int.le_refl _, (show (0 : Int) ≤ 12 by decide)⟩, ⟨Int.le_refl _, by show o + (f.vars.length : Int) ≤ o + f.vars.length + ((0 : Nat) : Int); omega⟩, by
      show zaT o f.vars.length ++ (zbM o pl f.code (f.vars.length + ((0 : Nat) : Int)) ⟨o + f.vars.length, 0, 0⟩).1 = _
      rw [show (f.vars.length : Int) + ((0 : Nat) : Int) = f.vars.length by omega, hT], by
      show (zbM o pl f.code (f.vars.length + ((0 : Nat) : Int)) ⟨o + f.vars.length, 0, 0⟩).2 = _
      rw [show (f.vars.length : Int) + ((0 : Nat) : Int) = f.vars.length by omega, hT]⟩ (impX (by repeat' (first | exact trivial | refine And.intro ?_ ?_ | exact ivE (by omega) | exact bx3E (by omega) | exact bx2E (by omega) | exact bxE (by omega) | exact chE rfl | (rw [zcs]) | exact zsw))) ?_
    rintro ⟨i, A, s⟩ ⟨hi2, hA, ⟨p, hp, hh⟩, hm, hnx, hT1, hT2⟩
    dsimp only at hi2 hA hp hh hm hnx hT1 hT2 ⊢
    obtain ⟨sn, sh, sm⟩ := s
    dsimp only at hp hm hnx hT1 hT2 ⊢
    have hAm : (A.map iPV).length = A.length := List.length_map _
    have hp12 : p ≤ 12 := by obtain ⟨_, _, _, h, _⟩ := hh; exact h
    rcases Nat.lt_or_ge i f.code.length with hil2 | hil2
    ·obtain ⟨hk, hf, hlf, hop⟩ := zdR hil2 hh
     rw [List.drop_eq_getElem_cons hil2] at hT1 hT2
     have hpos : (f.vars.length : Int) + (i : Int) + 1 = f.vars.length + ((i + 1 : Nat) : Int) := by push_cast; omega
     have hA1 : ((A.length : Nat) : Int) + 1 = (f.vars.length : Int) + (i : Int) + 1 := by omega
     have e3 : ∀ E : Int, A.length + 1 = (A ++ [E]).length := fun E => by rw [List.length_append]; rfl
     have e3 := fun {E : Int} => e3 E
     by_cases k1 : f.code[i].kind = 1
     ·have hf1 := hf
      unfold fine at hf1
      rw [if_pos k1] at hf1
      have hh' := hlf (by omega)
      have hp12' : p + 1 ≤ 12 := by obtain ⟨_, _, _, h, _⟩ := hh'; exact h
      rw [zqj k1] at hT1 hT2
      have gw := zq7 sh sm pl (by omega) (by omega)
      have em := zgo f (1) (o + f.code[i].var) (pl + sh) (f.vars.length + i) A.length (A.map iPV) (by omega) (by omega) (by omega) (by omega) (by omega)
      rw [hA1] at em
      generalize hE : encW (1) (o + f.code[i].var) (pl + sh) ((f.vars.length : Int) + (i : Int) + 1) = E at *
      have e2 : (A.map iPV).take A.length ++ [iPV E] = (A ++ [E]).map iPV := by rw [List.map_append, List.take_of_length_le (by omega)]; rfl
      rw [e2] at em
      repeat' first | ((first | refine zkA hTt hMix (id := 29) 10 [0, 1, 2, 3, 4, 5, 6] [⟨7, false, false, [0, 1, 2, 3, 4, 5], [8, 9]⟩] [0, 0, 2, 0, 8, 30, 0, 64, 254, 510, 1023] (by kernel_rfl) rfl (by kernel_rfl) (by kernel_rfl) (by kernel_rfl) ?_ | refine LateGo.mk ⟨_, rfl, ?_⟩ | fail); conv => whnf) | refine zd ?_ | refine zc ?_ | ((first | refine zf ?_ | refine zk ?_ | refine regA ?_ | fail); conv => whnf) | exact abA hb | ((first | refine frA (em) [(60, 26), (61, 900)] ?_ | ((refine ⟨_, gw.frame (asc []) (by repeat (first | exact trivial | refine ⟨rfl, ?_⟩)) rfl (by rintro _ _ ⟨rfl, rfl⟩; rfl), ?_⟩); (rintro _ _ ⟨_, _, ⟨rfl, rfl⟩, rfl, rfl⟩)) | fail); conv => whnf) | (refine zso rfl (fun hb => ?_) (fun hb => ?_)) | ((first | refine zsq ?_ | refine andA ?_ | with_reducible refine exA fun _ => ?_ | fail); conv => whnf) | fail
      exact ⟨(i + 1, A ++ [E], ⟨sn, sh + 1, max sm (sh + 1)⟩), ⟨by show i + 1 ≤ _; omega, by show (A ++ [E]).length = _; rw [List.length_append, hA]; rfl, ⟨p + 1, by show sh + 1 = _; push_cast; omega, hh'⟩, ⟨by show 0 ≤ max sm (sh + 1); omega, by show max sm (sh + 1) ≤ 12; omega⟩, ⟨hnx.1, by show sn ≤ _; push_cast; omega⟩, by rw [← hpos]; show (A ++ [E]) ++ _ = _; rw [List.append_assoc]; exact hT1, by rw [← hpos]; exact hT2⟩, by show f.code.length - (i + 1) < f.code.length - i; omega, (impX (by repeat' (first | exact trivial | refine And.intro ?_ ?_ | exact ivE (by omega) | exact bx3E (by omega) | exact bx2E (by omega) | exact bxE (by omega) | exact chE e2 | exact bx3E e3 | exact zsw)))⟩
     ·by_cases k2 : f.code[i].kind = 2
      ·obtain ⟨f1, f2, f3, f4⟩ := (zgA k2).1 hf
       have hh' := hlf (by omega)
       have hp12' : p + 1 ≤ 12 := by obtain ⟨_, _, _, h, _⟩ := hh'; exact h
       rw [zqi k2] at hT1 hT2
       have gw := zq7 sh sm pl (by omega) (by omega)
       have em := zgo f (1) (sn) (pl + sh) (f.vars.length + i) A.length (A.map iPV) (by omega) (by omega) (by omega) (by omega) (by omega)
       rw [hA1] at em
       generalize hE : encW (1) (sn) (pl + sh) ((f.vars.length : Int) + (i : Int) + 1) = E at *
       have e2 : (A.map iPV).take A.length ++ [iPV E] = (A ++ [E]).map iPV := by rw [List.map_append, List.take_of_length_le (by omega)]; rfl
       rw [e2] at em
       repeat' first | refine zd ?_ | refine zc ?_ | ((first | refine zf ?_ | refine zk ?_ | refine regA ?_ | refine drA (id := 29) 10 true [0, 0, 2, 0, 8, 30, 0, 64, 254, 510, 1023] ?_ | fail); conv => whnf) | exact abA hb | ((first | refine frA (em) [(60, 26), (61, 900)] ?_ | ((refine ⟨_, gw.frame (asc []) (by repeat (first | exact trivial | refine ⟨rfl, ?_⟩)) rfl (by rintro _ _ ⟨rfl, rfl⟩; rfl), ?_⟩); (rintro _ _ ⟨_, _, ⟨rfl, rfl⟩, rfl, rfl⟩)) | fail); conv => whnf) | (refine zso rfl (fun hb => ?_) (fun hb => ?_)) | ((first | refine zsq ?_ | refine andA ?_ | with_reducible refine exA fun _ => ?_ | fail); conv => whnf) | fail
       exact ⟨(i + 1, A ++ [E], ⟨sn + 1, sh + 1, max sm (sh + 1)⟩), ⟨by show i + 1 ≤ _; omega, by show (A ++ [E]).length = _; rw [List.length_append, hA]; rfl, ⟨p + 1, by show sh + 1 = _; push_cast; omega, hh'⟩, ⟨by show 0 ≤ max sm (sh + 1); omega, by show max sm (sh + 1) ≤ 12; omega⟩, ⟨by show _ ≤ sn + 1; omega, by show sn + 1 ≤ _; push_cast; omega⟩, by rw [← hpos]; show (A ++ [E]) ++ _ = _; rw [List.append_assoc]; exact hT1, by rw [← hpos]; exact hT2⟩, by show f.code.length - (i + 1) < f.code.length - i; omega, (impX (by repeat' (first | exact trivial | refine And.intro ?_ ?_ | exact ivE (by omega) | exact bx3E (by omega) | exact bx2E (by omega) | exact bxE (by omega) | exact chE e2 | exact bx3E e3 | exact zsw)))⟩
      ·obtain ⟨q, hq, hh'⟩ := hop (by omega)
       rw [zqh (by omega)] at hT1 hT2
       have w27 : IntKind.i64.wrap (2 + f.code[i].kind - 3) = f.code[i].kind - 1 := by rw [zg (by omega)]; omega
       have w28 : IntKind.i64.wrap (pl + (sh - 1)) = pl + sh - 1 := by rw [zg (by omega)]; omega
       have w29 : IntKind.i64.wrap (pl + sh - 1 - 1) = pl + sh - 2 := by rw [zg (by omega)]; omega
       have em := zgo f (f.code[i].kind - 1) (pl + sh - 1) (pl + sh - 2) (f.vars.length + i) A.length (A.map iPV) (by omega) (by omega) (by omega) (by omega) (by omega)
       rw [hA1] at em
       generalize hE : encW (f.code[i].kind - 1) (pl + sh - 1) (pl + sh - 2) ((f.vars.length : Int) + (i : Int) + 1) = E at *
       have e2 : (A.map iPV).take A.length ++ [iPV E] = (A ++ [E]).map iPV := by rw [List.map_append, List.take_of_length_le (by omega)]; rfl
       rw [e2] at em
       repeat' first | refine zd ?_ | refine zc ?_ | ((first | refine zf ?_ | refine zk ?_ | refine regA ?_ | refine drA (id := 29) 10 true [0, 0, 2, 0, 8, 30, 0, 64, 254, 510, 1023] ?_ | fail); conv => whnf) | exact abA hb | ((first | refine frA (em) [(60, 26), (61, 900)] ?_ | refine ⟨_, w27, ?_⟩ | refine ⟨_, w28, ?_⟩ | refine ⟨_, w29, ?_⟩ | fail); conv => whnf) | (refine zso rfl (fun hb => ?_) (fun hb => ?_)) | ((first | refine zsq ?_ | refine andA ?_ | with_reducible refine exA fun _ => ?_ | fail); conv => whnf) | fail
       exact ⟨(i + 1, A ++ [E], ⟨sn, sh - 1, sm⟩), ⟨by show i + 1 ≤ _; omega, by show (A ++ [E]).length = _; rw [List.length_append, hA]; rfl, ⟨q + 1, by show sh - 1 = _; push_cast; omega, hh'⟩, hm, ⟨hnx.1, by show sn ≤ _; push_cast; omega⟩, by rw [← hpos]; show (A ++ [E]) ++ _ = _; rw [List.append_assoc]; exact hT1, by rw [← hpos]; exact hT2⟩, by show f.code.length - (i + 1) < f.code.length - i; omega, (impX (by repeat' (first | exact trivial | refine And.intro ?_ ?_ | exact ivE (by omega) | exact bx3E (by omega) | exact bx2E (by omega) | exact bxE (by omega) | exact chE e2 | exact bx3E e3 | exact zsw)))⟩
    ·have hie2 : i = f.code.length := by omega
     subst hie2
     rw [List.drop_eq_nil_of_le (Nat.le_refl _), zbM] at hT1 hT2
     rw [List.append_nil] at hT1
     dsimp only at hT2
     have em := zgo f 7 pl 0 (f.vars.length + f.code.length) A.length (A.map iPV) (by omega) (by omega) (by omega) (by omega) (by omega)
     have hA1 : ((A.length : Nat) : Int) + 1 = o - 1 := by omega
     rw [hA1] at em
     generalize encW 7 pl 0 (o - 1) = E at *
     have e2 : (A.map iPV).take A.length ++ [iPV E] = (A ++ [E]).map iPV := by rw [List.map_append, List.take_of_length_le (by omega)]; rfl
     have e3 : A.length + 1 = (A ++ [E]).length := by rw [List.length_append]; rfl
     rw [e2] at em
     rw [← hT1, ← hT2]
     dsimp only
     repeat' first | (with_reducible refine Stp.at35 ?_) | refine zd ?_ | refine zc ?_ | ((first | refine zf ?_ | refine zk ?_ | refine regA ?_ | fail); conv => whnf) | exact abA hb | ((refine frA (em) [(60, 26), (61, 900)] ?_); conv => whnf) | (refine zso rfl (fun hb => ?_) (fun hb => ?_)) | fail
     unfold Stp
     have hle : A.length + 1 ≤ ((A ++ [E]).map iPV).length := by rw [List.length_map, List.length_append]; exact Nat.le_refl _
     have hal : zR (A ++ [E]) = .s 1 (((A ++ [E]).map iPV).take (A.length + 1)) := by rw [List.take_of_length_le (by rw [List.length_map, List.length_append]; exact Nat.le_refl _)]; rfl
     have hle5 : C.length ≤ (C.map iPV).length := by rw [hCl]; exact Nat.le_refl _
     have hfz5 : AV.x (.d (zR C)) = .x (.d (.s 1 ((C.map iPV).take C.length))) := by rw [List.take_of_length_le (by omega)]; rfl
     refine zaq (Imp.freezeB 900 (fr' := [(4, .x (.b 26 0)), (2, .x (.b 2 0)), (5, .x (.o 5 C.length C.length)), (13, .x (.b 13 0))])
      (σ' := [(26, .box [.d (zac f.vars), .d (zS f.code), .d (zR (A ++ [E]))]), (5, .chain 3 1 C.length (C.map iPV)), (2, .box [.d (.v (.slice none 0 0)), .d (.v (.int .i64 0)), .d (.v (.int .i64 o))]), (13, .box [.d (.v (.int .i64 sm))])]) rfl
      ⟨⟨_, rfl, .inl rfl⟩, ⟨_, rfl, .inl rfl⟩, ⟨_, rfl, .inl rfl⟩, ⟨_, rfl, .inl rfl⟩, trivial⟩ ⟨⟨_, rfl, .inr ⟨_, _, rfl, rfl, ⟨.inl rfl, .inl rfl, .inr ⟨_, rfl, hle, congrArg SV.d hal⟩, trivial⟩⟩⟩, ⟨_, rfl, .inl rfl⟩, ⟨_, rfl, .inl rfl⟩, ⟨_, rfl, .inl rfl⟩, trivial⟩ rfl rfl) ?_
     refine zaq (Imp.freeze 5 (fr' := [(4, .x (.b 26 0)), (2, .x (.b 2 0)), (5, .x (.d (zR C))), (13, .x (.b 13 0))])
      (σ' := [(26, .box [.d (zac f.vars), .d (zS f.code), .d (zR (A ++ [E]))]), (2, .box [.d (.v (.slice none 0 0)), .d (.v (.int .i64 0)), .d (.v (.int .i64 o))]), (13, .box [.d (.v (.int .i64 sm))])]) rfl
      ⟨⟨_, rfl, .inl rfl⟩, ⟨_, rfl, .inl rfl⟩, ⟨_, rfl, .inr ⟨_, rfl, hle5, hfz5⟩⟩, ⟨_, rfl, .inl rfl⟩, trivial⟩ ⟨rfl, rfl, rfl, trivial⟩ rfl rfl) ?_
     repeat' first | ((refine zoM hTt hMix (id := 35) 15 true [0, 1, 3, 7, 0, 16, 48, 112, 240, 496, 1008, 2032, 0, 0, 8192, 32767, 65535, 131071, 262143] (by kernel_rfl) rfl rfl (by kernel_rfl) ?_); conv => whnf) | refine zd ?_ | ((first | refine zsq ?_ | refine andA ?_ | with_reducible refine And.intro (And.intro (by omega) (And.intro (by first | omega | (simp only [List.length_map]; omega)) (by first | omega | (simp only [List.length_map, List.length_set]; omega)))) ?_ | fail); conv => whnf) | fail
     have hn1 : (1 + ((f.vars.map zaa).length : Int)).toNat = 1 + f.vars.length := by rw [hlv]; omega
     have hz1 : (1 + ((f.vars.map zaa).length : Int)).toNat ≤ (List.replicate (1 + ((f.vars.map zaa).length : Int)).toNat [PV.v (.int .i64 0)]).length := by rw [List.length_replicate]; exact Nat.le_refl _
     have hq1 : AV.x (.d (zR (List.replicate (1 + f.vars.length) 0))) = .x (.d (.s 1 ((List.replicate (1 + ((f.vars.map zaa).length : Int)).toNat [PV.v (.int .i64 0)]).take (1 + ((f.vars.map zaa).length : Int)).toNat))) := by
      rw [List.take_of_length_le (by rw [List.length_replicate]; exact Nat.le_refl _), hn1]; unfold zR; rw [List.map_replicate]
     have hz2 : sm.toNat ≤ (List.replicate sm.toNat [PV.v (.int .i64 0)]).length := by rw [List.length_replicate]; exact Nat.le_refl _
     have hq2 : AV.x (.d (zR (List.replicate sm.toNat 0))) = .x (.d (.s 1 ((List.replicate sm.toNat [PV.v (.int .i64 0)]).take sm.toNat))) := by
      rw [List.take_of_length_le (by rw [List.length_replicate]; exact Nat.le_refl _)]; unfold zR; rw [List.map_replicate]
     have hcc := zmV (A ++ [E]) (List.replicate (1 + f.vars.length) 0) C (List.replicate sm.toNat 0) (by rw [List.length_append]; simp) (by rw [List.length_append]; simp only [List.length_cons, List.length_nil]; omega) (by rw [List.length_replicate]; omega) (by omega) (by rw [List.length_replicate]; omega)
     refine ⟨[(2, .x (.b 2 0)), (164, .x (.d (zR (A ++ [E])))), (172, .x (.d (zR (List.replicate (1 + f.vars.length) 0)))), (173, .x (.d (zR C))), (175, .x (.d (zR (List.replicate sm.toNat 0))))],
      [(26, .box [.d (zac f.vars), .d (zS f.code), .d (zR (A ++ [E]))]), (2, .box [.d (.v (.slice none 0 0)), .d (.v (.int .i64 0)), .d (.v (.int .i64 o))]), (13, .box [.d (.v (.int .i64 sm))])],
      Imp.trans (Imp.freeze 172 (fr' := [(2, .x (.b 2 0)), (164, .x (.d (zR (A ++ [E])))), (172, .x (.d (zR (List.replicate (1 + f.vars.length) 0)))), (173, .x (.d (zR C))), (175, .x (.o 175 0 sm.toNat))])
        (σ' := [(175, .chain 3 1 0 (List.replicate sm.toNat [PV.v (.int .i64 0)])), (26, .box [.d (zac f.vars), .d (zS f.code), .d (zR (A ++ [E]))]), (2, .box [.d (.v (.slice none 0 0)), .d (.v (.int .i64 0)), .d (.v (.int .i64 o))]), (13, .box [.d (.v (.int .i64 sm))])])
        rfl ⟨⟨_, rfl, .inl rfl⟩, ⟨_, rfl, .inl rfl⟩, ⟨_, rfl, .inr ⟨_, rfl, hz1, hq1⟩⟩, ⟨_, rfl, .inl rfl⟩, ⟨_, rfl, .inl rfl⟩, trivial⟩ ⟨rfl, rfl, rfl, rfl, trivial⟩ rfl rfl)
       (Imp.freeze 175 rfl ⟨⟨_, rfl, .inl rfl⟩, ⟨_, rfl, .inl rfl⟩, ⟨_, rfl, .inl rfl⟩, ⟨_, rfl, .inl rfl⟩, ⟨_, rfl, .inr ⟨_, rfl, hz2, hq2⟩⟩, trivial⟩ ⟨rfl, rfl, rfl, trivial⟩ rfl rfl), ?_⟩
     conv => whnf
     repeat' first | refine zd ?_ | ((first | refine zi ?_ | refine regA ?_ | refine zsn (hcc) ?_ | refine andA ?_ | fail); conv => whnf) | fail
     exact ⟨_, [], trivial, rfl, rfl, ⟨⟨.inl rfl, .inl rfl, .inl rfl, trivial⟩, .inl rfl, trivial⟩, rfl⟩
 ·have hr : zbN f = (⟨[], 0, 0⟩, zD f) := by unfold zbN; rw [if_pos h0]
  rw [hr]
  refine hdD Tryz.func27 Tryz.ntmps27 (res := [.cell 2 47, .tmp 3]) fun w0 K0 B => ?_
  repeat' first | refine zd ?_ | ((first | refine zf ?_ | refine zi ?_ | refine regA ?_ | refine zsn (ck) ?_ | fail); conv => whnf) | (exact absurd hb h0) | (refine zso rfl (fun hb => ?_) (fun hb => ?_)) | fail
  exact ⟨_, [], trivial, rfl, rfl, ⟨⟨.inr ⟨rfl, _, rfl⟩, .inl rfl, .inl rfl, trivial⟩, .inl rfl, trivial⟩, rfl⟩
theorem zg0 (f : FormT) : FnC Tryz.prog 27 [zaB f] (.t [zoV (zbN f).1, iv .i64 (zbN f).2]) :=
 zfd ((zhu f).leW fun _ _ h => ⟨_, h.1, rfl, h.2⟩)
end Go.Proofs.YtmceekhgnfpamaaGreatDoor
namespace Go.Proofs.YtmceekhgnfpamaaGreatDoor
open Go Go.QL FoT
set_option maxHeartbeats 3200000
attribute [local irreducible] ACall FnC fine ten zav
abbrev cmS (f : FormT) (st k : Nat) (xs : List (List PV)) (σ : Sg) : Sg := (900, .chain 3 1 st xs) :: (7, .box [.o 900 st k]) :: (3, .box (zb5 f)) :: σ
theorem obE {c st n m : Nat} (h : n = m) : some (Ob.box [.o c st n]) = some (Ob.box [.o c st m]) := by rw [h]
theorem zox (f : FormT) (hc : zD f = 0) (words : List Int) (J : Nat → List Int → Prop) (h0 : J 0 [])
  (hl : ∀ i st (hi : i < f.code.length), (f.code[i].kind = 1 ∨ f.code[i].kind = 2) → fine f.vars.length f.code[i] → J i st → ∃ x, J (i + 1) (st ++ [x]) ∧
   ACall Tryz.prog 70 ([].map AV.x ++ [iv .i64 i, ndAV f.code[i]] ++ [.b 100 0].map .x) (evS words) (fun r σ' => r = iv .i64 x ∧ σ' = evS words))
  (hj : ∀ i st a b (hi : i < f.code.length), (f.code[i].kind = 3 ∨ f.code[i].kind = 4 ∨ f.code[i].kind = 5) → J i (st ++ [a, b]) → ∃ x, J (i + 1) (st ++ [x]) ∧
   ACall Tryz.prog 72 ([].map AV.x ++ [iv .i64 i, ndAV f.code[i], iv .i64 a, iv .i64 b] ++ [.b 101 0].map .x) (evS words) (fun r σ' => r = iv .i64 x ∧ σ' = evS words)) :
  ACall Tryz.prog 69 [zaB f, .x (.f (.func 70) [] [.b 100 0]), .x (.f (.func 72) [] [.b 101 0])] (evS words)
   (fun r σ' => (∃ x, J f.code.length [x] ∧ r = iv .i64 x) ∧ σ' = evS words) := by
 obtain ⟨hv8, hc1, hc40⟩ := zbD hc
 have hst := zdt hc
 refine hdD Tryz.func69 Tryz.ntmps69 (res := [.tmp 6]) fun w0 K0 B => ?_
 repeat' first | refine zd ?_ | refine zc ?_ | ((first | refine regA ?_ | refine andA ?_ | fail); conv => whnf) | (refine lnA fun hln => ?_; conv => whnf) | fail
 refine zaq (Imp.nil 900 3 1 (fr' := [(15, iv .i64 0), (14, iv .i64 f.code.length), (13, .x (.d (zS f.code))), (7, .x (.b 7 0)), (1, .x (.f (.func 70) [] [.b 100 0])), (2, .x (.f (.func 72) [] [.b 101 0]))])
  (σ' := (7, .box [.o 900 0 0]) :: (3, .box (zb5 f)) :: evS words) rfl ?_ ?_ rfl rfl) ?_
 ·exact ⟨⟨_, rfl, .inl rfl⟩, ⟨_, congrArg (fun k : Nat => some (iv .i64 k)) (List.length_map _), .inl rfl⟩, ⟨_, rfl, .inl rfl⟩, ⟨_, rfl, .inl rfl⟩, ⟨_, rfl, .inl rfl⟩, ⟨_, rfl, .inl rfl⟩, trivial⟩
 ·exact ⟨⟨_, rfl, .inr ⟨_, _, rfl, rfl, .inr ⟨rfl, rfl⟩, trivial⟩⟩, ⟨_, rfl, .inl rfl⟩, ⟨_, rfl, .inl rfl⟩, ⟨_, rfl, .inl rfl⟩, ⟨_, rfl, .inl rfl⟩, trivial⟩
 refine zJ (fun x : Nat × List Int × List (List PV) × Nat => [(15, iv .i64 x.1), (14, iv .i64 f.code.length), (13, .x (.d (zS f.code))), (7, .x (.b 7 0)), (1, .x (.f (.func 70) [] [.b 100 0])), (2, .x (.f (.func 72) [] [.b 101 0]))])
  (fun x => cmS f x.2.2.2 x.2.1.length x.2.2.1 (evS words))
  (fun x => x.1 ≤ f.code.length ∧ Ht f x.1 x.2.1.length ∧ J x.1 x.2.1 ∧ x.2.2.1.take x.2.1.length = x.2.1.map iPV) (fun x => f.code.length - x.1) (0, [], [], 0) ⟨Nat.zero_le _, hst, h0, rfl⟩ impA ?_
 rintro ⟨i, st, xs, sm⟩ ⟨hi, hh, hJ, hx⟩
 dsimp only at hi hh hJ hx ⊢
 have hxl : st.length ≤ xs.length := by
  have := congrArg List.length hx
  rw [List.length_take, List.length_map] at this
  omega
 rcases Nat.lt_or_ge i f.code.length with hil | hil
 ·obtain ⟨hk, hf, hlf, hop⟩ := zdR hil hh
  have hp12 : st.length ≤ 12 := by obtain ⟨_, _, _, h, _⟩ := hh; exact h
  by_cases k3 : f.code[i].kind < 3
  ·obtain ⟨v, hJ', hcl⟩ := hl i st hil (by omega) hf hJ
   have hput := zlH v sm st.length xs hxl (by omega)
   repeat' first | refine zd ?_ | refine zc ?_ | ((first | refine zf ?_ | refine zk ?_ | refine regA ?_ | fail); conv => whnf) | exact abA hb | ((first | refine frA (hcl) [] ?_ | refine frA (hput) [(50, 7), (51, 900)] ?_ | fail); conv => whnf) | (refine zso rfl (fun hb => ?_) (fun hb => ?_)) | ((first | refine zsq ?_ | refine andA ?_ | with_reducible refine exA fun _ => ?_ | fail); conv => whnf) | fail
   exact ⟨(i + 1, st ++ [v], xs.take st.length ++ [iPV v], sm + 1), ⟨by show i + 1 ≤ _; omega, by show Ht f (i + 1) (st ++ [v]).length; rw [List.length_append]; exact hlf k3, hJ', by show List.take (st ++ [v]).length _ = _; rw [List.length_append]; exact zaG rfl hx v⟩, by show f.code.length - (i + 1) < f.code.length - i; omega, (impX (by repeat' (first | exact trivial | refine And.intro ?_ ?_ | exact obE (by simp) | exact zsw)))⟩
  ·obtain ⟨q, hq, hh'⟩ := hop (by omega)
   obtain ⟨r, a, b, rfl, hr⟩ := zfT hq
   obtain ⟨v, hJ', hcl⟩ := hj i r a b hil (by omega) hJ
   rw [hq] at hx
   obtain ⟨t1, t2, t3, t4⟩ := zi7 hr hx
   have htwo := zpm a b sm q xs t1 (by omega) t2 t3
   have hput := zlH v sm q xs (by omega) (by omega)
   simp only [hq]
   repeat' first | refine zd ?_ | refine zc ?_ | ((first | refine zf ?_ | refine zk ?_ | refine regA ?_ | fail); conv => whnf) | exact abA hb | ((first | refine frA (hcl) [] ?_ | refine frA (hput) [(50, 7), (51, 900)] ?_ | refine frA (htwo) [(50, 7), (51, 900)] ?_ | fail); conv => whnf) | (refine zso rfl (fun hb => ?_) (fun hb => ?_)) | ((first | refine zsq ?_ | refine andA ?_ | with_reducible refine exA fun _ => ?_ | fail); conv => whnf) | fail
   exact ⟨(i + 1, r ++ [v], xs.take q ++ [iPV v], sm + 1), ⟨by show i + 1 ≤ _; omega, by show Ht f (i + 1) (r ++ [v]).length; rw [List.length_append, hr]; exact hh', hJ', by show List.take (r ++ [v]).length _ = _; rw [List.length_append, hr]; exact zaG hr t4 v⟩, by show f.code.length - (i + 1) < f.code.length - i; omega, (impX (by repeat' (first | exact trivial | refine And.intro ?_ ?_ | exact obE (by simp [hr]) | exact zsw)))⟩
 ·have h1 := ziw hil hh
  obtain ⟨v, rfl⟩ : ∃ v, st = [v] := List.length_eq_one_iff.1 h1
  have hi2 : i = f.code.length := by omega
  subst hi2
  have g0 : xs[0]? = some (iPV v) := by
   have := congrArg (fun l : List (List PV) => l[0]?) hx
   simpa using this
  repeat' first | refine zd ?_ | refine zc ?_ | ((first | refine zf ?_ | refine zk ?_ | refine zi ?_ | refine regA ?_ | fail); conv => whnf) | exact abA hb | ((refine ⟨_, ze g0, ⟨Nat.le_of_ble_eq_true rfl, rfl⟩, ?_⟩); conv => whnf) | (refine zso rfl (fun hb => ?_) (fun hb => ?_)) | ((refine andA ?_); conv => whnf) | fail
  exact ⟨_, evS words, ⟨rfl, rfl, rfl, trivial⟩, rfl, rfl, ⟨⟨v, hJ, rfl⟩, rfl⟩⟩
end Go.Proofs.YtmceekhgnfpamaaGreatDoor
namespace Go.Proofs.YtmceekhgnfpamaaGreatDoor
open Go Go.QL FoT
set_option maxHeartbeats 3200000
attribute [local irreducible] ACall FnC fine ten zav
def ptAV (p : Part) : AV := .a [.d (.v (.string (bs p.1))), .d (.v (.int .i64 p.2))]
def ptPV (p : Part) : List PV := [.v (.string (bs p.1)), .v (.int .i64 p.2)]
abbrev plP (st k : Nat) (xs : List (List PV)) : Sg := [(50, .box [.o 51 st k]), (51, .chain 97 2 st xs)]
theorem zlF (v : Part) (st k : Nat) (xs : List (List PV)) (hk : k ≤ xs.length) (hl : k ≤ 100) :
  ACall Tryz.prog 110 [.x (.b 50 0), ptAV v] (plP st k xs) (fun r σ' => r = .t [] ∧ σ' = plP (st + 1) (k + 1) (xs.take k ++ [ptPV v])) := by
 have g1 : k + [ptPV v].length ≤ maxLen := by show k + 1 ≤ _; unfold maxLen; omega
 have g2 : (k + [ptPV v].length) * 24 ≤ 140737488355328 := by show (k + 1) * 24 ≤ _; omega
 refine hdD Tryz.func110 Tryz.ntmps110 (res := []) fun w0 K0 B => ?_
 repeat' first | refine zd ?_ | ((first | refine regA ?_ | refine drM (id := 1) 7 [0] true [0, 0, 2, 6, 14, 0, 32, 126, 255, 511, 1023] ?_ | refine LateGo.mk ⟨_, rfl, ?_⟩ | refine And.intro ⟨hk, g1, g2⟩ ?_ | refine andA ?_ | fail); conv => whnf) | fail
 exact ⟨_, plP (st + 1) (k + 1) (xs.take k ++ [ptPV v]), ⟨rfl, rfl, trivial⟩, rfl, rfl, rfl, rfl⟩
theorem zpl (a b : Part) (st k : Nat) (xs : List (List PV)) (hk : k + 2 ≤ xs.length) (hl : k ≤ 100) (ha : xs[k]? = some (ptPV a)) (hb' : xs[k + 1]? = some (ptPV b)) :
  ACall Tryz.prog 111 [.x (.b 50 0)] (plP st (k + 2) xs) (fun r σ' => r = .t [ptAV a, ptAV b] ∧ σ' = plP st k xs) := by
 have ha' : xs[(((k + 2 : Nat) : Int) - 2).toNat]? = some (ptPV a) := by rw [show (((k + 2 : Nat) : Int) - 2).toNat = k by omega]; exact ha
 have hb2 : xs[(((k + 2 : Nat) : Int) - 1).toNat]? = some (ptPV b) := by rw [show (((k + 2 : Nat) : Int) - 1).toNat = k + 1 by omega]; exact hb'
 have he : (((k + 2 : Nat) : Int) - 2).toNat = k := by omega
 refine hdD Tryz.func111 Tryz.ntmps111 (res := [.cell 2 97, .cell 3 97]) fun w0 K0 B => ?_
 repeat' first | refine zd ?_ | ((first | refine zi ?_ | refine regA ?_ | refine drM (id := 2) 16 [8, 9, 10, 11, 12, 13, 14, 15] false [0, 1, 3, 7, 0, 16, 63, 127, 0, 256, 768, 1792, 0, 4096, 16128, 32512, 255, 131071] ?_ | refine drM (id := 4) 2 [1] false [0, 0, 1, 7] ?_ | refine LateGo.mk ⟨.x .j, rfl, ?_⟩ | refine ⟨_, ze ha', ⟨Nat.le_of_ble_eq_true rfl, rfl⟩, ?_⟩ | refine ⟨_, ze hb2, ⟨Nat.le_of_ble_eq_true rfl, rfl⟩, ?_⟩ | refine zsq ?_ | refine andA ?_ | fail); conv => whnf) | (refine lnA fun hln => ?_; conv => whnf) | fail
 exact ⟨_, plP st k xs, ⟨congrArg (fun n : Nat => some (Ob.box [.o 51 st n])) he, rfl, trivial⟩, rfl, rfl, rfl, rfl⟩
abbrev wrS (f : FormT) : Sg := [(100, .box (zb5 f))]
abbrev zpC : List SV := [.d (.v (.string (bs []))), .d (.v (.int .i64 0))]
abbrev cmP (f : FormT) (st k : Nat) (xs : List (List PV)) (σ : Sg) : Sg := (900, .chain 97 2 st xs) :: (7, .box [.o 900 st k]) :: (6, .box zpC) :: (3, .box (zb5 f)) :: σ
theorem zow (f : FormT) (hc : zD f = 0) (J : Nat → List Part → Prop) (h0 : J 0 [])
  (hl : ∀ i st (hi : i < f.code.length), (f.code[i].kind = 1 ∨ f.code[i].kind = 2) → fine f.vars.length f.code[i] → J i st → ∃ x, J (i + 1) (st ++ [x]) ∧
   ACall Tryz.prog 50 ([].map AV.x ++ [iv .i64 i, ndAV f.code[i]] ++ [.b 100 0].map .x) (wrS f) (fun r σ' => r = ptAV x ∧ σ' = wrS f))
  (hj : ∀ i st a b (hi : i < f.code.length), (f.code[i].kind = 3 ∨ f.code[i].kind = 4 ∨ f.code[i].kind = 5) → J i (st ++ [a, b]) → ∃ x, J (i + 1) (st ++ [x]) ∧
   ACall Tryz.prog 53 ([].map AV.x ++ [iv .i64 i, ndAV f.code[i], ptAV a, ptAV b] ++ [].map .x) (wrS f) (fun r σ' => r = ptAV x ∧ σ' = wrS f)) :
  ACall Tryz.prog 49 [zaB f, .x (.f (.func 50) [] [.b 100 0]), .x (.f (.func 53) [] [])] (wrS f)
   (fun r σ' => (∃ x, J f.code.length [x] ∧ r = ptAV x) ∧ σ' = wrS f) := by
 obtain ⟨hv8, hc1, hc40⟩ := zbD hc
 have hst := zdt hc
 refine hdD Tryz.func49 Tryz.ntmps49 (res := [.cell 6 97]) fun w0 K0 B => ?_
 repeat' first | refine zd ?_ | refine zc ?_ | ((first | refine regA ?_ | refine andA ?_ | fail); conv => whnf) | (refine lnA fun hln => ?_; conv => whnf) | fail
 refine zaq (Imp.nil 900 97 2 (fr' := [(15, iv .i64 0), (14, iv .i64 f.code.length), (13, .x (.d (zS f.code))), (7, .x (.b 7 0)), (6, .x (.b 6 0)), (1, .x (.f (.func 50) [] [.b 100 0])), (2, .x (.f (.func 53) [] []))])
  (σ' := (7, .box [.o 900 0 0]) :: (6, .box zpC) :: (3, .box (zb5 f)) :: wrS f) rfl ?_ ?_ rfl rfl) ?_
 ·exact ⟨⟨_, rfl, .inl rfl⟩, ⟨_, congrArg (fun k : Nat => some (iv .i64 k)) (List.length_map _), .inl rfl⟩, ⟨_, rfl, .inl rfl⟩, ⟨_, rfl, .inl rfl⟩, ⟨_, rfl, .inl rfl⟩, ⟨_, rfl, .inl rfl⟩, ⟨_, rfl, .inl rfl⟩, trivial⟩
 ·exact ⟨⟨_, rfl, .inr ⟨_, _, rfl, rfl, .inr ⟨rfl, rfl⟩, trivial⟩⟩, ⟨_, rfl, .inl rfl⟩, ⟨_, rfl, .inl rfl⟩, ⟨_, rfl, .inl rfl⟩, trivial⟩
 refine zJ (fun x : Nat × List Part × List (List PV) × Nat => [(15, iv .i64 x.1), (14, iv .i64 f.code.length), (13, .x (.d (zS f.code))), (7, .x (.b 7 0)), (6, .x (.b 6 0)), (1, .x (.f (.func 50) [] [.b 100 0])), (2, .x (.f (.func 53) [] []))])
  (fun x => cmP f x.2.2.2 x.2.1.length x.2.2.1 (wrS f))
  (fun x => x.1 ≤ f.code.length ∧ Ht f x.1 x.2.1.length ∧ J x.1 x.2.1 ∧ x.2.2.1.take x.2.1.length = x.2.1.map ptPV) (fun x => f.code.length - x.1) (0, [], [], 0) ⟨Nat.zero_le _, hst, h0, rfl⟩ impA ?_
 rintro ⟨i, st, xs, sm⟩ ⟨hi, hh, hJ, hx⟩
 dsimp only at hi hh hJ hx ⊢
 have hxl : st.length ≤ xs.length := by
  have := congrArg List.length hx
  rw [List.length_take, List.length_map] at this
  omega
 rcases Nat.lt_or_ge i f.code.length with hil | hil
 ·obtain ⟨hk, hf, hlf, hop⟩ := zdR hil hh
  have hp12 : st.length ≤ 12 := by obtain ⟨_, _, _, h, _⟩ := hh; exact h
  by_cases k3 : f.code[i].kind < 3
  ·obtain ⟨v, hJ', hcl⟩ := hl i st hil (by omega) hf hJ
   have hput := zlF v sm st.length xs hxl (by omega)
   repeat' first | refine zd ?_ | refine zc ?_ | ((first | refine zf ?_ | refine zk ?_ | refine regA ?_ | fail); conv => whnf) | exact abA hb | ((first | refine frA (hcl) [] ?_ | refine frA (hput) [(50, 7), (51, 900)] ?_ | fail); conv => whnf) | (refine zso rfl (fun hb => ?_) (fun hb => ?_)) | ((first | refine zsq ?_ | refine andA ?_ | with_reducible refine exA fun _ => ?_ | fail); conv => whnf) | fail
   exact ⟨(i + 1, st ++ [v], xs.take st.length ++ [ptPV v], sm + 1), ⟨by show i + 1 ≤ _; omega, by show Ht f (i + 1) (st ++ [v]).length; rw [List.length_append]; exact hlf k3, hJ', by show List.take (st ++ [v]).length _ = _; rw [List.length_append]; exact zaG rfl hx v⟩, by show f.code.length - (i + 1) < f.code.length - i; omega, (impX (by repeat' (first | exact trivial | refine And.intro ?_ ?_ | exact obE (by simp) | exact zsw)))⟩
  ·obtain ⟨q, hq, hh'⟩ := hop (by omega)
   obtain ⟨r, a, b, rfl, hr⟩ := zfT hq
   obtain ⟨v, hJ', hcl⟩ := hj i r a b hil (by omega) hJ
   rw [hq] at hx
   obtain ⟨t1, t2, t3, t4⟩ := zi7 hr hx
   have htwo := zpl a b sm q xs t1 (by omega) t2 t3
   have hput := zlF v sm q xs (by omega) (by omega)
   simp only [hq]
   repeat' first | refine zd ?_ | refine zc ?_ | ((first | refine zf ?_ | refine zk ?_ | refine regA ?_ | fail); conv => whnf) | exact abA hb | ((first | refine frA (hcl) [] ?_ | refine frA (hput) [(50, 7), (51, 900)] ?_ | refine frA (htwo) [(50, 7), (51, 900)] ?_ | fail); conv => whnf) | (refine zso rfl (fun hb => ?_) (fun hb => ?_)) | ((first | refine zsq ?_ | refine andA ?_ | with_reducible refine exA fun _ => ?_ | fail); conv => whnf) | fail
   exact ⟨(i + 1, r ++ [v], xs.take q ++ [ptPV v], sm + 1), ⟨by show i + 1 ≤ _; omega, by show Ht f (i + 1) (r ++ [v]).length; rw [List.length_append, hr]; exact hh', hJ', by show List.take (r ++ [v]).length _ = _; rw [List.length_append, hr]; exact zaG hr t4 v⟩, by show f.code.length - (i + 1) < f.code.length - i; omega, (impX (by repeat' (first | exact trivial | refine And.intro ?_ ?_ | exact obE (by simp [hr]) | exact zsw)))⟩
 ·have h1 := ziw hil hh
  obtain ⟨v, rfl⟩ : ∃ v, st = [v] := List.length_eq_one_iff.1 h1
  have hi2 : i = f.code.length := by omega
  subst hi2
  have g0 : xs[0]? = some (ptPV v) := by
   have := congrArg (fun l : List (List PV) => l[0]?) hx
   simpa using this
  repeat' first | refine zd ?_ | refine zc ?_ | ((first | refine zf ?_ | refine zk ?_ | refine zi ?_ | refine regA ?_ | fail); conv => whnf) | exact abA hb | ((refine ⟨_, ze g0, ⟨Nat.le_of_ble_eq_true rfl, rfl⟩, ?_⟩); conv => whnf) | (refine zso rfl (fun hb => ?_) (fun hb => ?_)) | ((refine andA ?_); conv => whnf) | fail
  exact ⟨_, wrS f, ⟨rfl, trivial⟩, rfl, rfl, ⟨⟨v, hJ, rfl⟩, rfl⟩⟩
end Go.Proofs.YtmceekhgnfpamaaGreatDoor
namespace Go.Proofs.YtmceekhgnfpamaaGreatDoor
open Go Go.QL FoT
set_option maxHeartbeats 3200000
attribute [local irreducible] ACall FnC fine ten zav zD
theorem zcB {a b : Bs8} (h : a.length + b.length ≤ 100000) : (bs a).size + (bs b).size ≤ maxLen := by
 rw [zbj, zbj]; unfold maxLen; omega
theorem zcp (p : Part) (w : Nat) (h : p.1.length ≤ 10000) : FnC Tryz.prog 54 [ptAV p, iv .i64 w] (sv (bs (zae p w))) := by
 unfold zae
 by_cases hw : w ≤ p.2
 ·rw [if_pos hw]
  refine hdC Tryz.func54 Tryz.ntmps54 (res := [.tmp 4]) fun w0 K0 => ?_
  repeat' first | refine zd ?_ | ((first | refine zf ?_ | refine zi ?_ | refine regA ?_ | fail); conv => whnf) | exact abA hb | (refine zso rfl (fun hb => ?_) (fun hb => ?_)) | ((refine andA ?_); conv => whnf) | fail
  rfl
 ·rw [if_neg hw]
  have g1 : (bs [40]).size + (bs p.1).size ≤ maxLen := zcB (by show 1 + _ ≤ _; omega)
  have g2 : (bs [40] ++ bs p.1).size + (bs [41]).size ≤ maxLen := by rw [za7]; exact zcB (by simp; omega)
  have e : bs [40] ++ bs p.1 ++ bs [41] = bs ([40] ++ p.1 ++ [41]) := by rw [za7, za7]
  rw [← e]
  refine hdC Tryz.func54 Tryz.ntmps54 (res := [.tmp 4]) fun w0 K0 => ?_
  repeat' first | refine zd ?_ | ((first | refine zf ?_ | refine zi ?_ | refine regA ?_ | fail); conv => whnf) | exact abA hb | ((first | refine And.intro (zay g1) ?_ | refine And.intro (zay g2) ?_ | fail); conv => whnf) | (refine zso rfl (fun hb => ?_) (fun hb => ?_)) | ((refine andA ?_); conv => whnf) | fail
  rfl
theorem zqx (f : FormT) (i : Int) (n : FNode) (hk : n.kind = 1 ∨ n.kind = 2) (hf : fine f.vars.length n) :
  ACall Tryz.prog 50 ([].map AV.x ++ [iv .i64 i, ndAV n] ++ [.b 100 0].map .x) (wrS f) (fun r σ' => r = ptAV (zdy f.vars 0 n) ∧ σ' = wrS f) := by
 show ACall Tryz.prog 50 [iv .i64 i, ndAV n, .x (.b 100 0)] _ _
 unfold zdy txV
 by_cases k1 : n.kind = 1
 ·rw [if_pos k1]
  unfold fine at hf
  rw [if_pos k1] at hf
  have hlt : n.var.toNat < f.vars.length := by omega
  have hg : f.vars[n.var.toNat]? = some (f.vars.getD n.var.toNat []) := by
   rw [List.getD_eq_getElem?_getD, List.getElem?_eq_getElem hlt]; rfl
  generalize f.vars.getD n.var.toNat [] = v at hg
  refine hdD Tryz.func50 Tryz.ntmps50 (res := [.cell 5 97]) fun w0 K0 B => ?_
  repeat' first | refine zd ?_ | ((first | refine zf ?_ | refine zi ?_ | refine regA ?_ | fail); conv => whnf) | exact abA hb | ((with_reducible refine Exists.intro _ (And.intro (ze (And.intro (by omega) (zgb hg))) ?_)); conv => whnf) | (refine zso rfl (fun hb => ?_) (fun hb => ?_)) | ((refine andA ?_); conv => whnf) | fail
  exact ⟨_, wrS f, ⟨rfl, trivial⟩, rfl, rfl, rfl, rfl⟩
 ·rw [if_neg k1]
  have k2 : n.kind = 2 := by omega
  obtain ⟨f1, f2, f3, f4⟩ := (zgA k2).1 hf
  obtain ⟨u, hu⟩ : ∃ u : Nat, n.num = u := ⟨n.num.toNat, by omega⟩
  obtain ⟨k, hkk⟩ : ∃ k : Nat, n.places = k := ⟨n.places.toNat, by omega⟩
  have hten : (u : Int) < 10 ^ k := by
   have : ten n = 10 ^ k := by unfold ten; rw [hkk, Int.toNat_natCast]
   omega
  have hten' : u < 10 ^ k := by
   have e : (10 : Int) ^ k = ((10 ^ k : Nat) : Int) := by push_cast; rfl
   omega
  obtain ⟨p1, p2⟩ := zlP k u (by omega) hten'
  have it := zod n.num (by omega) (by
   have := (zdk f2).2.2
   omega)
  have hit : Lib.itoa n.num = Lib.decDigits u := by rw [hu]; unfold Lib.itoa; simp
  rw [hit] at it
  have hz : ((⟨(Lib.decDigits u).toArray⟩ : ByteArray).size : Int) = (Lib.decDigits u).length := by
   show (((Lib.decDigits u).toArray.size : Nat) : Int) = _
   rw [List.size_toArray]
  have rp := zlA ⟨#[48]⟩ (k - (Lib.decDigits u).length) (by omega) (by decide)
  have hrp : Lib.repeatL (⟨#[48]⟩ : ByteArray).data.toList (k - (Lib.decDigits u).length) = List.replicate (k - (Lib.decDigits u).length) 48 := zqM _
  rw [hrp] at rp
  have hw : IntKind.i64.wrap (n.places - ((⟨(Lib.decDigits u).toArray⟩ : ByteArray).size : Int)) = ((k - (Lib.decDigits u).length : Nat) : Int) := by
   rw [hz, hkk, zg (by omega)]
   omega
  have g1 : (bs [48, 46]).size + (⟨(List.replicate (k - (Lib.decDigits u).length) 48).toArray⟩ : ByteArray).size ≤ maxLen := zcB (b := List.replicate (k - (Lib.decDigits u).length) 48) (by simp; omega)
  have g2 : (bs [48, 46] ++ (⟨(List.replicate (k - (Lib.decDigits u).length) 48).toArray⟩ : ByteArray)).size + (⟨(Lib.decDigits u).toArray⟩ : ByteArray).size ≤ maxLen := by
   show (bs [48, 46] ++ bs _).size + (bs _).size ≤ _
   rw [za7]
   exact zcB (by simp; omega)
  have e : bs [48, 46] ++ (⟨(List.replicate (k - (Lib.decDigits u).length) 48).toArray⟩ : ByteArray) ++ (⟨(Lib.decDigits u).toArray⟩ : ByteArray) = bs ([48, 46] ++ padD n.places.toNat n.num.toNat) := by
   show bs [48, 46] ++ bs _ ++ bs _ = _
   rw [za7, za7, hkk, hu, Int.toNat_natCast, Int.toNat_natCast, ← p2, List.append_assoc]
  unfold ptAV
  dsimp only
  rw [← e]
  refine hdD Tryz.func50 Tryz.ntmps50 (res := [.cell 5 97]) fun w0 K0 B => ?_
  repeat' first | refine zd ?_ | ((first | refine zf ?_ | refine zi ?_ | refine regA ?_ | fail); conv => whnf) | exact abA hb | ((first | refine zsn (it) ?_ | refine ⟨_, hw, ?_⟩ | refine zsn (rp) ?_ | refine And.intro (zay g1) ?_ | refine And.intro (zay g2) ?_ | fail); conv => whnf) | (refine zso rfl (fun hb => ?_) (fun hb => ?_)) | ((refine andA ?_); conv => whnf) | fail
  exact ⟨_, wrS f, ⟨rfl, trivial⟩, rfl, rfl, rfl, rfl⟩
theorem zqw (f : FormT) (i : Int) (n : FNode) (a b : Part) (hk : n.kind = 3 ∨ n.kind = 4 ∨ n.kind = 5) (ha : a.1.length ≤ 5000) (hb' : b.1.length ≤ 5000) :
  ACall Tryz.prog 53 ([].map AV.x ++ [iv .i64 i, ndAV n, ptAV a, ptAV b] ++ [].map .x) (wrS f) (fun r σ' => r = ptAV (zcT 0 n a b) ∧ σ' = wrS f) := by
 show ACall Tryz.prog 53 [iv .i64 i, ndAV n, ptAV a, ptAV b] _ _
 have wl : ∀ (p : Part) (w : Nat), p.1.length ≤ 5000 → (zae p w).length ≤ 5002 := fun p w h => by
  unfold zae
  split
  ·omega
  ·simp; omega
 obtain ⟨k, v, m, q⟩ := n
 dsimp only at hk
 rcases hk with rfl | rfl | rfl
 ·have w1 := zcp a 1 (by omega)
  have w2 := zcp b 2 (by omega)
  have l1 := wl a 1 ha
  have l2 := wl b 2 hb'
  rw [show zcT 0 ⟨3, v, m, q⟩ a b = (zae a 1 ++ [43] ++ zae b 2, 1) from rfl]
  generalize zae a 1 = x at *
  generalize zae b 2 = y at *
  have g1 : (bs x).size + (bs [43]).size ≤ maxLen := zcB (by simp; omega)
  have g2 : (bs x ++ bs [43]).size + (bs y).size ≤ maxLen := by rw [za7]; exact zcB (by simp; omega)
  have e : bs x ++ bs [43] ++ bs y = bs (x ++ [43] ++ y) := by rw [za7, za7]
  unfold ptAV
  dsimp only
  rw [← e]
  refine hdD Tryz.func53 Tryz.ntmps53 (res := [.cell 8 97]) fun w0 K0 B => ?_
  repeat' first | refine zd ?_ | ((first | refine zf ?_ | refine zi ?_ | refine regA ?_ | refine drA (id := 5) 14 false [0, 0, 3, 0, 8, 24, 56, 127, 0, 0, 512, 1799, 4095, 0, 16383, 32767] ?_ | refine zsp (w1) ?_ | refine zsp (w2) ?_ | refine And.intro (zay g1) ?_ | refine And.intro (zay g2) ?_ | fail); conv => whnf) | (refine zss rfl ?_) | ((first | refine zsq ?_ | refine andA ?_ | fail); conv => whnf) | fail
  exact ⟨_, wrS f, ⟨rfl, trivial⟩, rfl, rfl, rfl, rfl⟩
 ·have w1 := zcp a 1 (by omega)
  have w2 := zcp b 2 (by omega)
  have l1 := wl a 1 ha
  have l2 := wl b 2 hb'
  rw [show zcT 0 ⟨4, v, m, q⟩ a b = (zae a 1 ++ [45] ++ zae b 2, 1) from rfl]
  generalize zae a 1 = x at *
  generalize zae b 2 = y at *
  have g1 : (bs x).size + (bs [45]).size ≤ maxLen := zcB (by simp; omega)
  have g2 : (bs x ++ bs [45]).size + (bs y).size ≤ maxLen := by rw [za7]; exact zcB (by simp; omega)
  have e : bs x ++ bs [45] ++ bs y = bs (x ++ [45] ++ y) := by rw [za7, za7]
  unfold ptAV
  dsimp only
  rw [← e]
  refine hdD Tryz.func53 Tryz.ntmps53 (res := [.cell 8 97]) fun w0 K0 B => ?_
  repeat' first | refine zd ?_ | ((first | refine zf ?_ | refine zi ?_ | refine regA ?_ | refine drA (id := 5) 14 false [0, 0, 3, 0, 8, 24, 56, 127, 0, 0, 512, 1799, 4095, 0, 16383, 32767] ?_ | refine zsp (w1) ?_ | refine zsp (w2) ?_ | refine And.intro (zay g1) ?_ | refine And.intro (zay g2) ?_ | fail); conv => whnf) | (refine zss rfl ?_) | ((first | refine zsq ?_ | refine andA ?_ | fail); conv => whnf) | fail
  exact ⟨_, wrS f, ⟨rfl, trivial⟩, rfl, rfl, rfl, rfl⟩
 ·have w1 := zcp a 2 (by omega)
  have w2 := zcp b 3 (by omega)
  have l1 := wl a 2 ha
  have l2 := wl b 3 hb'
  rw [show zcT 0 ⟨5, v, m, q⟩ a b = (zae a 2 ++ [42] ++ zae b 3, 2) from rfl]
  generalize zae a 2 = x at *
  generalize zae b 3 = y at *
  have g1 : (bs x).size + (bs [42]).size ≤ maxLen := zcB (by simp; omega)
  have g2 : (bs x ++ bs [42]).size + (bs y).size ≤ maxLen := by rw [za7]; exact zcB (by simp; omega)
  have e : bs x ++ bs [42] ++ bs y = bs (x ++ [42] ++ y) := by rw [za7, za7]
  unfold ptAV
  dsimp only
  rw [← e]
  refine hdD Tryz.func53 Tryz.ntmps53 (res := [.cell 8 97]) fun w0 K0 B => ?_
  repeat' first | refine zd ?_ | ((first | refine zi ?_ | refine regA ?_ | refine drA (id := 5) 14 false [0, 0, 3, 0, 8, 24, 56, 127, 0, 0, 512, 1799, 4095, 0, 16383, 32767] ?_ | refine zsp (w1) ?_ | refine zsp (w2) ?_ | refine And.intro (zay g1) ?_ | refine And.intro (zay g2) ?_ | fail); conv => whnf) | (refine zst rfl ?_) | ((first | refine zsq ?_ | refine andA ?_ | fail); conv => whnf) | fail
  exact ⟨_, wrS f, ⟨rfl, trivial⟩, rfl, rfl, rfl, rfl⟩
def lenS (l : List Part) : Nat := (l.map fun p => p.1.length + 5).sum
theorem zdq (a b : List Part) : lenS (a ++ b) = lenS a + lenS b := by unfold lenS; rw [List.map_append, List.sum_append]
theorem zem (p : Part) : lenS [p] = p.1.length + 5 := by simp [lenS]
theorem zmb {V : List Bs8} (hV : ∀ s ∈ V, s.length ≤ 20) {n : FNode} (hk : n.kind = 1 ∨ n.kind = 2) (hf : fine V.length n) : (zdy V 0 n).1.length ≤ 20 := by
 unfold zdy txV
 by_cases k1 : n.kind = 1
 ·rw [if_pos k1]
  unfold fine at hf
  rw [if_pos k1] at hf
  dsimp only
  rw [List.getD_eq_getElem?_getD, List.getElem?_eq_getElem (by omega)]
  exact hV _ (List.getElem_mem (by omega))
 ·rw [if_neg k1]
  obtain ⟨f1, f2, f3, f4⟩ := (zgA (by omega)).1 hf
  simp only [List.length_append, zdp]
  simp
  omega
theorem zgD (p : Part) (w : Nat) : (zae p w).length ≤ p.1.length + 2 := by
 unfold zae
 split
 ·omega
 ·simp; try omega
theorem zmz (n : FNode) (a b : Part) : (zcT 0 n a b).1.length ≤ a.1.length + b.1.length + 5 := by
 unfold zcT zca
 dsimp only
 simp only [List.length_append]
 have h1 := zgD a (if n.kind = 5 then 2 else 1)
 have h2 := zgD b ((if n.kind = 5 then 2 else 1) + 1)
 have h3 : (if n.kind = 5 then ([42] : Bs8) else if n.kind = 4 then [45] else [43]).length = 1 := by
  by_cases h5 : n.kind = 5
  ·rw [if_pos h5]; rfl
  ·rw [if_neg h5]; split <;> rfl
 omega
theorem zl1 {f : FormT} (hc : zD f = 0) : ∀ s ∈ f.vars, s.length ≤ 20 := by
 unfold zD at hc
 split at hc
 ·cases hc
 ·split at hc
  ·rename_i e he
   rcases zhc (V := f.vars) f.vars [] with h1 | h1 | h1 <;> rw [h1] at he <;> cases he <;> cases hc
  ·rename_i he
   intro s hs
   have := (zeK he).1 s hs
   unfold zbb at this
   simp at this
   try omega
theorem zrm (f : FormT) (hc : zD f = 0) :
  ACall Tryz.prog 49 [zaB f, .x (.f (.func 50) [] [.b 100 0]), .x (.f (.func 53) [] [])] (wrS f)
   (fun r σ' => r = ptAV ((zaN (([], 0) : Part) (zdy f.vars) zcT 0 f.code []).getD 0 ([], 0)) ∧ σ' = wrS f) := by
 obtain ⟨_, _, hc40⟩ := zbD hc
 have hV := zl1 hc
 have small : ∀ (st : List Part) (i : Nat), i ≤ 40 → lenS st ≤ 25 * i → ∀ p ∈ st, p.1.length ≤ 5000 := by
  intro st i hi h p hp
  obtain ⟨x, y, rfl⟩ := List.append_of_mem hp
  rw [zdq, show p :: y = [p] ++ y from rfl, zdq, zem] at h
  omega
 refine (zow f hc (fun i st => lenS st ≤ 25 * i ∧ zaN (([], 0) : Part) (zdy f.vars) zcT 0 f.code [] = zaN (([], 0) : Part) (zdy f.vars) zcT i (f.code.drop i) st) ⟨by simp [lenS], rfl⟩ ?_ ?_).mono ?_
 ·rintro i st hi hk hf ⟨h1, h2⟩
  have hl := zmb hV hk hf
  refine ⟨zdy f.vars 0 f.code[i], ⟨by rw [zdq, zem]; omega, ?_⟩, zqx f i _ hk hf⟩
  rw [h2, List.drop_eq_getElem_cons hi, zaN, if_pos (by omega)]; rfl
 ·rintro i st a b hi hk ⟨h1, h2⟩
  have hs := small _ i (by omega) h1
  have hj := zmz f.code[i] a b
  refine ⟨zcT 0 f.code[i] a b, ⟨?_, ?_⟩, zqw f i _ a b hk (hs a (by simp)) (hs b (by simp))⟩
  ·rw [zdq, zem]
   rw [zdq, show ([a, b] : List Part) = [a] ++ [b] from rfl, zdq, zem, zem] at h1
   omega
  ·rw [h2, List.drop_eq_getElem_cons hi, zaN, if_neg (by omega)]
   simp only [List.length_append, List.length_cons, List.length_nil]
   rw [List.take_left' (by omega)]
   congr 2
   try simp [zcT, List.getD_eq_getElem?_getD]
 ·rintro r σ' ⟨⟨x, ⟨_, hx⟩, rfl⟩, rfl⟩
  refine ⟨?_, rfl⟩
  rw [List.drop_eq_nil_of_le (Nat.le_refl _)] at hx
  rw [hx]; rfl
def zd0 (f : FormT) : Bs8 × Int := if zD f ≠ 0 then ([], zD f) else (zeL f, 0)
theorem zcX (f : FormT) : FnC Tryz.prog 18 [zaB f] (.t [sv (bs (zd0 f).1), iv .i64 (zd0 f).2]) := by
 have ck := ziO f
 unfold zd0
 by_cases h0 : zD f = 0
 ·rw [if_neg (by omega)]
  rw [h0] at ck
  have cp := zrm f h0
  unfold zeL
  generalize (zaN (([], 0) : Part) (zdy f.vars) zcT 0 f.code []).getD 0 ([], 0) = R at *
  refine hdC Tryz.func18 Tryz.ntmps18 (res := [.tmp 2, .tmp 3]) fun w0 K0 => ?_
  repeat' first | refine zd ?_ | ((first | refine zf ?_ | refine zi ?_ | refine regA ?_ | refine zsn (ck) ?_ | refine frA (cp) [(100, 1)] ?_ | fail); conv => whnf) | (refine zss rfl ?_) | fail
  rfl
 ·rw [if_pos h0]
  refine hdC Tryz.func18 Tryz.ntmps18 (res := [.tmp 2, .tmp 3]) fun w0 K0 => ?_
  repeat' first | refine zd ?_ | ((first | refine zf ?_ | refine zi ?_ | refine regA ?_ | refine zsn (ck) ?_ | fail); conv => whnf) | (exact absurd hb h0) | (refine zso rfl (fun hb => ?_) (fun hb => ?_)) | fail
  rfl
end Go.Proofs.YtmceekhgnfpamaaGreatDoor
namespace Go.Proofs.YtmceekhgnfpamaaGreatDoor
open Go Go.QL FoT
set_option maxHeartbeats 1600000
attribute [local irreducible] ACall FnC fine ten
abbrev plR (st k : Nat) (xs : List (List PV)) : Sg := [(50, .box [.o 51 st k]), (51, .chain 42 3 st xs)]
theorem zlE (v : RangeT) (st k : Nat) (xs : List (List PV)) (hk : k ≤ xs.length) (hl : k ≤ 100) :
  ACall Tryz.prog 133 [.x (.b 50 0), rgAV v] (plR st k xs) (fun r σ' => r = .t [] ∧ σ' = plR (st + 1) (k + 1) (xs.take k ++ [rgPV v])) := by
 have g1 : k + [rgPV v].length ≤ maxLen := by show k + 1 ≤ _; unfold maxLen; omega
 have g2 : (k + [rgPV v].length) * 24 ≤ 140737488355328 := by show (k + 1) * 24 ≤ _; omega
 refine hdD Tryz.func133 Tryz.ntmps133 (res := []) fun w0 K0 B => ?_
 repeat' first | refine zd ?_ | ((first | refine regA ?_ | refine drM (id := 1) 7 [0] true [0, 0, 2, 6, 14, 0, 32, 126, 255, 511, 1023] ?_ | refine LateGo.mk ⟨_, rfl, ?_⟩ | refine And.intro ⟨hk, g1, g2⟩ ?_ | refine andA ?_ | fail); conv => whnf) | fail
 exact ⟨_, plR (st + 1) (k + 1) (xs.take k ++ [rgPV v]), ⟨rfl, rfl, trivial⟩, rfl, rfl, rfl, rfl⟩
theorem zpk (a b : RangeT) (st k : Nat) (xs : List (List PV)) (hk : k + 2 ≤ xs.length) (hl : k ≤ 100) (ha : xs[k]? = some (rgPV a)) (hb' : xs[k + 1]? = some (rgPV b)) :
  ACall Tryz.prog 134 [.x (.b 50 0)] (plR st (k + 2) xs) (fun r σ' => r = .t [rgAV a, rgAV b] ∧ σ' = plR st k xs) := by
 have ha' : xs[(((k + 2 : Nat) : Int) - 2).toNat]? = some (rgPV a) := by rw [show (((k + 2 : Nat) : Int) - 2).toNat = k by omega]; exact ha
 have hb2 : xs[(((k + 2 : Nat) : Int) - 1).toNat]? = some (rgPV b) := by rw [show (((k + 2 : Nat) : Int) - 1).toNat = k + 1 by omega]; exact hb'
 have he : (((k + 2 : Nat) : Int) - 2).toNat = k := by omega
 refine hdD Tryz.func134 Tryz.ntmps134 (res := [.cell 2 42, .cell 3 42]) fun w0 K0 B => ?_
 repeat' first | refine zd ?_ | ((first | refine zi ?_ | refine regA ?_ | refine drM (id := 2) 16 [8, 9, 10, 11, 12, 13, 14, 15] false [0, 1, 3, 7, 0, 16, 63, 127, 0, 256, 768, 1792, 0, 4096, 16128, 32512, 255, 131071] ?_ | refine drM (id := 4) 2 [1] false [0, 0, 1, 7] ?_ | refine LateGo.mk ⟨.x .j, rfl, ?_⟩ | refine ⟨_, ze ha', ⟨Nat.le_of_ble_eq_true rfl, rfl⟩, ?_⟩ | refine ⟨_, ze hb2, ⟨Nat.le_of_ble_eq_true rfl, rfl⟩, ?_⟩ | refine zsq ?_ | refine andA ?_ | fail); conv => whnf) | (refine lnA fun hln => ?_; conv => whnf) | fail
 exact ⟨_, plR st k xs, ⟨congrArg (fun n : Nat => some (Ob.box [.o 51 st n])) he, rfl, trivial⟩, rfl, rfl, rfl, rfl⟩
end Go.Proofs.YtmceekhgnfpamaaGreatDoor
namespace Go.Proofs.YtmceekhgnfpamaaGreatDoor
open Go Go.QL FoT
set_option maxHeartbeats 3200000
attribute [local irreducible] ACall FnC fine ten zav
abbrev rgS (spans : List SpanT) (t : Int) : Sg := [(100, .box [.d (zcS spans)]), (103, .box [.d (.v (.int .i64 t))]), (101, .box [.h 102]), mpS]
abbrev zrC : List SV := [.d (.v (.int .i64 0)), .d (.v (.int .i64 0)), .d (.v (.int .i64 0))]
abbrev cmR (f : FormT) (st k : Nat) (xs : List (List PV)) (σ : Sg) : Sg := (900, .chain 42 3 st xs) :: (7, .box [.o 900 st k]) :: (6, .box zrC) :: (3, .box (zb5 f)) :: σ
theorem zov (f : FormT) (hc : zD f = 0) (spans : List SpanT) (J : Nat → Int → List RangeT → Prop) (h0 : J 0 (-1) [])
  (hl : ∀ i t st (hi : i < f.code.length), (f.code[i].kind = 1 ∨ f.code[i].kind = 2) → fine f.vars.length f.code[i] → J i t st → ∃ x, J (i + 1) t (st ++ [x]) ∧
   ACall Tryz.prog 77 ([].map AV.x ++ [iv .i64 i, ndAV f.code[i]] ++ [.b 100 0].map .x) (rgS spans t) (fun r σ' => r = rgAV x ∧ σ' = rgS spans t))
  (hj : ∀ i t st a b (hi : i < f.code.length), (f.code[i].kind = 3 ∨ f.code[i].kind = 4 ∨ f.code[i].kind = 5) → J i t (st ++ [a, b]) → ∃ x t', J (i + 1) t' (st ++ [x]) ∧
   ACall Tryz.prog 78 ([].map AV.x ++ [iv .i64 i, ndAV f.code[i], rgAV a, rgAV b] ++ [.b 103 0, .b 101 0].map .x) (rgS spans t) (fun r σ' => r = rgAV x ∧ σ' = rgS spans t')) :
  ACall Tryz.prog 76 [zaB f, .x (.f (.func 77) [] [.b 100 0]), .x (.f (.func 78) [] [.b 103 0, .b 101 0])] (rgS spans (-1))
   (fun r σ' => ∃ x t, J f.code.length t [x] ∧ r = rgAV x ∧ σ' = rgS spans t) := by
 obtain ⟨hv8, hc1, hc40⟩ := zbD hc
 have hst := zdt hc
 refine hdD Tryz.func76 Tryz.ntmps76 (res := [.cell 6 42]) fun w0 K0 B => ?_
 repeat' first | refine zd ?_ | refine zc ?_ | ((first | refine regA ?_ | refine andA ?_ | fail); conv => whnf) | (refine lnA fun hln => ?_; conv => whnf) | fail
 refine zaq (Imp.nil 900 42 3 (fr' := [(15, iv .i64 0), (14, iv .i64 f.code.length), (13, .x (.d (zS f.code))), (7, .x (.b 7 0)), (6, .x (.b 6 0)), (1, .x (.f (.func 77) [] [.b 100 0])), (2, .x (.f (.func 78) [] [.b 103 0, .b 101 0]))])
  (σ' := (7, .box [.o 900 0 0]) :: (6, .box zrC) :: (3, .box (zb5 f)) :: rgS spans (-1)) rfl ?_ ?_ rfl rfl) ?_
 ·exact ⟨⟨_, rfl, .inl rfl⟩, ⟨_, congrArg (fun k : Nat => some (iv .i64 k)) (List.length_map _), .inl rfl⟩, ⟨_, rfl, .inl rfl⟩, ⟨_, rfl, .inl rfl⟩, ⟨_, rfl, .inl rfl⟩, ⟨_, rfl, .inl rfl⟩, ⟨_, rfl, .inl rfl⟩, trivial⟩
 ·exact ⟨⟨_, rfl, .inr ⟨_, _, rfl, rfl, .inr ⟨rfl, rfl⟩, trivial⟩⟩, ⟨_, rfl, .inl rfl⟩, ⟨_, rfl, .inl rfl⟩, ⟨_, rfl, .inl rfl⟩, ⟨_, rfl, .inl rfl⟩, ⟨_, rfl, .inl rfl⟩, ⟨_, rfl, .inl rfl⟩, trivial⟩
 refine zJ (fun x : Nat × List RangeT × List (List PV) × Nat × Int => [(15, iv .i64 x.1), (14, iv .i64 f.code.length), (13, .x (.d (zS f.code))), (7, .x (.b 7 0)), (6, .x (.b 6 0)), (1, .x (.f (.func 77) [] [.b 100 0])), (2, .x (.f (.func 78) [] [.b 103 0, .b 101 0]))])
  (fun x => cmR f x.2.2.2.1 x.2.1.length x.2.2.1 (rgS spans x.2.2.2.2))
  (fun x => x.1 ≤ f.code.length ∧ Ht f x.1 x.2.1.length ∧ J x.1 x.2.2.2.2 x.2.1 ∧ x.2.2.1.take x.2.1.length = x.2.1.map rgPV) (fun x => f.code.length - x.1) (0, [], [], 0, -1) ⟨Nat.zero_le _, hst, h0, rfl⟩ impA ?_
 rintro ⟨i, st, xs, sm, t⟩ ⟨hi, hh, hJ, hx⟩
 dsimp only at hi hh hJ hx ⊢
 have hxl : st.length ≤ xs.length := by
  have := congrArg List.length hx
  rw [List.length_take, List.length_map] at this
  omega
 rcases Nat.lt_or_ge i f.code.length with hil | hil
 ·obtain ⟨hk, hf, hlf, hop⟩ := zdR hil hh
  have hp12 : st.length ≤ 12 := by obtain ⟨_, _, _, h, _⟩ := hh; exact h
  by_cases k3 : f.code[i].kind < 3
  ·obtain ⟨v, hJ', hcl⟩ := hl i t st hil (by omega) hf hJ
   have hput := zlE v sm st.length xs hxl (by omega)
   repeat' first | refine zd ?_ | refine zc ?_ | ((first | refine zf ?_ | refine zk ?_ | refine regA ?_ | fail); conv => whnf) | exact abA hb | ((first | refine frA (hcl) [] ?_ | refine frA (hput) [(50, 7), (51, 900)] ?_ | fail); conv => whnf) | (refine zso rfl (fun hb => ?_) (fun hb => ?_)) | ((first | refine zsq ?_ | refine andA ?_ | with_reducible refine exA fun _ => ?_ | fail); conv => whnf) | fail
   exact ⟨(i + 1, st ++ [v], xs.take st.length ++ [rgPV v], sm + 1, t), ⟨by show i + 1 ≤ _; omega, by show Ht f (i + 1) (st ++ [v]).length; rw [List.length_append]; exact hlf k3, hJ', by show List.take (st ++ [v]).length _ = _; rw [List.length_append]; exact zaG rfl hx v⟩, by show f.code.length - (i + 1) < f.code.length - i; omega, (impX (by repeat' (first | exact trivial | refine And.intro ?_ ?_ | exact obE (by simp) | exact zsw)))⟩
  ·obtain ⟨q, hq, hh'⟩ := hop (by omega)
   obtain ⟨r, a, b, rfl, hr⟩ := zfT hq
   obtain ⟨v, t', hJ', hcl⟩ := hj i t r a b hil (by omega) hJ
   rw [hq] at hx
   obtain ⟨p1, p2, p3, p4⟩ := zi7 hr hx
   have htwo := zpk a b sm q xs p1 (by omega) p2 p3
   have hput := zlE v sm q xs (by omega) (by omega)
   simp only [hq]
   repeat' first | refine zd ?_ | refine zc ?_ | ((first | refine zf ?_ | refine zk ?_ | refine regA ?_ | fail); conv => whnf) | exact abA hb | ((first | refine frA (hcl) [] ?_ | refine frA (hput) [(50, 7), (51, 900)] ?_ | refine frA (htwo) [(50, 7), (51, 900)] ?_ | fail); conv => whnf) | (refine zso rfl (fun hb => ?_) (fun hb => ?_)) | ((first | refine zsq ?_ | refine andA ?_ | with_reducible refine exA fun _ => ?_ | fail); conv => whnf) | fail
   exact ⟨(i + 1, r ++ [v], xs.take q ++ [rgPV v], sm + 1, t'), ⟨by show i + 1 ≤ _; omega, by show Ht f (i + 1) (r ++ [v]).length; rw [List.length_append, hr]; exact hh', hJ', by show List.take (r ++ [v]).length _ = _; rw [List.length_append, hr]; exact zaG hr p4 v⟩, by show f.code.length - (i + 1) < f.code.length - i; omega, (impX (by repeat' (first | exact trivial | refine And.intro ?_ ?_ | exact obE (by simp [hr]) | exact zsw)))⟩
 ·have h1 := ziw hil hh
  obtain ⟨v, rfl⟩ : ∃ v, st = [v] := List.length_eq_one_iff.1 h1
  have hi2 : i = f.code.length := by omega
  subst hi2
  have g0 : xs[0]? = some (rgPV v) := by
   have := congrArg (fun l : List (List PV) => l[0]?) hx
   simpa using this
  repeat' first | refine zd ?_ | refine zc ?_ | ((first | refine zf ?_ | refine zk ?_ | refine zi ?_ | refine regA ?_ | fail); conv => whnf) | exact abA hb | ((refine ⟨_, ze g0, ⟨Nat.le_of_ble_eq_true rfl, rfl⟩, ?_⟩); conv => whnf) | (refine zso rfl (fun hb => ?_) (fun hb => ?_)) | ((refine andA ?_); conv => whnf) | fail
  exact ⟨_, rgS spans t, ⟨rfl, rfl, rfl, rfl, trivial⟩, rfl, rfl, ⟨v, t, hJ, rfl, rfl⟩⟩
end Go.Proofs.YtmceekhgnfpamaaGreatDoor
namespace Go.Proofs.YtmceekhgnfpamaaGreatDoor
open Go Go.QL FoT
set_option maxHeartbeats 3200000
attribute [local irreducible] ACall FnC fine ten zav
theorem zfB (n : Int) : FnC Tryz.prog 75 [iv .i64 n] (bv (zC n)) := by
 have o := zaL n (-8388608) 8388607
 have e : outB n (-8388608) 8388607 = zC n := by
  unfold outB zC
  cases decide (n < -8388608) <;> rfl
 rw [e] at o
 generalize zC n = b at *
 refine hdC Tryz.func75 Tryz.ntmps75 (res := [.tmp 2]) fun w0 K0 => ?_
 repeat' first | refine zd ?_ | ((first | refine zi ?_ | refine regA ?_ | refine zsn (o) ?_ | fail); conv => whnf) | fail
 rfl
theorem zer {a b : Int} : (if b > a then b else a) = max a b := by split <;> omega
theorem zfi {a b : Int} : (if b < a then b else a) = min a b := by split <;> omega
theorem zq0 (a b c d : Int) : FnC Tryz.prog 80 [sl [a, b, c, d]] (iv .i64 (min4 a b c d)) := by
 refine hdC Tryz.func80 Tryz.ntmps80 (res := [.tmp 2]) fun w0 K0 => ?_
 repeat' first | refine zd ?_ | refine zc ?_ | ((first | refine zf ?_ | refine regA ?_ | refine ⟨[.v (.int .i64 a)], ze ⟨by omega, rfl⟩, ?_⟩ | fail); conv => whnf) | (refine zss rfl ?_) | ((refine andA ?_); conv => whnf) | (refine lnA fun hln => ?_; conv => whnf) | fail
 refine zJ (fun x : Nat × Int => [(4, iv .i64 x.1), (3, iv .i64 x.2), (0, sl [a, b, c, d])]) (fun _ => []) (fun x => (x.1 = 1 ∧ x.2 = a) ∨ (x.1 = 2 ∧ x.2 = min a b) ∨ (x.1 = 3 ∧ x.2 = min (min a b) c) ∨ (x.1 = 4 ∧ x.2 = min4 a b c d)) (fun x => 4 - x.1) (1, a) (.inl ⟨rfl, rfl⟩) impA ?_
 rintro ⟨i, m⟩ h
 dsimp only at h ⊢
 rcases h with ⟨rfl, rfl⟩ | ⟨rfl, rfl⟩ | ⟨rfl, rfl⟩ | ⟨rfl, rfl⟩
 ·repeat' first | refine zd ?_ | refine zc ?_ | ((first | refine zf ?_ | refine regA ?_ | refine ⟨[.v (.int .i64 b)], ze ⟨by omega, rfl⟩, ?_⟩ | fail); conv => whnf) | (refine zst rfl ?_) | ((first | refine zsq ?_ | refine andA ?_ | fail); conv => whnf) | (refine lnA fun hln => ?_; conv => whnf) | fail
  exact ⟨(2, min m b), .inr (.inl ⟨rfl, rfl⟩), by show 4 - 2 < 4 - 1; decide, (impX (by repeat' (first | exact trivial | refine And.intro ?_ ?_ | exact ivE (show ((1 : Nat) : Int) + 1 = ((2 : Nat) : Int) from rfl) | exact ivE (show ((2 : Nat) : Int) + 1 = ((3 : Nat) : Int) from rfl) | exact ivE (show ((3 : Nat) : Int) + 1 = ((4 : Nat) : Int) from rfl) | exact ivE (by simp only [cond_false, cond_true, zfi, zer]) | exact zsw)))⟩
 ·repeat' first | refine zd ?_ | refine zc ?_ | ((first | refine zf ?_ | refine regA ?_ | refine ⟨[.v (.int .i64 c)], ze ⟨by omega, rfl⟩, ?_⟩ | fail); conv => whnf) | (refine zst rfl ?_) | ((first | refine zsq ?_ | refine andA ?_ | fail); conv => whnf) | (refine lnA fun hln => ?_; conv => whnf) | fail
  exact ⟨(3, min (min a b) c), .inr (.inr (.inl ⟨rfl, rfl⟩)), by show 4 - 3 < 4 - 2; decide, (impX (by repeat' (first | exact trivial | refine And.intro ?_ ?_ | exact ivE (show ((1 : Nat) : Int) + 1 = ((2 : Nat) : Int) from rfl) | exact ivE (show ((2 : Nat) : Int) + 1 = ((3 : Nat) : Int) from rfl) | exact ivE (show ((3 : Nat) : Int) + 1 = ((4 : Nat) : Int) from rfl) | exact ivE (by simp only [cond_false, cond_true, zfi, zer]) | exact zsw)))⟩
 ·repeat' first | refine zd ?_ | refine zc ?_ | ((first | refine zf ?_ | refine regA ?_ | refine ⟨[.v (.int .i64 d)], ze ⟨by omega, rfl⟩, ?_⟩ | fail); conv => whnf) | (refine zst rfl ?_) | ((first | refine zsq ?_ | refine andA ?_ | fail); conv => whnf) | (refine lnA fun hln => ?_; conv => whnf) | fail
  exact ⟨(4, min4 a b c d), .inr (.inr (.inr ⟨rfl, rfl⟩)), by show 4 - 4 < 4 - 3; decide, (impX (by repeat' (first | exact trivial | refine And.intro ?_ ?_ | exact ivE (show ((1 : Nat) : Int) + 1 = ((2 : Nat) : Int) from rfl) | exact ivE (show ((2 : Nat) : Int) + 1 = ((3 : Nat) : Int) from rfl) | exact ivE (show ((3 : Nat) : Int) + 1 = ((4 : Nat) : Int) from rfl) | exact ivE (by simp only [cond_false, cond_true, zfi, zer]; unfold min4; omega) | exact zsw)))⟩
 ·repeat' first | refine zd ?_ | ((first | refine zk ?_ | refine zi ?_ | refine regA ?_ | fail); conv => whnf) | (refine zss rfl ?_) | (refine lnA fun hln => ?_; conv => whnf) | fail
  rfl
theorem zq1 (a b c d : Int) : FnC Tryz.prog 81 [sl [a, b, c, d]] (iv .i64 (max4 a b c d)) := by
 refine hdC Tryz.func81 Tryz.ntmps81 (res := [.tmp 2]) fun w0 K0 => ?_
 repeat' first | refine zd ?_ | refine zc ?_ | ((first | refine zf ?_ | refine regA ?_ | refine ⟨[.v (.int .i64 a)], ze ⟨by omega, rfl⟩, ?_⟩ | fail); conv => whnf) | (refine zss rfl ?_) | ((refine andA ?_); conv => whnf) | (refine lnA fun hln => ?_; conv => whnf) | fail
 refine zJ (fun x : Nat × Int => [(4, iv .i64 x.1), (3, iv .i64 x.2), (0, sl [a, b, c, d])]) (fun _ => []) (fun x => (x.1 = 1 ∧ x.2 = a) ∨ (x.1 = 2 ∧ x.2 = max a b) ∨ (x.1 = 3 ∧ x.2 = max (max a b) c) ∨ (x.1 = 4 ∧ x.2 = max4 a b c d)) (fun x => 4 - x.1) (1, a) (.inl ⟨rfl, rfl⟩) impA ?_
 rintro ⟨i, m⟩ h
 dsimp only at h ⊢
 rcases h with ⟨rfl, rfl⟩ | ⟨rfl, rfl⟩ | ⟨rfl, rfl⟩ | ⟨rfl, rfl⟩
 ·repeat' first | refine zd ?_ | refine zc ?_ | ((first | refine zf ?_ | refine regA ?_ | refine ⟨[.v (.int .i64 b)], ze ⟨by omega, rfl⟩, ?_⟩ | fail); conv => whnf) | (refine zst rfl ?_) | ((first | refine zsq ?_ | refine andA ?_ | fail); conv => whnf) | (refine lnA fun hln => ?_; conv => whnf) | fail
  exact ⟨(2, max m b), .inr (.inl ⟨rfl, rfl⟩), by show 4 - 2 < 4 - 1; decide, (impX (by repeat' (first | exact trivial | refine And.intro ?_ ?_ | exact ivE (show ((1 : Nat) : Int) + 1 = ((2 : Nat) : Int) from rfl) | exact ivE (show ((2 : Nat) : Int) + 1 = ((3 : Nat) : Int) from rfl) | exact ivE (show ((3 : Nat) : Int) + 1 = ((4 : Nat) : Int) from rfl) | exact ivE (by simp only [cond_false, cond_true, zfi, zer]) | exact zsw)))⟩
 ·repeat' first | refine zd ?_ | refine zc ?_ | ((first | refine zf ?_ | refine regA ?_ | refine ⟨[.v (.int .i64 c)], ze ⟨by omega, rfl⟩, ?_⟩ | fail); conv => whnf) | (refine zst rfl ?_) | ((first | refine zsq ?_ | refine andA ?_ | fail); conv => whnf) | (refine lnA fun hln => ?_; conv => whnf) | fail
  exact ⟨(3, max (max a b) c), .inr (.inr (.inl ⟨rfl, rfl⟩)), by show 4 - 3 < 4 - 2; decide, (impX (by repeat' (first | exact trivial | refine And.intro ?_ ?_ | exact ivE (show ((1 : Nat) : Int) + 1 = ((2 : Nat) : Int) from rfl) | exact ivE (show ((2 : Nat) : Int) + 1 = ((3 : Nat) : Int) from rfl) | exact ivE (show ((3 : Nat) : Int) + 1 = ((4 : Nat) : Int) from rfl) | exact ivE (by simp only [cond_false, cond_true, zfi, zer]) | exact zsw)))⟩
 ·repeat' first | refine zd ?_ | refine zc ?_ | ((first | refine zf ?_ | refine regA ?_ | refine ⟨[.v (.int .i64 d)], ze ⟨by omega, rfl⟩, ?_⟩ | fail); conv => whnf) | (refine zst rfl ?_) | ((first | refine zsq ?_ | refine andA ?_ | fail); conv => whnf) | (refine lnA fun hln => ?_; conv => whnf) | fail
  exact ⟨(4, max4 a b c d), .inr (.inr (.inr ⟨rfl, rfl⟩)), by show 4 - 4 < 4 - 3; decide, (impX (by repeat' (first | exact trivial | refine And.intro ?_ ?_ | exact ivE (show ((1 : Nat) : Int) + 1 = ((2 : Nat) : Int) from rfl) | exact ivE (show ((2 : Nat) : Int) + 1 = ((3 : Nat) : Int) from rfl) | exact ivE (show ((3 : Nat) : Int) + 1 = ((4 : Nat) : Int) from rfl) | exact ivE (by simp only [cond_false, cond_true, zfi, zer]; unfold max4; omega) | exact zsw)))⟩
 ·repeat' first | refine zd ?_ | ((first | refine zk ?_ | refine zi ?_ | refine regA ?_ | fail); conv => whnf) | (refine zss rfl ?_) | (refine lnA fun hln => ?_; conv => whnf) | fail
  rfl
theorem zo5 (lo hi err : Int) (h1 : -8388608 ≤ lo ∧ lo ≤ 8388607) (h2 : -8388608 ≤ hi ∧ hi ≤ 8388607) : FnC Tryz.prog 79 [.a [.d (.v (.int .i64 lo)), .d (.v (.int .i64 hi))]] (iv .i64 (farR ⟨lo, hi, err⟩)) := by
 have hw1 : IntKind.i64.wrap (0 - lo) = -lo := by rw [Int.zero_sub]; exact zg (by omega)
 have hw2 : IntKind.i64.wrap (0 - hi) = -hi := by rw [Int.zero_sub]; exact zg (by omega)
 refine hdC Tryz.func79 Tryz.ntmps79 (res := [.tmp 2]) fun w0 K0 => ?_
 repeat' first | refine zd ?_ | ((first | refine zi ?_ | refine regA ?_ | refine ⟨_, hw1, ?_⟩ | refine ⟨_, hw2, ?_⟩ | refine andA ?_ | fail); conv => whnf) | fail
 refine congrArg (fun x : Int => some (iv .i64 x)) ?_
 unfold farR
 dsimp only
 show (bif _ then _ else _ : Int) = _
 simp only [cond_true, zer]
 omega
theorem zqL (spans : List SpanT) (t i : Int) (n : FNode) (hk : n.kind = 1 ∨ n.kind = 2) (hf : fine spans.length n) :
  ACall Tryz.prog 77 ([].map AV.x ++ [iv .i64 i, ndAV n] ++ [.b 100 0].map .x) (rgS spans t) (fun r σ' => r = rgAV (zbB spans n) ∧ σ' = rgS spans t) := by
 show ACall Tryz.prog 77 [iv .i64 i, ndAV n, .x (.b 100 0)] _ _
 unfold zbB
 by_cases k1 : n.kind = 1
 ·rw [if_pos k1]
  unfold fine at hf
  rw [if_pos k1] at hf
  have hlt : n.var.toNat < spans.length := by omega
  have hg : spans[n.var.toNat]? = some (spans.getD n.var.toNat ⟨0, 0⟩) := by
   rw [List.getD_eq_getElem?_getD, List.getElem?_eq_getElem hlt]; rfl
  generalize spans.getD n.var.toNat ⟨0, 0⟩ = v at hg
  refine hdD Tryz.func77 Tryz.ntmps77 (res := [.cell 5 42]) fun w0 K0 B => ?_
  repeat' first | refine zd ?_ | ((first | refine zf ?_ | refine zi ?_ | refine regA ?_ | fail); conv => whnf) | exact abA hb | ((with_reducible refine Exists.intro _ (And.intro (ze (And.intro (by omega) (zgb hg))) ?_)); conv => whnf) | (refine zso rfl (fun hb => ?_) (fun hb => ?_)) | ((refine andA ?_); conv => whnf) | fail
  exact ⟨_, rgS spans t, ⟨rfl, rfl, rfl, rfl, trivial⟩, rfl, rfl, rfl, rfl⟩
 ·rw [if_neg k1]
  have k2 : n.kind = 2 := by omega
  obtain ⟨f1, f2, f3, f4⟩ := (zgA k2).1 hf
  have hw := zi1 n f2 f3
  refine hdD Tryz.func77 Tryz.ntmps77 (res := [.cell 5 42]) fun w0 K0 B => ?_
  repeat' first | refine zd ?_ | ((first | refine zf ?_ | refine zi ?_ | refine regA ?_ | fail); conv => whnf) | exact abA hb | ((refine zsn (hw) ?_); conv => whnf) | (refine zso rfl (fun hb => ?_) (fun hb => ?_)) | ((refine andA ?_); conv => whnf) | fail
  exact ⟨_, rgS spans t, ⟨rfl, rfl, rfl, rfl, trivial⟩, rfl, rfl, rfl, rfl⟩
def okR (x : RangeT) : Prop := (-8388608 ≤ x.lo ∧ x.lo ≤ 8388607) ∧ (-8388608 ≤ x.hi ∧ x.hi ≤ 8388607) ∧ 0 ≤ x.err ∧ x.err ≤ 1000
theorem zpz (spans : List SpanT) (t i : Int) (n : FNode) (a b : RangeT) (ht : 0 ≤ t) :
  ACall Tryz.prog 78 ([].map AV.x ++ [iv .i64 i, ndAV n, rgAV a, rgAV b] ++ [.b 103 0, .b 101 0].map .x) (rgS spans t) (fun r σ' => r = rgAV zaI ∧ σ' = rgS spans t) := by
 show ACall Tryz.prog 78 [iv .i64 i, ndAV n, rgAV a, rgAV b, .x (.b 103 0), .x (.b 101 0)] _ _
 refine hdD Tryz.func78 Tryz.ntmps78 (res := [.cell 10 42]) fun w0 K0 B => ?_
 repeat' first | refine zd ?_ | ((first | refine zf ?_ | refine zi ?_ | refine regA ?_ | fail); conv => whnf) | exact abA hb | (refine zso rfl (fun hb => ?_) (fun hb => ?_)) | fail
 exact ⟨_, rgS spans t, ⟨rfl, rfl, rfl, rfl, trivial⟩, rfl, rfl, rfl, rfl⟩
end Go.Proofs.YtmceekhgnfpamaaGreatDoor
namespace Go.Proofs.YtmceekhgnfpamaaGreatDoor
open Go Go.QL FoT
set_option maxHeartbeats 3200000
attribute [local irreducible] ACall FnC fine ten zav opV
def gthR (k : Int) (a b : RangeT) : List Int := [opV k a.lo b.lo, opV k a.lo b.hi, opV k a.hi b.lo, opV k a.hi b.hi]
abbrev rgC (x : RangeT) : List SV := [.d (.v (.int .i64 x.lo)), .d (.v (.int .i64 x.hi)), .d (.v (.int .i64 x.err))]
abbrev sgL (a b : RangeT) (n : FNode) (spans : List SpanT) (st : Nat) (l : List Int) : Sg := (11, .chain 3 1 st (l.map iPV)) :: (10, .box zrC) :: (9, .box (rgC b)) :: (8, .box (rgC a)) :: (7, .box (ndC n)) :: rgS spans (-1)
theorem zqP (k : Int) (hk : k = 3 ∨ k = 4 ∨ k = 5) : ∃ fid : FuncId, (∀ z, ziY z opsM (.int .i64 k) (opF fid) true) ∧ ∀ x y, (-8388608 ≤ x ∧ x ≤ 8388607) → (-8388608 ≤ y ∧ y ≤ 8388607) → FnC Tryz.prog fid [.a [], iv .i64 x, iv .i64 y] (iv .i64 (opV k x y)) := by
 rcases hk with rfl | rfl | rfl
 ·refine ⟨126, fun z => .inl ⟨rfl, 0, rfl⟩, fun x y hx hy => ?_⟩
  rw [show opV 3 x y = x + y by unfold opV; rw [if_pos rfl]]
  exact zpa x y (by omega)
 ·refine ⟨127, fun z => .inl ⟨rfl, 1, rfl⟩, fun x y hx hy => ?_⟩
  rw [show opV 4 x y = x - y by unfold opV; rw [if_neg (by omega), if_pos rfl]]
  exact zoQ x y (by omega)
 ·refine ⟨128, fun z => .inl ⟨rfl, 2, rfl⟩, fun x y hx hy => ?_⟩
  rw [show opV 5 x y = x * y / 8388608 by unfold opV; rw [if_neg (by omega), if_neg (by omega)]]
  have := zhv hx hy
  exact zo1 x y (by omega)
theorem zpA (spans : List SpanT) (i : Int) (n : FNode) (a b : RangeT) (hk : n.kind = 3 ∨ n.kind = 4 ∨ n.kind = 5) (ha : okR a) (hb' : okR b) :
  ACall Tryz.prog 78 ([].map AV.x ++ [iv .i64 i, ndAV n, rgAV a, rgAV b] ++ [.b 103 0, .b 101 0].map .x) (rgS spans (-1)) (fun r σ' => r = rgAV (zT n.kind a b) ∧ σ' = rgS spans (if zC (zT n.kind a b).lo = true ∨ zC (zT n.kind a b).hi = true then i else -1)) := by
 show ACall Tryz.prog 78 [iv .i64 i, ndAV n, rgAV a, rgAV b, .x (.b 103 0), .x (.b 101 0)] _ _
 obtain ⟨al, ah, ae0, ae1⟩ := ha
 obtain ⟨bl, bh, be0, be1⟩ := hb'
 obtain ⟨fid, hlk, hop⟩ := zqP n.kind hk
 refine hdD Tryz.func78 Tryz.ntmps78 (res := [.cell 10 42]) fun w0 K0 B => ?_
 repeat' first | refine zd ?_ | refine zc ?_ | ((first | refine zf ?_ | refine regA ?_ | fail); conv => whnf) | (refine zss rfl ?_) | ((refine andA ?_); conv => whnf) | (refine lnA fun hln => ?_; conv => whnf) | fail
 refine zaq (Imp.nil 11 3 1 (fr' := [(28, iv .i64 0), (27, iv .i64 2), (26, sl [a.lo, a.hi]), (11, .x (.o 11 0 0)), (7, .x (.b 7 0)), (8, .x (.b 8 0)), (9, .x (.b 9 0)), (10, .x (.b 10 0)), (12, .x (.f (.func 79) [] [])), (4, .x (.b 103 0)), (5, .x (.b 101 0)), (0, iv .i64 i)])
  (σ' := (10, .box zrC) :: (9, .box (rgC b)) :: (8, .box (rgC a)) :: (7, .box (ndC n)) :: rgS spans (-1)) rfl ?_ ?_ rfl rfl) ?_
 ·exact ⟨⟨_, rfl, .inl rfl⟩, ⟨_, rfl, .inl rfl⟩, ⟨_, rfl, .inl rfl⟩, ⟨_, rfl, .inr ⟨rfl, rfl⟩⟩, ⟨_, rfl, .inl rfl⟩, ⟨_, rfl, .inl rfl⟩, ⟨_, rfl, .inl rfl⟩, ⟨_, rfl, .inl rfl⟩, ⟨_, rfl, .inl rfl⟩, ⟨_, rfl, .inl rfl⟩, ⟨_, rfl, .inl rfl⟩, ⟨_, rfl, .inl rfl⟩, trivial⟩
 ·exact ⟨⟨_, rfl, .inl rfl⟩, ⟨_, rfl, .inl rfl⟩, ⟨_, rfl, .inl rfl⟩, ⟨_, rfl, .inl rfl⟩, ⟨_, rfl, .inl rfl⟩, ⟨_, rfl, .inl rfl⟩, ⟨_, rfl, .inl rfl⟩, ⟨_, rfl, .inl rfl⟩, trivial⟩
 refine zJ (fun q : Nat => [(28, iv .i64 q), (27, iv .i64 2), (26, sl [a.lo, a.hi]), (11, .x (.o 11 (2 * q) (2 * q))), (7, .x (.b 7 0)), (8, .x (.b 8 0)), (9, .x (.b 9 0)), (10, .x (.b 10 0)), (12, .x (.f (.func 79) [] [])), (4, .x (.b 103 0)), (5, .x (.b 101 0)), (0, iv .i64 i)])
  (fun q => sgL a b n spans (2 * q) ((gthR n.kind a b).take (2 * q))) (fun q => q ≤ 2) (fun q => 2 - q) 0 (Nat.zero_le _) impA ?_
 intro q hq
 have hq' : q = 0 ∨ q = 1 ∨ q = 2 := by omega
 rcases hq' with rfl | rfl | rfl
 ·repeat' first | refine zd ?_ | refine zc ?_ | ((first | refine zf ?_ | refine regA ?_ | refine ⟨[.v (.int .i64 a.lo)], ze ⟨by omega, rfl⟩, ?_⟩ | fail); conv => whnf) | (refine zst rfl ?_) | ((refine andA ?_); conv => whnf) | (refine lnA fun hln => ?_; conv => whnf) | fail
  refine zJ (fun j : Nat => [(40, iv .i64 j), (39, iv .i64 2), (38, sl [b.lo, b.hi]), (14, iv .i64 a.lo), (11, .x (.o 11 (0 + j) (0 + j))), (28, iv .i64 0), (27, iv .i64 2), (26, sl [a.lo, a.hi]), (7, .x (.b 7 0)), (8, .x (.b 8 0)), (9, .x (.b 9 0)), (10, .x (.b 10 0)), (12, .x (.f (.func 79) [] [])), (4, .x (.b 103 0)), (5, .x (.b 101 0)), (0, iv .i64 i)])
   (fun j => sgL a b n spans (0 + j) ((gthR n.kind a b).take (0 + j))) (fun j => j ≤ 2) (fun j => 2 - j) 0 (Nat.zero_le _) impA ?_
  intro j hj
  have hj' : j = 0 ∨ j = 1 ∨ j = 2 := by omega
  rcases hj' with rfl | rfl | rfl
  ·have hc := hop a.lo b.lo (by omega) (by omega)
   repeat' first | refine zd ?_ | refine zc ?_ | ((first | refine zf ?_ | refine regA ?_ | refine ⟨[.v (.int .i64 b.lo)], ze ⟨by omega, rfl⟩, ?_⟩ | refine ⟨_, true, hlk _, rfl, ?_⟩ | refine zsn (hc) ?_ | refine And.intro ⟨by show 0 ≤ 0; exact Nat.le_refl _, by show 0 + 1 ≤ _; unfold maxLen; omega, by show (0 + 1) * 8 ≤ _; omega⟩ ?_ | fail); conv => whnf) | (refine zst rfl ?_) | ((first | refine zsq ?_ | refine andA ?_ | fail); conv => whnf) | fail
   exact ⟨1, by omega, by omega, impA⟩
  ·have hc := hop a.lo b.hi (by omega) (by omega)
   repeat' first | refine zd ?_ | refine zc ?_ | ((first | refine zf ?_ | refine regA ?_ | refine ⟨[.v (.int .i64 b.hi)], ze ⟨by omega, rfl⟩, ?_⟩ | refine ⟨_, true, hlk _, rfl, ?_⟩ | refine zsn (hc) ?_ | refine And.intro ⟨by show 1 ≤ 1; exact Nat.le_refl _, by show 1 + 1 ≤ _; unfold maxLen; omega, by show (1 + 1) * 8 ≤ _; omega⟩ ?_ | fail); conv => whnf) | (refine zst rfl ?_) | ((first | refine zsq ?_ | refine andA ?_ | fail); conv => whnf) | fail
   exact ⟨2, by omega, by omega, impA⟩
  ·repeat' first | refine zd ?_ | ((first | refine zk ?_ | refine regA ?_ | fail); conv => whnf) | (refine zss rfl ?_) | ((refine zsq ?_); conv => whnf) | fail
   exact ⟨1, by omega, by omega, impA⟩
 ·repeat' first | refine zd ?_ | refine zc ?_ | ((first | refine zf ?_ | refine regA ?_ | refine ⟨[.v (.int .i64 a.hi)], ze ⟨by omega, rfl⟩, ?_⟩ | fail); conv => whnf) | (refine zst rfl ?_) | ((refine andA ?_); conv => whnf) | (refine lnA fun hln => ?_; conv => whnf) | fail
  refine zJ (fun j : Nat => [(40, iv .i64 j), (39, iv .i64 2), (38, sl [b.lo, b.hi]), (14, iv .i64 a.hi), (11, .x (.o 11 (2 + j) (2 + j))), (28, iv .i64 1), (27, iv .i64 2), (26, sl [a.lo, a.hi]), (7, .x (.b 7 0)), (8, .x (.b 8 0)), (9, .x (.b 9 0)), (10, .x (.b 10 0)), (12, .x (.f (.func 79) [] [])), (4, .x (.b 103 0)), (5, .x (.b 101 0)), (0, iv .i64 i)])
   (fun j => sgL a b n spans (2 + j) ((gthR n.kind a b).take (2 + j))) (fun j => j ≤ 2) (fun j => 2 - j) 0 (Nat.zero_le _) impA ?_
  intro j hj
  have hj' : j = 0 ∨ j = 1 ∨ j = 2 := by omega
  rcases hj' with rfl | rfl | rfl
  ·have hc := hop a.hi b.lo (by omega) (by omega)
   repeat' first | refine zd ?_ | refine zc ?_ | ((first | refine zf ?_ | refine regA ?_ | refine ⟨[.v (.int .i64 b.lo)], ze ⟨by omega, rfl⟩, ?_⟩ | refine ⟨_, true, hlk _, rfl, ?_⟩ | refine zsn (hc) ?_ | refine And.intro ⟨by show 2 ≤ 2; exact Nat.le_refl _, by show 2 + 1 ≤ _; unfold maxLen; omega, by show (2 + 1) * 8 ≤ _; omega⟩ ?_ | fail); conv => whnf) | (refine zst rfl ?_) | ((first | refine zsq ?_ | refine andA ?_ | fail); conv => whnf) | fail
   exact ⟨1, by omega, by omega, impA⟩
  ·have hc := hop a.hi b.hi (by omega) (by omega)
   repeat' first | refine zd ?_ | refine zc ?_ | ((first | refine zf ?_ | refine regA ?_ | refine ⟨[.v (.int .i64 b.hi)], ze ⟨by omega, rfl⟩, ?_⟩ | refine ⟨_, true, hlk _, rfl, ?_⟩ | refine zsn (hc) ?_ | refine And.intro ⟨by show 3 ≤ 3; exact Nat.le_refl _, by show 3 + 1 ≤ _; unfold maxLen; omega, by show (3 + 1) * 8 ≤ _; omega⟩ ?_ | fail); conv => whnf) | (refine zst rfl ?_) | ((first | refine zsq ?_ | refine andA ?_ | fail); conv => whnf) | fail
   exact ⟨2, by omega, by omega, impA⟩
  ·repeat' first | refine zd ?_ | ((first | refine zk ?_ | refine regA ?_ | fail); conv => whnf) | (refine zss rfl ?_) | ((refine zsq ?_); conv => whnf) | fail
   exact ⟨2, by omega, by omega, impA⟩
 have mn := zq0 (opV n.kind a.lo b.lo) (opV n.kind a.lo b.hi) (opV n.kind a.hi b.lo) (opV n.kind a.hi b.hi)
 have mx := zq1 (opV n.kind a.lo b.lo) (opV n.kind a.lo b.hi) (opV n.kind a.hi b.lo) (opV n.kind a.hi b.hi)
 have hle : 2 * 2 ≤ (((gthR n.kind a b).take (2 * 2)).map iPV).length := Nat.le_refl _
 have hfz : AV.x (.d (.s 1 (([opV n.kind a.lo b.lo, opV n.kind a.lo b.hi, opV n.kind a.hi b.lo, opV n.kind a.hi b.hi] : List Int).map fun v => [.v (.int .i64 v)]))) = .x (.d (.s 1 ((((gthR n.kind a b).take (2 * 2)).map iPV).take (2 * 2)))) := rfl
 have jl : (zT n.kind a b).lo = min4 (opV n.kind a.lo b.lo) (opV n.kind a.lo b.hi) (opV n.kind a.hi b.lo) (opV n.kind a.hi b.hi) := rfl
 have jh : (zT n.kind a b).hi = max4 (opV n.kind a.lo b.lo) (opV n.kind a.lo b.hi) (opV n.kind a.hi b.lo) (opV n.kind a.hi b.hi) := rfl
 have je : (zT n.kind a b).err = if n.kind = 5 then (2 * farR a * b.err + 2 * farR b * a.err + a.err * b.err + 16777215) / 16777216 + 2 else a.err + b.err := rfl
 generalize min4 (opV n.kind a.lo b.lo) (opV n.kind a.lo b.hi) (opV n.kind a.hi b.lo) (opV n.kind a.hi b.hi) = mi at *
 generalize max4 (opV n.kind a.lo b.lo) (opV n.kind a.lo b.hi) (opV n.kind a.hi b.lo) (opV n.kind a.hi b.hi) = ma at *
 generalize zT n.kind a b = R at *
 obtain ⟨Rl, Rh, Re⟩ := R
 dsimp only at jl jh je
 subst jl jh
 have g1 := zfB Rl
 have g2 := zfB Rh
 dsimp only
 have hgr : (if zC Rl = true ∨ zC Rh = true then i else (-1 : Int)) = bif (bif zC Rl then true else zC Rh) then i else -1 := by
  cases zC Rl <;> cases zC Rh <;> rfl
 rw [hgr]
 generalize zC Rl = b1 at g1
 generalize zC Rh = b2 at g2
 clear hgr hlk hop
 by_cases k5 : n.kind = 5
 ·rw [if_pos k5] at je
  have fA := zo5 a.lo a.hi a.err al ah
  have fB := zo5 b.lo b.hi b.err bl bh
  have A0 : 0 ≤ farR a ∧ farR a ≤ 8388608 := by unfold farR; omega
  have B0 : 0 ≤ farR b ∧ farR b ≤ 8388608 := by unfold farR; omega
  have e1 : farR ⟨a.lo, a.hi, a.err⟩ = farR a := rfl
  have e2 : farR ⟨b.lo, b.hi, b.err⟩ = farR b := rfl
  rw [e1] at fA
  rw [e2] at fB
  clear e1 e2
  generalize farR a = A at *
  generalize farR b = B' at *
  have p0 : 0 ≤ 2 * A * b.err ∧ 2 * A * b.err ≤ 16777216000 := ⟨Int.mul_nonneg (by omega) be0, by have := Int.mul_le_mul (show 2 * A ≤ 16777216 by omega) be1 be0 (by omega); omega⟩
  have q0 : 0 ≤ 2 * B' * a.err ∧ 2 * B' * a.err ≤ 16777216000 := ⟨Int.mul_nonneg (by omega) ae0, by have := Int.mul_le_mul (show 2 * B' ≤ 16777216 by omega) ae1 ae0 (by omega); omega⟩
  have r0 : 0 ≤ a.err * b.err ∧ a.err * b.err ≤ 1000000 := ⟨Int.mul_nonneg ae0 be0, by have := Int.mul_le_mul ae1 be1 be0 (by omega); omega⟩
  have wp : IntKind.i64.wrap (2 * A * b.err) = 2 * A * b.err := zg (by omega)
  have wq : IntKind.i64.wrap (2 * B' * a.err) = 2 * B' * a.err := zg (by omega)
  have wr : IntKind.i64.wrap (a.err * b.err) = a.err * b.err := zg (by omega)
  have hs : (2 * A * b.err + 2 * B' * a.err + a.err * b.err + 16777216 - 1).fdiv (2 ^ min (Int.toNat 24) IntKind.i64.bits) = (2 * A * b.err + 2 * B' * a.err + a.err * b.err + 16777215) / 16777216 := by
   rw [show 2 * A * b.err + 2 * B' * a.err + a.err * b.err + 16777216 - 1 = 2 * A * b.err + 2 * B' * a.err + a.err * b.err + 16777215 by omega]
   exact Int.fdiv_eq_ediv_of_nonneg _ (by decide)
  subst je
  cases hbb : (bif b1 then true else b2) with
  | true =>
   repeat' first | ((refine zaq (Imp.freeze 11 (fr' := [(11, sl [opV n.kind a.lo b.lo, opV n.kind a.lo b.hi, opV n.kind a.hi b.lo, opV n.kind a.hi b.hi]), (7, .x (.b 7 0)), (8, .x (.b 8 0)), (9, .x (.b 9 0)), (10, .x (.b 10 0)), (12, .x (.f (.func 79) [] [])), (4, .x (.b 103 0)), (5, .x (.b 101 0)), (0, iv .i64 i)]) (σ' := (10, .box zrC) :: (9, .box (rgC b)) :: (8, .box (rgC a)) :: (7, .box (ndC n)) :: rgS spans (-1)) rfl ⟨⟨_, rfl, .inr ⟨_, rfl, hle, hfz⟩⟩, ⟨_, rfl, .inl rfl⟩, ⟨_, rfl, .inl rfl⟩, ⟨_, rfl, .inl rfl⟩, ⟨_, rfl, .inl rfl⟩, ⟨_, rfl, .inl rfl⟩, ⟨_, rfl, .inl rfl⟩, ⟨_, rfl, .inl rfl⟩, ⟨_, rfl, .inl rfl⟩, trivial⟩ ⟨rfl, rfl, rfl, rfl, rfl, rfl, rfl, rfl, trivial⟩ rfl rfl) (zb (id := 14) hTt ?_)); conv => whnf) | refine zd ?_ | ((first | refine zf ?_ | refine zk ?_ | refine zi ?_ | refine regA ?_ | refine drA (id := 17) 22 false [0, 0, 2, 7, 15, 0, 32, 127, 0, 0, 512, 1807, 3855, 0, 8192, 32527, 65535, 0, 131072, 0, 524288, 1966080, 4194303, 8388607, 16777215, 33554431, 67108863, 134217727, 268435455] ?_ | fail); conv => whnf) | exact abA hb | ((first | refine zsn (mn) ?_ | refine zsn (mx) ?_ | refine zsn (g1) ?_ | refine zsp (g2) ?_ | fail); conv => whnf) | (refine za rfl (fun _ => ?_) (zaf hbb)) | ((first | refine zsp (fA) ?_ | refine zsp (fB) ?_ | refine ⟨_, wp, ?_⟩ | refine ⟨_, wq, ?_⟩ | refine ⟨_, wr, ?_⟩ | refine ⟨_, hs, ?_⟩ | fail); conv => whnf) | (refine zss rfl ?_) | (refine zso rfl (fun hb => ?_) (fun hb => ?_)) | ((first | refine zsq ?_ | refine andA ?_ | fail); conv => whnf) | fail
   exact ⟨_, rgS spans i, ⟨rfl, rfl, rfl, rfl, trivial⟩, rfl, rfl, rfl, rfl⟩
  | false =>
   repeat' first | ((refine zaq (Imp.freeze 11 (fr' := [(11, sl [opV n.kind a.lo b.lo, opV n.kind a.lo b.hi, opV n.kind a.hi b.lo, opV n.kind a.hi b.hi]), (7, .x (.b 7 0)), (8, .x (.b 8 0)), (9, .x (.b 9 0)), (10, .x (.b 10 0)), (12, .x (.f (.func 79) [] [])), (4, .x (.b 103 0)), (5, .x (.b 101 0)), (0, iv .i64 i)]) (σ' := (10, .box zrC) :: (9, .box (rgC b)) :: (8, .box (rgC a)) :: (7, .box (ndC n)) :: rgS spans (-1)) rfl ⟨⟨_, rfl, .inr ⟨_, rfl, hle, hfz⟩⟩, ⟨_, rfl, .inl rfl⟩, ⟨_, rfl, .inl rfl⟩, ⟨_, rfl, .inl rfl⟩, ⟨_, rfl, .inl rfl⟩, ⟨_, rfl, .inl rfl⟩, ⟨_, rfl, .inl rfl⟩, ⟨_, rfl, .inl rfl⟩, ⟨_, rfl, .inl rfl⟩, trivial⟩ ⟨rfl, rfl, rfl, rfl, rfl, rfl, rfl, rfl, trivial⟩ rfl rfl) (zb (id := 14) hTt ?_)); conv => whnf) | refine zd ?_ | ((first | refine zf ?_ | refine zk ?_ | refine zi ?_ | refine regA ?_ | refine drA (id := 17) 22 false [0, 0, 2, 7, 15, 0, 32, 127, 0, 0, 512, 1807, 3855, 0, 8192, 32527, 65535, 0, 131072, 0, 524288, 1966080, 4194303, 8388607, 16777215, 33554431, 67108863, 134217727, 268435455] ?_ | fail); conv => whnf) | exact abA hb | ((first | refine zsn (mn) ?_ | refine zsn (mx) ?_ | refine zsn (g1) ?_ | refine zsp (g2) ?_ | fail); conv => whnf) | (refine za rfl (zM hbb) (fun _ => ?_)) | ((first | refine zsp (fA) ?_ | refine zsp (fB) ?_ | refine ⟨_, wp, ?_⟩ | refine ⟨_, wq, ?_⟩ | refine ⟨_, wr, ?_⟩ | refine ⟨_, hs, ?_⟩ | fail); conv => whnf) | (refine zss rfl ?_) | (refine zso rfl (fun hb => ?_) (fun hb => ?_)) | ((first | refine zsq ?_ | refine andA ?_ | fail); conv => whnf) | fail
   exact ⟨_, rgS spans (-1), ⟨rfl, rfl, rfl, rfl, trivial⟩, rfl, rfl, rfl, rfl⟩
 ·rw [if_neg k5] at je
  subst je
  cases hbb : (bif b1 then true else b2) with
  | true =>
   repeat' first | ((refine zaq (Imp.freeze 11 (fr' := [(11, sl [opV n.kind a.lo b.lo, opV n.kind a.lo b.hi, opV n.kind a.hi b.lo, opV n.kind a.hi b.hi]), (7, .x (.b 7 0)), (8, .x (.b 8 0)), (9, .x (.b 9 0)), (10, .x (.b 10 0)), (12, .x (.f (.func 79) [] [])), (4, .x (.b 103 0)), (5, .x (.b 101 0)), (0, iv .i64 i)]) (σ' := (10, .box zrC) :: (9, .box (rgC b)) :: (8, .box (rgC a)) :: (7, .box (ndC n)) :: rgS spans (-1)) rfl ⟨⟨_, rfl, .inr ⟨_, rfl, hle, hfz⟩⟩, ⟨_, rfl, .inl rfl⟩, ⟨_, rfl, .inl rfl⟩, ⟨_, rfl, .inl rfl⟩, ⟨_, rfl, .inl rfl⟩, ⟨_, rfl, .inl rfl⟩, ⟨_, rfl, .inl rfl⟩, ⟨_, rfl, .inl rfl⟩, ⟨_, rfl, .inl rfl⟩, trivial⟩ ⟨rfl, rfl, rfl, rfl, rfl, rfl, rfl, rfl, trivial⟩ rfl rfl) (zb (id := 14) hTt ?_)); conv => whnf) | refine zd ?_ | ((first | refine zf ?_ | refine zk ?_ | refine zi ?_ | refine regA ?_ | refine drA (id := 17) 22 false [0, 0, 2, 7, 15, 0, 32, 127, 0, 0, 512, 1807, 3855, 0, 8192, 32527, 65535, 0, 131072, 0, 524288, 1966080, 4194303, 8388607, 16777215, 33554431, 67108863, 134217727, 268435455] ?_ | fail); conv => whnf) | exact abA hb | ((first | refine zsn (mn) ?_ | refine zsn (mx) ?_ | refine zsn (g1) ?_ | refine zsp (g2) ?_ | fail); conv => whnf) | (refine za rfl (fun _ => ?_) (zaf hbb)) | (refine zss rfl ?_) | (refine zso rfl (fun hb => ?_) (fun hb => ?_)) | ((first | refine zsq ?_ | refine andA ?_ | fail); conv => whnf) | fail
   exact ⟨_, rgS spans i, ⟨rfl, rfl, rfl, rfl, trivial⟩, rfl, rfl, rfl, rfl⟩
  | false =>
   repeat' first | ((refine zaq (Imp.freeze 11 (fr' := [(11, sl [opV n.kind a.lo b.lo, opV n.kind a.lo b.hi, opV n.kind a.hi b.lo, opV n.kind a.hi b.hi]), (7, .x (.b 7 0)), (8, .x (.b 8 0)), (9, .x (.b 9 0)), (10, .x (.b 10 0)), (12, .x (.f (.func 79) [] [])), (4, .x (.b 103 0)), (5, .x (.b 101 0)), (0, iv .i64 i)]) (σ' := (10, .box zrC) :: (9, .box (rgC b)) :: (8, .box (rgC a)) :: (7, .box (ndC n)) :: rgS spans (-1)) rfl ⟨⟨_, rfl, .inr ⟨_, rfl, hle, hfz⟩⟩, ⟨_, rfl, .inl rfl⟩, ⟨_, rfl, .inl rfl⟩, ⟨_, rfl, .inl rfl⟩, ⟨_, rfl, .inl rfl⟩, ⟨_, rfl, .inl rfl⟩, ⟨_, rfl, .inl rfl⟩, ⟨_, rfl, .inl rfl⟩, ⟨_, rfl, .inl rfl⟩, trivial⟩ ⟨rfl, rfl, rfl, rfl, rfl, rfl, rfl, rfl, trivial⟩ rfl rfl) (zb (id := 14) hTt ?_)); conv => whnf) | refine zd ?_ | ((first | refine zf ?_ | refine zk ?_ | refine zi ?_ | refine regA ?_ | refine drA (id := 17) 22 false [0, 0, 2, 7, 15, 0, 32, 127, 0, 0, 512, 1807, 3855, 0, 8192, 32527, 65535, 0, 131072, 0, 524288, 1966080, 4194303, 8388607, 16777215, 33554431, 67108863, 134217727, 268435455] ?_ | fail); conv => whnf) | exact abA hb | ((first | refine zsn (mn) ?_ | refine zsn (mx) ?_ | refine zsn (g1) ?_ | refine zsp (g2) ?_ | fail); conv => whnf) | (refine za rfl (zM hbb) (fun _ => ?_)) | (refine zss rfl ?_) | (refine zso rfl (fun hb => ?_) (fun hb => ?_)) | ((first | refine zsq ?_ | refine andA ?_ | fail); conv => whnf) | fail
   exact ⟨_, rgS spans (-1), ⟨rfl, rfl, rfl, rfl, trivial⟩, rfl, rfl, rfl, rfl⟩
end Go.Proofs.YtmceekhgnfpamaaGreatDoor
namespace Go.Proofs.YtmceekhgnfpamaaGreatDoor
open Go Go.QL FoT
set_option maxHeartbeats 1600000
attribute [local irreducible] ACall FnC
theorem sgPN (n : Int) : (0 ≤ n ∧ sg n = 1 ∧ n = n.natAbs) ∨ (n < 0 ∧ sg n = -1 ∧ n = -n.natAbs) := by unfold sg; split <;> omega
theorem zlo (n : Int) (h : n.natAbs ≤ 4611686018427387904) : FnC Tryz.prog 139 [iv .i64 n] (iv .i64 (n.natAbs : Int)) := by
 have hw : IntKind.i64.wrap (0 - n) = -n := by rw [Int.zero_sub]; exact zg (by omega)
 refine hdC Tryz.func139 Tryz.ntmps139 (res := [.tmp 2]) fun w0 K0 => ?_
 repeat' first | refine zd ?_ | ((first | refine zi ?_ | refine regA ?_ | refine ⟨_, hw, ?_⟩ | fail); conv => whnf) | fail
 exact congrArg (fun x : Int => some (iv .i64 x)) (show (if -n > n then -n else n) = _ by split <;> omega)
theorem zni (n : Int) (m : Nat) : (sg n * (m : Int)).tdiv 2 = sg n * ((m / 2 : Nat) : Int) := by
 unfold sg
 split
 ·rw [show (-1 * (m : Int)) = -(m : Int) by omega, Int.neg_tdiv, Int.tdiv_eq_ediv_of_nonneg (by omega)]
  omega
 ·rw [Int.one_mul, Int.tdiv_eq_ediv_of_nonneg (by omega)]
  omega
theorem zq6 {k m : Nat} {e : Int} (h : 8388608 ≤ m) (hk : m < 8388608 * 2 ^ k) : ∃ j, k = j + 1 ∧ hlv k m e = hlv j (m / 2) (e + 1) ∧ m / 2 < 8388608 * 2 ^ j := by
 cases k with
 | zero => simp at hk; omega
 | succ j =>
  refine ⟨j, rfl, by rw [hlv, if_pos h], ?_⟩
  rw [Nat.pow_succ] at hk
  omega
theorem zrl {k m : Nat} {e : Int} (h0 : m ≠ 0) (h : m < 4194304) (hk : 4194304 ≤ m * 2 ^ k) : ∃ j, k = j + 1 ∧ dbl k m e = dbl j (m * 2) (e - 1) ∧ 4194304 ≤ m * 2 * 2 ^ j := by
 cases k with
 | zero => simp at hk; omega
 | succ j =>
  refine ⟨j, rfl, by rw [dbl, if_pos ⟨h0, h⟩], ?_⟩
  rw [Nat.mul_assoc, Nat.mul_comm 2, ← Nat.pow_succ]
  exact hk
theorem zhw (n exp : Int) (hn : n.natAbs < 4611686018427387904) (he : -1000 ≤ exp ∧ exp ≤ 1000) : FnC Tryz.prog 89 [iv .i64 n, iv .i64 exp] (.t [flAV (zaj n exp).1, iv .i64 (zaj n exp).2]) := by
 have hM : zaj n exp = fin (sg n) (dbl 23 (hlv 64 n.natAbs (exp + 23)).1 (hlv 64 n.natAbs (exp + 23)).2).1 (dbl 23 (hlv 64 n.natAbs (exp + 23)).1 (hlv 64 n.natAbs (exp + 23)).2).2 := rfl
 generalize zaj n exp = R at hM ⊢
 refine hdC Tryz.func89 Tryz.ntmps89 (res := [.cell 4 56, .tmp 5]) fun w0 K0 => ?_
 repeat' first | refine zd ?_ | refine zc ?_ | ((first | refine regA ?_ | refine zsq ?_ | fail); conv => whnf) | fail
 refine zJ (fun x : Nat × Nat => [(0, iv .i64 (sg n * (x.2 : Int))), (1, iv .i64 (exp + 23 + (64 - x.1))), (4, .x (.b 4 0))]) (fun _ => [(4, .box [.d (.v (.int .i64 0)), .d (.v (.int .i64 0))])])
  (fun x => x.1 ≤ 64 ∧ x.2 < 4611686018427387904 ∧ x.2 < 8388608 * 2 ^ x.1 ∧ hlv 64 n.natAbs (exp + 23) = hlv x.1 x.2 (exp + 23 + (64 - x.1))) (fun x => x.1) (64, n.natAbs) ⟨Nat.le_refl _, hn, by show n.natAbs < 8388608 * 2 ^ 64; omega, by simp⟩ (impX (by repeat' (first | exact trivial | refine And.intro ?_ ?_ | exact ivE (zfZ n).symm | exact zsw))) ?_
 rintro ⟨k, m⟩ ⟨hk, hm, hkm, hh⟩
 dsimp only at hk hm hkm hh ⊢
 have sz := zlo (sg n * (m : Int)) (by rw [zbP]; omega)
 rw [zbP] at sz
 by_cases hb8 : 8388608 ≤ m
 ·obtain ⟨j, rfl, hj, hj2⟩ := zq6 (e := exp + 23 + (64 - k)) hb8 hkm
  have ht := zni n m
  have hw2 : IntKind.i64.wrap (sg n * ((m / 2 : Nat) : Int)) = sg n * ((m / 2 : Nat) : Int) := by
   refine zg ?_
   rcases sgPN n with ⟨_, h, _⟩ | ⟨_, h, _⟩ <;> rw [h] <;> omega
  rw [← ht] at hw2
  repeat' first | refine zd ?_ | refine zc ?_ | ((first | refine zf ?_ | refine zk ?_ | refine regA ?_ | fail); conv => whnf) | exact abA hb | ((first | refine zsn (sz) ?_ | refine ⟨_, hw2, ?_⟩ | fail); conv => whnf) | (refine zso rfl (fun hb => ?_) (fun hb => ?_)) | ((first | refine zsq ?_ | refine andA ?_ | fail); conv => whnf) | fail
  exact ⟨(j, m / 2), ⟨by show j ≤ 64; omega, by show m / 2 < _; omega, hj2, by show _ = hlv j (m / 2) (exp + 23 + (64 - (j : Int))); rw [hh, hj]; congr 1; omega⟩, by show j < j + 1; omega, (impX (by repeat' (first | exact trivial | refine And.intro ?_ ?_ | exact ivE ht | exact zsw)))⟩
 ·have hh2 : hlv 64 n.natAbs (exp + 23) = (m, exp + 23 + (64 - k)) := by rw [hh, zes (by omega)]
  rw [hh2] at hM
  dsimp only at hM
  repeat' first | refine zd ?_ | refine zc ?_ | ((first | refine zf ?_ | refine zk ?_ | refine regA ?_ | fail); conv => whnf) | exact abA hb | ((refine zsn (sz) ?_); conv => whnf) | (refine zso rfl (fun hb => ?_) (fun hb => ?_)) | fail
  have hm22 : m = 0 ∨ 4194304 ≤ m * 2 ^ 23 := by omega
  have hm23 : m < 8388608 := by omega
  have he1 : -2000 ≤ exp + 23 + (64 - (k : Int)) ∧ exp + 23 + (64 - (k : Int)) ≤ 2000 := by omega
  clear hh hkm sz hh2 hb hb8
  generalize exp + 23 + (64 - (k : Int)) = e1 at *
  refine zJ (fun x : Nat × Nat => [(0, iv .i64 (sg n * (x.2 : Int))), (1, iv .i64 (e1 - (23 - x.1))), (4, .x (.b 4 0))]) (fun _ => [(4, .box [.d (.v (.int .i64 0)), .d (.v (.int .i64 0))])])
   (fun x => x.1 ≤ 23 ∧ x.2 < 8388608 ∧ (x.2 = 0 ∨ 4194304 ≤ x.2 * 2 ^ x.1) ∧ dbl 23 m e1 = dbl x.1 x.2 (e1 - (23 - x.1))) (fun x => x.1) (23, m) ⟨Nat.le_refl _, hm23, hm22, by simp⟩ impA ?_
  rintro ⟨k2, m2⟩ ⟨hk2, hm2, hkm2, hh2⟩
  dsimp only at hk2 hm2 hkm2 hh2 ⊢
  have sz := zlo (sg n * (m2 : Int)) (by rw [zbP]; omega)
  rw [zbP] at sz
  have hz : (sg n * (m2 : Int) = 0) ↔ m2 = 0 := by rcases sgPN n with ⟨_, h, _⟩ | ⟨_, h, _⟩ <;> rw [h] <;> omega
  by_cases hb4 : m2 ≠ 0 ∧ m2 < 4194304
  ·obtain ⟨j, rfl, hj, hj2⟩ := zrl (e := e1 - (23 - k2)) hb4.1 hb4.2 (hkm2.resolve_left hb4.1)
   have hc : (bif !(sg n * (m2 : Int) == 0) then decide ((m2 : Int) < 4194304) else false) = true := by
    rw [beq_eq_false_iff_ne.2 (fun h => hb4.1 (hz.1 h)), decide_eq_true (by omega)]; rfl
   have ht : sg n * (m2 : Int) * 2 = sg n * ((m2 * 2 : Nat) : Int) := by push_cast; rw [Int.mul_assoc]
   have hw2 : IntKind.i64.wrap (sg n * (m2 : Int) * 2) = sg n * (m2 : Int) * 2 := by
    refine zg ?_
    rcases sgPN n with ⟨_, h, _⟩ | ⟨_, h, _⟩ <;> rw [h] <;> omega
   repeat' first | refine zd ?_ | refine zc ?_ | ((first | refine zf ?_ | refine regA ?_ | refine zsp (sz) ?_ | refine ⟨_, hw2, ?_⟩ | fail); conv => whnf) | (refine za rfl (fun _ => ?_) (zaf hc)) | ((first | refine pkA ?_ | refine zsq ?_ | fail); conv => whnf) | fail
   exact ⟨(j, m2 * 2), ⟨by show j ≤ 23; omega, by show m2 * 2 < _; omega, .inr hj2, by show _ = dbl j (m2 * 2) (e1 - (23 - (j : Int))); rw [hh2, hj]; congr 1; omega⟩, by show j < j + 1; omega, (impX (by repeat' (first | exact trivial | refine And.intro ?_ ?_ | exact ivE ht | exact zsw)))⟩
  ·have hh3 : dbl 23 m e1 = (m2, e1 - (23 - k2)) := by rw [hh2, zeA (by omega)]
   rw [hh3] at hM
   dsimp only at hM
   have hc : (bif !(sg n * (m2 : Int) == 0) then decide ((m2 : Int) < 4194304) else false) = false := by
    by_cases h0 : m2 = 0
    ·rw [beq_iff_eq.2 (hz.2 h0)]; rfl
    ·rw [decide_eq_false (by omega)]; cases (!(sg n * (m2 : Int) == 0)) <;> rfl
   have he2 : -3000 ≤ e1 - (23 - (k2 : Int)) ∧ e1 - (23 - (k2 : Int)) ≤ 3000 := by omega
   clear hh2 hh3 hkm2
   unfold fin at hM
   generalize e1 - (23 - (k2 : Int)) = e2 at *
   by_cases hf : m2 = 0 ∨ e2 < -64
   ·rw [if_pos hf] at hM
    have hc2 : (bif sg n * (m2 : Int) == 0 then true else decide (e2 < -64)) = true := by
     rcases hf with h | h
     ·rw [beq_iff_eq.2 (hz.2 h)]; rfl
     ·rw [decide_eq_true h]; cases (sg n * (m2 : Int) == 0) <;> rfl
    rw [hM]
    repeat' first | refine zd ?_ | refine zc ?_ | ((first | refine zk ?_ | refine zi ?_ | refine regA ?_ | refine zsp (sz) ?_ | fail); conv => whnf) | (refine za rfl (zM hc) (fun _ => ?_)) | ((refine pkA ?_); conv => whnf) | (refine za rfl (fun _ => ?_) (zaf hc2)) | fail
    rfl
   ·rw [if_neg hf] at hM
    have hc2 : (bif sg n * (m2 : Int) == 0 then true else decide (e2 < -64)) = false := by
     rw [beq_eq_false_iff_ne.2 (fun h => hf (.inl (hz.1 h))), decide_eq_false (by omega)]; rfl
    by_cases h63 : 63 < e2
    ·rw [if_pos h63] at hM
     rw [hM]
     repeat' first | refine zd ?_ | refine zc ?_ | ((first | refine zf ?_ | refine zk ?_ | refine zi ?_ | refine regA ?_ | fail); conv => whnf) | exact abA hb | ((refine zsp (sz) ?_); conv => whnf) | (refine za rfl (zM hc) (fun _ => ?_)) | ((refine pkA ?_); conv => whnf) | (refine za rfl (zM hc2) (fun _ => ?_)) | (refine zso rfl (fun hb => ?_) (fun hb => ?_)) | fail
     rfl
    ·rw [if_neg h63] at hM
     rw [hM]
     repeat' first | refine zd ?_ | refine zc ?_ | ((first | refine zf ?_ | refine zk ?_ | refine zi ?_ | refine regA ?_ | fail); conv => whnf) | exact abA hb | ((refine zsp (sz) ?_); conv => whnf) | (refine za rfl (zM hc) (fun _ => ?_)) | ((refine pkA ?_); conv => whnf) | (refine za rfl (zM hc2) (fun _ => ?_)) | (refine zso rfl (fun hb => ?_) (fun hb => ?_)) | fail
     rfl
theorem zei (n exp : Int) : FnC Tryz.prog 30 [iv .i64 n, iv .i64 exp]
  (if (n.natAbs ≤ 70368744177664 ∧ -200 ≤ exp ∧ exp ≤ 200) then .t [flAV (zaj n exp).1, iv .i64 (zaj n exp).2] else .t [flAV zeroFl, iv .i64 7]) := by
 have o1 := zaL n (-70368744177664) 70368744177664
 have o2 := zaL exp (-200) 200
 by_cases h : n.natAbs ≤ 70368744177664 ∧ -200 ≤ exp ∧ exp ≤ 200
 ·rw [if_pos h]
  rw [zQ.2 (by omega)] at o1
  rw [zQ.2 (by omega)] at o2
  have md := zhw n exp (by omega) (by omega)
  generalize zaj n exp = R at md
  refine hdC Tryz.func30 Tryz.ntmps30 (res := [.cell 4 56, .tmp 5]) fun w0 K0 => ?_
  repeat' first | refine zd ?_ | ((first | refine zf ?_ | refine zi ?_ | refine regA ?_ | refine zsn (o1) ?_ | refine zsp (o2) ?_ | refine zsn (md) ?_ | fail); conv => whnf) | (refine zss rfl ?_) | ((refine andA ?_); conv => whnf) | fail
  rfl
 ·rw [if_neg h]
  have hc : (bif outB n (-70368744177664) 70368744177664 then true else outB exp (-200) 200) = true := by
   cases h1 : outB n (-70368744177664) 70368744177664 with
   | true => rfl
   | false =>
    have := zQ.1 h1
    exact outB_true.2 (by omega)
  generalize outB n (-70368744177664) 70368744177664 = b1 at *
  generalize outB exp (-200) 200 = b2 at *
  refine hdC Tryz.func30 Tryz.ntmps30 (res := [.cell 4 56, .tmp 5]) fun w0 K0 => ?_
  repeat' first | refine zd ?_ | ((first | refine zi ?_ | refine regA ?_ | refine zsn (o1) ?_ | refine zsp (o2) ?_ | fail); conv => whnf) | (refine za rfl (fun _ => ?_) (zaf hc)) | ((refine andA ?_); conv => whnf) | fail
  rfl
end Go.Proofs.YtmceekhgnfpamaaGreatDoor
namespace Go.Proofs.YtmceekhgnfpamaaGreatDoor
open Go Go.QL FoT
set_option maxHeartbeats 3200000
attribute [local irreducible] ACall FnC fine ten zav zD opV
def errS (l : List RangeT) : Int := (l.map fun x => x.err + 4).sum
theorem zbn (a b : List RangeT) : errS (a ++ b) = errS a + errS b := by unfold errS; rw [List.map_append, List.sum_append]
theorem zbL (x : RangeT) : errS [x] = x.err + 4 := by simp [errS]
theorem zdV : ∀ {l : List RangeT}, (∀ x ∈ l, 0 ≤ x.err) → 0 ≤ errS l
 | [], _ => Int.le_refl _
 | x :: r, h => by
  have h1 := h x (by simp)
  have h2 := zdV (l := r) fun y hy => h y (by simp [hy])
  have : errS (x :: r) = x.err + 4 + errS r := by simp [errS]
  omega
def lhR (x : RangeT) : Prop := (-8388608 ≤ x.lo ∧ x.lo ≤ 8388607) ∧ (-8388608 ≤ x.hi ∧ x.hi ≤ 8388607) ∧ 0 ≤ x.err
theorem zkc {spans : List SpanT} (hs : ∀ s ∈ spans, zC s.lo = false ∧ zC s.hi = false ∧ s.lo ≤ s.hi) {n : FNode} (hk : n.kind = 1 ∨ n.kind = 2) (hf : fine spans.length n) : lhR (zbB spans n) ∧ (zbB spans n).err ≤ 1 := by
 unfold zbB lhR
 by_cases k1 : n.kind = 1
 ·rw [if_pos k1]
  unfold fine at hf
  rw [if_pos k1] at hf
  have hlt : n.var.toNat < spans.length := by omega
  rw [List.getD_eq_getElem?_getD, List.getElem?_eq_getElem hlt]
  obtain ⟨a, b, c⟩ := hs _ (List.getElem_mem hlt)
  unfold zC at a b
  simp only [Bool.or_eq_false_iff, decide_eq_false_iff_not] at a b
  exact ⟨⟨by dsimp only [Option.getD_some]; omega, by dsimp only [Option.getD_some]; omega, Int.le_refl _⟩, by dsimp only; omega⟩
 ·rw [if_neg k1]
  obtain ⟨a, b, _, _⟩ := zha (by omega) hf
  have h0 := zdS n
  have h1 : zdz n ≤ 1 := by unfold zdz; split <;> omega
  exact ⟨⟨by dsimp only; omega, by dsimp only; omega, h0⟩, h1⟩
theorem zkj {k : Int} {a b : RangeT} (ha : okR a) (hb : okR b) (hg : ¬ (zC (zT k a b).lo = true ∨ zC (zT k a b).hi = true)) : lhR (zT k a b) ∧ (zT k a b).err + 4 ≤ (a.err + 4) + (b.err + 4) := by
 obtain ⟨al, ah, ae0, ae1⟩ := ha
 obtain ⟨bl, bh, be0, be1⟩ := hb
 have je : (zT k a b).err = if k = 5 then (2 * farR a * b.err + 2 * farR b * a.err + a.err * b.err + 16777215) / 16777216 + 2 else a.err + b.err := rfl
 have he : 0 ≤ (zT k a b).err ∧ (zT k a b).err + 4 ≤ (a.err + 4) + (b.err + 4) := by
  rw [je]
  split
  ·have A0 : 0 ≤ farR a ∧ farR a ≤ 8388608 := by unfold farR; omega
   have B0 : 0 ≤ farR b ∧ farR b ≤ 8388608 := by unfold farR; omega
   have p0 : 0 ≤ 2 * farR a * b.err ∧ 2 * farR a * b.err ≤ 16777216 * b.err := ⟨Int.mul_nonneg (by omega) be0, Int.mul_le_mul_of_nonneg_right (by omega) be0⟩
   have q0 : 0 ≤ 2 * farR b * a.err ∧ 2 * farR b * a.err ≤ 16777216 * a.err := ⟨Int.mul_nonneg (by omega) ae0, Int.mul_le_mul_of_nonneg_right (by omega) ae0⟩
   have r0 : 0 ≤ a.err * b.err ∧ a.err * b.err ≤ 1000000 := ⟨Int.mul_nonneg ae0 be0, by have := Int.mul_le_mul ae1 be1 be0 (by omega); omega⟩
   omega
  ·omega
 unfold zC at hg
 simp only [Bool.or_eq_true, decide_eq_true_eq] at hg
 exact ⟨⟨by omega, by omega, he.1⟩, he.2⟩
def JR (f : FormT) (spans : List SpanT) (i : Nat) (t : Int) (st : List RangeT) : Prop :=
 (t = -1 ∧ (∀ x ∈ st, lhR x) ∧ errS st ≤ 8 * i ∧ rngS spans 0 f.code [] = rngS spans i (f.code.drop i) st) ∨ (∃ k : Nat, t = k ∧ k ≤ 40 ∧ rngS spans 0 f.code [] = .error k)
theorem zqT {f : FormT} {i : Nat} (hi : i ≤ 40) {st : List RangeT} (h1 : ∀ x ∈ st, lhR x) (h2 : errS st ≤ 8 * i) : ∀ x ∈ st, okR x := by
 intro x hx
 obtain ⟨p, q, rfl⟩ := List.append_of_mem hx
 obtain ⟨a, b, c⟩ := h1 x hx
 have e : errS (p ++ x :: q) = errS p + (x.err + 4 + errS q) := by
  rw [zbn, show x :: q = [x] ++ q from rfl, zbn, zbL]
 have n1 := zdV (l := p) fun y hy => (h1 y (by simp [hy])).2.2
 have n2 := zdV (l := q) fun y hy => (h1 y (by simp [hy])).2.2
 exact ⟨a, b, c, by omega⟩
abbrev cpR (f : FormT) (spans : List SpanT) (R : AV → Sg → Prop) : Prop :=
 ACall Tryz.prog 76 [zaB f, .x (.f (.func 77) [] [.b 100 0]), .x (.f (.func 78) [] [.b 103 0, .b 101 0])] (rgS spans (-1)) R
theorem zo9 (f : FormT) (hc : zD f = 0) (spans : List SpanT) (hn : spans.length = f.vars.length) (hs : ∀ s ∈ spans, zC s.lo = false ∧ zC s.hi = false ∧ s.lo ≤ s.hi) :
  cpR f spans (fun r σ' => ∃ x t, JR f spans f.code.length t [x] ∧ r = rgAV x ∧ σ' = rgS spans t) := by
 obtain ⟨_, _, hc40⟩ := zbD hc
 refine zov f hc spans (JR f spans) (.inl ⟨rfl, by simp, by simp [errS], rfl⟩) ?_ ?_
 ·intro i t st hi hk hf hJ
  rw [← hn] at hf
  refine ⟨zbB spans f.code[i], ?_, zqL spans t i _ hk hf⟩
  rcases hJ with ⟨rfl, h1, h2, h3⟩ | h
  ·obtain ⟨l1, l2⟩ := zkc hs hk hf
   refine .inl ⟨rfl, fun x hx => ?_, ?_, ?_⟩
   ·rcases List.mem_append.1 hx with hx | hx
    ·exact h1 x hx
    ·rw [List.mem_singleton.1 hx]; exact l1
   ·rw [zbn, zbL]; push_cast; omega
   ·rw [h3, List.drop_eq_getElem_cons hi, rngS, if_pos (by omega)]
  ·exact .inr h
 ·intro i t st a b hi hk hJ
  rcases hJ with ⟨rfl, h1, h2, h3⟩ | ⟨k, rfl, hk40, h⟩
  ·have hok := zqT (f := f) (by omega) h1 h2
   have ha := hok a (by simp)
   have hb := hok b (by simp)
   refine ⟨zT f.code[i].kind a b, _, ?_, zpA spans i _ a b hk ha hb⟩
   rw [List.drop_eq_getElem_cons hi, rngS, if_neg (by omega)] at h3
   dsimp only at h3
   have e1 : (st ++ [a, b]).getD ((st ++ [a, b]).length - 2) zaI = a := by simp [List.getD_eq_getElem?_getD]
   have e2 : (st ++ [a, b]).getD ((st ++ [a, b]).length - 1) zaI = b := by simp [List.getD_eq_getElem?_getD]
   have e3 : (st ++ [a, b]).take ((st ++ [a, b]).length - 2) = st := by simp
   rw [e1, e2, e3] at h3
   by_cases hg : zC (zT f.code[i].kind a b).lo = true ∨ zC (zT f.code[i].kind a b).hi = true
   ·rw [if_pos hg] at h3 ⊢
    exact .inr ⟨i, rfl, by omega, h3⟩
   ·rw [if_neg hg] at h3 ⊢
    obtain ⟨j1, j2⟩ := zkj ha hb hg
    refine .inl ⟨rfl, fun x hx => ?_, ?_, h3⟩
    ·rcases List.mem_append.1 hx with hx | hx
     ·exact h1 x (by simp [hx])
     ·rw [List.mem_singleton.1 hx]; exact j1
    ·rw [zbn, zbL]
     rw [zbn, show ([a, b] : List RangeT) = [a] ++ [b] from rfl, zbn, zbL, zbL] at h2
     push_cast
     omega
  ·exact ⟨zaI, (k : Int), .inr ⟨k, rfl, hk40, h⟩, zpz spans k i _ a b (by omega)⟩
theorem zqm {f : FormT} (hc : zD f = 0) {spans : List SpanT} (hn : spans.length = f.vars.length) (hs : ∀ s ∈ spans, zC s.lo = false ∧ zC s.hi = false ∧ s.lo ≤ s.hi) {k : Nat} (hr : rngS spans 0 f.code [] = .error k) :
  cpR f spans (fun r σ' => ∃ x, r = rgAV x ∧ σ' = rgS spans k) := by
 refine (zo9 f hc spans hn hs).mono ?_
 rintro r σ' ⟨x, t, hJ, rfl, rfl⟩
 rcases hJ with ⟨_, _, _, h⟩ | ⟨k', rfl, _, h⟩
 ·rw [hr, List.drop_eq_nil_of_le (Nat.le_refl _), rngS] at h; cases h
 ·rw [hr] at h; cases h
  exact ⟨x, rfl, rfl⟩
theorem zrn {f : FormT} (hc : zD f = 0) {spans : List SpanT} (hn : spans.length = f.vars.length) (hs : ∀ s ∈ spans, zC s.lo = false ∧ zC s.hi = false ∧ s.lo ≤ s.hi) {l : List RangeT} (hr : rngS spans 0 f.code [] = .ok l) :
  cpR f spans (fun r σ' => r = rgAV (l.getD 0 zaI) ∧ σ' = rgS spans (-1)) := by
 refine (zo9 f hc spans hn hs).mono ?_
 rintro r σ' ⟨x, t, hJ, rfl, rfl⟩
 rcases hJ with ⟨rfl, _, _, h⟩ | ⟨k', rfl, _, h⟩
 ·rw [hr, List.drop_eq_nil_of_le (Nat.le_refl _), rngS] at h; cases h
  exact ⟨rfl, rfl⟩
 ·rw [hr] at h; cases h
theorem zdg : ∀ (l : List SpanT) (i j : Nat), (∀ k (h : k < l.length), k < i → (zC l[k].lo = false ∧ zC l[k].hi = false ∧ l[k].lo ≤ l[k].hi)) → i ≤ l.length → zaF l j = zaF (l.drop i) (j + i)
 | l, 0, j, _, _ => rfl
 | [], i + 1, j, _, h => by simp at h
 | x :: r, i + 1, j, h, hl => by
  have h0 : zC x.lo = false ∧ zC x.hi = false ∧ x.lo ≤ x.hi := h 0 (by simp) (by omega)
  rw [zaF, h0.1, h0.2.1, if_neg (by simp), if_neg (by omega), zdg r i (j + 1) (fun k hk hki => h (k + 1) (by simpa using hk) (by omega)) (by simpa using hl), List.drop_succ_cons]
  congr 1
  omega
theorem zj6 {f : FormT} {spans : List SpanT} (h0 : zD f = 0) (h1 : spans.length = f.vars.length) {i : Nat} {e : Int} (h2 : zaF spans 0 = some (i, e)) : z8 f spans = (zaI, (i : Int), e) := by
 unfold z8; rw [if_neg (by omega), if_neg (by omega), h2]
theorem zoU {f : FormT} {spans : List SpanT} (h0 : zD f = 0) (h1 : spans.length = f.vars.length) (h2 : zaF spans 0 = none) {k : Nat} (h3 : rngS spans 0 f.code [] = .error k) : z8 f spans = (zaI, (k : Int), 170) := by
 unfold z8; rw [if_neg (by omega), if_neg (by omega), h2]; dsimp only; rw [h3]
theorem zoT {f : FormT} {spans : List SpanT} (h0 : zD f = 0) (h1 : spans.length = f.vars.length) (h2 : zaF spans 0 = none) {l : List RangeT} (h3 : rngS spans 0 f.code [] = .ok l) : z8 f spans = (l.getD 0 zaI, 0, 0) := by
 unfold z8; rw [if_neg (by omega), if_neg (by omega), h2]; dsimp only; rw [h3]
abbrev rmAV (x : RangeT × Int × Int) : AV := .t [rgAV x.1, iv .i64 x.2.1, iv .i64 x.2.2]
theorem zeg (f : FormT) (spans : List SpanT) : FnC Tryz.prog 25 [zaB f, .x (.d (zcS spans))] (rmAV (z8 f spans)) := by
 have hlv : (f.vars.map zaa).length = f.vars.length := List.length_map _
 have hls : (spans.map spPV).length = spans.length := List.length_map _
 have ck := ziO f
 by_cases h0 : zD f = 0
 ·rw [h0] at ck
  obtain ⟨hv8, _⟩ := zbD h0
  by_cases h1 : spans.length = f.vars.length
  ·refine hdC Tryz.func25 Tryz.ntmps25 (res := [.cell 4 42, .cell 5 3, .tmp 6]) fun w0 K0 => ?_
   repeat' first | refine zd ?_ | refine zc ?_ | ((first | refine zf ?_ | refine zi ?_ | refine regA ?_ | fail); conv => whnf) | exact abA hb | ((refine zsn (ck) ?_); conv => whnf) | (refine zss rfl ?_) | (refine zso rfl (fun hb => ?_) (fun hb => ?_)) | ((refine andA ?_); conv => whnf) | (refine lnA fun hln => ?_; conv => whnf) | fail
   refine zJ (fun i : Nat => [(25, iv .i64 i), (24, iv .i64 spans.length), (23, .x (.d (zcS spans))), (2, .x (.b 2 0)), (3, .x (.b 3 0)), (4, .x (.b 4 0)), (5, .x (.b 5 0))]) (fun _ => [(5, .box [.d (.v (.int .i64 0))]), (4, .box zrC), (3, .box [.d (zcS spans)]), (2, .box (zb5 f))])
    (fun i => i ≤ spans.length ∧ ∀ k (h : k < spans.length), k < i → (zC spans[k].lo = false ∧ zC spans[k].hi = false ∧ spans[k].lo ≤ spans[k].hi)) (fun i => spans.length - i) 0 ⟨Nat.zero_le _, fun k _ h => absurd h (Nat.not_lt_zero _)⟩ impA ?_
   rintro i ⟨hi, hok⟩
   rcases Nat.lt_or_ge i spans.length with hil | hil
   ·have hbs := zdg spans i 0 hok hi
    rw [List.drop_eq_getElem_cons hil, zaF, Nat.zero_add] at hbs
    have g1 := zfB spans[i].lo
    have g2 := zfB spans[i].hi
    by_cases hg : zC spans[i].lo = true ∨ zC spans[i].hi = true
    ·rw [if_pos hg] at hbs
     rw [zj6 h0 h1 hbs]
     have hbb : (bif zC spans[i].lo then true else zC spans[i].hi) = true := by
      cases hx : zC spans[i].lo with
      | true => rfl
      | false => rw [hx] at hg; simpa using hg
     generalize zC spans[i].lo = b1 at *
     generalize zC spans[i].hi = b2 at *
     repeat' first | refine zd ?_ | refine zc ?_ | ((first | refine zf ?_ | refine zk ?_ | refine zi ?_ | refine regA ?_ | fail); conv => whnf) | exact abA hb | ((first | refine zsn (g1) ?_ | refine zsp (g2) ?_ | fail); conv => whnf) | (refine za rfl (fun _ => ?_) (zaf hbb)) | (refine zso rfl (fun hb => ?_) (fun hb => ?_)) | ((first | refine andA ?_ | with_reducible refine exA fun _ => ?_ | fail); conv => whnf) | fail
     rfl
    ·rw [if_neg hg] at hbs
     rw [not_or, Bool.not_eq_true, Bool.not_eq_true] at hg
     rw [hg.1] at g1
     rw [hg.2] at g2
     by_cases hlt : spans[i].hi < spans[i].lo
     ·rw [if_pos hlt] at hbs
      rw [zj6 h0 h1 hbs]
      repeat' first | refine zd ?_ | refine zc ?_ | ((first | refine zf ?_ | refine zk ?_ | refine zi ?_ | refine regA ?_ | fail); conv => whnf) | exact abA hb | ((first | refine zsn (g1) ?_ | refine zsp (g2) ?_ | fail); conv => whnf) | (refine zss rfl ?_) | (refine zso rfl (fun hb => ?_) (fun hb => ?_)) | ((first | refine andA ?_ | with_reducible refine exA fun _ => ?_ | fail); conv => whnf) | fail
      rfl
     ·repeat' first | refine zd ?_ | refine zc ?_ | ((first | refine zf ?_ | refine zk ?_ | refine zi ?_ | refine regA ?_ | fail); conv => whnf) | exact abA hb | ((first | refine zsn (g1) ?_ | refine zsp (g2) ?_ | fail); conv => whnf) | (refine zss rfl ?_) | (refine zso rfl (fun hb => ?_) (fun hb => ?_)) | ((first | refine zsq ?_ | refine andA ?_ | with_reducible refine exA fun _ => ?_ | fail); conv => whnf) | fail
      exact ⟨i + 1, ⟨by omega, fun k h hk => by
       by_cases e : k = i
       ·subst e; exact ⟨hg.1, hg.2, by omega⟩
       ·exact hok k h (by omega)⟩, by omega, impA⟩
   ·have hie : i = spans.length := by omega
    subst hie
    have hall : ∀ s ∈ spans, zC s.lo = false ∧ zC s.hi = false ∧ s.lo ≤ s.hi := fun s hs => by
     obtain ⟨k, hk, rfl⟩ := List.getElem_of_mem hs
     exact hok k hk hk
    have hbs := (zbv (i := 0)).2 hall
    cases hr : rngS spans 0 f.code [] with
    | error k =>
     have cp := zqm h0 h1 hall hr
     rw [zoU h0 h1 hbs hr]
     repeat' first | refine zd ?_ | refine zc ?_ | ((first | refine zf ?_ | refine zk ?_ | refine zi ?_ | refine regA ?_ | refine drM (id := 18) 2 [1] false [0, 0, 1, 7, 15] ?_ | refine LateGo.mk ⟨.x .j, rfl, ?_⟩ | fail); conv => whnf) | exact abA hb | ((first | refine frA (zlR) [(2, 102)] ?_ | ((refine ⟨_, (cp).frame (asc [(100, 3), (101, 9), (103, 5)]) (by repeat (first | exact trivial | refine ⟨rfl, ?_⟩)) rfl (by rintro _ _ ⟨_, rfl, rfl⟩; rfl), ?_⟩); (rintro _ _ ⟨_, _, ⟨_, rfl, rfl⟩, rfl, rfl⟩)) | fail); conv => whnf) | (refine zst rfl ?_) | (refine zso rfl (fun hb => ?_) (fun hb => ?_)) | ((refine andA ?_); conv => whnf) | fail
     rfl
    | ok l =>
     have cp := zrn h0 h1 hall hr
     rw [zoT h0 h1 hbs hr]
     generalize l.getD 0 zaI = R at *
     repeat' first | refine zd ?_ | refine zc ?_ | ((first | refine zf ?_ | refine zk ?_ | refine zi ?_ | refine regA ?_ | fail); conv => whnf) | exact abA hb | ((first | refine frA (zlR) [(2, 102)] ?_ | refine frA (cp) [(100, 3), (101, 9), (103, 5)] ?_ | fail); conv => whnf) | (refine zss rfl ?_) | (refine zso rfl (fun hb => ?_) (fun hb => ?_)) | fail
     rfl
  ·have hr : z8 f spans = (zaI, 0, 2) := by unfold z8; rw [if_neg (by omega), if_pos h1]
   rw [hr]
   refine hdC Tryz.func25 Tryz.ntmps25 (res := [.cell 4 42, .cell 5 3, .tmp 6]) fun w0 K0 => ?_
   repeat' first | refine zd ?_ | ((first | refine zf ?_ | refine zi ?_ | refine regA ?_ | fail); conv => whnf) | exact abA hb | ((refine zsn (ck) ?_); conv => whnf) | (refine zss rfl ?_) | (refine zso rfl (fun hb => ?_) (fun hb => ?_)) | ((refine andA ?_); conv => whnf) | (refine lnA fun hln => ?_; conv => whnf) | fail
   rfl
 ·have hr : z8 f spans = (zaI, 0, zD f) := by unfold z8; rw [if_pos h0]
  rw [hr]
  refine hdC Tryz.func25 Tryz.ntmps25 (res := [.cell 4 42, .cell 5 3, .tmp 6]) fun w0 K0 => ?_
  repeat' first | refine zd ?_ | ((first | refine zf ?_ | refine zi ?_ | refine regA ?_ | refine zsn (ck) ?_ | fail); conv => whnf) | (exact absurd hb h0) | (refine zso rfl (fun hb => ?_) (fun hb => ?_)) | fail
  rfl
end Go.Proofs.YtmceekhgnfpamaaGreatDoor
