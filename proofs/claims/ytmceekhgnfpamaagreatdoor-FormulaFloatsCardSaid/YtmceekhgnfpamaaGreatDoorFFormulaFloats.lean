/- FormulaFloats: what Float returns differs from the number by less than its size divided by 2^22, or the number is very small, for any number. No condition. -/
import Derived.Test.YtmceekhgnfpamaaGreatDoorFFormulaFloatsW0
import Derived.Test.YtmceekhgnfpamaaGreatDoorCd
set_option linter.all false
namespace Go.Proofs.YtmceekhgnfpamaaGreatDoor.formulaFloats
open Go Go.QL FoT Go.ChangeShapes Go.WideShapes Go.ChangeAt Go.RowKit
set_option maxHeartbeats 1600000
set_option maxRecDepth 100000
attribute [local irreducible] ACall FnC
def zeG : Prop := ∀ (k0 : Int) (k1 : Int), (i64 k0) → (i64 k1) → FnC Tryz.prog 11 [iv .i64 k0, iv .i64 k1] (bv true)
theorem zqO (hf : zeG) (H : Type) (enc : TypeId × Value → H) (W : World) (base : Nat) (args : Array Value) (ds : List (DataW H)) (p : List MemPlace)
  (hval : ∀ (j : Nat) t v, Tryz.f11.params[j]? = some t → args[j]? = some v → Value.okWide Tryz.prog W .any base t v)
  (hA : DataW.TrodAll enc Tryz.prog W 0 (fun _ => true) true Tryz.f11.params.toList args.toList ds p) :
  ∃ avs : List AV, FnC Tryz.prog 11 avs (bv true) ∧ args.size = avs.length ∧ ∀ (i : Nat) (x : AV) (v : Value), avs[i]? = some x → args[i]? = some v → zoK W x v := by
 rw [Tryz.params11] at hA hval
 obtain ⟨v0, vs0, d0, ds0, p0, q0, hargs, rfl, rfl, h0, r0⟩ := trodAll_cons hA
 obtain ⟨v1, vs1, d1, ds1, p1, q1, hvs1, rfl, rfl, h1, r1⟩ := trodAll_cons r0
 obtain ⟨hend, rfl, rfl⟩ := trodAll_nil r1
 obtain rfl : args = #[v0, v1] := by cases args; simp_all
 obtain ⟨pv0, ⟨k0, j0, hk0⟩, a0⟩ := zsf zek (zr1 Tryz.underlying3 (hval 0 3 v0 rfl rfl)) h0
 cases j0
 obtain ⟨pv1, ⟨k1, j1, hk1⟩, a1⟩ := zsf zek (zr1 Tryz.underlying3 (hval 1 3 v1 rfl rfl)) h1
 cases j1
 refine ⟨[iv .i64 k0, iv .i64 k1], hf k0 k1 hk0 hk1, rfl, fun i x v hx hv => ?_⟩
 match i with
 | 0 => cases hx; cases hv; exact a0
 | 1 => cases hx; cases hv; exact a1
 | i + 2 => simp at hx
theorem zoq (hf : zeG) (H : Type) (enc : TypeId × Value → H) (W : World) (base : Nat) (args : Array Value) (ds gs : List (DataW H)) (before : List MemPlace)
  (hval : ∀ (j : Nat) t v, Tryz.f11.params[j]? = some t → args[j]? = some v → Value.okWide Tryz.prog W .any base t v)
  (hW : DataW.Whole enc Tryz.prog Tryz.f11.params.toList Rows.formulaFloatsSpec.vars false W args.toList ds gs before) (hL : Laid Tryz.prog (fun b _ => b < W.heap.size) W) :
  Calls Tryz.prog 11 args W fun e W' => ∃ v, e = .returned v ∧ Rows.formulaFloatsSpec.post enc Tryz.prog Tryz.f11 false true false false W args v W' :=
 zio (tb := 4) zgV rfl rfl Tryz.underlying4
  (by rw [Tryz.params11]; intro t ht; simp only [List.mem_cons, List.not_mem_nil, or_false] at ht; rcases ht with rfl | rfl <;> exact ⟨by kernel_rfl, of_decide_eq_true (by kernel_rfl)⟩)
  (fun ds hd => by
   rw [Tryz.params11] at hd
   match ds, hd with
   | [d0, d1], _ => rfl)
  (zqO hf H enc) W base args ds gs before hval hW hL
theorem znZ (os : Os) : laidMet Tryz.prog Rows.formulaFloatsRow.laid ((zge os).forCall (fun _ _ => 0) ⟨#[], #[.int .i64 0, .int .i64 0], []⟩).memory :=
 laidMet_of_run' 8 (by kernel_rfl) (by kernel_rfl)
theorem zrV (os : Os) {H : Type} (enc : TypeId × Value → H) : ∃ places, DataW.whole enc Tryz.prog ((zge os).forCall (fun _ _ => 0) ⟨#[], #[.int .i64 0, .int .i64 0], []⟩).memory Tryz.f11.params.toList Rows.formulaFloatsSpec.vars false (#[.int .i64 0, .int .i64 0] : Array Value).toList 8 = some ([.lit (.int .i64 0), .lit (.int .i64 0)], [], places) :=
 ⟨[], by kernel_rfl⟩
theorem zq2 (hf : zeG) (os : Os) (started : os.Started) (H : Type) (enc : TypeId × Value → H) (F : Stop.Interp) :
  ReturnsInHanded {} Tryz.checked os 11 .any ((OpenSpec.ofChange Rows.formulaFloatsSpec).preRow enc Tryz.prog Tryz.f11 Rows.formulaFloatsRow.domain false Rows.formulaFloatsRow.laid) (((OpenSpec.ofChange Rows.formulaFloatsSpec).at F).post enc Tryz.prog Tryz.f11 false true false false) := by
 obtain ⟨places, hx⟩ := zrV os enc
 refine returnsInHanded_of_row (C := Tryz.checked) (s := OpenSpec.ofChange Rows.formulaFloatsSpec) zkM started (by kernel_rfl) Tryz.func11
  (witness_row_at (enc := enc) (C := Tryz.checked) false (zge os) #[.int .i64 0, .int .i64 0] rfl (by kernel_rfl) (by kernel_rfl) (by kernel_rfl)
   (OpenSpec.preRow_of_cond 8 hx (by kernel_rfl) (fun k hk => by cases hk) (by kernel_rfl) (znZ os))) ?_
 intro W base args ds gs before hval hW c1 c2 c3 c4 c5 c6
 exact zoq hf H enc W base args ds gs before hval hW (zpU c4 c5 (by decide +kernel) (by kernel_rfl) (by decide +kernel) (by decide +kernel))
theorem zqd : (Rows.formulaFloatsRow.inPlace == Tryz.prog.inPlace 11) = true := by kernel_rfl
theorem zol : (Rows.formulaFloatsRow.unfollowed == Tryz.prog.unfollowed 11) = true := by kernel_rfl
theorem zr5 : (Rows.formulaFloatsRow.recurses == Tryz.prog.recurses 11) = true := by kernel_rfl
theorem zqe : (Rows.formulaFloatsRow.named == Tryz.prog.varsNamed 11) = true := by kernel_rfl
theorem zrc : (Rows.formulaFloatsRow.plainKeys == Tryz.prog.plainKeys) = true := by rw [zib]; rfl
theorem zr6 : joinedFacts Tryz.prog 11 Tryz.f11 Rows.formulaFloatsSpec Rows.formulaFloatsRow = true := by
 unfold joinedFacts
 rw [zgV, zil, zqd, zol, zr5, zqe, zrc]
 kernel_rfl
theorem said (hf : zeG) : Rows.FormulaFloatsSaid :=
 OpenClaim.holds_of_cond 11 Tryz.f11 rfl rfl rfl rfl rfl rfl rfl ⟨rfl, rfl, rfl, rfl, rfl⟩ rfl rfl rfl rfl rfl (by kernel_rfl) Tryz.func11 zr6
  (of_decide_eq_true (by kernel_rfl)) (by unfold Func.isWrapper; first | (rw [if_pos (by decide +kernel)]; kernel_rfl) | (rw [if_neg (by decide +kernel)]; exact ⟨rfl, rfl⟩))
  (fun os started H enc _ F => by rw [OpenClaim.pre_eq_preRow]; exact zq2 hf os started H enc F)
theorem zrZ (f : FuncId) (fn : Func) (hf : Tryz.pinned.checked.prog.funcNamed Rows.formulaFloatsRow.func = some f) (hfn : Tryz.pinned.checked.prog.funcs[f]? = some fn) :
  true = Tryz.pinned.checked.prog.looks [] ∧ ∀ (j : Nat) t, fn.params[j]? = some t → Tryz.pinned.checked.prog.wantsStandIn t = false := by
 obtain rfl : f = 11 := Option.some.inj ((show Tryz.prog.funcNamed Rows.formulaFloatsRow.func = some 11 by kernel_rfl).symm.trans hf) |>.symm
 obtain rfl : fn = Tryz.f11 := (Option.some.inj (Tryz.func11.symm.trans hfn)).symm
 refine ⟨by kernel_rfl, fun j t ht => ?_⟩
 rw [Tryz.params11] at ht
 have hm := Array.mem_of_getElem? ht
 simp at hm
 subst hm
 exact (show Tryz.prog.wantsStandIn 3 = false by kernel_rfl)
theorem card (hf : zeG) : Rows.FormulaFloatsCardSaid :=
 Claim7.holds_tied_plain_at .later [] _ _ _ _ (said hf) (fun _ h => by cases h) (by kernel_rfl) (fun _ h => by cases h) formulaFloats_row_tie rfl ⟨rfl, rfl⟩ (by kernel_rfl) rfl zrZ (by kernel_rfl)
end Go.Proofs.YtmceekhgnfpamaaGreatDoor.formulaFloats
namespace Go.Proofs.YtmceekhgnfpamaaGreatDoor
open Go Go.QL
theorem formulaFloats_true : Rows.FormulaFloatsCardSaid := formulaFloats.card (fun n e hn _ => zqc n e hn)
end Go.Proofs.YtmceekhgnfpamaaGreatDoor
