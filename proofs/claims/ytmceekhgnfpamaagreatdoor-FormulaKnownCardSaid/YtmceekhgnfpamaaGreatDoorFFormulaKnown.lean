/- FormulaKnown: the examples of the document hold. No condition. -/
import Derived.Test.YtmceekhgnfpamaaGreatDoorFFormulaKnownW0
import Derived.Test.YtmceekhgnfpamaaGreatDoorCd
set_option linter.all false
namespace Go.Proofs.YtmceekhgnfpamaaGreatDoor.formulaKnown
open Go Go.QL FoT Go.ChangeShapes Go.WideShapes Go.ChangeAt Go.RowKit
set_option maxHeartbeats 1600000
set_option maxRecDepth 100000
attribute [local irreducible] ACall FnC
def zeG : Prop := FnC Tryz.prog 7 [] (bv true)
theorem zqO (hf : zeG) (H : Type) (enc : TypeId × Value → H) (W : World) (base : Nat) (args : Array Value) (ds : List (DataW H)) (p : List MemPlace)
  (hval : ∀ (j : Nat) t v, Tryz.f7.params[j]? = some t → args[j]? = some v → Value.okWide Tryz.prog W .any base t v)
  (hA : DataW.TrodAll enc Tryz.prog W 0 (fun _ => true) true Tryz.f7.params.toList args.toList ds p) :
  ∃ avs : List AV, FnC Tryz.prog 7 avs (bv true) ∧ args.size = avs.length ∧ ∀ (i : Nat) (x : AV) (v : Value), avs[i]? = some x → args[i]? = some v → zoK W x v := by
 rw [Tryz.params7] at hA hval
 obtain ⟨hargs, rfl, rfl⟩ := trodAll_nil hA
 obtain rfl : args = #[] := by cases args; simp_all
 refine ⟨[], hf , rfl, fun i x v hx hv => ?_⟩
 simp at hx
theorem zoq (hf : zeG) (H : Type) (enc : TypeId × Value → H) (W : World) (base : Nat) (args : Array Value) (ds gs : List (DataW H)) (before : List MemPlace)
  (hval : ∀ (j : Nat) t v, Tryz.f7.params[j]? = some t → args[j]? = some v → Value.okWide Tryz.prog W .any base t v)
  (hW : DataW.Whole enc Tryz.prog Tryz.f7.params.toList Rows.formulaKnownSpec.vars false W args.toList ds gs before) (hL : Laid Tryz.prog (fun b _ => b < W.heap.size) W) :
  Calls Tryz.prog 7 args W fun e W' => ∃ v, e = .returned v ∧ Rows.formulaKnownSpec.post enc Tryz.prog Tryz.f7 false true false false W args v W' :=
 zio (tb := 4) zgV rfl rfl Tryz.underlying4
  (by rw [Tryz.params7]; intro t ht; simp at ht  )
  (fun ds hd => by
   rw [Tryz.params7] at hd
   match ds, hd with
   | [], _ => rfl)
  (zqO hf H enc) W base args ds gs before hval hW hL
theorem znZ (os : Os) : laidMet Tryz.prog Rows.formulaKnownRow.laid ((zge os).forCall (fun _ _ => 0) ⟨#[], #[], []⟩).memory :=
 laidMet_of_run' 8 (by kernel_rfl) (by kernel_rfl)
theorem zrV (os : Os) {H : Type} (enc : TypeId × Value → H) : ∃ places, DataW.whole enc Tryz.prog ((zge os).forCall (fun _ _ => 0) ⟨#[], #[], []⟩).memory Tryz.f7.params.toList Rows.formulaKnownSpec.vars false (#[] : Array Value).toList 8 = some ([], [], places) :=
 ⟨[], by kernel_rfl⟩
theorem zq2 (hf : zeG) (os : Os) (started : os.Started) (H : Type) (enc : TypeId × Value → H) (F : Stop.Interp) :
  ReturnsInHanded {} Tryz.checked os 7 .any ((OpenSpec.ofChange Rows.formulaKnownSpec).preRow enc Tryz.prog Tryz.f7 Rows.formulaKnownRow.domain false Rows.formulaKnownRow.laid) (((OpenSpec.ofChange Rows.formulaKnownSpec).at F).post enc Tryz.prog Tryz.f7 false true false false) := by
 obtain ⟨places, hx⟩ := zrV os enc
 refine returnsInHanded_of_row (C := Tryz.checked) (s := OpenSpec.ofChange Rows.formulaKnownSpec) zkM started (by kernel_rfl) Tryz.func7
  (witness_row_at (enc := enc) (C := Tryz.checked) false (zge os) #[] rfl (by kernel_rfl) (by kernel_rfl) (by kernel_rfl)
   (OpenSpec.preRow_of_cond 8 hx (by kernel_rfl) (fun k hk => by cases hk) (by kernel_rfl) (znZ os))) ?_
 intro W base args ds gs before hval hW c1 c2 c3 c4 c5 c6
 exact zoq hf H enc W base args ds gs before hval hW (zpU c4 c5 (by decide +kernel) (by kernel_rfl) (by decide +kernel) (by decide +kernel))
theorem zqd : (Rows.formulaKnownRow.inPlace == Tryz.prog.inPlace 7) = true := by kernel_rfl
theorem zol : (Rows.formulaKnownRow.unfollowed == Tryz.prog.unfollowed 7) = true := by kernel_rfl
theorem zr5 : (Rows.formulaKnownRow.recurses == Tryz.prog.recurses 7) = true := by kernel_rfl
theorem zqe : (Rows.formulaKnownRow.named == Tryz.prog.varsNamed 7) = true := by kernel_rfl
theorem zrc : (Rows.formulaKnownRow.plainKeys == Tryz.prog.plainKeys) = true := by rw [zib]; rfl
theorem zr6 : joinedFacts Tryz.prog 7 Tryz.f7 Rows.formulaKnownSpec Rows.formulaKnownRow = true := by
 unfold joinedFacts
 rw [zgV, zil, zqd, zol, zr5, zqe, zrc]
 kernel_rfl
theorem said (hf : zeG) : Rows.FormulaKnownSaid :=
 OpenClaim.holds_of_cond 7 Tryz.f7 rfl rfl rfl rfl rfl rfl rfl ⟨rfl, rfl, rfl, rfl, rfl⟩ rfl rfl rfl rfl rfl (by kernel_rfl) Tryz.func7 zr6
  (of_decide_eq_true (by kernel_rfl)) (by unfold Func.isWrapper; first | (rw [if_pos (by decide +kernel)]; kernel_rfl) | (rw [if_neg (by decide +kernel)]; exact ⟨rfl, rfl⟩))
  (fun os started H enc _ F => by rw [OpenClaim.pre_eq_preRow]; exact zq2 hf os started H enc F)
theorem zrZ (f : FuncId) (fn : Func) (hf : Tryz.pinned.checked.prog.funcNamed Rows.formulaKnownRow.func = some f) (hfn : Tryz.pinned.checked.prog.funcs[f]? = some fn) :
  true = Tryz.pinned.checked.prog.looks [] ∧ ∀ (j : Nat) t, fn.params[j]? = some t → Tryz.pinned.checked.prog.wantsStandIn t = false := by
 obtain rfl : f = 7 := Option.some.inj ((show Tryz.prog.funcNamed Rows.formulaKnownRow.func = some 7 by kernel_rfl).symm.trans hf) |>.symm
 obtain rfl : fn = Tryz.f7 := (Option.some.inj (Tryz.func7.symm.trans hfn)).symm
 refine ⟨by kernel_rfl, fun j t ht => ?_⟩
 rw [Tryz.params7] at ht
 have hm := Array.mem_of_getElem? ht
 simp at hm
theorem card (hf : zeG) : Rows.FormulaKnownCardSaid :=
 Claim7.holds_tied_plain_at .later [] _ _ _ _ (said hf) (fun _ h => by cases h) (by kernel_rfl) (fun _ h => by cases h) formulaKnown_row_tie rfl ⟨rfl, rfl⟩ (by kernel_rfl) rfl zrZ (by kernel_rfl)
end Go.Proofs.YtmceekhgnfpamaaGreatDoor.formulaKnown
namespace Go.Proofs.YtmceekhgnfpamaaGreatDoor
open Go Go.QL
theorem formulaKnown_true : Rows.FormulaKnownCardSaid := formulaKnown.card zn0
end Go.Proofs.YtmceekhgnfpamaaGreatDoor
