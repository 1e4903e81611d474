/- ServiceKnown: the examples of the document. No condition. -/
import Derived.Test.YtnpleednkmhhhabDoorFServiceKnownW0
import Derived.Test.YtnpleednkmhhhabDoorCd
set_option linter.all false
namespace Go.Proofs.YtnpleednkmhhhabDoor.serviceKnown
open Go Go.QL Go.ChangeShapes Go.WideShapes Go.ChangeAt Go.RowKit
set_option maxHeartbeats 1600000
set_option maxRecDepth 100000
attribute [local irreducible] ACall FnC
def Contract : Prop := FnC Tryd.prog 9 [] (bv true)
theorem opened (hf : Contract) (H : Type) (enc : TypeId × Value → H) (W : World) (base : Nat) (args : Array Value) (ds : List (DataW H)) (p : List MemPlace)
    (hval : ∀ (j : Nat) t v, Tryd.f9.params[j]? = some t → args[j]? = some v → Value.okWide Tryd.prog W .any base t v)
    (hA : DataW.TrodAll enc Tryd.prog W 0 (fun _ => true) true Tryd.f9.params.toList args.toList ds p) :
    ∃ avs : List AV, FnC Tryd.prog 9 avs (bv true) ∧ args.size = avs.length ∧ ∀ (i : Nat) (x : AV) (v : Value), avs[i]? = some x → args[i]? = some v → ArgOK W x v := by
  rw [Tryd.params9] at hA hval
  obtain ⟨hargs, rfl, rfl⟩ := trodAll_nil hA
  obtain rfl : args = #[] := by cases args; simp_all
  refine ⟨[], hf , rfl, fun i x v hx hv => ?_⟩
  simp at hx
theorem contract (hf : Contract) (H : Type) (enc : TypeId × Value → H) (W : World) (base : Nat) (args : Array Value) (ds gs : List (DataW H)) (before : List MemPlace)
    (hval : ∀ (j : Nat) t v, Tryd.f9.params[j]? = some t → args[j]? = some v → Value.okWide Tryd.prog W .any base t v)
    (hW : DataW.Whole enc Tryd.prog Tryd.f9.params.toList Rows.serviceKnownSpec.vars false W args.toList ds gs before) (hL : Laid Tryd.prog (fun b _ => b < W.heap.size) W) :
    Calls Tryd.prog 9 args W fun e W' => ∃ v, e = .returned v ∧ Rows.serviceKnownSpec.post enc Tryd.prog Tryd.f9 false true false false W args v W' :=
  law_contract (tb := 4) laidOut_is rfl rfl Tryd.underlying4
    (by rw [Tryd.params9]; intro t ht; simp at ht  )
    (fun ds hd => by
      rw [Tryd.params9] at hd
      match ds, hd with
      | [], _ => rfl)
    (opened hf H enc) W base args ds gs before hval hW hL
theorem laid_met (os : Os) : laidMet Tryd.prog Rows.serviceKnownRow.laid ((laidWorld os).forCall (fun _ _ => 0) ⟨#[], #[], []⟩).memory :=
  laidMet_of_run' 8 (by kernel_rfl) (by kernel_rfl)
theorem reads (os : Os) {H : Type} (enc : TypeId × Value → H) : ∃ places, DataW.whole enc Tryd.prog ((laidWorld os).forCall (fun _ _ => 0) ⟨#[], #[], []⟩).memory Tryd.f9.params.toList Rows.serviceKnownSpec.vars false (#[] : Array Value).toList 8 = some ([], [], places) :=
  ⟨[], by kernel_rfl⟩
theorem lifted (hf : Contract) (os : Os) (started : os.Started) (H : Type) (enc : TypeId × Value → H) (F : Stop.Interp) :
    ReturnsInHanded {} Tryd.checked os 9 .any ((OpenSpec.ofChange Rows.serviceKnownSpec).preRow enc Tryd.prog Tryd.f9 Rows.serviceKnownRow.domain false Rows.serviceKnownRow.laid) (((OpenSpec.ofChange Rows.serviceKnownSpec).at F).post enc Tryd.prog Tryd.f9 false true false false) := by
  obtain ⟨places, hx⟩ := reads os enc
  refine returnsInHanded_of_row (C := Tryd.checked) (s := OpenSpec.ofChange Rows.serviceKnownSpec) ownKnob_is started (by kernel_rfl) Tryd.func9
    (witness_row_at (enc := enc) (C := Tryd.checked) false (laidWorld os) #[] rfl (by kernel_rfl) (by kernel_rfl) (by kernel_rfl)
      (OpenSpec.preRow_of_cond 8 hx (by kernel_rfl) (fun k hk => by cases hk) (by kernel_rfl) (laid_met os))) ?_
  intro W base args ds gs before hval hW c1 c2 c3 c4 c5 c6
  exact contract hf H enc W base args ds gs before hval hW (laid_ok (by decide +kernel) (by kernel_rfl) (by kernel_rfl) c4)
theorem said (hf : Contract) : Rows.ServiceKnownSaid :=
  OpenClaim.holds_of_cond 9 Tryd.f9 rfl rfl rfl rfl rfl rfl rfl ⟨rfl, rfl, rfl, rfl, rfl⟩ rfl rfl rfl rfl rfl (by kernel_rfl) Tryd.func9 (by kernel_rfl)
    (of_decide_eq_true (by kernel_rfl)) (by unfold Func.isWrapper; first | (rw [if_pos (by decide +kernel)]; kernel_rfl) | (rw [if_neg (by decide +kernel)]; exact ⟨rfl, rfl⟩))
    (fun os started H enc _ F => by rw [OpenClaim.pre_eq_preRow]; exact lifted hf os started H enc F)
theorem plain (f : FuncId) (fn : Func) (hf : Tryd.pinned.checked.prog.funcNamed Rows.serviceKnownRow.func = some f) (hfn : Tryd.pinned.checked.prog.funcs[f]? = some fn) :
    false = Tryd.pinned.checked.prog.looks [] ∧ ∀ (j : Nat) t, fn.params[j]? = some t → Tryd.pinned.checked.prog.wantsStandIn t = false := by
  obtain rfl : f = 9 := Option.some.inj ((show Tryd.prog.funcNamed Rows.serviceKnownRow.func = some 9 by kernel_rfl).symm.trans hf) |>.symm
  obtain rfl : fn = Tryd.f9 := (Option.some.inj (Tryd.func9.symm.trans hfn)).symm
  refine ⟨by kernel_rfl, fun j t ht => ?_⟩
  rw [Tryd.params9] at ht
  have hm := Array.mem_of_getElem? ht
  simp at hm
theorem card (hf : Contract) : Rows.ServiceKnownCardSaid :=
  Claim7.holds_tied_plain_at .later [] _ _ _ _ (said hf) (fun _ h => by cases h) (by kernel_rfl) (fun _ h => by cases h) serviceKnown_row_tie rfl ⟨rfl, rfl⟩ (by kernel_rfl) rfl plain (by kernel_rfl)
end Go.Proofs.YtnpleednkmhhhabDoor.serviceKnown
namespace Go.Proofs.YtnpleednkmhhhabDoor
open Go Go.QL
theorem serviceKnown_true : Rows.ServiceKnownCardSaid := serviceKnown.card lknown_fn
end Go.Proofs.YtnpleednkmhhhabDoor
