/- GateTests: Table, Fewest and Tell return what the document says, for any net, faults and tests. No condition. -/
import Derived.Test.YtfghooojingdhaaDoorHTestsW0
import Derived.Test.YtfghooojingdhaaDoorCh
set_option linter.all false
namespace Go.Proofs.YtfghooojingdhaaDoor.gateTests
open Go Go.QL Go.ChangeShapes Go.WideShapes Go.ChangeAt Go.RowKit
set_option maxHeartbeats 1600000
set_option maxRecDepth 100000
attribute [local irreducible] ACall FnC
def Contract : Prop := ∀ (n0 : NetT) (fs1 : List FaultT) (ts2 : List (List Int)), (i64 n0.inn) → (∀ t ∈ ts2, ∀ x ∈ t, i64 x) → FnC Tryd.prog 9 [netAV n0, faultsAV fs1, rowsAV ts2] (bv true)
theorem opened (hf : Contract) (H : Type) (enc : TypeId × Value → H) (W : World) (base : Nat) (args : Array Value) (ds : List (DataW H)) (p : List MemPlace)
    (hval : ∀ (j : Nat) t v, Tryd.f9.params[j]? = some t → args[j]? = some v → Value.okWide Tryd.prog W .any base t v)
    (hA : DataW.TrodAll enc Tryd.prog W 0 (fun _ => true) true Tryd.f9.params.toList args.toList ds p) :
    ∃ avs : List AV, FnC Tryd.prog 9 avs (bv true) ∧ args.size = avs.length ∧ ∀ (i : Nat) (x : AV) (v : Value), avs[i]? = some x → args[i]? = some v → ArgOK W x v := by
  rw [Tryd.params9] at hA hval
  obtain ⟨v0, vs0, d0, ds0, p0, q0, hargs, rfl, rfl, h0, r0⟩ := trodAll_cons hA
  obtain ⟨v1, vs1, d1, ds1, p1, q1, hvs1, rfl, rfl, h1, r1⟩ := trodAll_cons r0
  obtain ⟨v2, vs2, d2, ds2, p2, q2, hvs2, rfl, rfl, h2, r2⟩ := trodAll_cons r1
  obtain ⟨hend, rfl, rfl⟩ := trodAll_nil r2
  obtain rfl : args = #[v0, v1, v2] := by cases args; simp_all
  obtain ⟨cs0, e0, _⟩ := okWide_struct Tryd.underlying25 (hval 0 25 v0 rfl rfl)
  obtain ⟨pv0, ⟨n0, rfl, hn0⟩, a0⟩ := arg_agg o_net e0 h0
  obtain ⟨pv1, ⟨fs1, j1⟩, a1⟩ := arg_one o_faults (one_slice Tryd.underlying53 (hval 1 53 v1 rfl rfl)) h1
  cases j1
  obtain ⟨pv2, ⟨ts2, j2, hr2⟩, a2⟩ := arg_one o_rows (one_slice Tryd.underlying54 (hval 2 54 v2 rfl rfl)) h2
  cases j2
  refine ⟨[netAV n0, faultsAV fs1, rowsAV ts2], hf n0 fs1 ts2 hn0 hr2, rfl, fun i x v hx hv => ?_⟩
  match i with
  | 0 => cases hx; cases hv; exact a0
  | 1 => cases hx; cases hv; exact a1
  | 2 => cases hx; cases hv; exact a2
  | i + 3 => simp at hx
theorem contract (hf : Contract) (H : Type) (enc : TypeId × Value → H) (W : World) (base : Nat) (args : Array Value) (ds gs : List (DataW H)) (before : List MemPlace)
    (hval : ∀ (j : Nat) t v, Tryd.f9.params[j]? = some t → args[j]? = some v → Value.okWide Tryd.prog W .any base t v)
    (hW : DataW.Whole enc Tryd.prog Tryd.f9.params.toList Rows.gateTestsSpec.vars false W args.toList ds gs before) :
    Calls Tryd.prog 9 args W fun e W' => ∃ v, e = .returned v ∧ Rows.gateTestsSpec.post enc Tryd.prog Tryd.f9 false true false false W args v W' :=
  law_contract (tb := 4) laidOut_is rfl rfl Tryd.underlying4
    (by rw [Tryd.params9]; intro t ht; simp only [List.mem_cons, List.not_mem_nil, or_false] at ht; rcases ht with rfl | rfl | rfl <;> exact ⟨by kernel_rfl, of_decide_eq_true (by kernel_rfl)⟩)
    (fun ds hd => by
      rw [Tryd.params9] at hd
      match ds, hd with
      | [d0, d1, d2], _ => rfl)
    (opened hf H enc) W base args ds gs before hval hW
theorem laid_met (os : Os) : laidMet Tryd.prog Rows.gateTestsRow.laid ((laidWorld os).forCall (fun _ _ => 0) ⟨#[], #[.agg #[.int .i64 0, .slice none 0 0, .slice none 0 0], .slice none 0 0, .slice none 0 0], []⟩).memory :=
  laidMet_of_run' 8 (by kernel_rfl) (by kernel_rfl)
theorem reads (os : Os) {H : Type} (enc : TypeId × Value → H) : ∃ places, DataW.whole enc Tryd.prog ((laidWorld os).forCall (fun _ _ => 0) ⟨#[], #[.agg #[.int .i64 0, .slice none 0 0, .slice none 0 0], .slice none 0 0, .slice none 0 0], []⟩).memory Tryd.f9.params.toList Rows.gateTestsSpec.vars false (#[.agg #[.int .i64 0, .slice none 0 0, .slice none 0 0], .slice none 0 0, .slice none 0 0] : Array Value).toList 8 = some ([.agg [.lit (.int .i64 0), .nil, .nil], .nil, .nil], [], places) :=
  ⟨[], by kernel_rfl⟩
theorem lifted (hf : Contract) (os : Os) (started : os.Started) (H : Type) (enc : TypeId × Value → H) (F : Stop.Interp) :
    ReturnsInHanded {} Tryd.checked os 9 .any ((OpenSpec.ofChange Rows.gateTestsSpec).preRow enc Tryd.prog Tryd.f9 Rows.gateTestsRow.domain false Rows.gateTestsRow.laid) (((OpenSpec.ofChange Rows.gateTestsSpec).at F).post enc Tryd.prog Tryd.f9 false true false false) := by
  obtain ⟨places, hx⟩ := reads os enc
  refine returnsInHanded_of_row (C := Tryd.checked) (s := OpenSpec.ofChange Rows.gateTestsSpec) ownKnob_is started (by kernel_rfl) Tryd.func9
    (witness_row_at (enc := enc) (C := Tryd.checked) false (laidWorld os) #[.agg #[.int .i64 0, .slice none 0 0, .slice none 0 0], .slice none 0 0, .slice none 0 0] rfl (by kernel_rfl) (by kernel_rfl) (by kernel_rfl)
      (OpenSpec.preRow_of_cond 8 hx (by kernel_rfl) (fun k hk => by cases hk) (by kernel_rfl) (laid_met os))) ?_
  intro W base args ds gs before hval hW _ _ _ _ _ _
  exact contract hf H enc W base args ds gs before hval hW
theorem said (hf : Contract) : Rows.GateTestsSaid :=
  OpenClaim.holds_of_cond 9 Tryd.f9 rfl rfl rfl rfl rfl rfl rfl ⟨rfl, rfl, rfl, rfl, rfl⟩ rfl rfl rfl rfl rfl (by kernel_rfl) Tryd.func9 (by kernel_rfl)
    (of_decide_eq_true (by kernel_rfl)) (by unfold Func.isWrapper; first | (rw [if_pos (by decide +kernel)]; kernel_rfl) | (rw [if_neg (by decide +kernel)]; exact ⟨rfl, rfl⟩))
    (fun os started H enc _ F => by rw [OpenClaim.pre_eq_preRow]; exact lifted hf os started H enc F)
theorem plain (f : FuncId) (fn : Func) (hf : Tryd.pinned.checked.prog.funcNamed Rows.gateTestsRow.func = some f) (hfn : Tryd.pinned.checked.prog.funcs[f]? = some fn) :
    false = Tryd.pinned.checked.prog.looks [] ∧ ∀ (j : Nat) t, fn.params[j]? = some t → Tryd.pinned.checked.prog.wantsStandIn t = false := by
  obtain rfl : f = 9 := Option.some.inj ((show Tryd.prog.funcNamed Rows.gateTestsRow.func = some 9 by kernel_rfl).symm.trans hf) |>.symm
  obtain rfl : fn = Tryd.f9 := (Option.some.inj (Tryd.func9.symm.trans hfn)).symm
  refine ⟨by kernel_rfl, fun j t ht => ?_⟩
  rw [Tryd.params9] at ht
  have hm := Array.mem_of_getElem? ht
  simp at hm
  rcases hm with rfl | rfl | rfl
  · exact (show Tryd.prog.wantsStandIn 25 = false by kernel_rfl)
  · exact (show Tryd.prog.wantsStandIn 53 = false by kernel_rfl)
  · exact (show Tryd.prog.wantsStandIn 54 = false by kernel_rfl)
theorem card (hf : Contract) : Rows.GateTestsCardSaid :=
  Claim7.holds_tied_plain_at .later [] _ _ _ _ (said hf) (fun _ h => by cases h) (by kernel_rfl) (fun _ h => by cases h) gateTests_row_tie rfl ⟨rfl, rfl⟩ (by kernel_rfl) rfl plain (by kernel_rfl)
end Go.Proofs.YtfghooojingdhaaDoor.gateTests
namespace Go.Proofs.YtfghooojingdhaaDoor
open Go Go.QL
theorem gateTests_true : Rows.GateTestsCardSaid := gateTests.card fun n fs ts hn _ => gtests_fn n hn fs ts
end Go.Proofs.YtfghooojingdhaaDoor
