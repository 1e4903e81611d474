/- ServiceFewest: coins make each amount, and no coins with these values that make it are fewer, for any values, amounts and other coins. No condition. -/
import Derived.Test.YtnpleednkmhhhabDoorFServiceFewestW0
import Derived.Test.YtnpleednkmhhhabDoorCd
set_option linter.all false
namespace Go.Proofs.YtnpleednkmhhhabDoor.serviceFewest
open Go Go.QL Go.ChangeShapes Go.WideShapes Go.ChangeAt Go.RowKit
set_option maxHeartbeats 1600000
set_option maxRecDepth 100000
attribute [local irreducible] ACall FnC
theorem o_till : Opens Tryd.prog 50 2 (fun pv => ∃ vs am : List Int, pv = [intsPV vs, intsPV am] ∧ (∀ x ∈ vs, i64 x) ∧ ∀ x ∈ am, i64 x) :=
  (opens_struct [(1, _), (1, _)] Tryd.underlying50 (by kernel_rfl) rfl ⟨rfl, by kernel_rfl, o_ints, rfl, by kernel_rfl, o_ints, trivial⟩).mono fun pv h => by
    obtain ⟨pa0, pb0, rfl, _, ⟨x, rfl, hx⟩, ⟨pa1, pb1, rfl, _, ⟨y, rfl, hy⟩, rfl⟩⟩ := h
    exact ⟨x, y, rfl, hx, hy⟩
theorem wf_u8 {n : Int} (hw : (Lit.int .u8 n).wf = true) : 0 ≤ n ∧ n < 256 := by
  simp only [Lit.wf, Bool.and_eq_true, decide_eq_true_eq] at hw
  have h1 := hw.1
  have h2 := hw.2
  simp [IntKind.min, IntKind.max, IntKind.signed, IntKind.bits] at h1 h2
  omega
theorem o_u8 : Opens Tryd.prog 5 1 (fun pv => ∃ n, pv = [.v (.int .u8 n)] ∧ 0 ≤ n ∧ n < 256) := (opens_int Tryd.underlying5).mono fun pv ⟨n, h, hw⟩ => ⟨n, h, wf_u8 hw⟩
theorem o_u8s : Opens Tryd.prog 51 1 (fun pv => ∃ bs : List Int, pv = [.s 1 (bs.map fun n => [.v (.int .u8 n)])] ∧ ∀ x ∈ bs, 0 ≤ x ∧ x < 256) :=
  (opens_slice Tryd.underlying51 (by kernel_rfl) (by decide) o_u8).mono fun pv ⟨xs, h, hx⟩ => by
    obtain ⟨l, rfl, hl⟩ := list_map (F := fun n : Int => [PV.v (.int .u8 n)]) hx
    exact ⟨l, h, hl⟩
def Contract : Prop := ∀ (vs0 am0 : List Int) (bs1 : List Int), (∀ x ∈ vs0, i64 x) → (∀ x ∈ am0, i64 x) → (∀ x ∈ bs1, 0 ≤ x ∧ x < 256) → FnC Tryd.prog 6 [tillAV vs0 am0, u8sAV bs1] (bv true)
theorem opened (hf : Contract) (H : Type) (enc : TypeId × Value → H) (W : World) (base : Nat) (args : Array Value) (ds : List (DataW H)) (p : List MemPlace)
    (hval : ∀ (j : Nat) t v, Tryd.f6.params[j]? = some t → args[j]? = some v → Value.okWide Tryd.prog W .any base t v)
    (hA : DataW.TrodAll enc Tryd.prog W 0 (fun _ => true) true Tryd.f6.params.toList args.toList ds p) :
    ∃ avs : List AV, FnC Tryd.prog 6 avs (bv true) ∧ args.size = avs.length ∧ ∀ (i : Nat) (x : AV) (v : Value), avs[i]? = some x → args[i]? = some v → ArgOK W x v := by
  rw [Tryd.params6] at hA hval
  obtain ⟨v0, vs0, d0, ds0, p0, q0, hargs, rfl, rfl, h0, r0⟩ := trodAll_cons hA
  obtain ⟨v1, vs1, d1, ds1, p1, q1, hvs1, rfl, rfl, h1, r1⟩ := trodAll_cons r0
  obtain ⟨hend, rfl, rfl⟩ := trodAll_nil r1
  obtain rfl : args = #[v0, v1] := by cases args; simp_all
  obtain ⟨cs0, e0, _⟩ := okWide_struct Tryd.underlying50 (hval 0 50 v0 rfl rfl)
  obtain ⟨pv0, ⟨vs0, am0, rfl, hv0, ham0⟩, a0⟩ := arg_agg o_till e0 h0
  obtain ⟨pv1, ⟨bs1, j1, hb1⟩, a1⟩ := arg_one o_u8s (one_slice Tryd.underlying51 (hval 1 51 v1 rfl rfl)) h1
  cases j1
  refine ⟨[tillAV vs0 am0, u8sAV bs1], hf vs0 am0 bs1 hv0 ham0 hb1, rfl, fun i x v hx hv => ?_⟩
  match i with
  | 0 => cases hx; cases hv; exact a0
  | 1 => cases hx; cases hv; exact a1
  | i + 2 => simp at hx
theorem contract (hf : Contract) (H : Type) (enc : TypeId × Value → H) (W : World) (base : Nat) (args : Array Value) (ds gs : List (DataW H)) (before : List MemPlace)
    (hval : ∀ (j : Nat) t v, Tryd.f6.params[j]? = some t → args[j]? = some v → Value.okWide Tryd.prog W .any base t v)
    (hW : DataW.Whole enc Tryd.prog Tryd.f6.params.toList Rows.serviceFewestSpec.vars false W args.toList ds gs before) (hL : Laid Tryd.prog (fun b _ => b < W.heap.size) W) :
    Calls Tryd.prog 6 args W fun e W' => ∃ v, e = .returned v ∧ Rows.serviceFewestSpec.post enc Tryd.prog Tryd.f6 false true false false W args v W' :=
  law_contract (tb := 4) laidOut_is rfl rfl Tryd.underlying4
    (by rw [Tryd.params6]; intro t ht; simp only [List.mem_cons, List.not_mem_nil, or_false] at ht; rcases ht with rfl | rfl <;> exact ⟨by kernel_rfl, of_decide_eq_true (by kernel_rfl)⟩)
    (fun ds hd => by
      rw [Tryd.params6] at hd
      match ds, hd with
      | [d0, d1], _ => rfl)
    (opened hf H enc) W base args ds gs before hval hW hL
theorem laid_met (os : Os) : laidMet Tryd.prog Rows.serviceFewestRow.laid ((laidWorld os).forCall (fun _ _ => 0) ⟨#[], #[.agg #[.slice none 0 0, .slice none 0 0], .slice none 0 0], []⟩).memory :=
  laidMet_of_run' 8 (by kernel_rfl) (by kernel_rfl)
theorem reads (os : Os) {H : Type} (enc : TypeId × Value → H) : ∃ places, DataW.whole enc Tryd.prog ((laidWorld os).forCall (fun _ _ => 0) ⟨#[], #[.agg #[.slice none 0 0, .slice none 0 0], .slice none 0 0], []⟩).memory Tryd.f6.params.toList Rows.serviceFewestSpec.vars false (#[.agg #[.slice none 0 0, .slice none 0 0], .slice none 0 0] : Array Value).toList 8 = some ([.agg [.nil, .nil], .nil], [], places) :=
  ⟨[], by kernel_rfl⟩
theorem lifted (hf : Contract) (os : Os) (started : os.Started) (H : Type) (enc : TypeId × Value → H) (F : Stop.Interp) :
    ReturnsInHanded {} Tryd.checked os 6 .any ((OpenSpec.ofChange Rows.serviceFewestSpec).preRow enc Tryd.prog Tryd.f6 Rows.serviceFewestRow.domain false Rows.serviceFewestRow.laid) (((OpenSpec.ofChange Rows.serviceFewestSpec).at F).post enc Tryd.prog Tryd.f6 false true false false) := by
  obtain ⟨places, hx⟩ := reads os enc
  refine returnsInHanded_of_row (C := Tryd.checked) (s := OpenSpec.ofChange Rows.serviceFewestSpec) ownKnob_is started (by kernel_rfl) Tryd.func6
    (witness_row_at (enc := enc) (C := Tryd.checked) false (laidWorld os) #[.agg #[.slice none 0 0, .slice none 0 0], .slice none 0 0] rfl (by kernel_rfl) (by kernel_rfl) (by kernel_rfl)
      (OpenSpec.preRow_of_cond 8 hx (by kernel_rfl) (fun k hk => by cases hk) (by kernel_rfl) (laid_met os))) ?_
  intro W base args ds gs before hval hW c1 c2 c3 c4 c5 c6
  exact contract hf H enc W base args ds gs before hval hW (laid_ok (by decide +kernel) (by kernel_rfl) (by kernel_rfl) c4)
theorem said (hf : Contract) : Rows.ServiceFewestSaid :=
  OpenClaim.holds_of_cond 6 Tryd.f6 rfl rfl rfl rfl rfl rfl rfl ⟨rfl, rfl, rfl, rfl, rfl⟩ rfl rfl rfl rfl rfl (by kernel_rfl) Tryd.func6 (by kernel_rfl)
    (of_decide_eq_true (by kernel_rfl)) (by unfold Func.isWrapper; first | (rw [if_pos (by decide +kernel)]; kernel_rfl) | (rw [if_neg (by decide +kernel)]; exact ⟨rfl, rfl⟩))
    (fun os started H enc _ F => by rw [OpenClaim.pre_eq_preRow]; exact lifted hf os started H enc F)
theorem plain (f : FuncId) (fn : Func) (hf : Tryd.pinned.checked.prog.funcNamed Rows.serviceFewestRow.func = some f) (hfn : Tryd.pinned.checked.prog.funcs[f]? = some fn) :
    false = Tryd.pinned.checked.prog.looks [] ∧ ∀ (j : Nat) t, fn.params[j]? = some t → Tryd.pinned.checked.prog.wantsStandIn t = false := by
  obtain rfl : f = 6 := Option.some.inj ((show Tryd.prog.funcNamed Rows.serviceFewestRow.func = some 6 by kernel_rfl).symm.trans hf) |>.symm
  obtain rfl : fn = Tryd.f6 := (Option.some.inj (Tryd.func6.symm.trans hfn)).symm
  refine ⟨by kernel_rfl, fun j t ht => ?_⟩
  rw [Tryd.params6] at ht
  have hm := Array.mem_of_getElem? ht
  simp at hm
  rcases hm with rfl | rfl
  · exact (show Tryd.prog.wantsStandIn 50 = false by kernel_rfl)
  · exact (show Tryd.prog.wantsStandIn 51 = false by kernel_rfl)
theorem card (hf : Contract) : Rows.ServiceFewestCardSaid :=
  Claim7.holds_tied_plain_at .later [] _ _ _ _ (said hf) (fun _ h => by cases h) (by kernel_rfl) (fun _ h => by cases h) serviceFewest_row_tie rfl ⟨rfl, rfl⟩ (by kernel_rfl) rfl plain (by kernel_rfl)
end Go.Proofs.YtnpleednkmhhhabDoor.serviceFewest
namespace Go.Proofs.YtnpleednkmhhhabDoor
open Go Go.QL
theorem serviceFewest_true : Rows.ServiceFewestCardSaid := serviceFewest.card fun vs am ot _ _ h => lfewest_fn vs am ot h
end Go.Proofs.YtnpleednkmhhhabDoor
