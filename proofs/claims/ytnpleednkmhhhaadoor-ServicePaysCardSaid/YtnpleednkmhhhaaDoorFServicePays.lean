/- ServicePays: Wages and Coins return what the document says, for any rule, workers and values, with their amounts. No condition. -/
import Derived.Test.YtnpleednkmhhhaaDoorFServicePaysW0
import Derived.Test.YtnpleednkmhhhaaDoorCd
set_option linter.all false
namespace Go.Proofs.YtnpleednkmhhhaaDoor.servicePays
open Go Go.QL Go.ChangeShapes Go.WideShapes Go.ChangeAt Go.RowKit
set_option maxHeartbeats 1600000
set_option maxRecDepth 100000
attribute [local irreducible] ACall FnC
theorem o_rule : Opens Tryd.prog 51 5 (fun pv => ∃ r : RuleT, pv = [.v (.int .i64 r.normal), .v (.int .i64 r.extra), .v (.int .i64 r.free), .v (.int .i64 r.tax), .v (.int .i64 r.stamp)] ∧ ruleI r) :=
  (opens_struct [(1, _), (1, _), (1, _), (1, _), (1, _)] Tryd.underlying51 (by kernel_rfl) rfl ⟨rfl, by kernel_rfl, o_int, rfl, by kernel_rfl, o_int, rfl, by kernel_rfl, o_int, rfl, by kernel_rfl, o_int, rfl, by kernel_rfl, o_int, trivial⟩).mono fun pv h => by
    obtain ⟨pa0, pb0, rfl, _, ⟨x, rfl, hx⟩, ⟨pa1, pb1, rfl, _, ⟨y, rfl, hy⟩, ⟨pa2, pb2, rfl, _, ⟨z, rfl, hz⟩, ⟨pa3, pb3, rfl, _, ⟨u, rfl, hu⟩, ⟨pa4, pb4, rfl, _, ⟨v, rfl, hv⟩, rfl⟩⟩⟩⟩⟩ := h
    exact ⟨⟨x, y, z, u, v⟩, rfl, hx, hy, hz, hu, hv⟩
theorem o_worker : Opens Tryd.prog 92 2 (fun pv => ∃ w : WorkerT, pv = workerPV w ∧ i64 w.minutes ∧ i64 w.rate) :=
  (opens_struct [(1, _), (1, _)] Tryd.underlying92 (by kernel_rfl) rfl ⟨rfl, by kernel_rfl, o_int, rfl, by kernel_rfl, o_int, trivial⟩).mono fun pv h => by
    obtain ⟨pa0, pb0, rfl, _, ⟨x, rfl, hx⟩, ⟨pa1, pb1, rfl, _, ⟨y, rfl, hy⟩, rfl⟩⟩ := h
    exact ⟨⟨x, y⟩, rfl, hx, hy⟩
theorem o_workers : Opens Tryd.prog 52 1 (fun pv => ∃ ws : List WorkerT, pv = [.s 2 (ws.map workerPV)] ∧ ∀ w ∈ ws, i64 w.minutes ∧ i64 w.rate) :=
  (opens_slice Tryd.underlying52 (by kernel_rfl) (by decide) o_worker).mono fun pv ⟨xs, h, hx⟩ => by
    obtain ⟨l, rfl, hl⟩ := list_map (F := workerPV) hx
    exact ⟨l, h, hl⟩
theorem o_till : Opens Tryd.prog 54 2 (fun pv => ∃ vs am : List Int, pv = [intsPV vs, intsPV am] ∧ (∀ x ∈ vs, i64 x) ∧ ∀ x ∈ am, i64 x) :=
  (opens_struct [(1, _), (1, _)] Tryd.underlying54 (by kernel_rfl) rfl ⟨rfl, by kernel_rfl, o_ints, rfl, by kernel_rfl, o_ints, trivial⟩).mono fun pv h => by
    obtain ⟨pa0, pb0, rfl, _, ⟨x, rfl, hx⟩, ⟨pa1, pb1, rfl, _, ⟨y, rfl, hy⟩, rfl⟩⟩ := h
    exact ⟨x, y, rfl, hx, hy⟩
def Contract : Prop := ∀ (r0 : RuleT) (ws1 : List WorkerT) (vs2 am2 : List Int), (ruleI r0) → (∀ w ∈ ws1, i64 w.minutes ∧ i64 w.rate) → (∀ x ∈ vs2, i64 x) → (∀ x ∈ am2, i64 x) → FnC Tryd.prog 7 [ruleAV r0, workersAV ws1, tillAV vs2 am2] (bv true)
theorem opened (hf : Contract) (H : Type) (enc : TypeId × Value → H) (W : World) (base : Nat) (args : Array Value) (ds : List (DataW H)) (p : List MemPlace)
    (hval : ∀ (j : Nat) t v, Tryd.f7.params[j]? = some t → args[j]? = some v → Value.okWide Tryd.prog W .any base t v)
    (hA : DataW.TrodAll enc Tryd.prog W 0 (fun _ => true) true Tryd.f7.params.toList args.toList ds p) :
    ∃ avs : List AV, FnC Tryd.prog 7 avs (bv true) ∧ args.size = avs.length ∧ ∀ (i : Nat) (x : AV) (v : Value), avs[i]? = some x → args[i]? = some v → ArgOK W x v := by
  rw [Tryd.params7] at hA hval
  obtain ⟨v0, vs0, d0, ds0, p0, q0, hargs, rfl, rfl, h0, r0⟩ := trodAll_cons hA
  obtain ⟨v1, vs1, d1, ds1, p1, q1, hvs1, rfl, rfl, h1, r1⟩ := trodAll_cons r0
  obtain ⟨v2, vs2, d2, ds2, p2, q2, hvs2, rfl, rfl, h2, r2⟩ := trodAll_cons r1
  obtain ⟨hend, rfl, rfl⟩ := trodAll_nil r2
  obtain rfl : args = #[v0, v1, v2] := by cases args; simp_all
  obtain ⟨cs0, e0, _⟩ := okWide_struct Tryd.underlying51 (hval 0 51 v0 rfl rfl)
  obtain ⟨pv0, ⟨r0, rfl, hr0⟩, a0⟩ := arg_agg o_rule e0 h0
  obtain ⟨pv1, ⟨ws1, j1, hw1⟩, a1⟩ := arg_one o_workers (one_slice Tryd.underlying52 (hval 1 52 v1 rfl rfl)) h1
  cases j1
  obtain ⟨cs2, e2, _⟩ := okWide_struct Tryd.underlying54 (hval 2 54 v2 rfl rfl)
  obtain ⟨pv2, ⟨vs2, am2, rfl, hv2, ham2⟩, a2⟩ := arg_agg o_till e2 h2
  refine ⟨[ruleAV r0, workersAV ws1, tillAV vs2 am2], hf r0 ws1 vs2 am2 hr0 hw1 hv2 ham2, rfl, fun i x v hx hv => ?_⟩
  match i with
  | 0 => cases hx; cases hv; exact a0
  | 1 => cases hx; cases hv; exact a1
  | 2 => cases hx; cases hv; exact a2
  | i + 3 => simp at hx
theorem contract (hf : Contract) (H : Type) (enc : TypeId × Value → H) (W : World) (base : Nat) (args : Array Value) (ds gs : List (DataW H)) (before : List MemPlace)
    (hval : ∀ (j : Nat) t v, Tryd.f7.params[j]? = some t → args[j]? = some v → Value.okWide Tryd.prog W .any base t v)
    (hW : DataW.Whole enc Tryd.prog Tryd.f7.params.toList Rows.servicePaysSpec.vars false W args.toList ds gs before) (hL : Laid Tryd.prog (fun b _ => b < W.heap.size) W) :
    Calls Tryd.prog 7 args W fun e W' => ∃ v, e = .returned v ∧ Rows.servicePaysSpec.post enc Tryd.prog Tryd.f7 false true false false W args v W' :=
  law_contract (tb := 4) laidOut_is rfl rfl Tryd.underlying4
    (by rw [Tryd.params7]; intro t ht; simp only [List.mem_cons, List.not_mem_nil, or_false] at ht; rcases ht with rfl | rfl | rfl <;> exact ⟨by kernel_rfl, of_decide_eq_true (by kernel_rfl)⟩)
    (fun ds hd => by
      rw [Tryd.params7] at hd
      match ds, hd with
      | [d0, d1, d2], _ => rfl)
    (opened hf H enc) W base args ds gs before hval hW hL
theorem laid_met (os : Os) : laidMet Tryd.prog Rows.servicePaysRow.laid ((laidWorld os).forCall (fun _ _ => 0) ⟨#[], #[.agg #[.int .i64 0, .int .i64 0, .int .i64 0, .int .i64 0, .int .i64 0], .slice none 0 0, .agg #[.slice none 0 0, .slice none 0 0]], []⟩).memory :=
  laidMet_of_run' 8 (by kernel_rfl) (by kernel_rfl)
theorem reads (os : Os) {H : Type} (enc : TypeId × Value → H) : ∃ places, DataW.whole enc Tryd.prog ((laidWorld os).forCall (fun _ _ => 0) ⟨#[], #[.agg #[.int .i64 0, .int .i64 0, .int .i64 0, .int .i64 0, .int .i64 0], .slice none 0 0, .agg #[.slice none 0 0, .slice none 0 0]], []⟩).memory Tryd.f7.params.toList Rows.servicePaysSpec.vars false (#[.agg #[.int .i64 0, .int .i64 0, .int .i64 0, .int .i64 0, .int .i64 0], .slice none 0 0, .agg #[.slice none 0 0, .slice none 0 0]] : Array Value).toList 8 = some ([.agg [.lit (.int .i64 0), .lit (.int .i64 0), .lit (.int .i64 0), .lit (.int .i64 0), .lit (.int .i64 0)], .nil, .agg [.nil, .nil]], [], places) :=
  ⟨[], by kernel_rfl⟩
theorem lifted (hf : Contract) (os : Os) (started : os.Started) (H : Type) (enc : TypeId × Value → H) (F : Stop.Interp) :
    ReturnsInHanded {} Tryd.checked os 7 .any ((OpenSpec.ofChange Rows.servicePaysSpec).preRow enc Tryd.prog Tryd.f7 Rows.servicePaysRow.domain false Rows.servicePaysRow.laid) (((OpenSpec.ofChange Rows.servicePaysSpec).at F).post enc Tryd.prog Tryd.f7 false true false false) := by
  obtain ⟨places, hx⟩ := reads os enc
  refine returnsInHanded_of_row (C := Tryd.checked) (s := OpenSpec.ofChange Rows.servicePaysSpec) ownKnob_is started (by kernel_rfl) Tryd.func7
    (witness_row_at (enc := enc) (C := Tryd.checked) false (laidWorld os) #[.agg #[.int .i64 0, .int .i64 0, .int .i64 0, .int .i64 0, .int .i64 0], .slice none 0 0, .agg #[.slice none 0 0, .slice none 0 0]] rfl (by kernel_rfl) (by kernel_rfl) (by kernel_rfl)
      (OpenSpec.preRow_of_cond 8 hx (by kernel_rfl) (fun k hk => by cases hk) (by kernel_rfl) (laid_met os))) ?_
  intro W base args ds gs before hval hW c1 c2 c3 c4 c5 c6
  exact contract hf H enc W base args ds gs before hval hW (laid_ok (by decide +kernel) (by kernel_rfl) (by kernel_rfl) c4)
theorem said (hf : Contract) : Rows.ServicePaysSaid :=
  OpenClaim.holds_of_cond 7 Tryd.f7 rfl rfl rfl rfl rfl rfl rfl ⟨rfl, rfl, rfl, rfl, rfl⟩ rfl rfl rfl rfl rfl (by kernel_rfl) Tryd.func7 (by kernel_rfl)
    (of_decide_eq_true (by kernel_rfl)) (by unfold Func.isWrapper; first | (rw [if_pos (by decide +kernel)]; kernel_rfl) | (rw [if_neg (by decide +kernel)]; exact ⟨rfl, rfl⟩))
    (fun os started H enc _ F => by rw [OpenClaim.pre_eq_preRow]; exact lifted hf os started H enc F)
theorem plain (f : FuncId) (fn : Func) (hf : Tryd.pinned.checked.prog.funcNamed Rows.servicePaysRow.func = some f) (hfn : Tryd.pinned.checked.prog.funcs[f]? = some fn) :
    false = Tryd.pinned.checked.prog.looks [] ∧ ∀ (j : Nat) t, fn.params[j]? = some t → Tryd.pinned.checked.prog.wantsStandIn t = false := by
  obtain rfl : f = 7 := Option.some.inj ((show Tryd.prog.funcNamed Rows.servicePaysRow.func = some 7 by kernel_rfl).symm.trans hf) |>.symm
  obtain rfl : fn = Tryd.f7 := (Option.some.inj (Tryd.func7.symm.trans hfn)).symm
  refine ⟨by kernel_rfl, fun j t ht => ?_⟩
  rw [Tryd.params7] at ht
  have hm := Array.mem_of_getElem? ht
  simp at hm
  rcases hm with rfl | rfl | rfl
  · exact (show Tryd.prog.wantsStandIn 51 = false by kernel_rfl)
  · exact (show Tryd.prog.wantsStandIn 52 = false by kernel_rfl)
  · exact (show Tryd.prog.wantsStandIn 54 = false by kernel_rfl)
theorem card (hf : Contract) : Rows.ServicePaysCardSaid :=
  Claim7.holds_tied_plain_at .later [] _ _ _ _ (said hf) (fun _ h => by cases h) (by kernel_rfl) (fun _ h => by cases h) servicePays_row_tie rfl ⟨rfl, rfl⟩ (by kernel_rfl) rfl plain (by kernel_rfl)
end Go.Proofs.YtnpleednkmhhhaaDoor.servicePays
namespace Go.Proofs.YtnpleednkmhhhaaDoor
open Go Go.QL
theorem servicePays_true : Rows.ServicePaysCardSaid := servicePays.card fun r ws vs am _ _ _ _ => lpays_fn r ws vs am
end Go.Proofs.YtnpleednkmhhhaaDoor
