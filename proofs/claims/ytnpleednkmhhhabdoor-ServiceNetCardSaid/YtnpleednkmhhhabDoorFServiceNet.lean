/- ServiceNet: Gross is Tax, Stamp and Net together; with more Minutes or a greater Rate, Net is not less. No condition. -/
import Derived.Test.YtnpleednkmhhhabDoorFServiceNetW0
import Derived.Test.YtnpleednkmhhhabDoorCd
set_option linter.all false
namespace Go.Proofs.YtnpleednkmhhhabDoor.serviceNet
open Go Go.QL Go.ChangeShapes Go.WideShapes Go.ChangeAt Go.RowKit
set_option maxHeartbeats 1600000
set_option maxRecDepth 100000
attribute [local irreducible] ACall FnC
theorem o_rule : Opens Tryd.prog 37 5 (fun pv => ∃ r : RuleT, pv = [.v (.int .i64 r.normal), .v (.int .i64 r.extra), .v (.int .i64 r.free), .v (.int .i64 r.tax), .v (.int .i64 r.stamp)] ∧ ruleI r) :=
  (opens_struct [(1, _), (1, _), (1, _), (1, _), (1, _)] Tryd.underlying37 (by kernel_rfl) rfl ⟨rfl, by kernel_rfl, o_int, rfl, by kernel_rfl, o_int, rfl, by kernel_rfl, o_int, rfl, by kernel_rfl, o_int, rfl, by kernel_rfl, o_int, trivial⟩).mono fun pv h => by
    obtain ⟨pa0, pb0, rfl, _, ⟨x, rfl, hx⟩, ⟨pa1, pb1, rfl, _, ⟨y, rfl, hy⟩, ⟨pa2, pb2, rfl, _, ⟨z, rfl, hz⟩, ⟨pa3, pb3, rfl, _, ⟨u, rfl, hu⟩, ⟨pa4, pb4, rfl, _, ⟨v, rfl, hv⟩, rfl⟩⟩⟩⟩⟩ := h
    exact ⟨⟨x, y, z, u, v⟩, rfl, hx, hy, hz, hu, hv⟩
theorem o_worker : Opens Tryd.prog 45 2 (fun pv => ∃ w : WorkerT, pv = workerPV w ∧ i64 w.minutes ∧ i64 w.rate) :=
  (opens_struct [(1, _), (1, _)] Tryd.underlying45 (by kernel_rfl) rfl ⟨rfl, by kernel_rfl, o_int, rfl, by kernel_rfl, o_int, trivial⟩).mono fun pv h => by
    obtain ⟨pa0, pb0, rfl, _, ⟨x, rfl, hx⟩, ⟨pa1, pb1, rfl, _, ⟨y, rfl, hy⟩, rfl⟩⟩ := h
    exact ⟨⟨x, y⟩, rfl, hx, hy⟩
theorem o_workers : Opens Tryd.prog 38 1 (fun pv => ∃ ws : List WorkerT, pv = [.s 2 (ws.map workerPV)] ∧ ∀ w ∈ ws, i64 w.minutes ∧ i64 w.rate) :=
  (opens_slice Tryd.underlying38 (by kernel_rfl) (by decide) o_worker).mono fun pv ⟨xs, h, hx⟩ => by
    obtain ⟨l, rfl, hl⟩ := list_map (F := workerPV) hx
    exact ⟨l, h, hl⟩
theorem wf_u16 {n : Int} (hw : (Lit.int .u16 n).wf = true) : 0 ≤ n ∧ n < 65536 := by
  simp only [Lit.wf, Bool.and_eq_true, decide_eq_true_eq] at hw
  have h1 := hw.1
  have h2 := hw.2
  simp [IntKind.min, IntKind.max, IntKind.signed, IntKind.bits] at h1 h2
  omega
theorem o_u16 : Opens Tryd.prog 39 1 (fun pv => ∃ n, pv = [.v (.int .u16 n)] ∧ 0 ≤ n ∧ n < 65536) := (opens_int Tryd.underlying39).mono fun pv ⟨n, h, hw⟩ => ⟨n, h, wf_u16 hw⟩
theorem o_a2u16 : Opens Tryd.prog 40 2 (fun pv => ∃ a b : Int, pv = [.v (.int .u16 a), .v (.int .u16 b)] ∧ (0 ≤ a ∧ a < 65536) ∧ (0 ≤ b ∧ b < 65536)) :=
  (opens_array Tryd.underlying40 (by kernel_rfl) (by kernel_rfl) o_u16).mono fun pv h => by
    obtain ⟨pa, qa, rfl, _, ⟨a, rfl, ha⟩, ⟨pb, qb, rfl, _, ⟨b, rfl, hb⟩, rfl⟩⟩ := h
    exact ⟨a, b, rfl, ha, hb⟩
def Contract : Prop := ∀ (r0 : RuleT) (ws1 : List WorkerT) (ea2 eb2 : Int), (ruleI r0) → (∀ w ∈ ws1, i64 w.minutes ∧ i64 w.rate) → (0 ≤ ea2 ∧ ea2 < 65536) → (0 ≤ eb2 ∧ eb2 < 65536) → FnC Tryd.prog 5 [ruleAV r0, workersAV ws1, a2AV .u16 ea2 eb2] (bv true)
theorem opened (hf : Contract) (H : Type) (enc : TypeId × Value → H) (W : World) (base : Nat) (args : Array Value) (ds : List (DataW H)) (p : List MemPlace)
    (hval : ∀ (j : Nat) t v, Tryd.f5.params[j]? = some t → args[j]? = some v → Value.okWide Tryd.prog W .any base t v)
    (hA : DataW.TrodAll enc Tryd.prog W 0 (fun _ => true) true Tryd.f5.params.toList args.toList ds p) :
    ∃ avs : List AV, FnC Tryd.prog 5 avs (bv true) ∧ args.size = avs.length ∧ ∀ (i : Nat) (x : AV) (v : Value), avs[i]? = some x → args[i]? = some v → ArgOK W x v := by
  rw [Tryd.params5] at hA hval
  obtain ⟨v0, vs0, d0, ds0, p0, q0, hargs, rfl, rfl, h0, r0⟩ := trodAll_cons hA
  obtain ⟨v1, vs1, d1, ds1, p1, q1, hvs1, rfl, rfl, h1, r1⟩ := trodAll_cons r0
  obtain ⟨v2, vs2, d2, ds2, p2, q2, hvs2, rfl, rfl, h2, r2⟩ := trodAll_cons r1
  obtain ⟨hend, rfl, rfl⟩ := trodAll_nil r2
  obtain rfl : args = #[v0, v1, v2] := by cases args; simp_all
  obtain ⟨cs0, e0, _⟩ := okWide_struct Tryd.underlying37 (hval 0 37 v0 rfl rfl)
  obtain ⟨pv0, ⟨r0, rfl, hr0⟩, a0⟩ := arg_agg o_rule e0 h0
  obtain ⟨pv1, ⟨ws1, j1, hw1⟩, a1⟩ := arg_one o_workers (one_slice Tryd.underlying38 (hval 1 38 v1 rfl rfl)) h1
  cases j1
  obtain ⟨cs2, e2⟩ := okWide_array Tryd.underlying40 (hval 2 40 v2 rfl rfl)
  obtain ⟨pv2, ⟨ea2, eb2, rfl, ha2, hb2⟩, a2⟩ := arg_agg o_a2u16 e2 h2
  refine ⟨[ruleAV r0, workersAV ws1, a2AV .u16 ea2 eb2], hf r0 ws1 ea2 eb2 hr0 hw1 ha2 hb2, rfl, fun i x v hx hv => ?_⟩
  match i with
  | 0 => cases hx; cases hv; exact a0
  | 1 => cases hx; cases hv; exact a1
  | 2 => cases hx; cases hv; exact a2
  | i + 3 => simp at hx
theorem contract (hf : Contract) (H : Type) (enc : TypeId × Value → H) (W : World) (base : Nat) (args : Array Value) (ds gs : List (DataW H)) (before : List MemPlace)
    (hval : ∀ (j : Nat) t v, Tryd.f5.params[j]? = some t → args[j]? = some v → Value.okWide Tryd.prog W .any base t v)
    (hW : DataW.Whole enc Tryd.prog Tryd.f5.params.toList Rows.serviceNetSpec.vars false W args.toList ds gs before) (hL : Laid Tryd.prog (fun b _ => b < W.heap.size) W) :
    Calls Tryd.prog 5 args W fun e W' => ∃ v, e = .returned v ∧ Rows.serviceNetSpec.post enc Tryd.prog Tryd.f5 false true false false W args v W' :=
  law_contract (tb := 4) laidOut_is rfl rfl Tryd.underlying4
    (by rw [Tryd.params5]; intro t ht; simp only [List.mem_cons, List.not_mem_nil, or_false] at ht; rcases ht with rfl | rfl | rfl <;> exact ⟨by kernel_rfl, of_decide_eq_true (by kernel_rfl)⟩)
    (fun ds hd => by
      rw [Tryd.params5] at hd
      match ds, hd with
      | [d0, d1, d2], _ => rfl)
    (opened hf H enc) W base args ds gs before hval hW hL
theorem laid_met (os : Os) : laidMet Tryd.prog Rows.serviceNetRow.laid ((laidWorld os).forCall (fun _ _ => 0) ⟨#[], #[.agg #[.int .i64 0, .int .i64 0, .int .i64 0, .int .i64 0, .int .i64 0], .slice none 0 0, .agg #[.int .u16 0, .int .u16 0]], []⟩).memory :=
  laidMet_of_run' 8 (by kernel_rfl) (by kernel_rfl)
theorem reads (os : Os) {H : Type} (enc : TypeId × Value → H) : ∃ places, DataW.whole enc Tryd.prog ((laidWorld os).forCall (fun _ _ => 0) ⟨#[], #[.agg #[.int .i64 0, .int .i64 0, .int .i64 0, .int .i64 0, .int .i64 0], .slice none 0 0, .agg #[.int .u16 0, .int .u16 0]], []⟩).memory Tryd.f5.params.toList Rows.serviceNetSpec.vars false (#[.agg #[.int .i64 0, .int .i64 0, .int .i64 0, .int .i64 0, .int .i64 0], .slice none 0 0, .agg #[.int .u16 0, .int .u16 0]] : Array Value).toList 8 = some ([.agg [.lit (.int .i64 0), .lit (.int .i64 0), .lit (.int .i64 0), .lit (.int .i64 0), .lit (.int .i64 0)], .nil, .agg [.lit (.int .u16 0), .lit (.int .u16 0)]], [], places) :=
  ⟨[], by kernel_rfl⟩
theorem lifted (hf : Contract) (os : Os) (started : os.Started) (H : Type) (enc : TypeId × Value → H) (F : Stop.Interp) :
    ReturnsInHanded {} Tryd.checked os 5 .any ((OpenSpec.ofChange Rows.serviceNetSpec).preRow enc Tryd.prog Tryd.f5 Rows.serviceNetRow.domain false Rows.serviceNetRow.laid) (((OpenSpec.ofChange Rows.serviceNetSpec).at F).post enc Tryd.prog Tryd.f5 false true false false) := by
  obtain ⟨places, hx⟩ := reads os enc
  refine returnsInHanded_of_row (C := Tryd.checked) (s := OpenSpec.ofChange Rows.serviceNetSpec) ownKnob_is started (by kernel_rfl) Tryd.func5
    (witness_row_at (enc := enc) (C := Tryd.checked) false (laidWorld os) #[.agg #[.int .i64 0, .int .i64 0, .int .i64 0, .int .i64 0, .int .i64 0], .slice none 0 0, .agg #[.int .u16 0, .int .u16 0]] rfl (by kernel_rfl) (by kernel_rfl) (by kernel_rfl)
      (OpenSpec.preRow_of_cond 8 hx (by kernel_rfl) (fun k hk => by cases hk) (by kernel_rfl) (laid_met os))) ?_
  intro W base args ds gs before hval hW c1 c2 c3 c4 c5 c6
  exact contract hf H enc W base args ds gs before hval hW (laid_ok (by decide +kernel) (by kernel_rfl) (by kernel_rfl) c4)
theorem said (hf : Contract) : Rows.ServiceNetSaid :=
  OpenClaim.holds_of_cond 5 Tryd.f5 rfl rfl rfl rfl rfl rfl rfl ⟨rfl, rfl, rfl, rfl, rfl⟩ rfl rfl rfl rfl rfl (by kernel_rfl) Tryd.func5 (by kernel_rfl)
    (of_decide_eq_true (by kernel_rfl)) (by unfold Func.isWrapper; first | (rw [if_pos (by decide +kernel)]; kernel_rfl) | (rw [if_neg (by decide +kernel)]; exact ⟨rfl, rfl⟩))
    (fun os started H enc _ F => by rw [OpenClaim.pre_eq_preRow]; exact lifted hf os started H enc F)
theorem plain (f : FuncId) (fn : Func) (hf : Tryd.pinned.checked.prog.funcNamed Rows.serviceNetRow.func = some f) (hfn : Tryd.pinned.checked.prog.funcs[f]? = some fn) :
    false = Tryd.pinned.checked.prog.looks [] ∧ ∀ (j : Nat) t, fn.params[j]? = some t → Tryd.pinned.checked.prog.wantsStandIn t = false := by
  obtain rfl : f = 5 := Option.some.inj ((show Tryd.prog.funcNamed Rows.serviceNetRow.func = some 5 by kernel_rfl).symm.trans hf) |>.symm
  obtain rfl : fn = Tryd.f5 := (Option.some.inj (Tryd.func5.symm.trans hfn)).symm
  refine ⟨by kernel_rfl, fun j t ht => ?_⟩
  rw [Tryd.params5] at ht
  have hm := Array.mem_of_getElem? ht
  simp at hm
  rcases hm with rfl | rfl | rfl
  · exact (show Tryd.prog.wantsStandIn 37 = false by kernel_rfl)
  · exact (show Tryd.prog.wantsStandIn 38 = false by kernel_rfl)
  · exact (show Tryd.prog.wantsStandIn 40 = false by kernel_rfl)
theorem card (hf : Contract) : Rows.ServiceNetCardSaid :=
  Claim7.holds_tied_plain_at .later [] _ _ _ _ (said hf) (fun _ h => by cases h) (by kernel_rfl) (fun _ h => by cases h) serviceNet_row_tie rfl ⟨rfl, rfl⟩ (by kernel_rfl) rfl plain (by kernel_rfl)
end Go.Proofs.YtnpleednkmhhhabDoor.serviceNet
namespace Go.Proofs.YtnpleednkmhhhabDoor
open Go Go.QL
theorem serviceNet_true : Rows.ServiceNetCardSaid := serviceNet.card fun r ws a b _ _ ha hb => lnet_fn r ws a b ha hb
end Go.Proofs.YtnpleednkmhhhabDoor
