/- ServiceOnly: with what Find returns a table is smooth; no other table that differs in one value is. No condition. -/
import Derived.Test.YtnpleednkmhhhabDoorFServiceOnlyW0
import Derived.Test.YtnpleednkmhhhabDoorCd
set_option linter.all false
namespace Go.Proofs.YtnpleednkmhhhabDoor.serviceOnly
open Go Go.QL Go.ChangeShapes Go.WideShapes Go.ChangeAt Go.RowKit
set_option maxHeartbeats 1600000
set_option maxRecDepth 100000
attribute [local irreducible] ACall FnC
theorem wf_i32 {n : Int} (hw : (Lit.int .i32 n).wf = true) : -2147483648 ≤ n ∧ n < 2147483648 := by
  simp only [Lit.wf, Bool.and_eq_true, decide_eq_true_eq] at hw
  have h1 := hw.1
  have h2 := hw.2
  simp [IntKind.min, IntKind.max, IntKind.signed, IntKind.bits] at h1 h2
  omega
theorem o_i32 : Opens Tryd.prog 21 1 (fun pv => ∃ n, pv = [.v (.int .i32 n)] ∧ -2147483648 ≤ n ∧ n < 2147483648) := (opens_int Tryd.underlying21).mono fun pv ⟨n, h, hw⟩ => ⟨n, h, wf_i32 hw⟩
theorem o_a2i32 : Opens Tryd.prog 32 2 (fun pv => ∃ a b : Int, pv = [.v (.int .i32 a), .v (.int .i32 b)] ∧ (-2147483648 ≤ a ∧ a < 2147483648) ∧ (-2147483648 ≤ b ∧ b < 2147483648)) :=
  (opens_array Tryd.underlying32 (by kernel_rfl) (by kernel_rfl) o_i32).mono fun pv h => by
    obtain ⟨pa, qa, rfl, _, ⟨a, rfl, ha⟩, ⟨pb, qb, rfl, _, ⟨b, rfl, hb⟩, rfl⟩⟩ := h
    exact ⟨a, b, rfl, ha, hb⟩
def Contract : Prop := ∀ (xs0 : List Int) (k1 : Int) (ea2 eb2 : Int), (∀ x ∈ xs0, i64 x) → (i64 k1) → (-2147483648 ≤ ea2 ∧ ea2 < 2147483648) → (-2147483648 ≤ eb2 ∧ eb2 < 2147483648) → FnC Tryd.prog 4 [sl xs0, iv .i64 k1, a2AV .i32 ea2 eb2] (bv true)
theorem opened (hf : Contract) (H : Type) (enc : TypeId × Value → H) (W : World) (base : Nat) (args : Array Value) (ds : List (DataW H)) (p : List MemPlace)
    (hval : ∀ (j : Nat) t v, Tryd.f4.params[j]? = some t → args[j]? = some v → Value.okWide Tryd.prog W .any base t v)
    (hA : DataW.TrodAll enc Tryd.prog W 0 (fun _ => true) true Tryd.f4.params.toList args.toList ds p) :
    ∃ avs : List AV, FnC Tryd.prog 4 avs (bv true) ∧ args.size = avs.length ∧ ∀ (i : Nat) (x : AV) (v : Value), avs[i]? = some x → args[i]? = some v → ArgOK W x v := by
  rw [Tryd.params4] at hA hval
  obtain ⟨v0, vs0, d0, ds0, p0, q0, hargs, rfl, rfl, h0, r0⟩ := trodAll_cons hA
  obtain ⟨v1, vs1, d1, ds1, p1, q1, hvs1, rfl, rfl, h1, r1⟩ := trodAll_cons r0
  obtain ⟨v2, vs2, d2, ds2, p2, q2, hvs2, rfl, rfl, h2, r2⟩ := trodAll_cons r1
  obtain ⟨hend, rfl, rfl⟩ := trodAll_nil r2
  obtain rfl : args = #[v0, v1, v2] := by cases args; simp_all
  obtain ⟨pv0, ⟨xs0, j0, hx0⟩, a0⟩ := arg_one o_ints (one_slice Tryd.underlying22 (hval 0 22 v0 rfl rfl)) h0
  cases j0
  obtain ⟨pv1, ⟨k1, j1, hk1⟩, a1⟩ := arg_one o_int (one_int Tryd.underlying3 (hval 1 3 v1 rfl rfl)) h1
  cases j1
  obtain ⟨cs2, e2⟩ := okWide_array Tryd.underlying32 (hval 2 32 v2 rfl rfl)
  obtain ⟨pv2, ⟨ea2, eb2, rfl, ha2, hb2⟩, a2⟩ := arg_agg o_a2i32 e2 h2
  refine ⟨[sl xs0, iv .i64 k1, a2AV .i32 ea2 eb2], hf xs0 k1 ea2 eb2 hx0 hk1 ha2 hb2, rfl, fun i x v hx hv => ?_⟩
  match i with
  | 0 => cases hx; cases hv; exact a0
  | 1 => cases hx; cases hv; exact a1
  | 2 => cases hx; cases hv; exact a2
  | i + 3 => simp at hx
theorem contract (hf : Contract) (H : Type) (enc : TypeId × Value → H) (W : World) (base : Nat) (args : Array Value) (ds gs : List (DataW H)) (before : List MemPlace)
    (hval : ∀ (j : Nat) t v, Tryd.f4.params[j]? = some t → args[j]? = some v → Value.okWide Tryd.prog W .any base t v)
    (hW : DataW.Whole enc Tryd.prog Tryd.f4.params.toList Rows.serviceOnlySpec.vars false W args.toList ds gs before) (hL : Laid Tryd.prog (fun b _ => b < W.heap.size) W) :
    Calls Tryd.prog 4 args W fun e W' => ∃ v, e = .returned v ∧ Rows.serviceOnlySpec.post enc Tryd.prog Tryd.f4 false true false false W args v W' :=
  law_contract (tb := 4) laidOut_is rfl rfl Tryd.underlying4
    (by rw [Tryd.params4]; intro t ht; simp only [List.mem_cons, List.not_mem_nil, or_false] at ht; rcases ht with rfl | rfl | rfl <;> exact ⟨by kernel_rfl, of_decide_eq_true (by kernel_rfl)⟩)
    (fun ds hd => by
      rw [Tryd.params4] at hd
      match ds, hd with
      | [d0, d1, d2], _ => rfl)
    (opened hf H enc) W base args ds gs before hval hW hL
theorem laid_met (os : Os) : laidMet Tryd.prog Rows.serviceOnlyRow.laid ((laidWorld os).forCall (fun _ _ => 0) ⟨#[], #[.slice none 0 0, .int .i64 0, .agg #[.int .i32 0, .int .i32 0]], []⟩).memory :=
  laidMet_of_run' 8 (by kernel_rfl) (by kernel_rfl)
theorem reads (os : Os) {H : Type} (enc : TypeId × Value → H) : ∃ places, DataW.whole enc Tryd.prog ((laidWorld os).forCall (fun _ _ => 0) ⟨#[], #[.slice none 0 0, .int .i64 0, .agg #[.int .i32 0, .int .i32 0]], []⟩).memory Tryd.f4.params.toList Rows.serviceOnlySpec.vars false (#[.slice none 0 0, .int .i64 0, .agg #[.int .i32 0, .int .i32 0]] : Array Value).toList 8 = some ([.nil, .lit (.int .i64 0), .agg [.lit (.int .i32 0), .lit (.int .i32 0)]], [], places) :=
  ⟨[], by kernel_rfl⟩
theorem lifted (hf : Contract) (os : Os) (started : os.Started) (H : Type) (enc : TypeId × Value → H) (F : Stop.Interp) :
    ReturnsInHanded {} Tryd.checked os 4 .any ((OpenSpec.ofChange Rows.serviceOnlySpec).preRow enc Tryd.prog Tryd.f4 Rows.serviceOnlyRow.domain false Rows.serviceOnlyRow.laid) (((OpenSpec.ofChange Rows.serviceOnlySpec).at F).post enc Tryd.prog Tryd.f4 false true false false) := by
  obtain ⟨places, hx⟩ := reads os enc
  refine returnsInHanded_of_row (C := Tryd.checked) (s := OpenSpec.ofChange Rows.serviceOnlySpec) ownKnob_is started (by kernel_rfl) Tryd.func4
    (witness_row_at (enc := enc) (C := Tryd.checked) false (laidWorld os) #[.slice none 0 0, .int .i64 0, .agg #[.int .i32 0, .int .i32 0]] rfl (by kernel_rfl) (by kernel_rfl) (by kernel_rfl)
      (OpenSpec.preRow_of_cond 8 hx (by kernel_rfl) (fun k hk => by cases hk) (by kernel_rfl) (laid_met os))) ?_
  intro W base args ds gs before hval hW c1 c2 c3 c4 c5 c6
  exact contract hf H enc W base args ds gs before hval hW (laid_ok (by decide +kernel) (by kernel_rfl) (by kernel_rfl) c4)
theorem said (hf : Contract) : Rows.ServiceOnlySaid :=
  OpenClaim.holds_of_cond 4 Tryd.f4 rfl rfl rfl rfl rfl rfl rfl ⟨rfl, rfl, rfl, rfl, rfl⟩ rfl rfl rfl rfl rfl (by kernel_rfl) Tryd.func4 (by kernel_rfl)
    (of_decide_eq_true (by kernel_rfl)) (by unfold Func.isWrapper; first | (rw [if_pos (by decide +kernel)]; kernel_rfl) | (rw [if_neg (by decide +kernel)]; exact ⟨rfl, rfl⟩))
    (fun os started H enc _ F => by rw [OpenClaim.pre_eq_preRow]; exact lifted hf os started H enc F)
theorem plain (f : FuncId) (fn : Func) (hf : Tryd.pinned.checked.prog.funcNamed Rows.serviceOnlyRow.func = some f) (hfn : Tryd.pinned.checked.prog.funcs[f]? = some fn) :
    false = Tryd.pinned.checked.prog.looks [] ∧ ∀ (j : Nat) t, fn.params[j]? = some t → Tryd.pinned.checked.prog.wantsStandIn t = false := by
  obtain rfl : f = 4 := Option.some.inj ((show Tryd.prog.funcNamed Rows.serviceOnlyRow.func = some 4 by kernel_rfl).symm.trans hf) |>.symm
  obtain rfl : fn = Tryd.f4 := (Option.some.inj (Tryd.func4.symm.trans hfn)).symm
  refine ⟨by kernel_rfl, fun j t ht => ?_⟩
  rw [Tryd.params4] at ht
  have hm := Array.mem_of_getElem? ht
  simp at hm
  rcases hm with rfl | rfl | rfl
  · exact (show Tryd.prog.wantsStandIn 22 = false by kernel_rfl)
  · exact (show Tryd.prog.wantsStandIn 3 = false by kernel_rfl)
  · exact (show Tryd.prog.wantsStandIn 32 = false by kernel_rfl)
theorem card (hf : Contract) : Rows.ServiceOnlyCardSaid :=
  Claim7.holds_tied_plain_at .later [] _ _ _ _ (said hf) (fun _ h => by cases h) (by kernel_rfl) (fun _ h => by cases h) serviceOnly_row_tie rfl ⟨rfl, rfl⟩ (by kernel_rfl) rfl plain (by kernel_rfl)
end Go.Proofs.YtnpleednkmhhhabDoor.serviceOnly
namespace Go.Proofs.YtnpleednkmhhhabDoor
open Go Go.QL
theorem serviceOnly_true : Rows.ServiceOnlyCardSaid := serviceOnly.card fun xs k a b _ _ ha hb => lonly_fn xs k a b ha hb
end Go.Proofs.YtnpleednkmhhhabDoor
