/- ServiceExact: the solution solves each equation exactly, and Solve returns ErrZero just if the determinant of the rows is 0, for any system. No condition. -/
import Derived.Test.YtnpleednkmhhhaaDoorFServiceExactW0
import Derived.Test.YtnpleednkmhhhaaDoorCd
set_option linter.all false
namespace Go.Proofs.YtnpleednkmhhhaaDoor.serviceExact
open Go Go.QL Go.ChangeShapes Go.WideShapes Go.ChangeAt Go.RowKit
set_option maxHeartbeats 1600000
set_option maxRecDepth 100000
attribute [local irreducible] ACall FnC
theorem o_rows : Opens Tryd.prog 22 1 (fun pv => ∃ ts : List (List Int), pv = [.s 1 (ts.map fun r => [intsPV r])] ∧ ∀ t ∈ ts, ∀ x ∈ t, i64 x) :=
  (opens_slice Tryd.underlying22 (by kernel_rfl) (by decide) o_ints).mono fun pv ⟨xs, h, hx⟩ => by
    obtain ⟨l, rfl, hl⟩ := list_map (F := fun r : List Int => [intsPV r]) hx
    exact ⟨l, h, hl⟩
theorem o_sys : Opens Tryd.prog 25 2 (fun pv => ∃ s : SysT, pv = [.s 1 (s.rows.map fun r => [intsPV r]), intsPV s.right] ∧ (∀ r ∈ s.rows, ∀ x ∈ r, i64 x) ∧ ∀ x ∈ s.right, i64 x) :=
  (opens_struct [(1, _), (1, _)] Tryd.underlying25 (by kernel_rfl) rfl ⟨rfl, by kernel_rfl, o_rows, rfl, by kernel_rfl, o_ints, trivial⟩).mono fun pv h => by
    obtain ⟨pa0, pb0, rfl, _, ⟨x, rfl, hx⟩, ⟨pa1, pb1, rfl, _, ⟨y, rfl, hy⟩, rfl⟩⟩ := h
    exact ⟨⟨x, y⟩, rfl, hx, hy⟩
def Contract : Prop := ∀ (s0 : SysT), (∀ r ∈ s0.rows, ∀ x ∈ r, i64 x) → (∀ x ∈ s0.right, i64 x) → FnC Tryd.prog 8 [sysAV s0] (bv true)
theorem opened (hf : Contract) (H : Type) (enc : TypeId × Value → H) (W : World) (base : Nat) (args : Array Value) (ds : List (DataW H)) (p : List MemPlace)
    (hval : ∀ (j : Nat) t v, Tryd.f8.params[j]? = some t → args[j]? = some v → Value.okWide Tryd.prog W .any base t v)
    (hA : DataW.TrodAll enc Tryd.prog W 0 (fun _ => true) true Tryd.f8.params.toList args.toList ds p) :
    ∃ avs : List AV, FnC Tryd.prog 8 avs (bv true) ∧ args.size = avs.length ∧ ∀ (i : Nat) (x : AV) (v : Value), avs[i]? = some x → args[i]? = some v → ArgOK W x v := by
  rw [Tryd.params8] at hA hval
  obtain ⟨v0, vs0, d0, ds0, p0, q0, hargs, rfl, rfl, h0, r0⟩ := trodAll_cons hA
  obtain ⟨hend, rfl, rfl⟩ := trodAll_nil r0
  obtain rfl : args = #[v0] := by cases args; simp_all
  obtain ⟨cs0, e0, _⟩ := okWide_struct Tryd.underlying25 (hval 0 25 v0 rfl rfl)
  obtain ⟨pv0, ⟨s0, rfl, hr0, hq0⟩, a0⟩ := arg_agg o_sys e0 h0
  refine ⟨[sysAV s0], hf s0 hr0 hq0, rfl, fun i x v hx hv => ?_⟩
  match i with
  | 0 => cases hx; cases hv; exact a0
  | i + 1 => simp at hx
theorem contract (hf : Contract) (H : Type) (enc : TypeId × Value → H) (W : World) (base : Nat) (args : Array Value) (ds gs : List (DataW H)) (before : List MemPlace)
    (hval : ∀ (j : Nat) t v, Tryd.f8.params[j]? = some t → args[j]? = some v → Value.okWide Tryd.prog W .any base t v)
    (hW : DataW.Whole enc Tryd.prog Tryd.f8.params.toList Rows.serviceExactSpec.vars false W args.toList ds gs before) (hL : Laid Tryd.prog (fun b _ => b < W.heap.size) W) :
    Calls Tryd.prog 8 args W fun e W' => ∃ v, e = .returned v ∧ Rows.serviceExactSpec.post enc Tryd.prog Tryd.f8 false true false false W args v W' :=
  law_contract (tb := 4) laidOut_is rfl rfl Tryd.underlying4
    (by rw [Tryd.params8]; intro t ht; simp only [List.mem_cons, List.not_mem_nil, or_false] at ht; subst ht; exact ⟨by kernel_rfl, of_decide_eq_true (by kernel_rfl)⟩)
    (fun ds hd => by
      rw [Tryd.params8] at hd
      match ds, hd with
      | [d0], _ => rfl)
    (opened hf H enc) W base args ds gs before hval hW hL
theorem laid_met (os : Os) : laidMet Tryd.prog Rows.serviceExactRow.laid ((laidWorld os).forCall (fun _ _ => 0) ⟨#[], #[.agg #[.slice none 0 0, .slice none 0 0]], []⟩).memory :=
  laidMet_of_run' 8 (by kernel_rfl) (by kernel_rfl)
theorem reads (os : Os) {H : Type} (enc : TypeId × Value → H) : ∃ places, DataW.whole enc Tryd.prog ((laidWorld os).forCall (fun _ _ => 0) ⟨#[], #[.agg #[.slice none 0 0, .slice none 0 0]], []⟩).memory Tryd.f8.params.toList Rows.serviceExactSpec.vars false (#[.agg #[.slice none 0 0, .slice none 0 0]] : Array Value).toList 8 = some ([.agg [.nil, .nil]], [], places) :=
  ⟨[], by kernel_rfl⟩
theorem lifted (hf : Contract) (os : Os) (started : os.Started) (H : Type) (enc : TypeId × Value → H) (F : Stop.Interp) :
    ReturnsInHanded {} Tryd.checked os 8 .any ((OpenSpec.ofChange Rows.serviceExactSpec).preRow enc Tryd.prog Tryd.f8 Rows.serviceExactRow.domain false Rows.serviceExactRow.laid) (((OpenSpec.ofChange Rows.serviceExactSpec).at F).post enc Tryd.prog Tryd.f8 false true false false) := by
  obtain ⟨places, hx⟩ := reads os enc
  refine returnsInHanded_of_row (C := Tryd.checked) (s := OpenSpec.ofChange Rows.serviceExactSpec) ownKnob_is started (by kernel_rfl) Tryd.func8
    (witness_row_at (enc := enc) (C := Tryd.checked) false (laidWorld os) #[.agg #[.slice none 0 0, .slice none 0 0]] rfl (by kernel_rfl) (by kernel_rfl) (by kernel_rfl)
      (OpenSpec.preRow_of_cond 8 hx (by kernel_rfl) (fun k hk => by cases hk) (by kernel_rfl) (laid_met os))) ?_
  intro W base args ds gs before hval hW c1 c2 c3 c4 c5 c6
  exact contract hf H enc W base args ds gs before hval hW (laid_ok (by decide +kernel) (by kernel_rfl) (by kernel_rfl) c4)
theorem said (hf : Contract) : Rows.ServiceExactSaid :=
  OpenClaim.holds_of_cond 8 Tryd.f8 rfl rfl rfl rfl rfl rfl rfl ⟨rfl, rfl, rfl, rfl, rfl⟩ rfl rfl rfl rfl rfl (by kernel_rfl) Tryd.func8 (by kernel_rfl)
    (of_decide_eq_true (by kernel_rfl)) (by unfold Func.isWrapper; first | (rw [if_pos (by decide +kernel)]; kernel_rfl) | (rw [if_neg (by decide +kernel)]; exact ⟨rfl, rfl⟩))
    (fun os started H enc _ F => by rw [OpenClaim.pre_eq_preRow]; exact lifted hf os started H enc F)
theorem plain (f : FuncId) (fn : Func) (hf : Tryd.pinned.checked.prog.funcNamed Rows.serviceExactRow.func = some f) (hfn : Tryd.pinned.checked.prog.funcs[f]? = some fn) :
    false = Tryd.pinned.checked.prog.looks [] ∧ ∀ (j : Nat) t, fn.params[j]? = some t → Tryd.pinned.checked.prog.wantsStandIn t = false := by
  obtain rfl : f = 8 := Option.some.inj ((show Tryd.prog.funcNamed Rows.serviceExactRow.func = some 8 by kernel_rfl).symm.trans hf) |>.symm
  obtain rfl : fn = Tryd.f8 := (Option.some.inj (Tryd.func8.symm.trans hfn)).symm
  refine ⟨by kernel_rfl, fun j t ht => ?_⟩
  rw [Tryd.params8] at ht
  have hm := Array.mem_of_getElem? ht
  simp at hm
  subst hm
  exact (show Tryd.prog.wantsStandIn 25 = false by kernel_rfl)
theorem card (hf : Contract) : Rows.ServiceExactCardSaid :=
  Claim7.holds_tied_plain_at .later [] _ _ _ _ (said hf) (fun _ h => by cases h) (by kernel_rfl) (fun _ h => by cases h) serviceExact_row_tie rfl ⟨rfl, rfl⟩ (by kernel_rfl) rfl plain (by kernel_rfl)
end Go.Proofs.YtnpleednkmhhhaaDoor.serviceExact
namespace Go.Proofs.YtnpleednkmhhhaaDoor
open Go Go.QL
theorem serviceExact_true : Rows.ServiceExactCardSaid := serviceExact.card fun s _ _ => lexact_fn s
end Go.Proofs.YtnpleednkmhhhaaDoor
