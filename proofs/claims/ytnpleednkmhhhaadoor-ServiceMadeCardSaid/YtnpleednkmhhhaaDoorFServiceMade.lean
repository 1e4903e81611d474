/- ServiceMade: a system that is made from whole numbers as its solution has these, unless it is ErrZero, for any rows and numbers. No condition. -/
import Derived.Test.YtnpleednkmhhhaaDoorFServiceMadeW0
import Derived.Test.YtnpleednkmhhhaaDoorCd
set_option linter.all false
namespace Go.Proofs.YtnpleednkmhhhaaDoor.serviceMade
open Go Go.QL Go.ChangeShapes Go.WideShapes Go.ChangeAt Go.RowKit
set_option maxHeartbeats 1600000
set_option maxRecDepth 100000
attribute [local irreducible] ACall FnC
theorem o_rows : Opens Tryd.prog 22 1 (fun pv => ∃ ts : List (List Int), pv = [.s 1 (ts.map fun r => [intsPV r])] ∧ ∀ t ∈ ts, ∀ x ∈ t, i64 x) :=
  (opens_slice Tryd.underlying22 (by kernel_rfl) (by decide) o_ints).mono fun pv ⟨xs, h, hx⟩ => by
    obtain ⟨l, rfl, hl⟩ := list_map (F := fun r : List Int => [intsPV r]) hx
    exact ⟨l, h, hl⟩
theorem o_sys : Opens Tryd.prog 25 2 (fun pv => ∃ s : SysT, pv = [.s 1 (s.rows.map fun r => [intsPV r]), intsPV s.right] ∧ (∀ r ∈ s.rows, ∀ x ∈ r, i64 x) ∧ ∀ x ∈ s.right, i64 x) :=
  (opens_struct [(1, _), (1, _)] Tryd.underlying25 (by kernel_rfl) rfl ⟨rfl, by kernel_rfl, o_rows, rfl, by kernel_rfl, o_ints, trivial⟩).mono fun pv h => by
    obtain ⟨pa0, pb0, rfl, _, ⟨x, rfl, hx⟩, ⟨pa1, pb1, rfl, _, ⟨y, rfl, hy⟩, rfl⟩⟩ := h
    exact ⟨⟨x, y⟩, rfl, hx, hy⟩
theorem wf_i8 {n : Int} (hw : (Lit.int .i8 n).wf = true) : -128 ≤ n ∧ n < 128 := by
  simp only [Lit.wf, Bool.and_eq_true, decide_eq_true_eq] at hw
  have h1 := hw.1
  have h2 := hw.2
  simp [IntKind.min, IntKind.max, IntKind.signed, IntKind.bits] at h1 h2
  omega
theorem o_i8 : Opens Tryd.prog 66 1 (fun pv => ∃ n, pv = [.v (.int .i8 n)] ∧ -128 ≤ n ∧ n < 128) := (opens_int Tryd.underlying66).mono fun pv ⟨n, h, hw⟩ => ⟨n, h, wf_i8 hw⟩
theorem o_i8s : Opens Tryd.prog 64 1 (fun pv => ∃ bs : List Int, pv = [.s 1 (bs.map fun n => [.v (.int .i8 n)])] ∧ ∀ x ∈ bs, -128 ≤ x ∧ x < 128) :=
  (opens_slice Tryd.underlying64 (by kernel_rfl) (by decide) o_i8).mono fun pv ⟨xs, h, hx⟩ => by
    obtain ⟨l, rfl, hl⟩ := list_map (F := fun n : Int => [PV.v (.int .i8 n)]) hx
    exact ⟨l, h, hl⟩
def Contract : Prop := ∀ (s0 : SysT) (bs1 : List Int), (∀ r ∈ s0.rows, ∀ x ∈ r, i64 x) → (∀ x ∈ s0.right, i64 x) → (∀ x ∈ bs1, -128 ≤ x ∧ x < 128) → FnC Tryd.prog 9 [sysAV s0, i8sAV bs1] (bv true)
theorem opened (hf : Contract) (H : Type) (enc : TypeId × Value → H) (W : World) (base : Nat) (args : Array Value) (ds : List (DataW H)) (p : List MemPlace)
    (hval : ∀ (j : Nat) t v, Tryd.f9.params[j]? = some t → args[j]? = some v → Value.okWide Tryd.prog W .any base t v)
    (hA : DataW.TrodAll enc Tryd.prog W 0 (fun _ => true) true Tryd.f9.params.toList args.toList ds p) :
    ∃ avs : List AV, FnC Tryd.prog 9 avs (bv true) ∧ args.size = avs.length ∧ ∀ (i : Nat) (x : AV) (v : Value), avs[i]? = some x → args[i]? = some v → ArgOK W x v := by
  rw [Tryd.params9] at hA hval
  obtain ⟨v0, vs0, d0, ds0, p0, q0, hargs, rfl, rfl, h0, r0⟩ := trodAll_cons hA
  obtain ⟨v1, vs1, d1, ds1, p1, q1, hvs1, rfl, rfl, h1, r1⟩ := trodAll_cons r0
  obtain ⟨hend, rfl, rfl⟩ := trodAll_nil r1
  obtain rfl : args = #[v0, v1] := by cases args; simp_all
  obtain ⟨cs0, e0, _⟩ := okWide_struct Tryd.underlying25 (hval 0 25 v0 rfl rfl)
  obtain ⟨pv0, ⟨s0, rfl, hr0, hq0⟩, a0⟩ := arg_agg o_sys e0 h0
  obtain ⟨pv1, ⟨bs1, j1, hb1⟩, a1⟩ := arg_one o_i8s (one_slice Tryd.underlying64 (hval 1 64 v1 rfl rfl)) h1
  cases j1
  refine ⟨[sysAV s0, i8sAV bs1], hf s0 bs1 hr0 hq0 hb1, rfl, fun i x v hx hv => ?_⟩
  match i with
  | 0 => cases hx; cases hv; exact a0
  | 1 => cases hx; cases hv; exact a1
  | i + 2 => simp at hx
theorem contract (hf : Contract) (H : Type) (enc : TypeId × Value → H) (W : World) (base : Nat) (args : Array Value) (ds gs : List (DataW H)) (before : List MemPlace)
    (hval : ∀ (j : Nat) t v, Tryd.f9.params[j]? = some t → args[j]? = some v → Value.okWide Tryd.prog W .any base t v)
    (hW : DataW.Whole enc Tryd.prog Tryd.f9.params.toList Rows.serviceMadeSpec.vars false W args.toList ds gs before) (hL : Laid Tryd.prog (fun b _ => b < W.heap.size) W) :
    Calls Tryd.prog 9 args W fun e W' => ∃ v, e = .returned v ∧ Rows.serviceMadeSpec.post enc Tryd.prog Tryd.f9 false true false false W args v W' :=
  law_contract (tb := 4) laidOut_is rfl rfl Tryd.underlying4
    (by rw [Tryd.params9]; intro t ht; simp only [List.mem_cons, List.not_mem_nil, or_false] at ht; rcases ht with rfl | rfl <;> exact ⟨by kernel_rfl, of_decide_eq_true (by kernel_rfl)⟩)
    (fun ds hd => by
      rw [Tryd.params9] at hd
      match ds, hd with
      | [d0, d1], _ => rfl)
    (opened hf H enc) W base args ds gs before hval hW hL
theorem laid_met (os : Os) : laidMet Tryd.prog Rows.serviceMadeRow.laid ((laidWorld os).forCall (fun _ _ => 0) ⟨#[], #[.agg #[.slice none 0 0, .slice none 0 0], .slice none 0 0], []⟩).memory :=
  laidMet_of_run' 8 (by kernel_rfl) (by kernel_rfl)
theorem reads (os : Os) {H : Type} (enc : TypeId × Value → H) : ∃ places, DataW.whole enc Tryd.prog ((laidWorld os).forCall (fun _ _ => 0) ⟨#[], #[.agg #[.slice none 0 0, .slice none 0 0], .slice none 0 0], []⟩).memory Tryd.f9.params.toList Rows.serviceMadeSpec.vars false (#[.agg #[.slice none 0 0, .slice none 0 0], .slice none 0 0] : Array Value).toList 8 = some ([.agg [.nil, .nil], .nil], [], places) :=
  ⟨[], by kernel_rfl⟩
theorem lifted (hf : Contract) (os : Os) (started : os.Started) (H : Type) (enc : TypeId × Value → H) (F : Stop.Interp) :
    ReturnsInHanded {} Tryd.checked os 9 .any ((OpenSpec.ofChange Rows.serviceMadeSpec).preRow enc Tryd.prog Tryd.f9 Rows.serviceMadeRow.domain false Rows.serviceMadeRow.laid) (((OpenSpec.ofChange Rows.serviceMadeSpec).at F).post enc Tryd.prog Tryd.f9 false true false false) := by
  obtain ⟨places, hx⟩ := reads os enc
  refine returnsInHanded_of_row (C := Tryd.checked) (s := OpenSpec.ofChange Rows.serviceMadeSpec) ownKnob_is started (by kernel_rfl) Tryd.func9
    (witness_row_at (enc := enc) (C := Tryd.checked) false (laidWorld os) #[.agg #[.slice none 0 0, .slice none 0 0], .slice none 0 0] rfl (by kernel_rfl) (by kernel_rfl) (by kernel_rfl)
      (OpenSpec.preRow_of_cond 8 hx (by kernel_rfl) (fun k hk => by cases hk) (by kernel_rfl) (laid_met os))) ?_
  intro W base args ds gs before hval hW c1 c2 c3 c4 c5 c6
  exact contract hf H enc W base args ds gs before hval hW (laid_ok (by decide +kernel) (by kernel_rfl) (by kernel_rfl) c4)
theorem said (hf : Contract) : Rows.ServiceMadeSaid :=
  OpenClaim.holds_of_cond 9 Tryd.f9 rfl rfl rfl rfl rfl rfl rfl ⟨rfl, rfl, rfl, rfl, rfl⟩ rfl rfl rfl rfl rfl (by kernel_rfl) Tryd.func9 (by kernel_rfl)
    (of_decide_eq_true (by kernel_rfl)) (by unfold Func.isWrapper; first | (rw [if_pos (by decide +kernel)]; kernel_rfl) | (rw [if_neg (by decide +kernel)]; exact ⟨rfl, rfl⟩))
    (fun os started H enc _ F => by rw [OpenClaim.pre_eq_preRow]; exact lifted hf os started H enc F)
theorem plain (f : FuncId) (fn : Func) (hf : Tryd.pinned.checked.prog.funcNamed Rows.serviceMadeRow.func = some f) (hfn : Tryd.pinned.checked.prog.funcs[f]? = some fn) :
    false = Tryd.pinned.checked.prog.looks [] ∧ ∀ (j : Nat) t, fn.params[j]? = some t → Tryd.pinned.checked.prog.wantsStandIn t = false := by
  obtain rfl : f = 9 := Option.some.inj ((show Tryd.prog.funcNamed Rows.serviceMadeRow.func = some 9 by kernel_rfl).symm.trans hf) |>.symm
  obtain rfl : fn = Tryd.f9 := (Option.some.inj (Tryd.func9.symm.trans hfn)).symm
  refine ⟨by kernel_rfl, fun j t ht => ?_⟩
  rw [Tryd.params9] at ht
  have hm := Array.mem_of_getElem? ht
  simp at hm
  rcases hm with rfl | rfl
  · exact (show Tryd.prog.wantsStandIn 25 = false by kernel_rfl)
  · exact (show Tryd.prog.wantsStandIn 64 = false by kernel_rfl)
theorem card (hf : Contract) : Rows.ServiceMadeCardSaid :=
  Claim7.holds_tied_plain_at .later [] _ _ _ _ (said hf) (fun _ h => by cases h) (by kernel_rfl) (fun _ h => by cases h) serviceMade_row_tie rfl ⟨rfl, rfl⟩ (by kernel_rfl) rfl plain (by kernel_rfl)
end Go.Proofs.YtnpleednkmhhhaaDoor.serviceMade
namespace Go.Proofs.YtnpleednkmhhhaaDoor
open Go Go.QL
theorem serviceMade_true : Rows.ServiceMadeCardSaid := serviceMade.card fun s bs h1 _ h3 => lmade_fn s bs h1 h3
end Go.Proofs.YtnpleednkmhhhaaDoor
