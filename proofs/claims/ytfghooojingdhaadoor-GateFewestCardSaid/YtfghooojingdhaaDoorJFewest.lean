/- GateFewest: the tests of Fewest find all that all tests find, no fewer do; those of Tell tell apart all that all tests do, no fewer do. No condition. -/
import Derived.Test.YtfghooojingdhaaDoorJFewestW0
import Derived.Test.YtfghooojingdhaaDoorCj
set_option linter.all false
namespace Go.Proofs.YtfghooojingdhaaDoor
open Go Go.QL Go.ChangeShapes Go.WideShapes Go.ChangeAt Go.RowKit
theorem wf_u8 {n : Int} (hw : (Lit.int .u8 n).wf = true) : 0 ≤ n ∧ n < 256 := by
  simp only [Lit.wf, Bool.and_eq_true, decide_eq_true_eq] at hw
  have h1 := hw.1
  have h2 := hw.2
  simp [IntKind.min, IntKind.max, IntKind.signed, IntKind.bits] at h1 h2
  omega
theorem wf_u16 {n : Int} (hw : (Lit.int .u16 n).wf = true) : 0 ≤ n ∧ n < 65536 := by
  simp only [Lit.wf, Bool.and_eq_true, decide_eq_true_eq] at hw
  have h1 := hw.1
  have h2 := hw.2
  simp [IntKind.min, IntKind.max, IntKind.signed, IntKind.bits] at h1 h2
  omega
theorem wf_u32 {n : Int} (hw : (Lit.int .u32 n).wf = true) : 0 ≤ n ∧ n < 4294967296 := by
  simp only [Lit.wf, Bool.and_eq_true, decide_eq_true_eq] at hw
  have h1 := hw.1
  have h2 := hw.2
  simp [IntKind.min, IntKind.max, IntKind.signed, IntKind.bits] at h1 h2
  omega
theorem o_u8 : Opens Tryd.prog 5 1 (fun pv => ∃ n, pv = [.v (.int .u8 n)] ∧ 0 ≤ n ∧ n < 256) := (opens_int Tryd.underlying5).mono fun pv ⟨n, h, hw⟩ => ⟨n, h, wf_u8 hw⟩
theorem o_u16 : Opens Tryd.prog 70 1 (fun pv => ∃ n, pv = [.v (.int .u16 n)] ∧ 0 ≤ n ∧ n < 65536) := (opens_int Tryd.underlying70).mono fun pv ⟨n, h, hw⟩ => ⟨n, h, wf_u16 hw⟩
theorem o_u32 : Opens Tryd.prog 40 1 (fun pv => ∃ n, pv = [.v (.int .u32 n)] ∧ 0 ≤ n ∧ n < 4294967296) := (opens_int Tryd.underlying40).mono fun pv ⟨n, h, hw⟩ => ⟨n, h, wf_u32 hw⟩
theorem o_bytes : Opens Tryd.prog 45 1 (fun pv => ∃ bs : List Int, pv = [.s 1 (bs.map fun n => [.v (.int .u8 n)])] ∧ ∀ x ∈ bs, 0 ≤ x ∧ x < 256) :=
  (opens_slice Tryd.underlying45 (by kernel_rfl) (by decide) o_u8).mono fun pv ⟨xs, h, hx⟩ => by
    obtain ⟨l, rfl, hl⟩ := list_map (F := fun n : Int => [PV.v (.int .u8 n)]) hx
    exact ⟨l, h, hl⟩
end Go.Proofs.YtfghooojingdhaaDoor
namespace Go.Proofs.YtfghooojingdhaaDoor
open Go Go.QL Go.ChangeShapes Go.WideShapes Go.ChangeAt Go.RowKit
set_option maxHeartbeats 800000
attribute [local irreducible] ACall FnC
theorem o_choice : Opens Tryd.prog 72 2 (fun pv => ∃ (ts : List (List Int)) (b : Int), pv = [.s 1 (ts.map fun r => [intsPV r]), .v (.int .u16 b)] ∧ (∀ t ∈ ts, ∀ x ∈ t, i64 x) ∧ 0 ≤ b ∧ b < 65536) :=
  (opens_struct [(1, _), (1, _)] Tryd.underlying72 (by kernel_rfl) rfl ⟨rfl, by kernel_rfl, o_rows, rfl, by kernel_rfl, o_u16, trivial⟩).mono fun pv h => by
    obtain ⟨a, b, rfl, _, ⟨x, rfl, hx⟩, c, d, rfl, _, ⟨y, rfl, hy⟩, rfl⟩ := h
    exact ⟨x, y, rfl, hx, hy⟩
end Go.Proofs.YtfghooojingdhaaDoor
namespace Go.Proofs.YtfghooojingdhaaDoor.gateFewest
open Go Go.QL Go.ChangeShapes Go.WideShapes Go.ChangeAt Go.RowKit
set_option maxHeartbeats 1600000
set_option maxRecDepth 100000
attribute [local irreducible] ACall FnC
def Contract : Prop := ∀ (n0 : NetT) (fs1 : List FaultT) (ts2 : List (List Int)) (b2 : Int), (i64 n0.inn) → (∀ t ∈ ts2, ∀ x ∈ t, i64 x) → (0 ≤ b2 ∧ b2 < 65536) → FnC Tryd.prog 13 [netAV n0, faultsAV fs1, choiceAV ts2 b2] (bv true)
theorem opened (hf : Contract) (H : Type) (enc : TypeId × Value → H) (W : World) (base : Nat) (args : Array Value) (ds : List (DataW H)) (p : List MemPlace)
    (hval : ∀ (j : Nat) t v, Tryd.f13.params[j]? = some t → args[j]? = some v → Value.okWide Tryd.prog W .any base t v)
    (hA : DataW.TrodAll enc Tryd.prog W 0 (fun _ => true) true Tryd.f13.params.toList args.toList ds p) :
    ∃ avs : List AV, FnC Tryd.prog 13 avs (bv true) ∧ args.size = avs.length ∧ ∀ (i : Nat) (x : AV) (v : Value), avs[i]? = some x → args[i]? = some v → ArgOK W x v := by
  rw [Tryd.params13] at hA hval
  obtain ⟨v0, vs0, d0, ds0, p0, q0, hargs, rfl, rfl, h0, r0⟩ := trodAll_cons hA
  obtain ⟨v1, vs1, d1, ds1, p1, q1, hvs1, rfl, rfl, h1, r1⟩ := trodAll_cons r0
  obtain ⟨v2, vs2, d2, ds2, p2, q2, hvs2, rfl, rfl, h2, r2⟩ := trodAll_cons r1
  obtain ⟨hend, rfl, rfl⟩ := trodAll_nil r2
  obtain rfl : args = #[v0, v1, v2] := by cases args; simp_all
  obtain ⟨cs0, e0, _⟩ := okWide_struct Tryd.underlying25 (hval 0 25 v0 rfl rfl)
  obtain ⟨pv0, ⟨n0, rfl, hn0⟩, a0⟩ := arg_agg o_net e0 h0
  obtain ⟨pv1, ⟨fs1, j1⟩, a1⟩ := arg_one o_faults (one_slice Tryd.underlying53 (hval 1 53 v1 rfl rfl)) h1
  cases j1
  obtain ⟨cs2, e2, _⟩ := okWide_struct Tryd.underlying72 (hval 2 72 v2 rfl rfl)
  obtain ⟨pv2, ⟨ts2, b2, rfl, hr2, hb2⟩, a2⟩ := arg_agg o_choice e2 h2
  refine ⟨[netAV n0, faultsAV fs1, choiceAV ts2 b2], hf n0 fs1 ts2 b2 hn0 hr2 hb2, rfl, fun i x v hx hv => ?_⟩
  match i with
  | 0 => cases hx; cases hv; exact a0
  | 1 => cases hx; cases hv; exact a1
  | 2 => cases hx; cases hv; exact a2
  | i + 3 => simp at hx
theorem contract (hf : Contract) (H : Type) (enc : TypeId × Value → H) (W : World) (base : Nat) (args : Array Value) (ds gs : List (DataW H)) (before : List MemPlace)
    (hval : ∀ (j : Nat) t v, Tryd.f13.params[j]? = some t → args[j]? = some v → Value.okWide Tryd.prog W .any base t v)
    (hW : DataW.Whole enc Tryd.prog Tryd.f13.params.toList Rows.gateFewestSpec.vars false W args.toList ds gs before) :
    Calls Tryd.prog 13 args W fun e W' => ∃ v, e = .returned v ∧ Rows.gateFewestSpec.post enc Tryd.prog Tryd.f13 false true false false W args v W' :=
  law_contract (tb := 4) laidOut_is rfl rfl Tryd.underlying4
    (by rw [Tryd.params13]; intro t ht; simp only [List.mem_cons, List.not_mem_nil, or_false] at ht; rcases ht with rfl | rfl | rfl <;> exact ⟨by kernel_rfl, of_decide_eq_true (by kernel_rfl)⟩)
    (fun ds hd => by
      rw [Tryd.params13] at hd
      match ds, hd with
      | [d0, d1, d2], _ => rfl)
    (opened hf H enc) W base args ds gs before hval hW
theorem laid_met (os : Os) : laidMet Tryd.prog Rows.gateFewestRow.laid ((laidWorld os).forCall (fun _ _ => 0) ⟨#[], #[.agg #[.int .i64 0, .slice none 0 0, .slice none 0 0], .slice none 0 0, .agg #[.slice none 0 0, .int .u16 0]], []⟩).memory :=
  laidMet_of_run' 8 (by kernel_rfl) (by kernel_rfl)
theorem reads (os : Os) {H : Type} (enc : TypeId × Value → H) : ∃ places, DataW.whole enc Tryd.prog ((laidWorld os).forCall (fun _ _ => 0) ⟨#[], #[.agg #[.int .i64 0, .slice none 0 0, .slice none 0 0], .slice none 0 0, .agg #[.slice none 0 0, .int .u16 0]], []⟩).memory Tryd.f13.params.toList Rows.gateFewestSpec.vars false (#[.agg #[.int .i64 0, .slice none 0 0, .slice none 0 0], .slice none 0 0, .agg #[.slice none 0 0, .int .u16 0]] : Array Value).toList 8 = some ([.agg [.lit (.int .i64 0), .nil, .nil], .nil, .agg [.nil, .lit (.int .u16 0)]], [], places) :=
  ⟨[], by kernel_rfl⟩
theorem lifted (hf : Contract) (os : Os) (started : os.Started) (H : Type) (enc : TypeId × Value → H) (F : Stop.Interp) :
    ReturnsInHanded {} Tryd.checked os 13 .any ((OpenSpec.ofChange Rows.gateFewestSpec).preRow enc Tryd.prog Tryd.f13 Rows.gateFewestRow.domain false Rows.gateFewestRow.laid) (((OpenSpec.ofChange Rows.gateFewestSpec).at F).post enc Tryd.prog Tryd.f13 false true false false) := by
  obtain ⟨places, hx⟩ := reads os enc
  refine returnsInHanded_of_row (C := Tryd.checked) (s := OpenSpec.ofChange Rows.gateFewestSpec) ownKnob_is started (by kernel_rfl) Tryd.func13
    (witness_row_at (enc := enc) (C := Tryd.checked) false (laidWorld os) #[.agg #[.int .i64 0, .slice none 0 0, .slice none 0 0], .slice none 0 0, .agg #[.slice none 0 0, .int .u16 0]] rfl (by kernel_rfl) (by kernel_rfl) (by kernel_rfl)
      (OpenSpec.preRow_of_cond 8 hx (by kernel_rfl) (fun k hk => by cases hk) (by kernel_rfl) (laid_met os))) ?_
  intro W base args ds gs before hval hW _ _ _ _ _ _
  exact contract hf H enc W base args ds gs before hval hW
theorem said (hf : Contract) : Rows.GateFewestSaid :=
  OpenClaim.holds_of_cond 13 Tryd.f13 rfl rfl rfl rfl rfl rfl rfl ⟨rfl, rfl, rfl, rfl, rfl⟩ rfl rfl rfl rfl rfl (by kernel_rfl) Tryd.func13 (by kernel_rfl)
    (of_decide_eq_true (by kernel_rfl)) (by unfold Func.isWrapper; first | (rw [if_pos (by decide +kernel)]; kernel_rfl) | (rw [if_neg (by decide +kernel)]; exact ⟨rfl, rfl⟩))
    (fun os started H enc _ F => by rw [OpenClaim.pre_eq_preRow]; exact lifted hf os started H enc F)
theorem plain (f : FuncId) (fn : Func) (hf : Tryd.pinned.checked.prog.funcNamed Rows.gateFewestRow.func = some f) (hfn : Tryd.pinned.checked.prog.funcs[f]? = some fn) :
    false = Tryd.pinned.checked.prog.looks [] ∧ ∀ (j : Nat) t, fn.params[j]? = some t → Tryd.pinned.checked.prog.wantsStandIn t = false := by
  obtain rfl : f = 13 := Option.some.inj ((show Tryd.prog.funcNamed Rows.gateFewestRow.func = some 13 by kernel_rfl).symm.trans hf) |>.symm
  obtain rfl : fn = Tryd.f13 := (Option.some.inj (Tryd.func13.symm.trans hfn)).symm
  refine ⟨by kernel_rfl, fun j t ht => ?_⟩
  rw [Tryd.params13] at ht
  have hm := Array.mem_of_getElem? ht
  simp at hm
  rcases hm with rfl | rfl | rfl
  · exact (show Tryd.prog.wantsStandIn 25 = false by kernel_rfl)
  · exact (show Tryd.prog.wantsStandIn 53 = false by kernel_rfl)
  · exact (show Tryd.prog.wantsStandIn 72 = false by kernel_rfl)
theorem card (hf : Contract) : Rows.GateFewestCardSaid :=
  Claim7.holds_tied_plain_at .later [] _ _ _ _ (said hf) (fun _ h => by cases h) (by kernel_rfl) (fun _ h => by cases h) gateFewest_row_tie rfl ⟨rfl, rfl⟩ (by kernel_rfl) rfl plain (by kernel_rfl)
end Go.Proofs.YtfghooojingdhaaDoor.gateFewest
namespace Go.Proofs.YtfghooojingdhaaDoor
open Go Go.QL
theorem gateFewest_true : Rows.GateFewestCardSaid := gateFewest.card fun n fs ts b hn _ hb => gfewest_fn n hn fs ts b hb
end Go.Proofs.YtfghooojingdhaaDoor
