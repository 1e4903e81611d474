/- FormulaCalcs: Float and Calc return what the document says, for any two numbers, any registers and any steps. No condition. -/
import Derived.Test.YtmceekhgnfpamaaGreatDoorFFormulaCalcsW0
import Derived.Test.YtmceekhgnfpamaaGreatDoorCd
set_option linter.all false
namespace Go.Proofs.YtmceekhgnfpamaaGreatDoor.formulaCalcs
open Go Go.QL FoT Go.ChangeShapes Go.WideShapes Go.ChangeAt Go.RowKit
set_option maxHeartbeats 1600000
set_option maxRecDepth 100000
attribute [local irreducible] ACall FnC
def zeG : Prop := ∀ (ea0 eb0 : Int) (xs1 : List FloT) (xs2 : List StepT), (i64 ea0) → (i64 eb0) → (∀ x ∈ xs1, i64 x.mant ∧ i64 x.exp) → FnC Tryz.prog 6 [a2AV ea0 eb0, zdT xs1, zhW xs2] (bv true)
theorem zqO (hf : zeG) (H : Type) (enc : TypeId × Value → H) (W : World) (base : Nat) (args : Array Value) (ds : List (DataW H)) (p : List MemPlace)
  (hval : ∀ (j : Nat) t v, Tryz.f6.params[j]? = some t → args[j]? = some v → Value.okWide Tryz.prog W .any base t v)
  (hA : DataW.TrodAll enc Tryz.prog W 0 (fun _ => true) true Tryz.f6.params.toList args.toList ds p) :
  ∃ avs : List AV, FnC Tryz.prog 6 avs (bv true) ∧ args.size = avs.length ∧ ∀ (i : Nat) (x : AV) (v : Value), avs[i]? = some x → args[i]? = some v → zoK W x v := by
 rw [Tryz.params6] at hA hval
 obtain ⟨v0, vs0, d0, ds0, p0, q0, hargs, rfl, rfl, h0, r0⟩ := trodAll_cons hA
 obtain ⟨v1, vs1, d1, ds1, p1, q1, hvs1, rfl, rfl, h1, r1⟩ := trodAll_cons r0
 obtain ⟨v2, vs2, d2, ds2, p2, q2, hvs2, rfl, rfl, h2, r2⟩ := trodAll_cons r1
 obtain ⟨hend, rfl, rfl⟩ := trodAll_nil r2
 obtain rfl : args = #[v0, v1, v2] := by cases args; simp_all
 obtain ⟨cs0, e0⟩ := zoY Tryz.underlying52 (hval 0 52 v0 rfl rfl)
 obtain ⟨pv0, ⟨ea0, eb0, rfl, ha0, hb0⟩, a0⟩ := zsg o_a2 e0 h0
 obtain ⟨pv1, ⟨xs1, j1, hx1⟩, a1⟩ := zsf ztn (zqQ Tryz.underlying53 (hval 1 53 v1 rfl rfl)) h1
 cases j1
 obtain ⟨pv2, ⟨xs2, j2⟩, a2⟩ := zsf ztm (zqQ Tryz.underlying54 (hval 2 54 v2 rfl rfl)) h2
 cases j2
 refine ⟨[a2AV ea0 eb0, zdT xs1, zhW xs2], hf ea0 eb0 xs1 xs2 ha0 hb0 hx1, rfl, fun i x v hx hv => ?_⟩
 match i with
 | 0 => cases hx; cases hv; exact a0
 | 1 => cases hx; cases hv; exact a1
 | 2 => cases hx; cases hv; exact a2
 | i + 3 => simp at hx
theorem zoq (hf : zeG) (H : Type) (enc : TypeId × Value → H) (W : World) (base : Nat) (args : Array Value) (ds gs : List (DataW H)) (before : List MemPlace)
  (hval : ∀ (j : Nat) t v, Tryz.f6.params[j]? = some t → args[j]? = some v → Value.okWide Tryz.prog W .any base t v)
  (hW : DataW.Whole enc Tryz.prog Tryz.f6.params.toList Rows.formulaCalcsSpec.vars false W args.toList ds gs before) (hL : Laid Tryz.prog (fun b _ => b < W.heap.size) W) :
  Calls Tryz.prog 6 args W fun e W' => ∃ v, e = .returned v ∧ Rows.formulaCalcsSpec.post enc Tryz.prog Tryz.f6 false true false false W args v W' :=
 zio (tb := 4) zgV rfl rfl Tryz.underlying4
  (by rw [Tryz.params6]; intro t ht; simp only [List.mem_cons, List.not_mem_nil, or_false] at ht; rcases ht with rfl | rfl | rfl <;> exact ⟨by kernel_rfl, of_decide_eq_true (by kernel_rfl)⟩)
  (fun ds hd => by
   rw [Tryz.params6] at hd
   match ds, hd with
   | [d0, d1, d2], _ => rfl)
  (zqO hf H enc) W base args ds gs before hval hW hL
theorem znZ (os : Os) : laidMet Tryz.prog Rows.formulaCalcsRow.laid ((zge os).forCall (fun _ _ => 0) ⟨#[], #[.agg #[.int .i64 0, .int .i64 0], .slice none 0 0, .slice none 0 0], []⟩).memory :=
 laidMet_of_run' 8 (by kernel_rfl) (by kernel_rfl)
theorem zrV (os : Os) {H : Type} (enc : TypeId × Value → H) : ∃ places, DataW.whole enc Tryz.prog ((zge os).forCall (fun _ _ => 0) ⟨#[], #[.agg #[.int .i64 0, .int .i64 0], .slice none 0 0, .slice none 0 0], []⟩).memory Tryz.f6.params.toList Rows.formulaCalcsSpec.vars false (#[.agg #[.int .i64 0, .int .i64 0], .slice none 0 0, .slice none 0 0] : Array Value).toList 8 = some ([.agg [.lit (.int .i64 0), .lit (.int .i64 0)], .nil, .nil], [], places) :=
 ⟨[], by kernel_rfl⟩
theorem zq2 (hf : zeG) (os : Os) (started : os.Started) (H : Type) (enc : TypeId × Value → H) (F : Stop.Interp) :
  ReturnsInHanded {} Tryz.checked os 6 .any ((OpenSpec.ofChange Rows.formulaCalcsSpec).preRow enc Tryz.prog Tryz.f6 Rows.formulaCalcsRow.domain false Rows.formulaCalcsRow.laid) (((OpenSpec.ofChange Rows.formulaCalcsSpec).at F).post enc Tryz.prog Tryz.f6 false true false false) := by
 obtain ⟨places, hx⟩ := zrV os enc
 refine returnsInHanded_of_row (C := Tryz.checked) (s := OpenSpec.ofChange Rows.formulaCalcsSpec) zkM started (by kernel_rfl) Tryz.func6
  (witness_row_at (enc := enc) (C := Tryz.checked) false (zge os) #[.agg #[.int .i64 0, .int .i64 0], .slice none 0 0, .slice none 0 0] rfl (by kernel_rfl) (by kernel_rfl) (by kernel_rfl)
   (OpenSpec.preRow_of_cond 8 hx (by kernel_rfl) (fun k hk => by cases hk) (by kernel_rfl) (znZ os))) ?_
 intro W base args ds gs before hval hW c1 c2 c3 c4 c5 c6
 exact zoq hf H enc W base args ds gs before hval hW (zpU c4 c5 (by decide +kernel) (by kernel_rfl) (by decide +kernel) (by decide +kernel))
theorem zqd : (Rows.formulaCalcsRow.inPlace == Tryz.prog.inPlace 6) = true := by kernel_rfl
theorem zol : (Rows.formulaCalcsRow.unfollowed == Tryz.prog.unfollowed 6) = true := by kernel_rfl
theorem zr5 : (Rows.formulaCalcsRow.recurses == Tryz.prog.recurses 6) = true := by kernel_rfl
theorem zqe : (Rows.formulaCalcsRow.named == Tryz.prog.varsNamed 6) = true := by kernel_rfl
theorem zrc : (Rows.formulaCalcsRow.plainKeys == Tryz.prog.plainKeys) = true := by rw [zib]; rfl
theorem zr6 : joinedFacts Tryz.prog 6 Tryz.f6 Rows.formulaCalcsSpec Rows.formulaCalcsRow = true := by
 unfold joinedFacts
 rw [zgV, zil, zqd, zol, zr5, zqe, zrc]
 kernel_rfl
theorem said (hf : zeG) : Rows.FormulaCalcsSaid :=
 OpenClaim.holds_of_cond 6 Tryz.f6 rfl rfl rfl rfl rfl rfl rfl ⟨rfl, rfl, rfl, rfl, rfl⟩ rfl rfl rfl rfl rfl (by kernel_rfl) Tryz.func6 zr6
  (of_decide_eq_true (by kernel_rfl)) (by unfold Func.isWrapper; first | (rw [if_pos (by decide +kernel)]; kernel_rfl) | (rw [if_neg (by decide +kernel)]; exact ⟨rfl, rfl⟩))
  (fun os started H enc _ F => by rw [OpenClaim.pre_eq_preRow]; exact zq2 hf os started H enc F)
theorem zrZ (f : FuncId) (fn : Func) (hf : Tryz.pinned.checked.prog.funcNamed Rows.formulaCalcsRow.func = some f) (hfn : Tryz.pinned.checked.prog.funcs[f]? = some fn) :
  true = Tryz.pinned.checked.prog.looks [] ∧ ∀ (j : Nat) t, fn.params[j]? = some t → Tryz.pinned.checked.prog.wantsStandIn t = false := by
 obtain rfl : f = 6 := Option.some.inj ((show Tryz.prog.funcNamed Rows.formulaCalcsRow.func = some 6 by kernel_rfl).symm.trans hf) |>.symm
 obtain rfl : fn = Tryz.f6 := (Option.some.inj (Tryz.func6.symm.trans hfn)).symm
 refine ⟨by kernel_rfl, fun j t ht => ?_⟩
 rw [Tryz.params6] at ht
 have hm := Array.mem_of_getElem? ht
 simp at hm
 rcases hm with rfl | rfl | rfl
 ·exact (show Tryz.prog.wantsStandIn 52 = false by kernel_rfl)
 ·exact (show Tryz.prog.wantsStandIn 53 = false by kernel_rfl)
 ·exact (show Tryz.prog.wantsStandIn 54 = false by kernel_rfl)
theorem card (hf : zeG) : Rows.FormulaCalcsCardSaid :=
 Claim7.holds_tied_plain_at .later [] _ _ _ _ (said hf) (fun _ h => by cases h) (by kernel_rfl) (fun _ h => by cases h) formulaCalcs_row_tie rfl ⟨rfl, rfl⟩ (by kernel_rfl) rfl zrZ (by kernel_rfl)
end Go.Proofs.YtmceekhgnfpamaaGreatDoor.formulaCalcs
namespace Go.Proofs.YtmceekhgnfpamaaGreatDoor
open Go Go.QL
theorem formulaCalcs_true : Rows.FormulaCalcsCardSaid := formulaCalcs.card (fun a b xs1 xs2 _ _ hx => zs9 a b xs1 xs2 fun x h => (hx x h).1)
end Go.Proofs.YtmceekhgnfpamaaGreatDoor
