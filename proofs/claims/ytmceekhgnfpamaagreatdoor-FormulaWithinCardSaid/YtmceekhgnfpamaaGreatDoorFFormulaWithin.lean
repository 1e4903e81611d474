/- FormulaWithin: for any formula and spans, and any words within them, by turns, the word that Eval returns, Signed, is in the span of Range, and differs from the exact value by at most Error halves of a unit. No condition. -/
import Derived.Test.YtmceekhgnfpamaaGreatDoorFFormulaWithinW0
import Derived.Test.YtmceekhgnfpamaaGreatDoorCd
set_option linter.all false
namespace Go.Proofs.YtmceekhgnfpamaaGreatDoor.formulaWithin
open Go Go.QL FoT Go.ChangeShapes Go.WideShapes Go.ChangeAt Go.RowKit
set_option maxHeartbeats 1600000
set_option maxRecDepth 100000
attribute [local irreducible] ACall FnC
def zeG : Prop := ∀ (f0 : FormT) (xs1 : List SpanT) (ws1 : List UInt32), (∀ s ∈ xs1, i64 s.lo ∧ i64 s.hi) → FnC Tryz.prog 9 [zaB f0, zsd xs1 ws1] (bv true)
theorem zqO (hf : zeG) (H : Type) (enc : TypeId × Value → H) (W : World) (base : Nat) (args : Array Value) (ds : List (DataW H)) (p : List MemPlace)
  (hval : ∀ (j : Nat) t v, Tryz.f9.params[j]? = some t → args[j]? = some v → Value.okWide Tryz.prog W .any base t v)
  (hA : DataW.TrodAll enc Tryz.prog W 0 (fun _ => true) true Tryz.f9.params.toList args.toList ds p) :
  ∃ avs : List AV, FnC Tryz.prog 9 avs (bv true) ∧ args.size = avs.length ∧ ∀ (i : Nat) (x : AV) (v : Value), avs[i]? = some x → args[i]? = some v → zoK W x v := by
 rw [Tryz.params9] at hA hval
 obtain ⟨v0, vs0, d0, ds0, p0, q0, hargs, rfl, rfl, h0, r0⟩ := trodAll_cons hA
 obtain ⟨v1, vs1, d1, ds1, p1, q1, hvs1, rfl, rfl, h1, r1⟩ := trodAll_cons r0
 obtain ⟨hend, rfl, rfl⟩ := trodAll_nil r1
 obtain rfl : args = #[v0, v1] := by cases args; simp_all
 obtain ⟨cs0, e0, _⟩ := okWide_struct Tryz.underlying25 (hval 0 25 v0 rfl rfl)
 obtain ⟨pv0, ⟨f0, rfl⟩, a0⟩ := zsg ztp e0 h0
 obtain ⟨cs1, e1, _⟩ := okWide_struct Tryz.underlying68 (hval 1 68 v1 rfl rfl)
 obtain ⟨pv1, ⟨xs1, ws1, rfl, hx1⟩, a1⟩ := zsg zuk e1 h1
 refine ⟨[zaB f0, zsd xs1 ws1], hf f0 xs1 ws1 hx1, rfl, fun i x v hx hv => ?_⟩
 match i with
 | 0 => cases hx; cases hv; exact a0
 | 1 => cases hx; cases hv; exact a1
 | i + 2 => simp at hx
theorem zoq (hf : zeG) (H : Type) (enc : TypeId × Value → H) (W : World) (base : Nat) (args : Array Value) (ds gs : List (DataW H)) (before : List MemPlace)
  (hval : ∀ (j : Nat) t v, Tryz.f9.params[j]? = some t → args[j]? = some v → Value.okWide Tryz.prog W .any base t v)
  (hW : DataW.Whole enc Tryz.prog Tryz.f9.params.toList Rows.formulaWithinSpec.vars false W args.toList ds gs before) (hL : Laid Tryz.prog (fun b _ => b < W.heap.size) W) :
  Calls Tryz.prog 9 args W fun e W' => ∃ v, e = .returned v ∧ Rows.formulaWithinSpec.post enc Tryz.prog Tryz.f9 false true false false W args v W' :=
 zio (tb := 4) zgV rfl rfl Tryz.underlying4
  (by rw [Tryz.params9]; intro t ht; simp only [List.mem_cons, List.not_mem_nil, or_false] at ht; rcases ht with rfl | rfl <;> exact ⟨by kernel_rfl, of_decide_eq_true (by kernel_rfl)⟩)
  (fun ds hd => by
   rw [Tryz.params9] at hd
   match ds, hd with
   | [d0, d1], _ => rfl)
  (zqO hf H enc) W base args ds gs before hval hW hL
theorem znZ (os : Os) : laidMet Tryz.prog Rows.formulaWithinRow.laid ((zge os).forCall (fun _ _ => 0) ⟨#[], #[.agg #[.slice none 0 0, .slice none 0 0], .agg #[.slice none 0 0, .slice none 0 0]], []⟩).memory :=
 laidMet_of_run' 8 (by kernel_rfl) (by kernel_rfl)
theorem zrV (os : Os) {H : Type} (enc : TypeId × Value → H) : ∃ places, DataW.whole enc Tryz.prog ((zge os).forCall (fun _ _ => 0) ⟨#[], #[.agg #[.slice none 0 0, .slice none 0 0], .agg #[.slice none 0 0, .slice none 0 0]], []⟩).memory Tryz.f9.params.toList Rows.formulaWithinSpec.vars false (#[.agg #[.slice none 0 0, .slice none 0 0], .agg #[.slice none 0 0, .slice none 0 0]] : Array Value).toList 8 = some ([.agg [.nil, .nil], .agg [.nil, .nil]], [], places) :=
 ⟨[], by kernel_rfl⟩
theorem zq2 (hf : zeG) (os : Os) (started : os.Started) (H : Type) (enc : TypeId × Value → H) (F : Stop.Interp) :
  ReturnsInHanded {} Tryz.checked os 9 .any ((OpenSpec.ofChange Rows.formulaWithinSpec).preRow enc Tryz.prog Tryz.f9 Rows.formulaWithinRow.domain false Rows.formulaWithinRow.laid) (((OpenSpec.ofChange Rows.formulaWithinSpec).at F).post enc Tryz.prog Tryz.f9 false true false false) := by
 obtain ⟨places, hx⟩ := zrV os enc
 refine returnsInHanded_of_row (C := Tryz.checked) (s := OpenSpec.ofChange Rows.formulaWithinSpec) zkM started (by kernel_rfl) Tryz.func9
  (witness_row_at (enc := enc) (C := Tryz.checked) false (zge os) #[.agg #[.slice none 0 0, .slice none 0 0], .agg #[.slice none 0 0, .slice none 0 0]] rfl (by kernel_rfl) (by kernel_rfl) (by kernel_rfl)
   (OpenSpec.preRow_of_cond 8 hx (by kernel_rfl) (fun k hk => by cases hk) (by kernel_rfl) (znZ os))) ?_
 intro W base args ds gs before hval hW c1 c2 c3 c4 c5 c6
 exact zoq hf H enc W base args ds gs before hval hW (zpU c4 c5 (by decide +kernel) (by kernel_rfl) (by decide +kernel) (by decide +kernel))
theorem zqd : (Rows.formulaWithinRow.inPlace == Tryz.prog.inPlace 9) = true := by kernel_rfl
theorem zol : (Rows.formulaWithinRow.unfollowed == Tryz.prog.unfollowed 9) = true := by kernel_rfl
theorem zr5 : (Rows.formulaWithinRow.recurses == Tryz.prog.recurses 9) = true := by kernel_rfl
theorem zqe : (Rows.formulaWithinRow.named == Tryz.prog.varsNamed 9) = true := by kernel_rfl
theorem zrc : (Rows.formulaWithinRow.plainKeys == Tryz.prog.plainKeys) = true := by rw [zib]; rfl
theorem zr6 : joinedFacts Tryz.prog 9 Tryz.f9 Rows.formulaWithinSpec Rows.formulaWithinRow = true := by
 unfold joinedFacts
 rw [zgV, zil, zqd, zol, zr5, zqe, zrc]
 kernel_rfl
theorem said (hf : zeG) : Rows.FormulaWithinSaid :=
 OpenClaim.holds_of_cond 9 Tryz.f9 rfl rfl rfl rfl rfl rfl rfl ⟨rfl, rfl, rfl, rfl, rfl⟩ rfl rfl rfl rfl rfl (by kernel_rfl) Tryz.func9 zr6
  (of_decide_eq_true (by kernel_rfl)) (by unfold Func.isWrapper; first | (rw [if_pos (by decide +kernel)]; kernel_rfl) | (rw [if_neg (by decide +kernel)]; exact ⟨rfl, rfl⟩))
  (fun os started H enc _ F => by rw [OpenClaim.pre_eq_preRow]; exact zq2 hf os started H enc F)
theorem zrZ (f : FuncId) (fn : Func) (hf : Tryz.pinned.checked.prog.funcNamed Rows.formulaWithinRow.func = some f) (hfn : Tryz.pinned.checked.prog.funcs[f]? = some fn) :
  true = Tryz.pinned.checked.prog.looks [] ∧ ∀ (j : Nat) t, fn.params[j]? = some t → Tryz.pinned.checked.prog.wantsStandIn t = false := by
 obtain rfl : f = 9 := Option.some.inj ((show Tryz.prog.funcNamed Rows.formulaWithinRow.func = some 9 by kernel_rfl).symm.trans hf) |>.symm
 obtain rfl : fn = Tryz.f9 := (Option.some.inj (Tryz.func9.symm.trans hfn)).symm
 refine ⟨by kernel_rfl, fun j t ht => ?_⟩
 rw [Tryz.params9] at ht
 have hm := Array.mem_of_getElem? ht
 simp at hm
 rcases hm with rfl | rfl
 ·exact (show Tryz.prog.wantsStandIn 25 = false by kernel_rfl)
 ·exact (show Tryz.prog.wantsStandIn 68 = false by kernel_rfl)
theorem card (hf : zeG) : Rows.FormulaWithinCardSaid :=
 Claim7.holds_tied_plain_at .later [] _ _ _ _ (said hf) (fun _ h => by cases h) (by kernel_rfl) (fun _ h => by cases h) formulaWithin_row_tie rfl ⟨rfl, rfl⟩ (by kernel_rfl) rfl zrZ (by kernel_rfl)
end Go.Proofs.YtmceekhgnfpamaaGreatDoor.formulaWithin
namespace Go.Proofs.YtmceekhgnfpamaaGreatDoor
open Go Go.QL
theorem formulaWithin_true : Rows.FormulaWithinCardSaid := formulaWithin.card (fun f xs ws hx => zt3 f xs ws hx)
end Go.Proofs.YtmceekhgnfpamaaGreatDoor
