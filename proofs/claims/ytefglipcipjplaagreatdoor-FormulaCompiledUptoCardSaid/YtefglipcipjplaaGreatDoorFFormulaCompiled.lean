/- FormulaCompiled: for any formula and any words, by turns, the program that Compile returns, run by order.Run with the words of the variables on its tape, prints the word that Eval returns, alone, and halts after all its orders but the last one. Condition: what the arguments hold comes to at most 2^20 parts (the second form's limit). -/
import Derived.Test.YtefglipcipjplaaGreatDoorFFormulaCompiledW0
import Derived.Test.YtefglipcipjplaaGreatDoorCd
set_option linter.all false
namespace Go.Proofs.YtefglipcipjplaaGreatDoor.formulaCompiled
open Go Go.QL FoT Go.ChangeShapes Go.WideShapes Go.ChangeAt Go.RowKit
set_option maxHeartbeats 1600000
set_option maxRecDepth 100000
attribute [local irreducible] ACall FnC
def zeG:Prop:=∀ (f0:FormT) (ws1:List UInt32),f0.vars.length≤1048576→FnC Tryz.prog 3 [zaB f0,.x (.d (zkE ws1))] (bv true)
theorem zqO (hf:zeG) (H:Type) (enc:TypeId × Value→H) (W:World) (base:Nat) (args:Array Value) (ds:List (DataW H)) (p:List MemPlace)
  (hval:∀ (j:Nat) t v,Tryz.f3.params[j]?=some t→args[j]?=some v→Value.okWide Tryz.prog W .any base t v)
  (hA:DataW.TrodAll enc Tryz.prog W 0 (fun _=>true) true Tryz.f3.params.toList args.toList ds p) (hbk:Rows.uptoBulkAll ds≤1048576) :
  ∃ avs:List AV,FnC Tryz.prog 3 avs (bv true)∧args.size=avs.length∧∀ (i:Nat) (x:AV) (v:Value),avs[i]?=some x→args[i]?=some v→zoK W x v:=by
 rw [Tryz.params3] at hA hval;obtain⟨v0,vs0,d0,ds0,p0,q0,hargs,rfl,rfl,h0,r0⟩:=trodAll_cons hA;obtain⟨v1,vs1,d1,ds1,p1,q1,hvs1,rfl,rfl,h1,r1⟩:=trodAll_cons r0;obtain⟨hend,rfl,rfl⟩:=trodAll_nil r1;obtain rfl:args = #[v0,v1]:=by cases args;simp_all
 obtain⟨cs0,e0,_⟩:=okWide_struct Tryz.underlying25 (hval 0 25 v0 rfl rfl);obtain⟨pv0,⟨f0,rfl⟩,a0⟩:=zsg ztp e0 h0;obtain⟨pv1,⟨ws1,j1⟩,a1⟩:=zsf zqU (zqQ Tryz.underlying26 (hval 1 26 v1 rfl rfl)) h1;cases j1;simp only [Rows.uptoBulkAll] at hbk;have L1:f0.vars.length≤1048576:=by
  have:=agg_lenI (xs:=f0.vars.map zaa) 0 Tryz.underlying25 rfl rfl (by kernel_rfl) Tryz.underlying22 rfl a0 h0;rw [List.length_map] at this;omega
 refine⟨[zaB f0,.x (.d (zkE ws1))],hf f0 ws1 L1,rfl,fun i x v hx hv=>?_⟩
 match i with
 | 0=>cases hx;cases hv;exact a0
 | 1=>cases hx;cases hv;exact a1
 | i+2=>simp at hx
theorem zoq (hf:zeG) (H:Type) (enc:TypeId × Value→H) (W:World) (base:Nat) (args:Array Value) (ds gs:List (DataW H)) (before:List MemPlace)
  (hval:∀ (j:Nat) t v,Tryz.f3.params[j]?=some t→args[j]?=some v→Value.okWide Tryz.prog W .any base t v)
  (hW:DataW.Whole enc Tryz.prog Tryz.f3.params.toList Rows.formulaCompiledSpec.vars false W args.toList ds gs before) (hk:Rows.uptoSmall H (ds ++ gs)=true) (hL:Laid Tryz.prog (fun b _=>b < W.heap.size) W) :
  Calls Tryz.prog 3 args W fun e W'=>∃ v,e=.returned v∧Rows.formulaCompiledSpec.post enc Tryz.prog Tryz.f3 false true false false W args v W':=by
 have hgs:gs=[]:=by
  obtain⟨p,q,_,hV,_,_,_⟩:=hW;exact (trodVars_none hV).1
 have hbk:Rows.uptoBulkAll ds≤1048576:=by
  rw [hgs,List.append_nil] at hk;simpa [Rows.uptoSmall] using hk
 exact law_contract1 (tb:=4) zgV rfl rfl Tryz.underlying4
  (by rw [Tryz.params3];intro t ht;simp only [List.mem_cons,List.not_mem_nil,or_false] at ht;rcases ht with rfl|rfl <;> exact⟨by kernel_rfl,of_decide_eq_true (by kernel_rfl)⟩)
  (fun ds hd=>by
   rw [Tryz.params3] at hd;match ds,hd with
   | [d0,d1],_=>rfl)
  W args ds gs before (fun p hA=>zqO hf H enc W base args ds p hval hA hbk) hW hL
theorem znZ (os:Os):laidMet Tryz.prog Rows.formulaCompiledUptoRow.laid ((zge os).forCall (fun _ _=>0) ⟨#[],#[.agg #[.slice none 0 0,.slice none 0 0],.slice none 0 0],[]⟩).memory:=
 laidMet_of_run' 8 (by kernel_rfl) (by kernel_rfl)
theorem zrV (os:Os) {H:Type} (enc:TypeId × Value→H):∃ places,DataW.whole enc Tryz.prog ((zge os).forCall (fun _ _=>0) ⟨#[],#[.agg #[.slice none 0 0,.slice none 0 0],.slice none 0 0],[]⟩).memory Tryz.f3.params.toList Rows.formulaCompiledSpec.vars false (#[.agg #[.slice none 0 0,.slice none 0 0],.slice none 0 0]:Array Value).toList 8=some ([.agg [.nil,.nil],.nil],[],places):=
 ⟨[],by kernel_rfl⟩
theorem zq2 (hf:zeG) (os:Os) (started:os.Started) (H:Type) (enc:TypeId × Value→H) (F:Stop.Interp) :
  ReturnsInHanded {} Tryz.checked os 3 .any ((Rows.OpenSpec.upto Rows.formulaCompiledSpec).preRow enc Tryz.prog Tryz.f3 Rows.formulaCompiledUptoRow.domain false Rows.formulaCompiledUptoRow.laid) (((Rows.OpenSpec.upto Rows.formulaCompiledSpec).at F).post enc Tryz.prog Tryz.f3 false true false false):=by
 obtain⟨places,hx⟩:=zrV os enc;refine returnsInHanded_of_row (C:=Tryz.checked) (s:=Rows.OpenSpec.upto Rows.formulaCompiledSpec) zkM started (by kernel_rfl) Tryz.func3
  (witness_row_at (enc:=enc) (C:=Tryz.checked) false (zge os) #[.agg #[.slice none 0 0,.slice none 0 0],.slice none 0 0] rfl (by kernel_rfl) (by kernel_rfl) (by kernel_rfl)
   (OpenSpec.preRow_of_cond 8 hx (by kernel_rfl) (fun k hk=>by cases hk;kernel_rfl) (by kernel_rfl) (znZ os))) ?_
 intro W base args ds gs before hval hW c1 c2 c3 c4 c5 c6;exact zoq hf H enc W base args ds gs before hval hW (c2 _ rfl) (zpU c4 c5 (by decide +kernel) (by kernel_rfl) (by decide +kernel) (by decide +kernel))
theorem zqd:(Rows.formulaCompiledUptoRow.inPlace == Tryz.prog.inPlace 3)=true:=by kernel_rfl
theorem zol:(Rows.formulaCompiledUptoRow.unfollowed == Tryz.prog.unfollowed 3)=true:=by kernel_rfl
theorem zr5:(Rows.formulaCompiledUptoRow.recurses == Tryz.prog.recurses 3)=true:=by kernel_rfl
theorem zqe:(Rows.formulaCompiledUptoRow.named == Tryz.prog.varsNamed 3)=true:=by kernel_rfl
theorem zrc:(Rows.formulaCompiledUptoRow.plainKeys == Tryz.prog.plainKeys)=true:=by rw [zib];rfl
theorem zr6:joinedFacts Tryz.prog 3 Tryz.f3 Rows.formulaCompiledSpec Rows.formulaCompiledUptoRow=true:=by
 unfold joinedFacts;rw [zgV,zil,zqd,zol,zr5,zqe,zrc];kernel_rfl
theorem said (hf:zeG):Rows.FormulaCompiledUptoSaid:=
 OpenClaim.holds_of_cond 3 Tryz.f3 rfl rfl rfl rfl rfl rfl rfl ⟨rfl,rfl,rfl,rfl,rfl⟩ rfl rfl rfl rfl rfl (by kernel_rfl) Tryz.func3 zr6
  (of_decide_eq_true (by kernel_rfl)) (by unfold Func.isWrapper;first|(rw [if_pos (by decide +kernel)];kernel_rfl)|(rw [if_neg (by decide +kernel)];exact⟨rfl,rfl⟩))
  (fun os started H enc _ F=>by rw [OpenClaim.pre_eq_preRow];exact zq2 hf os started H enc F)
theorem zrZ (f:FuncId) (fn:Func) (hf:Tryz.pinned.checked.prog.funcNamed Rows.formulaCompiledUptoRow.func=some f) (hfn:Tryz.pinned.checked.prog.funcs[f]?=some fn) :
  true=Tryz.pinned.checked.prog.looks []∧∀ (j:Nat) t,fn.params[j]?=some t→Tryz.pinned.checked.prog.wantsStandIn t=false:=by
 obtain rfl:f=3:=Option.some.inj ((show Tryz.prog.funcNamed Rows.formulaCompiledUptoRow.func=some 3 by kernel_rfl).symm.trans hf) |>.symm
 obtain rfl:fn=Tryz.f3:=(Option.some.inj (Tryz.func3.symm.trans hfn)).symm;refine⟨by kernel_rfl,fun j t ht=>?_⟩
 rw [Tryz.params3] at ht;have hm:=Array.mem_of_getElem? ht;simp at hm;rcases hm with rfl|rfl
 ·exact (show Tryz.prog.wantsStandIn 25=false by kernel_rfl)
 ·exact (show Tryz.prog.wantsStandIn 26=false by kernel_rfl)
theorem card (hf:zeG):Rows.FormulaCompiledUptoCardSaid:=
 Claim7.holds_tied_plain_at .later [] _ _ _ _ (said hf) (fun _ h=>by cases h) (by kernel_rfl) (fun _ h=>by cases h) formulaCompiledUpto_row_tie rfl ⟨rfl,rfl⟩ (by kernel_rfl) rfl zrZ (by kernel_rfl)
end Go.Proofs.YtefglipcipjplaaGreatDoor.formulaCompiled
namespace Go.Proofs.YtefglipcipjplaaGreatDoor
open Go Go.QL
theorem formulaCompiled_true:Rows.FormulaCompiledUptoCardSaid:=formulaCompiled.card (fun f ws hx=>compiled_fn f ws hx)
end Go.Proofs.YtefglipcipjplaaGreatDoor
