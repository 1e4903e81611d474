/- OperatorKnown: the examples of the document hold. No condition. -/
import Derived.Test.YtidkoikjdghlmaaGreatDoorFOperatorKnownW0
import Derived.Test.YtidkoikjdghlmaaGreatDoorCd
set_option linter.all false
noncomputable section
namespace Go.Proofs.YtidkoikjdghlmaaGreatDoor.operatorKnown
open Go Go.QL FoT Go.ChangeShapes Go.WideShapes Go.ChangeAt Go.RowKit
set_option maxHeartbeats 1600000
set_option maxRecDepth 100000
attribute [local irreducible] ACall FnC
def zeG:Prop:=FnC Tryz.prog 4 [] (bv true)
theorem zqO (hf:zeG) (H:Type) (enc:TypeId × Value→H) (W:World) (base:Nat) (args:Array Value) (ds:List (DataW H)) (p:List MemPlace)
  (hval:∀ (j:Nat) t v,Tryz.f4.params[j]?=some t→args[j]?=some v→Value.okWide Tryz.prog W .any base t v)
  (hA:DataW.TrodAll enc Tryz.prog W 0 (fun _=>true) true Tryz.f4.params.toList args.toList ds p) :
  ∃ avs:List AV,FnC Tryz.prog 4 avs (bv true)∧args.size=avs.length∧∀ (i:Nat) (x:AV) (v:Value),avs[i]?=some x→args[i]?=some v→zoK W x v:=by
 rw [Tryz.params4] at hA hval;obtain⟨hargs,rfl,rfl⟩:=trodAll_nil hA;obtain rfl:args = #[]:=by cases args;simp_all
 refine⟨[],hf ,rfl,fun i x v hx hv=>?_⟩
 simp at hx
theorem zoq (hf:zeG) (H:Type) (enc:TypeId × Value→H) (W:World) (base:Nat) (args:Array Value) (ds gs:List (DataW H)) (before:List MemPlace)
  (hval:∀ (j:Nat) t v,Tryz.f4.params[j]?=some t→args[j]?=some v→Value.okWide Tryz.prog W .any base t v)
  (hW:DataW.Whole enc Tryz.prog Tryz.f4.params.toList Rows.operatorKnownSpec.vars false W args.toList ds gs before) (hL:Laid Tryz.prog (fun b _=>b < W.heap.size) W) :
  Calls Tryz.prog 4 args W fun e W'=>∃ v,e=.returned v∧Rows.operatorKnownSpec.post enc Tryz.prog Tryz.f4 false true false false W args v W':=
 zio (tb:=4) zgV rfl rfl Tryz.underlying4
  (by rw [Tryz.params4];intro t ht;simp at ht  )
  (fun ds hd=>by
   rw [Tryz.params4] at hd;match ds,hd with
   | [],_=>rfl)
  (zqO hf H enc) W base args ds gs before hval hW hL
theorem znZ (os:Os):laidMet Tryz.prog Rows.operatorKnownRow.laid ((zge os).forCall (fun _ _=>0) ⟨#[],#[],[]⟩).memory:=
 laidMet_of_run' 8 (by kernel_rfl) (by kernel_rfl)
theorem zrV (os:Os) {H:Type} (enc:TypeId × Value→H):∃ places,DataW.whole enc Tryz.prog ((zge os).forCall (fun _ _=>0) ⟨#[],#[],[]⟩).memory Tryz.f4.params.toList Rows.operatorKnownSpec.vars false (#[]:Array Value).toList 8=some ([],[],places):=
 ⟨[],by kernel_rfl⟩
theorem zq2 (hf:zeG) (os:Os) (started:os.Started) (H:Type) (enc:TypeId × Value→H) (F:Stop.Interp) :
  ReturnsInHanded {} Tryz.checked os 4 .any ((OpenSpec.ofChange Rows.operatorKnownSpec).preRow enc Tryz.prog Tryz.f4 Rows.operatorKnownRow.domain false Rows.operatorKnownRow.laid) (((OpenSpec.ofChange Rows.operatorKnownSpec).at F).post enc Tryz.prog Tryz.f4 false true false false):=by
 obtain⟨places,hx⟩:=zrV os enc;refine returnsInHanded_of_row (C:=Tryz.checked) (s:=OpenSpec.ofChange Rows.operatorKnownSpec) zkM started (by kernel_rfl) Tryz.func4
  (witness_row_at (enc:=enc) (C:=Tryz.checked) false (zge os) #[] rfl (by kernel_rfl) (by kernel_rfl) (by kernel_rfl)
   (OpenSpec.preRow_of_cond 8 hx (by kernel_rfl) (fun k hk=>by cases hk) (by kernel_rfl) (znZ os))) ?_
 intro W base args ds gs before hval hW c1 c2 c3 c4 c5 c6;exact zoq hf H enc W base args ds gs before hval hW (zpU c4 c5 (by decide +kernel) (by kernel_rfl) (by decide +kernel) (by decide +kernel))
theorem zqd:(Rows.operatorKnownRow.inPlace == Tryz.prog.inPlace 4)=true:=by kernel_rfl
theorem zol:(Rows.operatorKnownRow.unfollowed == Tryz.prog.unfollowed 4)=true:=by kernel_rfl
theorem zr5:(Rows.operatorKnownRow.recurses == Tryz.prog.recurses 4)=true:=by kernel_rfl
theorem zqe:(Rows.operatorKnownRow.named == Tryz.prog.varsNamed 4)=true:=by kernel_rfl
theorem zrc:(Rows.operatorKnownRow.plainKeys == Tryz.prog.plainKeys)=true:=by rw [zib];rfl
theorem zr6:joinedFacts Tryz.prog 4 Tryz.f4 Rows.operatorKnownSpec Rows.operatorKnownRow=true:=by
 unfold joinedFacts;rw [zgV,zil,zqd,zol,zr5,zqe,zrc];kernel_rfl
theorem said (hf:zeG):Rows.OperatorKnownSaid:=
 OpenClaim.holds_of_cond 4 Tryz.f4 rfl rfl rfl rfl rfl rfl rfl ⟨rfl,rfl,rfl,rfl,rfl⟩ rfl rfl rfl rfl rfl (by kernel_rfl) Tryz.func4 zr6
  (of_decide_eq_true (by kernel_rfl)) (by unfold Func.isWrapper;first|(rw [if_pos (by decide +kernel)];kernel_rfl)|(rw [if_neg (by decide +kernel)];exact⟨rfl,rfl⟩))
  (fun os started H enc _ F=>by rw [OpenClaim.pre_eq_preRow];exact zq2 hf os started H enc F)
theorem zrZ (f:FuncId) (fn:Func) (hf:Tryz.pinned.checked.prog.funcNamed Rows.operatorKnownRow.func=some f) (hfn:Tryz.pinned.checked.prog.funcs[f]?=some fn) :
  true=Tryz.pinned.checked.prog.looks []∧∀ (j:Nat) t,fn.params[j]?=some t→Tryz.pinned.checked.prog.wantsStandIn t=false:=by
 obtain rfl:f=4:=Option.some.inj ((show Tryz.prog.funcNamed Rows.operatorKnownRow.func=some 4 by kernel_rfl).symm.trans hf) |>.symm
 obtain rfl:fn=Tryz.f4:=(Option.some.inj (Tryz.func4.symm.trans hfn)).symm;refine⟨by kernel_rfl,fun j t ht=>?_⟩
 rw [Tryz.params4] at ht;have hm:=Array.mem_of_getElem? ht;simp at hm
theorem card (hf:zeG):Rows.OperatorKnownCardSaid:=
 Claim7.holds_tied_plain_at .later [] _ _ _ _ (said hf) (fun _ h=>by cases h) (by kernel_rfl) (fun _ h=>by cases h) operatorKnown_row_tie rfl ⟨rfl,rfl⟩ (by kernel_rfl) rfl zrZ (by kernel_rfl)
end Go.Proofs.YtidkoikjdghlmaaGreatDoor.operatorKnown
namespace Go.Proofs.YtidkoikjdghlmaaGreatDoor
open Go Go.QL
theorem operatorKnown_true:Rows.OperatorKnownCardSaid:=operatorKnown.card zn0
end Go.Proofs.YtidkoikjdghlmaaGreatDoor
end
