/- OperatorChecks: for any setup, Check returns what the document says. No condition. -/
import Derived.Test.YtidkoikjdghlmaaGreatDoorFOperatorChecksW0
import Derived.Test.YtidkoikjdghlmaaGreatDoorCd
set_option linter.all false
noncomputable section
namespace Go.Proofs.YtidkoikjdghlmaaGreatDoor
open Go Go.QL FoT Go.ChangeShapes Go.WideShapes Go.ChangeAt Go.RowKit Go.Deep
set_option maxHeartbeats 800000
set_option maxRecDepth 100000
theorem zek:Opens Tryz.prog 3 1 (fun pv=>∃ n,pv=[.v (.int .i64 n)]∧i64 n):=(zf9 Tryz.underlying3).mono fun pv ⟨n,h,hw⟩=>⟨n,h,by
 simp only [Lit.wf,Bool.and_eq_true,decide_eq_true_eq] at hw;have h1:=hw.1;have h2:=hw.2;simp [IntKind.min,IntKind.max,IntKind.signed,IntKind.bits] at h1 h2;unfold i64;omega⟩
theorem o_bs:Opens Tryz.prog 9 1 (fun pv=>∃ s:Bs8,pv=[.v (.string (bs s))]):=(zie Tryz.underlying9).mono fun pv ⟨s,h,_⟩=>⟨s.data.toList,by rw [zsc];exact h⟩
theorem zqV:Opens Tryz.prog 24 1 (fun pv=>∃ V:List Bs8,pv=[zac V]):=
 (zaP Tryz.underlying24 (by kernel_rfl) (by decide) o_bs).mono fun pv ⟨xs,h,hx⟩=>by
  obtain⟨l,rfl,_⟩:=zch (F:=zaa) (R:=fun _=>True) (fun x hm=>(hx x hm).imp fun _ h=>⟨h,trivial⟩);exact⟨l,h⟩
theorem zqW:Opens Tryz.prog 43 2 (fun pv=>∃ lo hi:Int,pv=[.v (.int .i64 lo),.v (.int .i64 hi)]∧i64 lo∧i64 hi):=
 (zaU [(1,_),(1,_)] Tryz.underlying43 (by kernel_rfl) rfl ⟨rfl,by kernel_rfl,zek,rfl,by kernel_rfl,zek,trivial⟩).mono fun pv h=>by
  obtain⟨a,b,rfl,_,⟨x,rfl,hx⟩,c,d,rfl,_,⟨y,rfl,hy⟩,rfl⟩:=h;exact⟨x,y,rfl,hx,hy⟩
theorem o_mstep:Opens Tryz.prog 54 2 (fun pv=>∃ s:Int × Int,pv=stepPV s∧True):=
 (zaU [(1,_),(1,_)] Tryz.underlying54 (by kernel_rfl) rfl ⟨rfl,by kernel_rfl,zek,rfl,by kernel_rfl,zek,trivial⟩).mono fun pv h=>by
  obtain⟨a,b,rfl,_,⟨x,rfl,hx⟩,c,d,rfl,_,⟨y,rfl,hy⟩,rfl⟩:=h;exact⟨(x,y),rfl,trivial⟩
theorem o_msteps:Opens Tryz.prog 44 1 (fun pv=>∃ l:List (Int × Int),pv=[.s 2 (l.map stepPV)]):=
 (zaP Tryz.underlying44 (by kernel_rfl) (by decide) o_mstep).mono fun pv ⟨xs,h,hx⟩=>by
  obtain⟨l,rfl,_⟩:=zch (F:=stepPV) hx;exact⟨l,h⟩
theorem o_kind:Opens Tryz.prog 46 4 (fun pv=>∃ k:KindT,pv=kindPV k∧KindOK k):=
 (zaU [(1,_),(2,_),(1,_)] Tryz.underlying46 (by kernel_rfl) rfl ⟨rfl,by kernel_rfl,zek,rfl,by kernel_rfl,zqW,rfl,by kernel_rfl,o_msteps,trivial⟩).mono fun pv h=>by
  obtain⟨a,b,rfl,_,⟨x,rfl,hx⟩,c,d,rfl,_,⟨y,z,rfl,hy,hz⟩,e,f,rfl,_,⟨u,rfl⟩,rfl⟩:=h;exact⟨⟨x,y,z,u⟩,rfl,hx,hy,hz⟩
theorem o_kinds:Opens Tryz.prog 25 1 (fun pv=>∃ l:List KindT,pv=[.s 4 (l.map kindPV)]∧∀ k ∈ l,KindOK k):=
 (zaP Tryz.underlying25 (by kernel_rfl) (by decide) o_kind).mono fun pv ⟨xs,h,hx⟩=>by
  obtain⟨l,rfl,hl⟩:=zch (F:=kindPV) hx;exact⟨l,h,hl⟩
theorem o_rules:Opens Tryz.prog 23 5 (fun pv=>∃ a b c d e:Int,pv=[.v (.int .i64 a),.v (.int .i64 b),.v (.int .i64 c),.v (.int .i64 d),.v (.int .i64 e)]):=
 (zaU [(1,_),(1,_),(1,_),(1,_),(1,_)] Tryz.underlying23 (by kernel_rfl) rfl ⟨rfl,by kernel_rfl,zek,rfl,by kernel_rfl,zek,rfl,by kernel_rfl,zek,rfl,by kernel_rfl,zek,rfl,by kernel_rfl,zek,trivial⟩).mono fun pv h=>by
  obtain⟨a,b,rfl,_,⟨x,rfl,_⟩,c,d,rfl,_,⟨y,rfl,_⟩,e,f,rfl,_,⟨z,rfl,_⟩,g,i,rfl,_,⟨u,rfl,_⟩,j,k,rfl,_,⟨v,rfl,_⟩,rfl⟩:=h;exact⟨x,y,z,u,v,rfl⟩
theorem o_setup:Opens Tryz.prog 27 7 (fun pv=>∃ s:SetT,pv=[.v (.int .i64 s.sl),.v (.int .i64 s.ld),.v (.int .i64 s.du),.v (.int .i64 s.pa),.v (.int .i64 s.ra),zac s.users,.s 4 (s.valves.map kindPV)]∧∀ k ∈ s.valves,KindOK k):=
 (zaU [(5,_),(1,_),(1,_)] Tryz.underlying27 (by kernel_rfl) rfl ⟨rfl,by kernel_rfl,o_rules,rfl,by kernel_rfl,zqV,rfl,by kernel_rfl,o_kinds,trivial⟩).mono fun pv h=>by
  obtain⟨a,b,rfl,_,⟨x,y,z,u,v,rfl⟩,c,d,rfl,_,⟨V,rfl⟩,e,f,rfl,_,⟨l,rfl,hl⟩,rfl⟩:=h;exact⟨⟨x,y,z,u,v,V,l⟩,rfl,hl⟩
end Go.Proofs.YtidkoikjdghlmaaGreatDoor
namespace Go.Proofs.YtidkoikjdghlmaaGreatDoor.operatorChecks
open Go Go.QL FoT Go.ChangeShapes Go.WideShapes Go.ChangeAt Go.RowKit
set_option maxHeartbeats 1600000
set_option maxRecDepth 100000
attribute [local irreducible] ACall FnC
def zeG:Prop:=∀ (s0:SetT),(∀ k ∈ s0.valves,KindOK k)→FnC Tryz.prog 3 [setAV s0] (bv true)
theorem zqO (hf:zeG) (H:Type) (enc:TypeId × Value→H) (W:World) (base:Nat) (args:Array Value) (ds:List (DataW H)) (p:List MemPlace)
  (hval:∀ (j:Nat) t v,Tryz.f3.params[j]?=some t→args[j]?=some v→Value.okWide Tryz.prog W .any base t v)
  (hA:DataW.TrodAll enc Tryz.prog W 0 (fun _=>true) true Tryz.f3.params.toList args.toList ds p) :
  ∃ avs:List AV,FnC Tryz.prog 3 avs (bv true)∧args.size=avs.length∧∀ (i:Nat) (x:AV) (v:Value),avs[i]?=some x→args[i]?=some v→zoK W x v:=by
 rw [Tryz.params3] at hA hval;obtain⟨v0,vs0,d0,ds0,p0,q0,hargs,rfl,rfl,h0,r0⟩:=trodAll_cons hA;obtain⟨hend,rfl,rfl⟩:=trodAll_nil r0;obtain rfl:args = #[v0]:=by cases args;simp_all
 obtain⟨cs0,e0,_⟩:=okWide_struct Tryz.underlying27 (hval 0 27 v0 rfl rfl);obtain⟨pv0,⟨s0,rfl,hx0⟩,a0⟩:=zsg o_setup e0 h0;refine⟨[setAV s0],hf s0 hx0,rfl,fun i x v hx hv=>?_⟩
 match i with
 | 0=>cases hx;cases hv;exact a0
 | i+1=>simp at hx
theorem zoq (hf:zeG) (H:Type) (enc:TypeId × Value→H) (W:World) (base:Nat) (args:Array Value) (ds gs:List (DataW H)) (before:List MemPlace)
  (hval:∀ (j:Nat) t v,Tryz.f3.params[j]?=some t→args[j]?=some v→Value.okWide Tryz.prog W .any base t v)
  (hW:DataW.Whole enc Tryz.prog Tryz.f3.params.toList Rows.operatorChecksSpec.vars false W args.toList ds gs before) (hL:Laid Tryz.prog (fun b _=>b < W.heap.size) W) :
  Calls Tryz.prog 3 args W fun e W'=>∃ v,e=.returned v∧Rows.operatorChecksSpec.post enc Tryz.prog Tryz.f3 false true false false W args v W':=
 zio (tb:=4) zgV rfl rfl Tryz.underlying4
  (by rw [Tryz.params3];intro t ht;simp only [List.mem_cons,List.not_mem_nil,or_false] at ht;subst ht;exact⟨by kernel_rfl,of_decide_eq_true (by kernel_rfl)⟩)
  (fun ds hd=>by
   rw [Tryz.params3] at hd;match ds,hd with
   | [d0],_=>rfl)
  (zqO hf H enc) W base args ds gs before hval hW hL
theorem znZ (os:Os):laidMet Tryz.prog Rows.operatorChecksRow.laid ((zge os).forCall (fun _ _=>0) ⟨#[],#[.agg #[.int .i64 0,.int .i64 0,.int .i64 0,.int .i64 0,.int .i64 0,.slice none 0 0,.slice none 0 0]],[]⟩).memory:=
 laidMet_of_run' 8 (by kernel_rfl) (by kernel_rfl)
theorem zrV (os:Os) {H:Type} (enc:TypeId × Value→H):∃ places,DataW.whole enc Tryz.prog ((zge os).forCall (fun _ _=>0) ⟨#[],#[.agg #[.int .i64 0,.int .i64 0,.int .i64 0,.int .i64 0,.int .i64 0,.slice none 0 0,.slice none 0 0]],[]⟩).memory Tryz.f3.params.toList Rows.operatorChecksSpec.vars false (#[.agg #[.int .i64 0,.int .i64 0,.int .i64 0,.int .i64 0,.int .i64 0,.slice none 0 0,.slice none 0 0]]:Array Value).toList 8=some ([.agg [.agg [.lit (.int .i64 0),.lit (.int .i64 0),.lit (.int .i64 0),.lit (.int .i64 0),.lit (.int .i64 0)],.nil,.nil]],[],places):=
 ⟨[],by kernel_rfl⟩
theorem zq2 (hf:zeG) (os:Os) (started:os.Started) (H:Type) (enc:TypeId × Value→H) (F:Stop.Interp) :
  ReturnsInHanded {} Tryz.checked os 3 .any ((OpenSpec.ofChange Rows.operatorChecksSpec).preRow enc Tryz.prog Tryz.f3 Rows.operatorChecksRow.domain false Rows.operatorChecksRow.laid) (((OpenSpec.ofChange Rows.operatorChecksSpec).at F).post enc Tryz.prog Tryz.f3 false true false false):=by
 obtain⟨places,hx⟩:=zrV os enc;refine returnsInHanded_of_row (C:=Tryz.checked) (s:=OpenSpec.ofChange Rows.operatorChecksSpec) zkM started (by kernel_rfl) Tryz.func3
  (witness_row_at (enc:=enc) (C:=Tryz.checked) false (zge os) #[.agg #[.int .i64 0,.int .i64 0,.int .i64 0,.int .i64 0,.int .i64 0,.slice none 0 0,.slice none 0 0]] rfl (by kernel_rfl) (by kernel_rfl) (by kernel_rfl)
   (OpenSpec.preRow_of_cond 8 hx (by kernel_rfl) (fun k hk=>by cases hk) (by kernel_rfl) (znZ os))) ?_
 intro W base args ds gs before hval hW c1 c2 c3 c4 c5 c6;exact zoq hf H enc W base args ds gs before hval hW (zpU c4 c5 (by decide +kernel) (by kernel_rfl) (by decide +kernel) (by decide +kernel))
theorem zqd:(Rows.operatorChecksRow.inPlace == Tryz.prog.inPlace 3)=true:=by kernel_rfl
theorem zol:(Rows.operatorChecksRow.unfollowed == Tryz.prog.unfollowed 3)=true:=by kernel_rfl
theorem zr5:(Rows.operatorChecksRow.recurses == Tryz.prog.recurses 3)=true:=by kernel_rfl
theorem zqe:(Rows.operatorChecksRow.named == Tryz.prog.varsNamed 3)=true:=by kernel_rfl
theorem zrc:(Rows.operatorChecksRow.plainKeys == Tryz.prog.plainKeys)=true:=by rw [zib];rfl
theorem zr6:joinedFacts Tryz.prog 3 Tryz.f3 Rows.operatorChecksSpec Rows.operatorChecksRow=true:=by
 unfold joinedFacts;rw [zgV,zil,zqd,zol,zr5,zqe,zrc];kernel_rfl
theorem said (hf:zeG):Rows.OperatorChecksSaid:=
 OpenClaim.holds_of_cond 3 Tryz.f3 rfl rfl rfl rfl rfl rfl rfl ⟨rfl,rfl,rfl,rfl,rfl⟩ rfl rfl rfl rfl rfl (by kernel_rfl) Tryz.func3 zr6
  (of_decide_eq_true (by kernel_rfl)) (by unfold Func.isWrapper;first|(rw [if_pos (by decide +kernel)];kernel_rfl)|(rw [if_neg (by decide +kernel)];exact⟨rfl,rfl⟩))
  (fun os started H enc _ F=>by rw [OpenClaim.pre_eq_preRow];exact zq2 hf os started H enc F)
theorem zrZ (f:FuncId) (fn:Func) (hf:Tryz.pinned.checked.prog.funcNamed Rows.operatorChecksRow.func=some f) (hfn:Tryz.pinned.checked.prog.funcs[f]?=some fn) :
  true=Tryz.pinned.checked.prog.looks []∧∀ (j:Nat) t,fn.params[j]?=some t→Tryz.pinned.checked.prog.wantsStandIn t=false:=by
 obtain rfl:f=3:=Option.some.inj ((show Tryz.prog.funcNamed Rows.operatorChecksRow.func=some 3 by kernel_rfl).symm.trans hf) |>.symm
 obtain rfl:fn=Tryz.f3:=(Option.some.inj (Tryz.func3.symm.trans hfn)).symm;refine⟨by kernel_rfl,fun j t ht=>?_⟩
 rw [Tryz.params3] at ht;have hm:=Array.mem_of_getElem? ht;simp at hm;subst hm;exact (show Tryz.prog.wantsStandIn 27=false by kernel_rfl)
theorem card (hf:zeG):Rows.OperatorChecksCardSaid:=
 Claim7.holds_tied_plain_at .later [] _ _ _ _ (said hf) (fun _ h=>by cases h) (by kernel_rfl) (fun _ h=>by cases h) operatorChecks_row_tie rfl ⟨rfl,rfl⟩ (by kernel_rfl) rfl zrZ (by kernel_rfl)
end Go.Proofs.YtidkoikjdghlmaaGreatDoor.operatorChecks
namespace Go.Proofs.YtidkoikjdghlmaaGreatDoor
open Go Go.QL
theorem operatorChecks_true:Rows.OperatorChecksCardSaid:=operatorChecks.card checks_fn
end Go.Proofs.YtidkoikjdghlmaaGreatDoor
end
