/- OperatorFails: for any strengths of a valve with which all checks agree, it fails not before what Day says, and not after it. No condition. -/
import Derived.Test.YtnkhljdifljdbaaGreatDoorFOperatorFailsW1
import Derived.Test.YtnkhljdifljdbaaGreatDoorCd
set_option linter.all false
noncomputable section
namespace Go.Proofs.YtnkhljdifljdbaaGreatDoor
open Go Go.QL FoT Go.ChangeShapes Go.WideShapes Go.ChangeAt Go.RowKit Go.Deep
set_option maxHeartbeats 800000
set_option maxRecDepth 100000
theorem opens_bool {P:Program} {t:TypeId} (ht:P.underlying t=some .bool):Opens P t 1 (fun pv=>∃ b:Bool,pv=[.v (.bool b)]):=by
 intro H enc w base sp held fuel cs x h;obtain⟨b,rfl⟩:∃ b,cs=[.bool b]:=by
  cases fuel with
  | zero=>simp [DataW.trod] at h
  | succ n=>
   unfold DataW.trod at h;rw [ht] at h;split at h <;> simp_all
 exact⟨[.v (.bool b)],rfl,rfl,⟨b,rfl⟩,zej (.v _ rfl)⟩
theorem zek:Opens Tryz.prog 3 1 (fun pv=>∃ n,pv=[.v (.int .i64 n)]∧i64 n):=(zf9 Tryz.underlying3).mono fun pv ⟨n,h,hw⟩=>⟨n,h,by
 simp only [Lit.wf,Bool.and_eq_true,decide_eq_true_eq] at hw;have h1:=hw.1;have h2:=hw.2;simp [IntKind.min,IntKind.max,IntKind.signed,IntKind.bits] at h1 h2;unfold i64;omega⟩
theorem o_u16:Opens Tryz.prog 71 1 (fun pv=>∃ n:Nat,pv=[.v (.int .u16 ((n:Nat):Int))]∧n < 65536):=(zf9 Tryz.underlying71).mono fun pv ⟨n,h,hw⟩=>by
 simp only [Lit.wf,Bool.and_eq_true,decide_eq_true_eq] at hw;have h1:=hw.1;have h2:=hw.2;simp [IntKind.min,IntKind.max,IntKind.signed,IntKind.bits] at h1 h2;exact⟨n.toNat,by rw [h,Int.toNat_of_nonneg h1],by omega⟩
theorem o_u8:Opens Tryz.prog 5 1 (fun pv=>∃ n:Nat,pv=[.v (.int .u8 ((n:Nat):Int))]∧n < 256):=(zf9 Tryz.underlying5).mono fun pv ⟨n,h,hw⟩=>by
 simp only [Lit.wf,Bool.and_eq_true,decide_eq_true_eq] at hw;have h1:=hw.1;have h2:=hw.2;simp [IntKind.min,IntKind.max,IntKind.signed,IntKind.bits] at h1 h2;exact⟨n.toNat,by rw [h,Int.toNat_of_nonneg h1],by omega⟩
theorem o_u16s:Opens Tryz.prog 27 1 (fun pv=>∃ l:List Nat,pv=[u16P l]∧∀ n ∈ l,n < 65536):=
 (zaP Tryz.underlying27 (by kernel_rfl) (by decide) o_u16).mono fun pv ⟨xs,h,hx⟩=>by
  obtain⟨l,rfl,hl⟩:=zch (F:=fun n:Nat=>[PV.v (.int .u16 ((n:Nat):Int))]) hx;exact⟨l,h,hl⟩
theorem o_u8s:Opens Tryz.prog 28 1 (fun pv=>∃ l:List Nat,pv=[u8P l]∧∀ n ∈ l,n < 256):=
 (zaP Tryz.underlying28 (by kernel_rfl) (by decide) o_u8).mono fun pv ⟨xs,h,hx⟩=>by
  obtain⟨l,rfl,hl⟩:=zch (F:=fun n:Nat=>[PV.v (.int .u8 ((n:Nat):Int))]) hx;exact⟨l,h,hl⟩
theorem o_bools:Opens Tryz.prog 29 1 (fun pv=>∃ l:List Bool,pv=[blP l]):=
 (zaP Tryz.underlying29 (by kernel_rfl) (by decide) (opens_bool Tryz.underlying4)).mono fun pv ⟨xs,h,hx⟩=>by
  obtain⟨l,rfl,_⟩:=zch (F:=fun b:Bool=>[PV.v (.bool b)]) (R:=fun _=>True) (fun x hm=>(hx x hm).imp fun _ h=>⟨h,trivial⟩);exact⟨l,h⟩
theorem zqW:Opens Tryz.prog 23 2 (fun pv=>∃ lo hi:Int,pv=[.v (.int .i64 lo),.v (.int .i64 hi)]∧i64 lo∧i64 hi):=
 (zaU [(1,_),(1,_)] Tryz.underlying23 (by kernel_rfl) rfl ⟨rfl,by kernel_rfl,zek,rfl,by kernel_rfl,zek,trivial⟩).mono fun pv h=>by
  obtain⟨a,b,rfl,_,⟨x,rfl,hx⟩,c,d,rfl,_,⟨y,rfl,hy⟩,rfl⟩:=h;exact⟨x,y,rfl,hx,hy⟩
theorem o_mstep:Opens Tryz.prog 43 2 (fun pv=>∃ s:Int × Int,pv=stepPV s∧True):=
 (zaU [(1,_),(1,_)] Tryz.underlying43 (by kernel_rfl) rfl ⟨rfl,by kernel_rfl,zek,rfl,by kernel_rfl,zek,trivial⟩).mono fun pv h=>by
  obtain⟨a,b,rfl,_,⟨x,rfl,hx⟩,c,d,rfl,_,⟨y,rfl,hy⟩,rfl⟩:=h;exact⟨(x,y),rfl,trivial⟩
theorem o_msteps:Opens Tryz.prog 24 1 (fun pv=>∃ l:List (Int × Int),pv=[.s 2 (l.map stepPV)]):=
 (zaP Tryz.underlying24 (by kernel_rfl) (by decide) o_mstep).mono fun pv ⟨xs,h,hx⟩=>by
  obtain⟨l,rfl,_⟩:=zch (F:=stepPV) hx;exact⟨l,h⟩
theorem o_kind:Opens Tryz.prog 26 4 (fun pv=>∃ k:KindT,pv=kindPV k∧KindOK k):=
 (zaU [(1,_),(2,_),(1,_)] Tryz.underlying26 (by kernel_rfl) rfl ⟨rfl,by kernel_rfl,zek,rfl,by kernel_rfl,zqW,rfl,by kernel_rfl,o_msteps,trivial⟩).mono fun pv h=>by
  obtain⟨a,b,rfl,_,⟨x,rfl,hx⟩,c,d,rfl,_,⟨y,z,rfl,hy,hz⟩,e,f,rfl,_,⟨u,rfl⟩,rfl⟩:=h;exact⟨⟨x,y,z,u⟩,rfl,hx,hy,hz⟩
theorem o_tube:Opens Tryz.prog 31 8 (fun pv=>∃ x:TubeT,pv=[.v (.int .i64 x.k.new),.v (.int .i64 x.k.lo),.v (.int .i64 x.k.hi),.s 2 (x.k.steps.map stepPV),u16P x.wear,u8P x.hours,u16P x.volts,blP x.chg]∧TubeOK x):=
 (zaU [(4,_),(1,_),(1,_),(1,_),(1,_)] Tryz.underlying31 (by kernel_rfl) rfl ⟨rfl,by kernel_rfl,o_kind,rfl,by kernel_rfl,o_u16s,rfl,by kernel_rfl,o_u8s,rfl,by kernel_rfl,o_u16s,rfl,by kernel_rfl,o_bools,trivial⟩).mono fun pv h=>by
  obtain⟨a,b,rfl,_,⟨k,rfl,hk⟩,c,d,rfl,_,⟨w,rfl,hw⟩,e,f,rfl,_,⟨hr,rfl,hh⟩,g,i,rfl,_,⟨v,rfl,hv⟩,j,l,rfl,_,⟨q,rfl⟩,rfl⟩:=h;exact⟨⟨k,w,hr,v,q⟩,rfl,hk,hw,hh,hv⟩
end Go.Proofs.YtnkhljdifljdbaaGreatDoor
namespace Go.Proofs.YtnkhljdifljdbaaGreatDoor.operatorFails
open Go Go.QL FoT Go.ChangeShapes Go.WideShapes Go.ChangeAt Go.RowKit
set_option maxHeartbeats 1600000
set_option maxRecDepth 100000
attribute [local irreducible] ACall FnC
def zeG:Prop:=∀ (x0:TubeT),(TubeOK x0)→FnC Tryz.prog 3 [.a (tubeC x0)] (bv true)
theorem zqO (hf:zeG) (H:Type) (enc:TypeId × Value→H) (W:World) (base:Nat) (args:Array Value) (ds:List (DataW H)) (p:List MemPlace)
  (hval:∀ (j:Nat) t v,Tryz.f3.params[j]?=some t→args[j]?=some v→Value.okWide Tryz.prog W .any base t v)
  (hA:DataW.TrodAll enc Tryz.prog W 0 (fun _=>true) true Tryz.f3.params.toList args.toList ds p) :
  ∃ avs:List AV,FnC Tryz.prog 3 avs (bv true)∧args.size=avs.length∧∀ (i:Nat) (x:AV) (v:Value),avs[i]?=some x→args[i]?=some v→zoK W x v:=by
 rw [Tryz.params3] at hA hval;obtain⟨v0,vs0,d0,ds0,p0,q0,hargs,rfl,rfl,h0,r0⟩:=trodAll_cons hA;obtain⟨hend,rfl,rfl⟩:=trodAll_nil r0;obtain rfl:args = #[v0]:=by cases args;simp_all
 obtain⟨cs0,e0,_⟩:=okWide_struct Tryz.underlying31 (hval 0 31 v0 rfl rfl);obtain⟨pv0,⟨x0,rfl,hx0⟩,a0⟩:=zsg o_tube e0 h0;refine⟨[.a (tubeC x0)],hf x0 hx0,rfl,fun i x v hx hv=>?_⟩
 match i with
 | 0=>cases hx;cases hv;exact a0
 | i+1=>simp at hx
theorem zoq (hf:zeG) (H:Type) (enc:TypeId × Value→H) (W:World) (base:Nat) (args:Array Value) (ds gs:List (DataW H)) (before:List MemPlace)
  (hval:∀ (j:Nat) t v,Tryz.f3.params[j]?=some t→args[j]?=some v→Value.okWide Tryz.prog W .any base t v)
  (hW:DataW.Whole enc Tryz.prog Tryz.f3.params.toList Rows.operatorFailsSpec.vars false W args.toList ds gs before) (hL:Laid Tryz.prog (fun b _=>b < W.heap.size) W) :
  Calls Tryz.prog 3 args W fun e W'=>∃ v,e=.returned v∧Rows.operatorFailsSpec.post enc Tryz.prog Tryz.f3 false true false false W args v W':=
 zio (tb:=4) zgV rfl rfl Tryz.underlying4
  (by rw [Tryz.params3];intro t ht;simp only [List.mem_cons,List.not_mem_nil,or_false] at ht;subst ht;exact⟨by kernel_rfl,of_decide_eq_true (by kernel_rfl)⟩)
  (fun ds hd=>by
   rw [Tryz.params3] at hd;match ds,hd with
   | [d0],_=>rfl)
  (zqO hf H enc) W base args ds gs before hval hW hL
theorem znZ (os:Os):laidMet Tryz.prog Rows.operatorFailsRow.laid ((zge os).forCall (fun _ _=>0) ⟨#[],#[.agg #[.int .i64 0,.int .i64 0,.int .i64 0,.slice none 0 0,.slice none 0 0,.slice none 0 0,.slice none 0 0,.slice none 0 0]],[]⟩).memory:=
 laidMet_of_run' 8 (by kernel_rfl) (by kernel_rfl)
theorem zrV (os:Os) {H:Type} (enc:TypeId × Value→H):∃ places,DataW.whole enc Tryz.prog ((zge os).forCall (fun _ _=>0) ⟨#[],#[.agg #[.int .i64 0,.int .i64 0,.int .i64 0,.slice none 0 0,.slice none 0 0,.slice none 0 0,.slice none 0 0,.slice none 0 0]],[]⟩).memory Tryz.f3.params.toList Rows.operatorFailsSpec.vars false (#[.agg #[.int .i64 0,.int .i64 0,.int .i64 0,.slice none 0 0,.slice none 0 0,.slice none 0 0,.slice none 0 0,.slice none 0 0]]:Array Value).toList 8=some ([.agg [.agg [.lit (.int .i64 0),.agg [.lit (.int .i64 0),.lit (.int .i64 0)],.nil],.nil,.nil,.nil,.nil]],[],places):=
 ⟨[],by kernel_rfl⟩
theorem zq2 (hf:zeG) (os:Os) (started:os.Started) (H:Type) (enc:TypeId × Value→H) (F:Stop.Interp) :
  ReturnsInHanded {} Tryz.checked os 3 .any ((OpenSpec.ofChange Rows.operatorFailsSpec).preRow enc Tryz.prog Tryz.f3 Rows.operatorFailsRow.domain false Rows.operatorFailsRow.laid) (((OpenSpec.ofChange Rows.operatorFailsSpec).at F).post enc Tryz.prog Tryz.f3 false true false false):=by
 obtain⟨places,hx⟩:=zrV os enc;refine returnsInHanded_of_row (C:=Tryz.checked) (s:=OpenSpec.ofChange Rows.operatorFailsSpec) zkM started (by kernel_rfl) Tryz.func3
  (witness_row_at (enc:=enc) (C:=Tryz.checked) false (zge os) #[.agg #[.int .i64 0,.int .i64 0,.int .i64 0,.slice none 0 0,.slice none 0 0,.slice none 0 0,.slice none 0 0,.slice none 0 0]] rfl (by kernel_rfl) (by kernel_rfl) (by kernel_rfl)
   (OpenSpec.preRow_of_cond 8 hx (by kernel_rfl) (fun k hk=>by cases hk) (by kernel_rfl) (znZ os))) ?_
 intro W base args ds gs before hval hW c1 c2 c3 c4 c5 c6;exact zoq hf H enc W base args ds gs before hval hW (zpU c4 c5 (by decide +kernel) (by kernel_rfl) (by decide +kernel) (by decide +kernel))
theorem zqd:(Rows.operatorFailsRow.inPlace == Tryz.prog.inPlace 3)=true:=by kernel_rfl
theorem zol:(Rows.operatorFailsRow.unfollowed == Tryz.prog.unfollowed 3)=true:=by kernel_rfl
theorem zr5:(Rows.operatorFailsRow.recurses == Tryz.prog.recurses 3)=true:=by kernel_rfl
theorem zqe:(Rows.operatorFailsRow.named == Tryz.prog.varsNamed 3)=true:=by kernel_rfl
theorem zrc:(Rows.operatorFailsRow.plainKeys == Tryz.prog.plainKeys)=true:=by rw [zib];rfl
theorem zr6:joinedFacts Tryz.prog 3 Tryz.f3 Rows.operatorFailsSpec Rows.operatorFailsRow=true:=by
 unfold joinedFacts;rw [zgV,zil,zqd,zol,zr5,zqe,zrc];kernel_rfl
theorem said (hf:zeG):Rows.OperatorFailsSaid:=
 OpenClaim.holds_of_cond 3 Tryz.f3 rfl rfl rfl rfl rfl rfl rfl ⟨rfl,rfl,rfl,rfl,rfl⟩ rfl rfl rfl rfl rfl (by kernel_rfl) Tryz.func3 zr6
  (of_decide_eq_true (by kernel_rfl)) (by unfold Func.isWrapper;first|(rw [if_pos (by decide +kernel)];kernel_rfl)|(rw [if_neg (by decide +kernel)];exact⟨rfl,rfl⟩))
  (fun os started H enc _ F=>by rw [OpenClaim.pre_eq_preRow];exact zq2 hf os started H enc F)
theorem zrZ (f:FuncId) (fn:Func) (hf:Tryz.pinned.checked.prog.funcNamed Rows.operatorFailsRow.func=some f) (hfn:Tryz.pinned.checked.prog.funcs[f]?=some fn) :
  true=Tryz.pinned.checked.prog.looks []∧∀ (j:Nat) t,fn.params[j]?=some t→Tryz.pinned.checked.prog.wantsStandIn t=false:=by
 obtain rfl:f=3:=Option.some.inj ((show Tryz.prog.funcNamed Rows.operatorFailsRow.func=some 3 by kernel_rfl).symm.trans hf) |>.symm
 obtain rfl:fn=Tryz.f3:=(Option.some.inj (Tryz.func3.symm.trans hfn)).symm;refine⟨by kernel_rfl,fun j t ht=>?_⟩
 rw [Tryz.params3] at ht;have hm:=Array.mem_of_getElem? ht;simp at hm;subst hm;exact (show Tryz.prog.wantsStandIn 31=false by kernel_rfl)
theorem card (hf:zeG):Rows.OperatorFailsCardSaid:=
 Claim7.holds_tied_plain_at .later [] _ _ _ _ (said hf) (fun _ h=>by cases h) (by kernel_rfl) (fun _ h=>by cases h) operatorFails_row_tie rfl ⟨rfl,rfl⟩ (by kernel_rfl) rfl zrZ (by kernel_rfl)
end Go.Proofs.YtnkhljdifljdbaaGreatDoor.operatorFails
namespace Go.Proofs.YtnkhljdifljdbaaGreatDoor
open Go Go.QL
theorem operatorFails_true:Rows.OperatorFailsCardSaid:=operatorFails.card (fun x hx=>fails_law x hx awake13_fn)
end Go.Proofs.YtnkhljdifljdbaaGreatDoor
end
