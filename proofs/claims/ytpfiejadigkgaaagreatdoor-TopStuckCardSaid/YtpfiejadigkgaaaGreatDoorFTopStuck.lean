/- TopStuck returns true for any two words and any two small numbers: if a signal of the serial adder is stuck, and the bits by which its sum is wrong turn over in the sum that a machine has made, it prints the wrong sum, and First names the order after the sum; if no bit is wrong, the machines do not differ. No condition. -/
import Derived.Test.YtpfiejadigkgaaaGreatDoorFTopStuckW1
import Derived.Test.YtpfiejadigkgaaaGreatDoorCd
set_option linter.all false
noncomputable section
namespace Go.Proofs.YtpfiejadigkgaaaGreatDoor.topStuck
open Go Go.QL FoT Go.ChangeShapes Go.WideShapes Go.ChangeAt Go.RowKit
set_option maxHeartbeats 1600000
set_option maxRecDepth 100000
attribute [local irreducible] ACall FnC
def zeG:Prop:=∀ (k0:Int) (k1:Int) (ea2 eb2:Int),(0≤k0∧k0 < 4294967296)→(0≤k1∧k1 < 4294967296)→(0≤ea2∧ea2 < 256)→(0≤eb2∧eb2 < 256)→FnC Tryz.prog 3 [iv .u32 k0,iv .u32 k1,.a [.d (.v (.int .u8 ea2)),.d (.v (.int .u8 eb2))]] (bv true)
theorem zqO (hf:zeG) (H:Type) (enc:TypeId × Value→H) (W:World) (base:Nat) (args:Array Value) (ds:List (DataW H)) (p:List MemPlace)
  (hval:∀ (j:Nat) t v,Tryz.f3.params[j]?=some t→args[j]?=some v→Value.okWide Tryz.prog W .any base t v)
  (hA:DataW.TrodAll enc Tryz.prog W 0 (fun _=>true) true Tryz.f3.params.toList args.toList ds p) :
  ∃ avs:List AV,FnC Tryz.prog 3 avs (bv true)∧args.size=avs.length∧∀ (i:Nat) (x:AV) (v:Value),avs[i]?=some x→args[i]?=some v→zoK W x v:=by
 rw [Tryz.params3] at hA hval;obtain⟨v0,vs0,d0,ds0,p0,q0,hargs,rfl,rfl,h0,r0⟩:=trodAll_cons hA;obtain⟨v1,vs1,d1,ds1,p1,q1,hvs1,rfl,rfl,h1,r1⟩:=trodAll_cons r0;obtain⟨v2,vs2,d2,ds2,p2,q2,hvs2,rfl,rfl,h2,r2⟩:=trodAll_cons r1;obtain⟨hend,rfl,rfl⟩:=trodAll_nil r2;obtain rfl:args = #[v0,v1,v2]:=by cases args;simp_all
 obtain⟨pv0,⟨k0,j0,hk0⟩,a0⟩:=zsf zr2 (zr1 Tryz.underlying22 (hval 0 22 v0 rfl rfl)) h0;cases j0;obtain⟨pv1,⟨k1,j1,hk1⟩,a1⟩:=zsf zr2 (zr1 Tryz.underlying22 (hval 1 22 v1 rfl rfl)) h1;cases j1;obtain⟨cs2,e2⟩:=zoY Tryz.underlying23 (hval 2 23 v2 rfl rfl);obtain⟨pv2,⟨ea2,eb2,rfl,ha2,hb2⟩,a2⟩:=zsg o_a8 e2 h2;refine⟨[iv .u32 k0,iv .u32 k1,.a [.d (.v (.int .u8 ea2)),.d (.v (.int .u8 eb2))]],hf k0 k1 ea2 eb2 hk0 hk1 ha2 hb2,rfl,fun i x v hx hv=>?_⟩
 match i with
 | 0=>cases hx;cases hv;exact a0
 | 1=>cases hx;cases hv;exact a1
 | 2=>cases hx;cases hv;exact a2
 | i+3=>simp at hx
theorem zoq (hf:zeG) (H:Type) (enc:TypeId × Value→H) (W:World) (base:Nat) (args:Array Value) (ds gs:List (DataW H)) (before:List MemPlace)
  (hval:∀ (j:Nat) t v,Tryz.f3.params[j]?=some t→args[j]?=some v→Value.okWide Tryz.prog W .any base t v)
  (hW:DataW.Whole enc Tryz.prog Tryz.f3.params.toList Rows.topStuckSpec.vars false W args.toList ds gs before) (hL:Laid Tryz.prog (fun b _=>b < W.heap.size) W) :
  Calls Tryz.prog 3 args W fun e W'=>∃ v,e=.returned v∧Rows.topStuckSpec.post enc Tryz.prog Tryz.f3 false true false false W args v W':=
 zio (tb:=4) zgV rfl rfl Tryz.underlying4
  (by rw [Tryz.params3];intro t ht;simp only [List.mem_cons,List.not_mem_nil,or_false] at ht;rcases ht with rfl|rfl|rfl <;> exact⟨by kernel_rfl,of_decide_eq_true (by kernel_rfl)⟩)
  (fun ds hd=>by
   rw [Tryz.params3] at hd;match ds,hd with
   | [d0,d1,d2],_=>rfl)
  (zqO hf H enc) W base args ds gs before hval hW hL
theorem znZ (os:Os):laidMet Tryz.prog Rows.topStuckRow.laid ((zge os).forCall (fun _ _=>0) ⟨#[],#[.int .u32 0,.int .u32 0,.agg #[.int .u8 0,.int .u8 0]],[]⟩).memory:=
 laidMet_of_run' 8 (by kernel_rfl) (by kernel_rfl)
theorem zrV (os:Os) {H:Type} (enc:TypeId × Value→H):∃ places,DataW.whole enc Tryz.prog ((zge os).forCall (fun _ _=>0) ⟨#[],#[.int .u32 0,.int .u32 0,.agg #[.int .u8 0,.int .u8 0]],[]⟩).memory Tryz.f3.params.toList Rows.topStuckSpec.vars false (#[.int .u32 0,.int .u32 0,.agg #[.int .u8 0,.int .u8 0]]:Array Value).toList 8=some ([.lit (.int .u32 0),.lit (.int .u32 0),.agg [.lit (.int .u8 0),.lit (.int .u8 0)]],[],places):=
 ⟨[],by kernel_rfl⟩
theorem zq2 (hf:zeG) (os:Os) (started:os.Started) (H:Type) (enc:TypeId × Value→H) (F:Stop.Interp) :
  ReturnsInHanded {} Tryz.checked os 3 .any ((OpenSpec.ofChange Rows.topStuckSpec).preRow enc Tryz.prog Tryz.f3 Rows.topStuckRow.domain false Rows.topStuckRow.laid) (((OpenSpec.ofChange Rows.topStuckSpec).at F).post enc Tryz.prog Tryz.f3 false true false false):=by
 obtain⟨places,hx⟩:=zrV os enc;refine returnsInHanded_of_row (C:=Tryz.checked) (s:=OpenSpec.ofChange Rows.topStuckSpec) zkM started (by kernel_rfl) Tryz.func3
  (witness_row_at (enc:=enc) (C:=Tryz.checked) false (zge os) #[.int .u32 0,.int .u32 0,.agg #[.int .u8 0,.int .u8 0]] rfl (by kernel_rfl) (by kernel_rfl) (by kernel_rfl)
   (OpenSpec.preRow_of_cond 8 hx (by kernel_rfl) (fun k hk=>by cases hk) (by kernel_rfl) (znZ os))) ?_
 intro W base args ds gs before hval hW c1 c2 c3 c4 c5 c6;exact zoq hf H enc W base args ds gs before hval hW (zpU c4 (by decide +kernel) (by kernel_rfl))
theorem zqd:(Rows.topStuckRow.inPlace == Tryz.prog.inPlace 3)=true:=by kernel_rfl
theorem zol:(Rows.topStuckRow.unfollowed == Tryz.prog.unfollowed 3)=true:=by kernel_rfl
theorem zr5:(Rows.topStuckRow.recurses == Tryz.prog.recurses 3)=true:=by kernel_rfl
theorem zqe:(Rows.topStuckRow.named == Tryz.prog.varsNamed 3)=true:=by kernel_rfl
theorem zrc:(Rows.topStuckRow.plainKeys == Tryz.prog.plainKeys)=true:=by rw [zib];rfl
theorem zr6:joinedFacts Tryz.prog 3 Tryz.f3 Rows.topStuckSpec Rows.topStuckRow=true:=by
 unfold joinedFacts;rw [zgV,zil,zqd,zol,zr5,zqe,zrc];kernel_rfl
theorem said (hf:zeG):Rows.TopStuckSaid:=
 OpenClaim.holds_of_cond 3 Tryz.f3 rfl rfl rfl rfl rfl rfl rfl ⟨rfl,rfl,rfl,rfl,rfl⟩ rfl rfl rfl rfl rfl (by kernel_rfl) Tryz.func3 zr6
  (of_decide_eq_true (by kernel_rfl)) (by unfold Func.isWrapper;first|(rw [if_pos (by decide +kernel)];kernel_rfl)|(rw [if_neg (by decide +kernel)];exact⟨rfl,rfl⟩))
  (fun os started H enc _ F=>by rw [OpenClaim.pre_eq_preRow];exact zq2 hf os started H enc F)
theorem zrZ (f:FuncId) (fn:Func) (hf:Tryz.pinned.checked.prog.funcNamed Rows.topStuckRow.func=some f) (hfn:Tryz.pinned.checked.prog.funcs[f]?=some fn) :
  true=Tryz.pinned.checked.prog.looks []∧∀ (j:Nat) t,fn.params[j]?=some t→Tryz.pinned.checked.prog.wantsStandIn t=false:=by
 obtain rfl:f=3:=Option.some.inj ((show Tryz.prog.funcNamed Rows.topStuckRow.func=some 3 by kernel_rfl).symm.trans hf) |>.symm
 obtain rfl:fn=Tryz.f3:=(Option.some.inj (Tryz.func3.symm.trans hfn)).symm;refine⟨by kernel_rfl,fun j t ht=>?_⟩
 rw [Tryz.params3] at ht;have hm:=Array.mem_of_getElem? ht;simp at hm;rcases hm with rfl|rfl
 ·exact (show Tryz.prog.wantsStandIn 22=false by kernel_rfl)
 ·exact (show Tryz.prog.wantsStandIn 23=false by kernel_rfl)
theorem card (hf:zeG):Rows.TopStuckCardSaid:=
 Claim7.holds_tied_plain_at .later [] _ _ _ _ (said hf) (fun _ h=>by cases h) (by kernel_rfl) (fun _ h=>by cases h) topStuck_row_tie rfl ⟨rfl,rfl⟩ (by kernel_rfl) rfl zrZ (by kernel_rfl)
end Go.Proofs.YtpfiejadigkgaaaGreatDoor.topStuck
namespace Go.Proofs.YtpfiejadigkgaaaGreatDoor
open Go Go.QL FoT
theorem topStuck_true:Rows.TopStuckCardSaid:=
 topStuck.card fun k0 k1 ea2 eb2 h0 h1 h2 h3=>topstuck_fn k0 k1 ea2 eb2 h0 h1 h2 h3
end Go.Proofs.YtpfiejadigkgaaaGreatDoor
end
