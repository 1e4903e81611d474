/- What the arguments of the laws are, by their types; from contracts to rows. No condition. -/
import Derived.Test.YtpfiejadigkgaaaGreatDoorB04
import Derived.Carry
import Derived.Deep.Slices
import Derived.OpenShut
import Derived.ProofKit
import Derived.ChangeCalls
import Derived.Deep.DeepHandedRow
import Derived.Test.YtpfiejadigkgaaaGreatDoorCards
import Derived.Test.YtpfiejadigkgaaaGreatDoorTie
import Derived.WalkKit
import Derived.Lib.LaidTab
import Derived.Stop.LaidErr
set_option linter.all false
noncomputable section
namespace Go.QL
open Go Go.RowKit Go.ChangeShapes Go.WideShapes Go.Deep
def Opens (P:Program) (t:TypeId) (n:Nat) (Q:List PV→Prop):Prop:=
 ∀ (H:Type) (enc:TypeId × Value→H) (w:World) (base:Nat) (sp:Nat→Bool) (held:Bool) (fuel:Nat) (cs:List Value) (x:DataW H × List MemPlace),DataW.trod enc P w base sp held fuel t cs=some x →
  ∃ pv:List PV,pv.length=n∧cs.length=n∧Q pv∧∀ (j:Nat) (p:PV) (v:Value),pv[j]?=some p→cs[j]?=some v→PR (fun b _=>b < w.heap.size) w p v
variable {P:Program}
theorem Opens.mono {t:TypeId} {n:Nat} {Q Q':List PV→Prop} (h:Opens P t n Q) (hq:∀ pv,Q pv→Q' pv):Opens P t n Q':=by
 intro H enc w base sp held fuel cs x hx;obtain⟨pv,h1,h2,h3,h4⟩:=h H enc w base sp held fuel cs x hx;exact⟨pv,h1,h2,hq _ h3,h4⟩
theorem zej {w:World} {p0:PV} {v0:Value} (h:PR (fun b _=>b < w.heap.size) w p0 v0) (j:Nat) (p:PV) (v:Value) (h1:[p0][j]?=some p) (h2:[v0][j]?=some v):PR (fun b _=>b < w.heap.size) w p v:=by
 cases j with
 | zero=>cases h1;cases h2;exact h
 | succ j=>simp at h1
theorem zf9 {t:TypeId} {k:IntKind} (ht:P.underlying t=some (.int k)):Opens P t 1 (fun pv=>∃ n,pv=[.v (.int k n)]∧(Lit.int k n).wf=true):=by
 intro H enc w base sp held fuel cs x h;obtain⟨n,rfl,_,hw⟩:=DataW.trod_int ht h;exact⟨[.v (.int k n)],rfl,rfl,⟨n,rfl,hw⟩,zej (.v _ rfl)⟩
def QF:List (Nat × (List PV→Prop))→List PV→Prop
 | [],pv=>pv=[]
 | (m,Q)::L,pv=>∃ a b,pv=a ++ b∧a.length=m∧Q a∧QF L b
def zfI (P:Program):Nat→List Field→List (Nat × (List PV→Prop))→Prop
 | _,[],[]=>True
 | off,f::fs,(m,Q)::L=>f.offset=off∧P.cellsOf f.type=m∧Opens P f.type m Q∧zfI P (off+m) fs L
 | _,_,_=>False
theorem zc0 {H:Type} {enc:TypeId × Value→H} {w:World} {base:Nat} {sp:Nat→Bool} {held:Bool} {n:Nat} {cs:List Value}:∀ {fs:List Field} {L:List (Nat × (List PV→Prop))} {off:Nat},
  zfI P off fs L→(∀ f ∈ fs,∃ x,DataW.trod enc P w base sp held n f.type ((cs.drop f.offset).take (P.cellsOf f.type))=some x) →
  ∃ pv:List PV,pv.length=(L.map (·.1)).sum∧QF L pv∧∀ (j:Nat) (p:PV) (v:Value),pv[j]?=some p→cs[off+j]?=some v→PR (fun b _=>b < w.heap.size) w p v
 | [],[],_,_,_=>⟨[],rfl,rfl,fun j p v h=>by simp at h⟩
 | [],_::_,_,h,_=>h.elim
 | _::_,[],_,h,_=>h.elim
 | f::fs,(m,Q)::L,off,h,hx=>by
  obtain⟨h1,h2,h3,h4⟩:=h;obtain⟨x,hx0⟩:=hx f List.mem_cons_self;obtain⟨a,ha1,ha2,ha3,ha4⟩:=h3 H enc w base sp held n _ x hx0;obtain⟨b,hb1,hb2,hb3⟩:=zc0 h4 fun g hg=>hx g (List.mem_cons_of_mem _ hg)
  refine⟨a ++ b,by simp [ha1,hb1],⟨a,b,rfl,ha1,ha3,hb2⟩,fun j p v hp hv=>?_⟩
  by_cases hj:j < m
  ·rw [List.getElem?_append_left (by omega)] at hp;refine ha4 j p v hp ?_
   rw [h1,h2,List.getElem?_take_of_lt (by omega),List.getElem?_drop];exact hv
  ·rw [List.getElem?_append_right (by omega)] at hp;refine hb3 (j - m) p v (by rw [← ha1];exact hp) ?_
   rw [show off+m+(j - m)=off+j by omega];exact hv
def zr7 (e:TypeId) (i:Nat):Field:={ name:= "",type:=e,offset:=i,embedded:=false,tag:= "",pkgPath:= "",byteOffset:=0 }
theorem ziG {e:TypeId} {Q:List PV→Prop} (hc:P.cellsOf e=1) (he:Opens P e 1 Q):∀ (k off:Nat),zfI P off ((List.range' off k).map (zr7 e)) (List.replicate k (1,Q))
 | 0,_=>trivial
 | k+1,off=>⟨rfl,hc,he,ziG hc he k (off+1)⟩
theorem zjk {t e:TypeId} {k:Nat} {Q:List PV→Prop} (ht:P.underlying t=some (.array k e)) (hn:P.cellsOf t=k) (hc:P.cellsOf e=1) (he:Opens P e 1 Q):Opens P t k (QF (List.replicate k (1,Q))):=by
 intro H enc w base sp held fuel cs x h;obtain⟨xs,m,rfl,_,hl,hlen,hf⟩:=DataW.trod_array ht h;obtain⟨pv,h1,h2,h3⟩:=zc0 (enc:=enc) (w:=w) (base:=base) (sp:=sp) (held:=held) (n:=m) (cs:=cs) (ziG hc he k 0) (fun f hf'=>by
  obtain⟨i,hi,rfl⟩:=List.mem_map.1 hf';rw [List.mem_range'_1] at hi;have:=hf i (by omega);rw [List.getElem?_eq_getElem (by omega),hc,Nat.mul_one] at this;exact⟨_,by show DataW.trod enc P w base sp held m e ((cs.drop i).take (P.cellsOf e))=_;rw [hc];exact this⟩)
 have hs:((List.replicate k ((1:Nat),Q)).map (·.1)).sum=k:=by
  clear h1 h2 h3 hf hlen hl ht hn h;induction k with
  | zero=>rfl
  | succ k ih=>rw [List.replicate_succ,List.map_cons,List.sum_cons,ih];omega
 exact⟨pv,by omega,by omega,h2,fun j p v hp hv=>h3 j p v hp (by rw [Nat.zero_add];exact hv)⟩
theorem zoY {w:World} {r:Reach} {b:Nat} {v:Value} {t e:TypeId} {n:Nat} (ht:P.underlying t=some (.array n e)) (h:Value.okWide P w r b t v):∃ cs,v=.agg cs:=by
 simp only [Value.okWide,ht] at h;obtain⟨cs,h1,_⟩:=h;exact⟨cs,h1⟩
abbrev zoK (W:World) (x:AV) (v:Value):Prop:=VR2 [] ⟨fun b _=>b < W.heap.size,fun _=>undef⟩ W x v
section
variable {H:Type} {enc:TypeId × Value→H} {W:World} {base:Nat} {sp:Nat→Bool} {held:Bool} {t:TypeId} {v:Value} {d:DataW H} {ps:List MemPlace}
theorem zsf {Q:List PV→Prop} (ho:Opens P t 1 Q) (hv:v.cells.toList=[v]) (h:DataW.Trod enc P W base sp held t v d ps):∃ p,Q [p]∧zoK W (.x (.d p)) v:=by
 obtain⟨fuel,hf⟩:=h;obtain⟨pv,h1,_,h3,h4⟩:=ho H enc W base sp held fuel _ _ hf;match pv,h1 with
 | [p],_=>exact⟨p,h3,.d p v (h4 0 p v rfl (by rw [hv];rfl))⟩
theorem zsg {n:Nat} {Q:List PV→Prop} {cs:Array Value} (ho:Opens P t n Q) (hv:v=.agg cs) (h:DataW.Trod enc P W base sp held t v d ps):∃ pv,Q pv∧zoK W (.a (pv.map .d)) v:=by
 obtain⟨fuel,hf⟩:=h;subst hv;obtain⟨pv,h1,h2,h3,h4⟩:=ho H enc W base sp held fuel _ _ hf;have hcs:(Value.agg cs).cells.toList=cs.toList:=rfl;rw [hcs] at h2 h4;refine⟨pv,h3,cs,rfl,by simpa using (by omega:cs.toList.length=pv.length),fun i s u hs hu=>?_⟩
 rw [List.getElem?_map] at hs;cases hp:pv[i]? with
 | none=>rw [hp] at hs;cases hs
 | some p=>
  rw [hp] at hs;cases hs;exact .d p u (h4 i p u hp (by simpa using hu))
end
theorem zr1 {k:IntKind} {t:TypeId} {w:World} {r:Reach} {b:Nat} {v:Value} (ht:P.underlying t=some (.int k)) (h:Value.okWide P w r b t v):v.cells.toList=[v]:=by
 obtain⟨n,rfl⟩:=okWide_int ht h;rfl
section
variable {H:Type} {enc:TypeId × Value→H}
theorem zd3 {W W':World} (hl:laidOutB P=true) (hb:Below W.heap.size W W'):∀ {ts:List TypeId} {vs:List Value} {ds:List (DataW H)} {ps:List MemPlace},(∀ t ∈ ts,P.readableRec t=true∧t < P.types.size) →
  (∀ x ∈ ps,x.block < W.heap.size)→DataW.TrodAll enc P W 0 (fun _=>true) true ts vs ds ps→DataW.TrodAll enc P W' 0 (fun b=>decide (b < W.heap.size)) true ts vs ds ps
 | [],vs,ds,ps,_,_,h=>by
  obtain⟨rfl,rfl,rfl⟩:=trodAll_nil h;exact rfl
 | t::ts,vs,ds,ps,ht,hp,h=>by
  obtain⟨v,vs1,d,ds1,a,b,rfl,rfl,rfl,h1,h2⟩:=trodAll_cons h;exact⟨a,b,Below.trod hl (ht t List.mem_cons_self).1 (ht t List.mem_cons_self).2 h1 hb (fun x hx=>hp x (by simp [hx])),
   zd3 hl hb (fun u hu=>ht u (List.mem_cons_of_mem _ hu)) (fun x hx=>hp x (by simp [hx])) h2,rfl⟩
theorem znX {f:Func} {s:ChangeSpec} {W W':World} {args:Array Value} {ds gs:List (DataW H)} {before:List MemPlace} {tb:TypeId}
  (hl:laidOutB P=true) (hv:s.vars=[]) (hr:f.resultTypes = #[tb]) (htb:P.underlying tb=some .bool) (hts:∀ t ∈ f.params.toList,P.readableRec t=true∧t < P.types.size)
  (hsp:ds.length=f.params.size→s.fn H ds={ results:=[.lit (.bool true)],args:=ds })
  (hW:DataW.Whole enc P f.params.toList s.vars false W args.toList ds gs before) (hb:Below W.heap.size W W'):s.post enc P f false true false false W args (.bool true) W':=by
 have hW':=hW;obtain⟨p,q,hA,hV,rfl,_,_⟩:=hW;rw [hv] at hV;obtain⟨rfl,rfl⟩:=trodVars_none hV;have hlen:ds.length=f.params.size:=by
  have:=(trodAll_length hA).2;simpa using this
 have hlt:∀ x ∈ p,x.block < W.heap.size:=fun x hx=>hW'.lt x (by simp [hx])
 have hs:=hsp hlen;refine⟨ds,[],p ++ [],[],p,[],hW',?_,?_,?_,hb.frame _,fun h=>by cases h⟩
 ·rw [List.append_nil,hs,hr];exact trodAll_cons_mk (shut_bool htb _) trodAll_mk0
 ·rw [List.append_nil,hs];exact zd3 hl hb hts hlt hA
 ·rw [hv,List.append_nil,hs];exact rfl
theorem zcG {W:World} {nm:String} {g:Nat} {vs:List Value} (hg:P.globalNamed nm=some g) (h:W.var? P nm=some vs.toArray):LaidAt (fun b _=>b < W.heap.size) W g vs:=by
 intro o;unfold World.var? at h;rw [hg] at h;simp only [Option.bind_some] at h;split at h
 ·rename_i cs T fz hh;cases h;refine⟨(Array.getElem?_eq_some_iff.1 hh).1,?_⟩
  unfold World.cell?;dsimp only;rw [hh];simp
 ·cases h
theorem ziq {W:World} (h1:∀ nm,zdX nm=pow10codes→P.globalNamed nm=none∨Lib.TabIs P W nm .u64 Lib.pow10Tab)
  (h2:∀ nm,zfD (zdX nm)=true→P.globalNamed nm=none∨∃ tp p,W.var? P nm=some #[.iface tp p])
  (h3:∀ nm,zfx (zdX nm)=true→P.globalNamed nm=none∨∃ m,W.var? P nm=some #[.int .i64 m]):Laid P (fun b _=>b < W.heap.size) W:=by
 intro nm g hg;refine⟨fun hn=>?_,fun hn=>?_,fun hn=>?_⟩
 ·rcases h1 nm hn with h|h
  ·rw [h] at hg;cases hg
  ·exact zcG hg (by unfold Lib.TabIs at h;exact h)
 ·rcases h2 nm hn with h|⟨tp,p,h⟩
  ·rw [h] at hg;cases hg
  ·exact⟨tp,p,zcG hg h⟩
 ·rcases h3 nm hn with h|⟨m,h⟩
  ·rw [h] at hg;cases hg
  ·exact⟨m,zcG hg h⟩
theorem zio {fid:FuncId} {f:Func} {s:ChangeSpec} {tb:TypeId}
  (hl:laidOutB P=true) (hv:s.vars=[]) (hr:f.resultTypes = #[tb]) (htb:P.underlying tb=some .bool) (hts:∀ t ∈ f.params.toList,P.readableRec t=true∧t < P.types.size)
  (hsp:∀ ds:List (DataW H),ds.length=f.params.size→s.fn H ds={ results:=[.lit (.bool true)],args:=ds })
  (hopen:∀ (W:World) (base:Nat) (args:Array Value) (ds:List (DataW H)) (p:List MemPlace),(∀ (j:Nat) t v,f.params[j]?=some t→args[j]?=some v→Value.okWide P W .any base t v) →
   DataW.TrodAll enc P W 0 (fun _=>true) true f.params.toList args.toList ds p →
   ∃ avs:List AV,FnC P fid avs (.x (.d (.v (.bool true))))∧args.size=avs.length∧∀ (i:Nat) (x:AV) (v:Value),avs[i]?=some x→args[i]?=some v→zoK W x v)
  (W:World) (base:Nat) (args:Array Value) (ds gs:List (DataW H)) (before:List MemPlace)
  (hval:∀ (j:Nat) t v,f.params[j]?=some t→args[j]?=some v→Value.okWide P W .any base t v)
  (hW:DataW.Whole enc P f.params.toList s.vars false W args.toList ds gs before) (hL:Laid P (fun b _=>b < W.heap.size) W) :
  Calls P fid args W fun e W'=>∃ v,e=.returned v∧s.post enc P f false true false false W args v W':=by
 have hW':=hW;obtain⟨p,q,hA,hV,rfl,_,_⟩:=hW;obtain⟨avs,hF,hsz,hav⟩:=hopen W base args ds p hval hA;refine (hF.2 (fun b _=>b < W.heap.size) W args hL (fun b o h=>h) hsz hav).mono fun e W' ⟨v,K',he,hb,_,_,_,hr'⟩=>?_
 obtain rfl:v=.bool true:=by
  have h1:SR [] ⟨K',fun _=>undef⟩ W' (.d (.v (.bool true))) v:=hr';cases h1 with
  | d _ _ h=>cases h with
   | v _ _=>rfl
 exact⟨_,he,znX hl hv hr htb hts (hsp ds) hW' hb⟩
end
end Go.QL
namespace Go.Proofs.YtpfiejadigkgaaaGreatDoor
open Go Go.QL FoT Go.ChangeShapes Go.WideShapes Go.ChangeAt Go.RowKit Go.Deep
set_option maxHeartbeats 800000
set_option maxRecDepth 100000
theorem zkM:ownKnob Tryz.prog.godebug=none:=by kernel_rfl
theorem zgV:laidOutB Tryz.prog=true:=by kernel_rfl
theorem zil:mapsRowed Tryz.prog=true:=by kernel_rfl
theorem zib:Tryz.prog.plainKeys=false:=by kernel_rfl
theorem o_u8:Opens Tryz.prog 5 1 (fun pv=>∃ n,pv=[.v (.int .u8 n)]∧0≤n∧n < 256):=(zf9 Tryz.underlying5).mono fun pv ⟨n,h,hw⟩=>by
 simp only [Lit.wf,Bool.and_eq_true,decide_eq_true_eq] at hw;have h1:=hw.1;have h2:=hw.2;simp [IntKind.min,IntKind.max,IntKind.signed,IntKind.bits] at h1 h2;exact⟨n,h,by omega,by omega⟩
theorem zr2:Opens Tryz.prog 22 1 (fun pv=>∃ n,pv=[.v (.int .u32 n)]∧0≤n∧n < 4294967296):=(zf9 Tryz.underlying22).mono fun pv ⟨n,h,hw⟩=>by
 simp only [Lit.wf,Bool.and_eq_true,decide_eq_true_eq] at hw;have h1:=hw.1;have h2:=hw.2;simp [IntKind.min,IntKind.max,IntKind.signed,IntKind.bits] at h1 h2;exact⟨n,h,by omega,by omega⟩
theorem o_a8:Opens Tryz.prog 23 2 (fun pv=>∃ a b:Int,pv=[.v (.int .u8 a),.v (.int .u8 b)]∧(0≤a∧a < 256)∧(0≤b∧b < 256)):=
 (zjk Tryz.underlying23 (by kernel_rfl) (by kernel_rfl) o_u8).mono fun pv h=>by
  obtain⟨pa,qa,rfl,_,⟨a,rfl,ha⟩,pb,qb,rfl,_,⟨b,rfl,hb⟩,rfl⟩:=h;exact⟨a,b,rfl,ha,hb⟩
theorem zpU {W:World} {x y:String × DataW Unit} {n3:String} {d:DataW Unit} {r:List (String × DataW Unit)}
  (h:laidMet Tryz.prog (x::y::(n3,d)::r) W) (hn3:zdX n3=pow10codes) (hd:d=Lib.tabData .u64 Lib.pow10Tab):Laid Tryz.prog (fun b _=>b < W.heap.size) W:=by
 subst hd;have e3:n3=String.ofList (pow10codes.map Char.ofNat):=zb9 (hn3.trans (by decide +kernel));subst e3;refine ziq (fun nm hc=>.inr ?_) (fun nm hc=>.inl ?_) (fun nm hc=>.inl ?_)
 ·obtain rfl:nm=String.ofList (pow10codes.map Char.ofNat):=zb9 (hc.trans (by decide +kernel));exact Lib.tabIs_of_head (g:=0) (t:=229) (n:=20) (by kernel_rfl) (by kernel_rfl) Tryz.underlying229 (by kernel_rfl) (by kernel_rfl) (by kernel_rfl) h.tail.tail
 ·unfold zfD at hc;simp only [Bool.or_eq_true,beq_iff_eq] at hc;rcases hc with hc|hc
  ·obtain rfl:nm=String.ofList (([115,116,114,99,111,110,118,46,69,114,114,83,121,110,116,97,120]:List Nat).map Char.ofNat):=zb9 (hc.trans (by decide +kernel));kernel_rfl
  ·obtain rfl:nm=String.ofList (([115,116,114,99,111,110,118,46,69,114,114,82,97,110,103,101]:List Nat).map Char.ofNat):=zb9 (hc.trans (by decide +kernel));kernel_rfl
 ·unfold zfx at hc;rw [beq_iff_eq] at hc;obtain rfl:nm=String.ofList (([105,110,116,101,114,110,97,108,47,98,121,116,101,97,108,103,46,77,97,120,76,101,110]:List Nat).map Char.ofNat):=zb9 (hc.trans (by decide +kernel));kernel_rfl
noncomputable def zge (os:Os):World:=
 let w0:=World.holding Tryz.prog os ⟨#[],#[],[]⟩
 { w0 with heap:=(((w0.heap.modify 0 fun
   | .cells _ t frozen=>.cells (Lib.pow10Tab.map fun z=>Value.int .u64 z).toArray t frozen
   | o=>o).modify 1 fun
   | .cells _ t frozen=>.cells (#[0,1,28,2,29,14,24,3,30,22,20,15,25,17,4,8,31,27,13,23,21,19,16,7,26,12,18,6,11,5,10,9].map fun n=>.int .u8 n) t frozen
   | o=>o).modify 2 fun
   | .cells _ t frozen=>.cells (#[0,1,56,2,57,49,28,3,61,58,42,50,38,29,17,4,62,47,59,36,45,43,51,22,53,39,33,30,24,18,12,5,63,55,48,27,60,41,37,16,46,35,44,21,52,32,23,11,54,26,40,15,34,20,31,10,25,14,19,9,13,8,7,6].map fun n=>.int .u8 n) t frozen
   | o=>o) }
end Go.Proofs.YtpfiejadigkgaaaGreatDoor
end
