/- What the arguments of the laws are, by their types; from contracts to rows. No condition. -/
import Derived.Test.YtnkhljdifljdbaaGreatDoorB04
import Derived.Carry
import Derived.Deep.Slices
import Derived.OpenShut
import Derived.ProofKit
import Derived.ChangeCalls
import Derived.Deep.DeepHandedRow
import Derived.Test.YtnkhljdifljdbaaGreatDoorCards
import Derived.Test.YtnkhljdifljdbaaGreatDoorTie
import Derived.WalkKit
import Derived.Lib.LaidTab
import Derived.Stop.LaidErr
import Derived.Shelf.Vars
set_option linter.all false
noncomputable section
namespace Go.QL
open Go Go.RowKit Go.ChangeShapes Go.WideShapes Go.Deep
def Opens (P:Program) (t:TypeId) (n:Nat) (Q:List PV→Prop):Prop:=
 ∀ (H:Type) (enc:TypeId × Value→H) (w:World) (base:Nat) (sp:Nat→Bool) (held:Bool) (fuel:Nat) (cs:List Value) (x:DataW H × List MemPlace),DataW.trod enc P w base sp held fuel t cs=some x →
  ∃ pv:List PV,pv.length=n∧cs.length=n∧Q pv∧∀ (j:Nat) (p:PV) (v:Value),pv[j]?=some p→cs[j]?=some v→PR (fun b _=>b < w.heap.size) w p v
variable {P:Program}
theorem Opens.mono {t:TypeId} {n:Nat} {Q Q':List PV→Prop} (h:Opens P t n Q) (hq:∀ pv,Q pv→Q' pv):Opens P t n Q':=by
 intro H enc w base sp held fuel cs x hx;obtain⟨pv,h1,h2,h3,h4⟩:=h H enc w base sp held fuel cs x hx;exact⟨pv,h1,h2,hq _ h3,h4⟩
theorem zej {w:World} {p0:PV} {v0:Value} (h:PR (fun b _=>b < w.heap.size) w p0 v0) (j:Nat) (p:PV) (v:Value) (h1:[p0][j]?=some p) (h2:[v0][j]?=some v):PR (fun b _=>b < w.heap.size) w p v:=by
 cases j with
 | zero=>cases h1;cases h2;exact h
 | succ j=>simp at h1
theorem zf9 {t:TypeId} {k:IntKind} (ht:P.underlying t=some (.int k)):Opens P t 1 (fun pv=>∃ n,pv=[.v (.int k n)]∧(Lit.int k n).wf=true):=by
 intro H enc w base sp held fuel cs x h;obtain⟨n,rfl,_,hw⟩:=DataW.trod_int ht h;exact⟨[.v (.int k n)],rfl,rfl,⟨n,rfl,hw⟩,zej (.v _ rfl)⟩
theorem zqo {w:World} {b o:Nat} {s:Option Nat} {v:Value} (h:w.cell? ⟨b,o,none⟩=some v):b < w.heap.size:=by
 unfold World.cell? at h;cases hh:w.heap[b]? with
 | none=>simp [hh] at h
 | some _=>exact (Array.getElem?_eq_some_iff.1 hh).1
theorem zaP {t e:TypeId} {m:Nat} {Q:List PV→Prop} (ht:P.underlying t=some (.slice e)) (hc:P.cellsOf e=m) (hm:0 < m) (he:Opens P e m Q) :
  Opens P t 1 (fun pv=>∃ xs:List (List PV),pv=[.s m xs]∧∀ x ∈ xs,Q x):=by
 intro H enc w base sp held fuel cs x h;rcases open_slice ht h with ⟨rfl,_⟩|⟨a,len,cap,m',n,D,Pl,rfl,hb,hl,hcap,hm',_,hel⟩
 ·refine⟨[.s m []],rfl,rfl,⟨[],rfl,fun _ h=>by cases h⟩,zej ?_⟩
  exact PR.s m [] none 0 0 0 (fun _ _=>undef) (Nat.le_refl _) (Nat.zero_le _) (fun _ h=>by cases h) (fun h=>absurd rfl h) (fun i e h=>by simp at h) (fun i e h=>by simp at h) (fun i e h=>by simp at h)
 ·subst hc;have key:∀ i,∃ p:List PV × List Value,i < len→w.cells? base (a.add (i * P.cellsOf e)) (P.cellsOf e)=some p.2∧p.1.length=P.cellsOf e∧Q p.1 ∧
    ∀ (j:Nat) (q:PV) (v:Value),p.1[j]?=some q→p.2[j]?=some v→PR (fun b _=>b < w.heap.size) w q v:=by
   intro i;by_cases hi:i < len
   ·obtain⟨cs',h1,h2⟩:=hel i (by rw [hm'];split <;> omega);obtain⟨pv,g1,_,g3,g4⟩:=he H enc w base sp held n cs' _ h2;exact⟨(pv,cs'),fun _=>⟨h1,g1,g3,g4⟩⟩
   ·exact⟨([],[]),fun h=>absurd h hi⟩
  obtain⟨F,hF⟩:=Classical.axiomOfChoice key;have hlen:((List.range len).map fun i=>(F i).1).length=len:=by simp
  have hget:∀ i y,((List.range len).map fun i=>(F i).1)[i]?=some y→i < len∧(F i).1=y:=by
   intro i y hy;rw [List.getElem?_map] at hy;by_cases hi:i < len
   ·rw [List.getElem?_range hi] at hy;exact⟨hi,Option.some.inj hy⟩
   ·rw [List.getElem?_eq_none (by simp;omega)] at hy;cases hy
  have hQ:∀ y ∈ (List.range len).map fun i=>(F i).1,Q y:=by
   intro y hy;obtain⟨i,hi,rfl⟩:=List.mem_map.1 hy;exact (hF i (List.mem_range.1 hi)).2.2.1
  have hcell:∀ i,i < len→∀ j,j < P.cellsOf e→w.cell? ((a.add (i * P.cellsOf e)).add j)=(F i).2[j]?∧(F i).2.length=P.cellsOf e:=by
   intro i hi j hj;obtain⟨_,h2,h3⟩:=World.cells?_some (hF i hi).1;exact⟨h3 j hj,h2⟩
  refine⟨[.s (P.cellsOf e) ((List.range len).map fun i=>(F i).1)],rfl,rfl,⟨_,rfl,hQ⟩,zej ?_⟩
  revert hlen hget
  generalize (List.range len).map (fun i=>(F i).1)=xs;intro hlen hget;have hsome:∀ i,i < len→∀ j,j < P.cellsOf e→(F i).2[j]?=some ((F i).2.getD j undef):=by
   intro i hi j hj;have:=(hcell i hi j hj).2;rw [List.getD_eq_getElem?_getD,List.getElem?_eq_getElem (by omega)];rfl
  obtain⟨b,off,spot⟩:=a;have hspot:0 < len→spot=none:=by
   intro h0;have h1:=(hcell 0 h0 0 hm).1;rw [hsome 0 h0 0 hm] at h1;have h2:=World.cell?_spot h1;simpa [Addr.add] using h2
  have hc':∀ i,i < len→∀ j,j < P.cellsOf e→w.cell? ⟨b,off+(i * P.cellsOf e+j),none⟩=some ((F i).2.getD j undef):=by
   intro i hi j hj;have h0:=hspot (by omega);subst h0;have h1:=(hcell i hi j hj).1;rw [hsome i hi j hj] at h1;have hadd:∀ o k:Nat,(⟨b,o,none⟩:Addr).add k=⟨b,o+k,none⟩:=by
    intro o k;by_cases hk:k=0
    ·subst hk;simp [Addr.add]
    ·simp [Addr.add,hk]
   rw [hadd,hadd] at h1;rw [← Nat.add_assoc];exact h1
  have hPR:=PR.s (K:=fun b _=>b < w.heap.size) (w:=w) (P.cellsOf e) xs (some ⟨b,off,spot⟩) cap b off (fun i j=>(F i).2.getD j undef) (by omega) hcap
   (fun y hy=>by
    obtain⟨i,hi,rfl⟩:=List.getElem_of_mem hy;obtain⟨h1,h2⟩:=hget i _ (List.getElem?_eq_getElem hi);rw [← h2];exact (hF i h1).2.1)
   (fun hne=>by
    have:0 < len:=by
     rw [← hlen];cases xs with
     | nil=>exact absurd rfl hne
     | cons=>simp
    rw [hspot this])
   (fun i y hy j hj=>by
    obtain⟨h1,h2⟩:=hget i y hy;have h3:=(hF i h1).2.1;rw [h2] at h3;exact zqo (s:=none) (hc' i h1 j (by omega)))
   (fun i y hy j hj=>by
    obtain⟨h1,h2⟩:=hget i y hy;have h3:=(hF i h1).2.1;rw [h2] at h3;exact hc' i h1 j (by omega))
   (fun i y hy j q hq=>by
    obtain⟨h1,h2⟩:=hget i y hy;have h3:=(hF i h1).2.1;rw [h2] at h3;have hj:j < P.cellsOf e:=by
     have:=(List.getElem?_eq_some_iff.1 hq).1;omega
    exact (hF i h1).2.2.2 j q _ (by rw [h2];exact hq) (hsome i h1 j hj))
  rw [hlen] at hPR;exact hPR
def QF:List (Nat × (List PV→Prop))→List PV→Prop
 | [],pv=>pv=[]
 | (m,Q)::L,pv=>∃ a b,pv=a ++ b∧a.length=m∧Q a∧QF L b
def zfI (P:Program):Nat→List Field→List (Nat × (List PV→Prop))→Prop
 | _,[],[]=>True
 | off,f::fs,(m,Q)::L=>f.offset=off∧P.cellsOf f.type=m∧Opens P f.type m Q∧zfI P (off+m) fs L
 | _,_,_=>False
theorem zc0 {H:Type} {enc:TypeId × Value→H} {w:World} {base:Nat} {sp:Nat→Bool} {held:Bool} {n:Nat} {cs:List Value}:∀ {fs:List Field} {L:List (Nat × (List PV→Prop))} {off:Nat},
  zfI P off fs L→(∀ f ∈ fs,∃ x,DataW.trod enc P w base sp held n f.type ((cs.drop f.offset).take (P.cellsOf f.type))=some x) →
  ∃ pv:List PV,pv.length=(L.map (·.1)).sum∧QF L pv∧∀ (j:Nat) (p:PV) (v:Value),pv[j]?=some p→cs[off+j]?=some v→PR (fun b _=>b < w.heap.size) w p v
 | [],[],_,_,_=>⟨[],rfl,rfl,fun j p v h=>by simp at h⟩
 | [],_::_,_,h,_=>h.elim
 | _::_,[],_,h,_=>h.elim
 | f::fs,(m,Q)::L,off,h,hx=>by
  obtain⟨h1,h2,h3,h4⟩:=h;obtain⟨x,hx0⟩:=hx f List.mem_cons_self;obtain⟨a,ha1,ha2,ha3,ha4⟩:=h3 H enc w base sp held n _ x hx0;obtain⟨b,hb1,hb2,hb3⟩:=zc0 h4 fun g hg=>hx g (List.mem_cons_of_mem _ hg)
  refine⟨a ++ b,by simp [ha1,hb1],⟨a,b,rfl,ha1,ha3,hb2⟩,fun j p v hp hv=>?_⟩
  by_cases hj:j < m
  ·rw [List.getElem?_append_left (by omega)] at hp;refine ha4 j p v hp ?_
   rw [h1,h2,List.getElem?_take_of_lt (by omega),List.getElem?_drop];exact hv
  ·rw [List.getElem?_append_right (by omega)] at hp;refine hb3 (j - m) p v (by rw [← ha1];exact hp) ?_
   rw [show off+m+(j - m)=off+j by omega];exact hv
theorem zaU {t:TypeId} {fs:Array Field} {n:Nat} (L:List (Nat × (List PV→Prop))) (ht:P.underlying t=some (.struct fs)) (hn:P.cellsOf t=n) (hs:(L.map (·.1)).sum=n) (hL:zfI P 0 fs.toList L):Opens P t n (QF L):=by
 intro H enc w base sp held fuel cs x h;obtain⟨xs,k,rfl,_,hl,hlen,hf⟩:=DataW.trod_struct ht h;obtain⟨pv,h1,h2,h3⟩:=zc0 (enc:=enc) (w:=w) (base:=base) (sp:=sp) (held:=held) (n:=k) (cs:=cs) hL (fun f hf'=>by
  obtain⟨i,hi,rfl⟩:=List.getElem_of_mem hf';have hi':i < fs.size:=by simpa using hi
  have:=hf i fs.toList[i] (by simp [hi']);rw [List.getElem?_eq_getElem (by omega)] at this;exact⟨_,this⟩)
 exact⟨pv,by omega,by omega,h2,fun j p v hp hv=>h3 j p v hp (by rw [Nat.zero_add];exact hv)⟩
abbrev zoK (W:World) (x:AV) (v:Value):Prop:=VR2 [] ⟨fun b _=>b < W.heap.size,fun _=>undef⟩ W x v
section
variable {H:Type} {enc:TypeId × Value→H} {W:World} {base:Nat} {sp:Nat→Bool} {held:Bool} {t:TypeId} {v:Value} {d:DataW H} {ps:List MemPlace}
theorem zsg {n:Nat} {Q:List PV→Prop} {cs:Array Value} (ho:Opens P t n Q) (hv:v=.agg cs) (h:DataW.Trod enc P W base sp held t v d ps):∃ pv,Q pv∧zoK W (.a (pv.map .d)) v:=by
 obtain⟨fuel,hf⟩:=h;subst hv;obtain⟨pv,h1,h2,h3,h4⟩:=ho H enc W base sp held fuel _ _ hf;have hcs:(Value.agg cs).cells.toList=cs.toList:=rfl;rw [hcs] at h2 h4;refine⟨pv,h3,cs,rfl,by simpa using (by omega:cs.toList.length=pv.length),fun i s u hs hu=>?_⟩
 rw [List.getElem?_map] at hs;cases hp:pv[i]? with
 | none=>rw [hp] at hs;cases hs
 | some p=>
  rw [hp] at hs;cases hs;exact .d p u (h4 i p u hp (by simpa using hu))
end
theorem zch {α : Type} {F : α→List PV} {R : α→Prop}:∀ {xs:List (List PV)},(∀ x ∈ xs,∃ y,x=F y∧R y)→∃ l:List α,xs=l.map F∧∀ y ∈ l,R y
 | [],_=>⟨[],rfl,fun _ h=>by cases h⟩
 | x::r,h=>by
  obtain⟨y,rfl,hy⟩:=h x List.mem_cons_self;obtain⟨l,rfl,hl⟩:=zch (xs:=r) fun z hz=>h z (List.mem_cons_of_mem _ hz)
  exact⟨y::l,rfl,fun z hz=>by
   rcases List.mem_cons.1 hz with rfl|hz
   ·exact hy
   ·exact hl z hz⟩
section
variable {H:Type} {enc:TypeId × Value→H}
theorem zd3 {W W':World} (hl:laidOutB P=true) (hb:Below W.heap.size W W'):∀ {ts:List TypeId} {vs:List Value} {ds:List (DataW H)} {ps:List MemPlace},(∀ t ∈ ts,P.readableRec t=true∧t < P.types.size) →
  (∀ x ∈ ps,x.block < W.heap.size)→DataW.TrodAll enc P W 0 (fun _=>true) true ts vs ds ps→DataW.TrodAll enc P W' 0 (fun b=>decide (b < W.heap.size)) true ts vs ds ps
 | [],vs,ds,ps,_,_,h=>by
  obtain⟨rfl,rfl,rfl⟩:=trodAll_nil h;exact rfl
 | t::ts,vs,ds,ps,ht,hp,h=>by
  obtain⟨v,vs1,d,ds1,a,b,rfl,rfl,rfl,h1,h2⟩:=trodAll_cons h;exact⟨a,b,Below.trod hl (ht t List.mem_cons_self).1 (ht t List.mem_cons_self).2 h1 hb (fun x hx=>hp x (by simp [hx])),
   zd3 hl hb (fun u hu=>ht u (List.mem_cons_of_mem _ hu)) (fun x hx=>hp x (by simp [hx])) h2,rfl⟩
theorem znX {f:Func} {s:ChangeSpec} {W W':World} {args:Array Value} {ds gs:List (DataW H)} {before:List MemPlace} {tb:TypeId}
  (hl:laidOutB P=true) (hv:s.vars=[]) (hr:f.resultTypes = #[tb]) (htb:P.underlying tb=some .bool) (hts:∀ t ∈ f.params.toList,P.readableRec t=true∧t < P.types.size)
  (hsp:ds.length=f.params.size→s.fn H ds={ results:=[.lit (.bool true)],args:=ds })
  (hW:DataW.Whole enc P f.params.toList s.vars false W args.toList ds gs before) (hb:Below W.heap.size W W'):s.post enc P f false true false false W args (.bool true) W':=by
 have hW':=hW;obtain⟨p,q,hA,hV,rfl,_,_⟩:=hW;rw [hv] at hV;obtain⟨rfl,rfl⟩:=trodVars_none hV;have hlen:ds.length=f.params.size:=by
  have:=(trodAll_length hA).2;simpa using this
 have hlt:∀ x ∈ p,x.block < W.heap.size:=fun x hx=>hW'.lt x (by simp [hx])
 have hs:=hsp hlen;refine⟨ds,[],p ++ [],[],p,[],hW',?_,?_,?_,hb.frame _,fun h=>by cases h⟩
 ·rw [List.append_nil,hs,hr];exact trodAll_cons_mk (shut_bool htb _) trodAll_mk0
 ·rw [List.append_nil,hs];exact zd3 hl hb hts hlt hA
 ·rw [hv,List.append_nil,hs];exact rfl
theorem zcG {W:World} {nm:String} {g:Nat} {vs:List Value} (hg:P.globalNamed nm=some g) (h:W.var? P nm=some vs.toArray):LaidAt (fun b _=>b < W.heap.size) W g vs:=by
 intro o;unfold World.var? at h;rw [hg] at h;simp only [Option.bind_some] at h;split at h
 ·rename_i cs T fz hh;cases h;refine⟨(Array.getElem?_eq_some_iff.1 hh).1,?_⟩
  unfold World.cell?;dsimp only;rw [hh];simp
 ·cases h
theorem ziq {W:World} (h1:∀ nm,zdX nm=pow10codes→P.globalNamed nm=none∨Lib.TabIs P W nm .u64 Lib.pow10Tab)
  (h2:∀ nm,zfD (zdX nm)=true→P.globalNamed nm=none∨∃ tp p,W.var? P nm=some #[.iface tp p])
  (h3:∀ nm,zfx (zdX nm)=true→P.globalNamed nm=none∨∃ m,W.var? P nm=some #[.int .i64 m]):Laid P (fun b _=>b < W.heap.size) W:=by
 intro nm g hg;refine⟨fun hn=>?_,fun hn=>?_,fun hn=>?_⟩
 ·rcases h1 nm hn with h|h
  ·rw [h] at hg;cases hg
  ·exact zcG hg (by unfold Lib.TabIs at h;exact h)
 ·rcases h2 nm hn with h|⟨tp,p,h⟩
  ·rw [h] at hg;cases hg
  ·exact⟨tp,p,zcG hg h⟩
 ·rcases h3 nm hn with h|⟨m,h⟩
  ·rw [h] at hg;cases hg
  ·exact⟨m,zcG hg h⟩
theorem zio {fid:FuncId} {f:Func} {s:ChangeSpec} {tb:TypeId}
  (hl:laidOutB P=true) (hv:s.vars=[]) (hr:f.resultTypes = #[tb]) (htb:P.underlying tb=some .bool) (hts:∀ t ∈ f.params.toList,P.readableRec t=true∧t < P.types.size)
  (hsp:∀ ds:List (DataW H),ds.length=f.params.size→s.fn H ds={ results:=[.lit (.bool true)],args:=ds })
  (hopen:∀ (W:World) (base:Nat) (args:Array Value) (ds:List (DataW H)) (p:List MemPlace),(∀ (j:Nat) t v,f.params[j]?=some t→args[j]?=some v→Value.okWide P W .any base t v) →
   DataW.TrodAll enc P W 0 (fun _=>true) true f.params.toList args.toList ds p →
   ∃ avs:List AV,FnC P fid avs (.x (.d (.v (.bool true))))∧args.size=avs.length∧∀ (i:Nat) (x:AV) (v:Value),avs[i]?=some x→args[i]?=some v→zoK W x v)
  (W:World) (base:Nat) (args:Array Value) (ds gs:List (DataW H)) (before:List MemPlace)
  (hval:∀ (j:Nat) t v,f.params[j]?=some t→args[j]?=some v→Value.okWide P W .any base t v)
  (hW:DataW.Whole enc P f.params.toList s.vars false W args.toList ds gs before) (hL:Laid P (fun b _=>b < W.heap.size) W) :
  Calls P fid args W fun e W'=>∃ v,e=.returned v∧s.post enc P f false true false false W args v W':=by
 have hW':=hW;obtain⟨p,q,hA,hV,rfl,_,_⟩:=hW;obtain⟨avs,hF,hsz,hav⟩:=hopen W base args ds p hval hA;refine (hF.2 (fun b _=>b < W.heap.size) W args hL (fun b o h=>h) hsz hav).mono fun e W' ⟨v,K',he,hb,_,_,_,hr'⟩=>?_
 obtain rfl:v=.bool true:=by
  have h1:SR [] ⟨K',fun _=>undef⟩ W' (.d (.v (.bool true))) v:=hr';cases h1 with
  | d _ _ h=>cases h with
   | v _ _=>rfl
 exact⟨_,he,znX hl hv hr htb hts (hsp ds) hW' hb⟩
end
end Go.QL
namespace Go.Proofs.YtnkhljdifljdbaaGreatDoor
open Go Go.QL FoT Go.ChangeShapes Go.WideShapes Go.ChangeAt Go.RowKit Go.Deep
set_option maxHeartbeats 800000
set_option maxRecDepth 100000
theorem zkM:ownKnob Tryz.prog.godebug=none:=by kernel_rfl
theorem zgV:laidOutB Tryz.prog=true:=by kernel_rfl
theorem zil:mapsRowed Tryz.prog=true:=by kernel_rfl
theorem zib:Tryz.prog.plainKeys=true:=by kernel_rfl
def errSyn:List Nat:=[115,116,114,99,111,110,118,46,69,114,114,83,121,110,116,97,120]
def errRng:List Nat:=[115,116,114,99,111,110,118,46,69,114,114,82,97,110,103,101]
def zl7:String:=String.ofList (([105,110,116,101,114,110,97,108,47,98,121,116,101,97,108,103,46,77,97,120,76,101,110]:List Nat).map Char.ofNat)
theorem zmK (u:TypeId) (h:Tryz.prog.typeName? 3 u=some ("*" ++ "errors.errorString")):u=417:=
 typeName_ptr_named (nm:= "errors.errorString") (by kernel_rfl) (by kernel_rfl) (by decide) u h
theorem zpU {W:World} {x y z:String × DataW Unit} {n3 n5 n6:String} {d:DataW Unit} {t5 t6:List UInt8} {r:List (String × DataW Unit)}
  (h:laidMet Tryz.prog (x::y::(n3,d)::z::(n5,.iface "*errors.errorString" (.ptr (.agg [.lit (.string t5)])))::(n6,.iface "*errors.errorString" (.ptr (.agg [.lit (.string t6)])))::r) W) (hsh:W.ShapedOpen Tryz.prog)
  (hn3:zdX n3=pow10codes) (hd:d=Lib.tabData .u64 Lib.pow10Tab) (hn5:zdX n5=errRng) (hn6:zdX n6=errSyn):Laid Tryz.prog (fun b _=>b < W.heap.size) W:=by
 subst hd;have e3:n3=String.ofList (pow10codes.map Char.ofNat):=zb9 (hn3.trans (by decide +kernel));have e5:n5=String.ofList (errRng.map Char.ofNat):=zb9 (hn5.trans (by decide +kernel));have e6:n6=String.ofList (errSyn.map Char.ofNat):=zb9 (hn6.trans (by decide +kernel));subst e3 e5 e6;have s5:=laid_sentinel h.tail.tail.tail.tail (g:=5) (ti:=101) (tp:=417) (te:=419) (ts:=9) (by kernel_rfl) (by kernel_rfl) Tryz.underlying101 zmK Tryz.underlying417 Tryz.underlying419 rfl rfl Tryz.underlying9 (by kernel_rfl) (by kernel_rfl);have s6:=laid_sentinel h.tail.tail.tail.tail.tail (g:=4) (ti:=101) (tp:=417) (te:=419) (ts:=9) (by kernel_rfl) (by kernel_rfl) Tryz.underlying101 zmK Tryz.underlying417 Tryz.underlying419 rfl rfl Tryz.underlying9 (by kernel_rfl) (by kernel_rfl);refine ziq (fun nm hc=>.inr ?_) (fun nm hc=>.inr ?_) (fun nm hc=>.inr ?_)
 ·obtain rfl:nm=String.ofList (pow10codes.map Char.ofNat):=zb9 (hc.trans (by decide +kernel));exact Lib.tabIs_of_head (g:=1) (t:=385) (n:=20) (by kernel_rfl) (by kernel_rfl) Tryz.underlying385 (by kernel_rfl) (by kernel_rfl) (by kernel_rfl) h.tail.tail
 ·unfold zfD at hc;simp only [Bool.or_eq_true,beq_iff_eq] at hc;rcases hc with hc|hc
  ·obtain rfl:nm=String.ofList (errSyn.map Char.ofNat):=zb9 (hc.trans (by decide +kernel));obtain⟨a,s,hv,_⟩:=s6;exact⟨_,_,hv⟩
  ·obtain rfl:nm=String.ofList (errRng.map Char.ofNat):=zb9 (hc.trans (by decide +kernel));obtain⟨a,s,hv,_⟩:=s5;exact⟨_,_,hv⟩
 ·unfold zfx at hc;rw [beq_iff_eq] at hc;obtain rfl:nm=zl7:=zb9 (hc.trans (by decide +kernel));have h0:((begin Tryz.prog (fun _ _=>0) default).world.heap[0]?).bind Obj.row?=some (#[.int .i64 0],3):=by kernel_rfl
  obtain⟨m,hm⟩:=cell_of_shapedOpen_int (g:=0) hsh (of_decide_eq_true (by kernel_rfl)) h0 rfl (by kernel_rfl) (by kernel_rfl) Tryz.underlying3;obtain⟨cs,hh,hs,_⟩:=hsh.1 _ _ _ (of_decide_eq_true (by kernel_rfl)) h0;refine⟨m,?_⟩
  have hg:Tryz.prog.globalNamed zl7=some 0:=by kernel_rfl
  unfold World.var?;rw [hg];simp only [Option.bind_some];rw [hh];refine congrArg some (Array.ext (by simpa using hs) fun i h1 h2=>?_)
  have hi:i=0:=by simp at h2;omega
  subst hi;have hc2:=hm;simp [World.cell?,hh] at hc2;obtain⟨_,hc2⟩:=Array.getElem?_eq_some_iff.1 hc2;simpa using hc2
noncomputable def lowN:Nat:=(World.holding Tryz.prog default ⟨#[],#[],[]⟩).heap.size
def rngS:ByteArray:=⟨#[118,97,108,117,101,32,111,117,116,32,111,102,32,114,97,110,103,101]⟩
def synS:ByteArray:=⟨#[105,110,118,97,108,105,100,32,115,121,110,116,97,120]⟩
noncomputable def zge (os:Os):World:=
 let w0:=World.holding Tryz.prog os ⟨#[.cells #[.string rngS] 419,.cells #[.string synS] 419],#[],[]⟩
 { w0 with heap:=(((((((w0.heap.modify 1 fun
   | .cells _ t frozen=>.cells (Lib.pow10Tab.map fun z=>Value.int .u64 z).toArray t frozen
   | o=>o).modify 6 fun
   | .cells _ t frozen=>.cells (#[0,1,28,2,29,14,24,3,30,22,20,15,25,17,4,8,31,27,13,23,21,19,16,7,26,12,18,6,11,5,10,9].map fun n=>.int .u8 n) t frozen
   | o=>o).modify 7 fun
   | .cells _ t frozen=>.cells (#[0,1,56,2,57,49,28,3,61,58,42,50,38,29,17,4,62,47,59,36,45,43,51,22,53,39,33,30,24,18,12,5,63,55,48,27,60,41,37,16,46,35,44,21,52,32,23,11,54,26,40,15,34,20,31,10,25,14,19,9,13,8,7,6].map fun n=>.int .u8 n) t frozen
   | o=>o).modify 3 fun
   | .cells _ t frozen=>.cells (#[128,191,160,191,128,159,144,191,128,143,0,0,0,0,0,0,0,0,0,0,0,0,0,0,0,0,0,0,0,0,0,0].map fun n=>.int .u8 n) t frozen
   | o=>o).modify 5 fun
   | .cells _ t frozen=>.cells #[.iface 417 (.pointer (some ⟨lowN,0,none⟩))] t frozen
   | o=>o).modify 4 fun
   | .cells _ t frozen=>.cells #[.iface 417 (.pointer (some ⟨lowN+1,0,none⟩))] t frozen
   | o=>o).modify 2 fun
   | .cells _ t frozen=>.cells (((List.replicate 128 (240:Int)) ++ List.replicate 66 241 ++ List.replicate 30 2 ++ [19] ++ List.replicate 12 3 ++ [35] ++ List.replicate 2 3 ++ [52] ++ List.replicate 3 4 ++ [68] ++ List.replicate 11 241).map fun n=>Value.int .u8 n).toArray t frozen
   | o=>o) }
end Go.Proofs.YtnkhljdifljdbaaGreatDoor
end
