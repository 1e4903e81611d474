/- The logic of walks, and what the functions of the program return: part 3. No condition. -/
import Derived.Test.YtdgkljfpaddfpaaGreatDoorB02
import Derived.Shelf.LaysM
import Derived.Shelf.LaysC
import Derived.Shelf.Strconv.Itoa3
import Derived.Shelf.Strconv.AtoiAll
import Derived.Shelf.Strconv.ErrVarAll
import Derived.Shelf.Strings.BuilderK
import Derived.Shelf.Strings.Repeat
import Derived.Shelf.Small.Wraps
import Derived.Test.YtdgkljfpaddfpaaGreatDoorProg
import Derived.Lib.AppendIntMem
import Derived.Lib.ItoaLen
import Derived.Lib.AtoiErrMem
import Derived.Lib.CutLaws
import Derived.Lib.AtoiTie
import Derived.Shelf.Spec.SlicesGrow
set_option linter.all false
namespace Go.QL
open Go Go.RowKit
def zm8 (P:Program) (f:FuncId) (args:List AV) (σ:Sg) (u:FrameMode) (R:FrameMode→Sg→Prop):Prop:=
 Good P f∧∀ (w0:World) (K0:Bs) (g:Gh) (w:World) (vs:Array Value),Laid P K0.K w0→Hp w0 K0 σ g w→vs.size=args.length →
  (∀ (i:Nat) (x:AV) (v:Value),args[i]?=some x→vs[i]?=some v→VR2 σ g w x v) →
  CallsDIn Fence.wide 0 P f vs u w fun e u' w'=>∃ v g' σ',e=.returned v∧Did w0 K0 σ g w σ' g' w'∧R u' σ'
def AWx (P:Program) (Γ:Cx) (c:Code) (E:Exit→Act→World→Prop) (fr:Fr) (σ:Sg):Prop:=
 Laid P Γ.K0.K Γ.w0→∀ g a w,Rel Γ fr σ g a w→c.wpIn (FX Γ.ro) 0 P E a w
def DF (B B':SV→Value→Prop) (fid:FuncId) (first captured:List SV) (d:Deferred):Prop:=
 (∀ s v,B s v→B' s v)∧∃ v1 v2,B' (.f (.func fid) first captured) (.func (.func fid) v1 v2)∧d=⟨.fn (.func fid) v2,v1⟩
abbrev Cx.dfrd (Γ:Cx) (σ:Sg) (B':SV→Value→Prop) (d:Deferred):Cx:=⟨Γ.w0,Γ.K0,Γ.nt,B',σ.map (·.1),Γ.ro,Γ.dfs,d :: Γ.bs⟩
def zjQ (P:Program) (tt:TT) (Γ:Cx) (all:List Oper) (k:Cx→Fr→Sg→Prop):List Oper→Fr→Sg→Prop
 | [],_,_=>False
 | o::r,fr,σ=>
  match o.guard,o.dst,o.op with
  | none,none,.defer ⟨.value f,args,_⟩=>args.toList=[]∧ev1 fr none f fun fv=>
   (match fv with
   | .x (.f (.func fid) first captured)=>(Γ.dfs.all fun i=>!(lk i σ).isSome)=true∧∀ B' d,DF Γ.B B' fid first captured d→zah P tt Γ.nt all (fun fr' σ'=>k (Γ.dfrd σ B' d) fr' σ') r fr σ
   | _=>False)
  | _,_,_=>zah P tt Γ.nt all (fun fr' σ'=>zjQ P tt Γ all k r fr' σ') [o] fr σ
section
variable {P:Program} {Γ:Cx} {fr:Fr} {σ:Sg}
theorem zrx {c:Code} {Q:Exit→Fr→Sg→Prop} {E:Exit→Act→World→Prop} (h:AW P Γ c Q fr σ) (hq:∀ e fr σ g a w,Rel Γ fr σ g a w→Q e fr σ→E e a w):AWx P Γ c E fr σ:=
 fun hL g a w hr=>wpIn_mono (h.use hL hr) fun e a w ⟨fr,σ,g,r,q⟩=>hq e fr σ g a w r q
theorem zm9 {x y:Code} {Q:Exit→Fr→Sg→Prop} {E:Exit→Act→World→Prop} (h:AW P Γ x (Exit.thn (AWx P Γ y E) Q) fr σ) (hq:∀ e fr σ g a w,Rel Γ fr σ g a w→Q e fr σ→E e a w):AWx P Γ (.seq x y) E fr σ:=by
 intro hL g a w hr;refine wpIn_seq (wpIn_mono (h.use hL hr) ?_)
 intro e a w ⟨fr,σ,g,r,q⟩;cases e with
 | normal=>exact q hL g a w r
 | ret=>exact hq _ _ _ _ _ _ r q
 | exit _=>exact hq _ _ _ _ _ _ r q
 | goto _=>exact hq _ _ _ _ _ _ r q
 | panic _=>exact hq _ _ _ _ _ _ r q
 | outgrown=>exact hq _ _ _ _ _ _ r q
theorem Rel.dfrd {g:Gh} {a:Act} {w:World} (hr:Rel Γ fr σ g a w) (hno:(Γ.dfs.all fun i=>!(lk i σ).isSome)=true) (d:Deferred):Rel (Γ.dfrd σ (SR σ g w) d) fr σ g { a with defers:=d::a.defers } w:=by
 refine⟨hr.hp,hr.fr,hr.size,?_,fun s v h=>⟨h,h.inI⟩⟩
 obtain⟨ms,hms,is,h1,h2,h3⟩:=hr.defers;have:ms=[]:=by
  cases ms with
  | nil=>rfl
  | cons x r=>
   cases is with
   | nil=>cases h2
   | cons i r'=>
    obtain⟨hi,hl,_⟩:=h3 0 i x rfl rfl;rw [List.all_eq_true] at hno;have:=hno i hi;rw [hl] at this;cases this
 subst this;exact⟨[],by show d::a.defers=_;rw [hms];rfl,DR.empty⟩
theorem zhP {tt:TT} (htt:tt.ok P) (hro:Γ.ro=none) (hL:Laid P Γ.K0.K Γ.w0) {all:List Oper} {k:Cx→Fr→Sg→Prop} {E:Exit→Act→World→Prop} {K:Act→World→Prop}
  (hk:∀ σ0 B' d fr σ g a w,Rel (Γ.dfrd σ0 B' d) fr σ g a w→k (Γ.dfrd σ0 B' d) fr σ→K a w):∀ (rest:List Oper) (fr:Fr) (σ:Sg),zjQ P tt Γ all k rest fr σ →
  ∀ (g:Gh) (a:Act) (w:World),Rel Γ fr σ g a w→wpLk Γ.ro P all.toArray E K rest a w
 | [],fr,σ,h,g,a,w,hr=>h.elim
 | o::rest,fr,σ,h,g,a,w,hr=>by
  have ih:=fun fr σ=>zhP htt hro hL (all:=all) (E:=E) hk rest fr σ
  unfold zjQ at h;split at h
  ·rename_i f args ts hg hdst ho;obtain⟨ha,h⟩:=h;obtain⟨fv,h,hfv⟩:=zK h;split at h
   ·rename_i fid first captured
    obtain⟨hno,h⟩:=h;have hsr:SR σ g w (.f (.func fid) first captured) (a.eval f):=hfv (.inl rfl) Γ σ g a w hr;generalize hae:a.eval f=fval at hsr;have hsr0:=hsr;cases hsr with
    | f _ _ _ v1 v2 s1 s2 r1 r2=>
     unfold wpLk;rw [if_pos (show Region.wanted o _=true by simp [Region.wanted,hg])];refine⟨fun _ _=>trivial,?_⟩
     obtain⟨args⟩:=args;simp only at ha;subst ha;have hrun:(o.semAt (FX Γ.ro).round a.eval).run P w=.ok (.defer ⟨.fn (.func fid) v2,v1⟩) w:=by
      rw [show (FX Γ.ro).round=none from hro,Oper.semAt_none];simp [execOp,ho,resolve,Deferred.ofValue,hae]
     rw [hrun];show wpLk Γ.ro P all.toArray E K rest ({ a with defers:=⟨.fn (.func fid) v2,v1⟩::a.defers }.put o.dst undef) w
     rw [hdst];show wpLk Γ.ro P all.toArray E K rest { a with defers:=⟨.fn (.func fid) v2,v1⟩::a.defers } w
     have hr':=hr.dfrd hno ⟨.fn (.func fid) v2,v1⟩;exact zaJ (Γ:=Γ.dfrd σ (SR σ g w) ⟨.fn (.func fid) v2,v1⟩) htt hL (Qx:=E) (K:=K) (fun fr σ g a w hr h=>hk _ _ _ _ _ _ _ _ hr h) rest fr σ
      (h (SR σ g w) _ ⟨fun s v hb=>(hr.base s v hb).1,v1,v2,hsr0,rfl⟩) g _ w hr'
   ·exact h.elim
  ·have h2:=zaJ (Γ:=Γ) htt hL (Qx:=E) (K:=wpLk Γ.ro P all.toArray E K rest) (fun fr2 σ2 g2 a2 w2 hr2 hv2=>ih fr2 σ2 hv2 g2 a2 w2 hr2) [o] fr σ h g a w hr;unfold wpLk at h2 ⊢;exact h2
theorem zna {tt:TT} (htt:tt.ok P) (hro:Γ.ro=none) {id:Nat} {ops:List Oper} {y:Code} {E:Exit→Act→World→Prop} (h:zjQ P tt Γ ops (fun Γ' fr σ=>AWx P Γ' y E fr σ) ops fr σ):AWx P Γ (.seq (.region id ops.toArray false) y) E fr σ:=by
 intro hL g a w hr;refine wpIn_seq (zbT ?_)
 exact zhP htt hro hL (E:=Exit.then (y.wpIn (FX Γ.ro) 0 P E) E) (K:=fun a w=>y.wpIn (FX Γ.ro) 0 P E a w) (fun σ0 B' d fr σ g a w hr h=>h hL g a w hr) ops fr σ h g a w hr
end
section
variable {P:Program} {Γ:Cx} {w0:World} {K0:Bs} {fr:Fr} {σ σ':Sg} {g:Gh} {a:Act} {w:World}
theorem zhk (hs:Sup σ' σ) (hr:rsSg σ' σ'=true):∀ (is:List Nat) (ds:List Deferred) (w:World),is.Nodup→is.length=ds.length→Hp w0 K0 σ' g w →
  (∀ i ∈ is,lk i σ'=none) →
  (∀ (k i:Nat) (x:Deferred),is[k]?=some i→ds[k]?=some x→∃ d,g.μ i=.pointer (some ⟨d,0,none⟩)∧x=⟨.collected d,#[]⟩∧w.heap[d]?=some (.deferred (some []))∧(∀ o,¬ g.K d o)∧¬ K0.F d∧(∀ id,(lk id σ').isSome→blk (g.μ id)≠some d)) →
  (∀ (i j:Nat),i ∈ is→j ∈ is→∀ b,blk (g.μ i)=some b→blk (g.μ j)=some b→i=j) →
  ∃ w1,Hp w0 K0 σ' g w1∧(∀ s v,SR σ' g w s v→SR σ' g w1 s v)∧w1.heap.size=w.heap.size ∧
   ∀ (F:Fence) (n:Nat) (fn:Func) (tmps:Array Value) (R:Ending→World→Prop),∀ (u:FrameMode) (bs:List Deferred),u≠.run→LeavesInM F n P fn tmps R bs u w1→LeavesInM F n P fn tmps R (ds ++ bs) u w
 | [],ds,w,_,hl,hp,_,_,_=>by
  cases ds with
  | nil=>exact⟨w,hp,fun _ _ h=>h,rfl,fun _ _ _ _ _ _ _ _ h=>h⟩
  | cons _ _=>cases hl
 | i::is,ds,w,hnd,hl,hp,hno,hx,hinj=>by
  cases ds with
  | nil=>cases hl
  | cons x ds=>
   rw [List.nodup_cons] at hnd;obtain⟨d,hμ,rfl,hheap,hK,hF,hother⟩:=hx 0 i x rfl rfl;have hbi:blk (g.μ i)=some d:=by rw [hμ];rfl
   let w1:=putO w d (.deferred none)
   have hext:Ext g.K w g.K w1:=⟨fun _ _ h=>h,fun b o hk=>World.cell?_of_block (w:=w) (a:=⟨b,o,none⟩) (zan (fun e=>hK o (e ▸ hk)))⟩;have hkeep:∀ s v,SR σ' g w s v→SR σ' g w1 s v:=fun s v h=>
    SR.keep (σ:=σ') (σ':=σ') (g:=g) (g':=g) (w:=w) (w':=w1) (Compat.refl σ' g) hext h
   have hp1:Hp w0 K0 σ' g w1:=by
    refine⟨?_,hp.flt,hp.ext.trans hext,hp.old,fun b o hk=>by have:=hp.val b o hk;simpa [w1] using this,fun id obj hid=>?_,hp.own,hp.inj⟩
    ·exact hp.kept.trans ⟨rfl,rfl,rfl,by simp [w1],fun k hk=>zan (fun e=>hF (e ▸ hk))⟩
    ·exact (hp.obs id obj hid).keep hkeep hext rfl (fun b hb=>zan (fun e=>hother id (by rw [hid];rfl) (e ▸ hb))) (fun b hb o=>hp.notK hid hb o)
   have ih:=zhk hs hr is ds w1 hnd.2 (by simpa using hl) hp1 (fun j hj=>hno j (List.mem_cons_of_mem _ hj)) (fun k j y hj hy=>?_) (fun j k hj hk=>hinj j k (List.mem_cons_of_mem _ hj) (List.mem_cons_of_mem _ hk))
   ·obtain⟨w2,q1,q2,q3,q4⟩:=ih;refine⟨w2,q1,fun s v h=>q2 s v (hkeep s v h),by rw [q3];simp [w1],fun F n fn tmps R u bs hu h=>?_⟩
    refine⟨hu,.inl ⟨d,w1,rfl,run_takeDeferred hheap,q4 F n fn tmps R u bs hu h⟩⟩
   ·obtain⟨d',p1,p2,p3,p4,p5,p6⟩:=hx (k+1) j y hj hy;refine⟨d',p1,p2,?_,p4,p5,p6⟩
    have hjm:j ∈ is:=List.mem_of_getElem? hj;have hne:d'≠d:=fun e=>by
     have:=hinj j i (List.mem_cons_of_mem _ hjm) (by simp) d (by rw [p1,e];rfl) hbi;subst this;exact hnd.1 hjm
    show (putO w d (.deferred none)).heap[d']?=_
    rw [zan hne];exact p3
def EndX (P:Program) (fn:Func) (w0:World) (K0:Bs) (σ:Sg) (g:Gh) (w:World) (R:AV→Sg→Prop):Exit→Act→World→Prop:=
 bodyPostM Fence.wide 0 P fn fun e w'=>∃ v g' σ' r,e=.returned v∧Did w0 K0 σ g w σ' g' w'∧VR2 σ' g' w' r v∧R r σ'
theorem zg8 {tt:TT} (htt:tt.ok P) {fn:Func} {res:List ResultVar} (hres:fn.results=res.toArray) {nt:Nat} {dfs:List Nat} {R:AV→Sg→Prop} {e:Exit} {fr:Fr} {τ : Sg} {g':Gh} {a':Act} {w':World}
  (hr:Rel ⟨w0,K0,nt,SR σ g w,σ.map (·.1),none,dfs,[]⟩ fr τ g' a' w') (hq:zk6 tt res (σ.map (·.1)) dfs R e fr τ):EndX P fn w0 K0 σ g w R e a' w':=by
 have fin:zk6 tt res (σ.map (·.1)) dfs R .ret fr τ →
   LeavesInM Fence.wide 0 P fn a'.tmps (fun e w'=>∃ v g' σ' r,e=.returned v∧Did w0 K0 σ g w σ' g' w'∧VR2 σ' g' w' r v∧R r σ') a'.defers .returning w':=by
  rintro⟨fr1,σ1,hsf,hss,hc,r,σ',hsub,hc2,ho,hR⟩;simp only [Bool.and_eq_true,List.all_eq_true,Bool.not_eq_true'] at hc hc2;obtain⟨⟨hcf,hcs⟩,hno⟩:=hc;have hsf:=ze8 hsf;have hss:=za9 hss;have hp1:=hr.hp.weaken hss hcs;obtain⟨ms,hms,is,q1,q2,q3⟩:=hr.defers;obtain rfl:ms=a'.defers:=by simpa using hms.symm
  have hnone:∀ i ∈ is,lk i σ1=none:=fun i hi=>by
   obtain⟨k,hk,he⟩:=List.getElem_of_mem hi;have:=(q3 k i (a'.defers[k]'(by omega)) (by rw [List.getElem?_eq_getElem hk,he]) (List.getElem?_eq_getElem (by omega))).1;have:=hno i this;cases hl:lk i σ1 with
   | none=>rfl
   | some _=>rw [hl] at this;cases this
  have hdfr:∀ i ∈ is,lk i τ = some (.x .dfr):=fun i hi=>by
   obtain⟨k,hk,he⟩:=List.getElem_of_mem hi;exact (q3 k i (a'.defers[k]'(by omega)) (by rw [List.getElem?_eq_getElem hk,he]) (List.getElem?_eq_getElem (by omega))).2.1
  obtain⟨w1,s1,s2,s3,s4⟩:=zhk (P:=P) (w0:=w0) (K0:=K0) (g:=g') hss hcs is a'.defers w' q1 q2 hp1 hnone (fun k i x hi hx=>by
   obtain⟨b1,b2,d,b3,b4⟩:=q3 k i x hi hx;have hbi:blk (g'.μ i)=some d:=by rw [b3];rfl
   obtain⟨b',h1,h2,h3,h4⟩:=hr.hp.obs i _ b2;rw [b3] at h1;cases h1;refine⟨d,b3,b4,h3,h4,hr.hp.own i d (by rw [b2];rfl) hbi,fun id hid hb=>?_⟩
   obtain⟨ob,hob⟩:=Option.isSome_iff_exists.1 hid;have:=hr.hp.inj id i d (by rw [hss _ _ hob];rfl) (by rw [b2];rfl) hb hbi;subst this;rw [hnone id (List.mem_of_getElem? hi)] at hob;cases hob)
   (fun i j hi hj b hb1 hb2=>hr.hp.inj i j b (by rw [hdfr i hi];rfl) (by rw [hdfr j hj];rfl) hb1 hb2)
  rw [← List.append_nil a'.defers];refine s4 Fence.wide 0 fn a'.tmps _ _ [] (by simp) ?_
  have hrel1:Rel ⟨w0,K0,nt,SR σ g w,σ.map (·.1),none,[],[]⟩ fr1 σ1 g' { a' with defers:=[] } w1:=by
   refine⟨s1,fun t v ht=>⟨(hr.fr t v (hsf t v ht)).1,?_⟩,hr.size,DRb.empty,fun s v hb=>⟨s2 _ _ (zai hss hc2.2 (hr.base s v hb).1 (hr.base s v hb).2),(hr.base s v hb).2⟩⟩
   exact (zeQ hss (zaO hcf t v ht) (hr.fr t v (hsf t v ht)).2).keep s2
  have hsup:=za9 hsub;obtain⟨v,hrun,hvr⟩:=zbQ htt hrel1 hsup hres ho;refine zdC hrun ?_
  exact⟨v,_,σ',r,rfl,⟨hrel1.hp.atEnd hsup hc2.1.1,fun s u hs=>zak (zai hsup hc2.1.2 (hrel1.base s u hs).1 (hrel1.base s u hs).2)⟩,hvr,hR⟩
 cases e with
 | normal=>exact fin hq
 | ret=>exact fin hq
 | _=>exact hq.elim
theorem Rel.unmark {nt:Nat} {B:SV→Value→Prop} {ids dfs:List Nat} {bs:List Deferred} {fr fr1:Fr} {τ σ1:Sg} {g':Gh} {a':Act} {w':World} (hr:Rel ⟨w0,K0,nt,B,ids,none,dfs,bs⟩ fr τ g' a' w') (hsf:SubF fr fr1) (hss:SubS τ σ1)
  (hc:(rsFr σ1 fr1 && rsSg σ1 σ1 && dfs.all (fun i=>!(lk i σ1).isSome) && zbC ids σ1)=true) :
  ∃ w1,Rel ⟨w0,K0,nt,B,ids,none,[],bs⟩ fr1 σ1 g' { a' with defers:=bs } w1∧∀ (fn:Func) (tmps:Array Value) (R:Ending→World→Prop) (u:FrameMode),u≠.run→LeavesInM Fence.wide 0 P fn tmps R bs u w1→LeavesInM Fence.wide 0 P fn tmps R a'.defers u w':=by
 simp only [Bool.and_eq_true,List.all_eq_true,Bool.not_eq_true'] at hc;obtain⟨⟨⟨hcf,hcs⟩,hno⟩,hids⟩:=hc;have hsf:=ze8 hsf;have hss:=za9 hss;have hp1:=hr.hp.weaken hss hcs;obtain⟨ms,hms,is,q1,q2,q3⟩:=hr.defers;have hdi:∀ i ∈ is,i ∈ dfs∧lk i τ = some (.x .dfr):=fun i hi=>by
  obtain⟨k,hk,he⟩:=List.getElem_of_mem hi;have:=q3 k i (ms[k]'(by omega)) (by rw [List.getElem?_eq_getElem hk,he]) (List.getElem?_eq_getElem (by omega));exact⟨this.1,this.2.1⟩
 have hnone:∀ i ∈ is,lk i σ1=none:=fun i hi=>by
  have:=hno i (hdi i hi).1;cases hl:lk i σ1 with
  | none=>rfl
  | some _=>rw [hl] at this;cases this
 obtain⟨w1,s1,s2,s3,s4⟩:=zhk (P:=P) (w0:=w0) (K0:=K0) (g:=g') hss hcs is ms w' q1 q2 hp1 hnone (fun k i x hi hx=>by
  obtain⟨b1,b2,d,b3,b4⟩:=q3 k i x hi hx;have hbi:blk (g'.μ i)=some d:=by rw [b3];rfl
  obtain⟨b',h1,h2,h3,h4⟩:=hr.hp.obs i _ b2;rw [b3] at h1;cases h1;refine⟨d,b3,b4,h3,h4,hr.hp.own i d (by rw [b2];rfl) hbi,fun id hid hb=>?_⟩
  obtain⟨ob,hob⟩:=Option.isSome_iff_exists.1 hid;have:=hr.hp.inj id i d (by rw [hss _ _ hob];rfl) (by rw [b2];rfl) hb hbi;subst this;rw [hnone id (List.mem_of_getElem? hi)] at hob;cases hob)
  (fun i j hi hj b hb1 hb2=>hr.hp.inj i j b (by rw [(hdi i hi).2];rfl) (by rw [(hdi j hj).2];rfl) hb1 hb2)
 refine⟨w1,⟨s1,fun t v ht=>⟨(hr.fr t v (hsf t v ht)).1,?_⟩,hr.size,DRb.empty,fun s v hb=>⟨s2 _ _ (zai hss hids (hr.base s v hb).1 (hr.base s v hb).2),(hr.base s v hb).2⟩⟩,fun fn tmps R u hu h=>?_⟩
 ·exact (zeQ hss (zaO hcf t v ht) (hr.fr t v (hsf t v ht)).2).keep s2
 ·rw [show a'.defers=ms ++ bs from hms];exact s4 Fence.wide 0 fn tmps R u bs hu h
def zhL (P:Program) (tt:TT) (res:List ResultVar) (ids ids' dfs:List Nat) (R:AV→Sg→Prop) (fid:FuncId) (first captured:List SV) (u:FrameMode) (fr:Fr) (τ : Sg):Prop:=
 ∃ fr1 σ1,SubF fr fr1∧SubS τ σ1∧(rsFr σ1 fr1 && rsSg σ1 σ1 && dfs.all (fun i=>!(lk i σ1).isSome) && zbC ids' σ1)=true ∧
  ∃ Rd,zm8 P fid (first.map .x ++ captured.map .x) σ1 u Rd∧∀ u' σ2,Rd u' σ2→settle u'=.returning ∧
   ∃ r σ',SubS σ2 σ'∧(rsSg σ' σ' && zbC ids σ')=true∧zb0 tt res fr1 σ2 σ'=some r∧R r σ'
def zpc (P:Program) (tt:TT) (res:List ResultVar) (ids ids' dfs:List Nat) (R:AV→Sg→Prop) (fid:FuncId) (first captured:List SV):Exit→Fr→Sg→Prop
 | .normal,fr,τ | .ret,fr,τ=>zhL P tt res ids ids' dfs R fid first captured .returning fr τ
 | .panic ch,fr,τ=>zhL P tt res ids ids' dfs R fid first captured (.panicking ch) fr τ
 | _,_,_=>False
theorem zoJ {tt:TT} (htt:tt.ok P) (hL:Laid P K0.K w0) {fn:Func} {res:List ResultVar} (hres:fn.results=res.toArray) {nt:Nat} {dfs ids':List Nat} {R:AV→Sg→Prop} {fid:FuncId} {first captured:List SV} {B':SV→Value→Prop} {d:Deferred}
  (hd:DF (SR σ g w) B' fid first captured d) {e:Exit} {fr:Fr} {τ : Sg} {g':Gh} {a':Act} {w':World}
  (hr:Rel ⟨w0,K0,nt,B',ids',none,dfs,[d]⟩ fr τ g' a' w') (hq:zpc P tt res (σ.map (·.1)) ids' dfs R fid first captured e fr τ):EndX P fn w0 K0 σ g w R e a' w':=by
 have fin:∀ u,u≠.run→zhL P tt res (σ.map (·.1)) ids' dfs R fid first captured u fr τ →
   LeavesInM Fence.wide 0 P fn a'.tmps (fun e w'=>∃ v g' σ' r,e=.returned v∧Did w0 K0 σ g w σ' g' w'∧VR2 σ' g' w' r v∧R r σ') a'.defers u w':=by
  rintro u hu ⟨fr1,σ1,hsf,hss,hc,Rd,hdc,hR⟩;obtain⟨w1,hr1,hl⟩:=Rel.unmark (P:=P) hr hsf hss hc;refine hl fn a'.tmps _ u hu ?_
  obtain⟨hB,v1,v2,hf,rfl⟩:=hd;have hsr:=(hr1.base _ _ hf).1;have hargs:∀ (i:Nat) (x:AV) (v:Value),(first.map AV.x ++ [] ++ captured.map AV.x)[i]?=some x→(v1 ++ #[] ++ v2)[i]?=some v→VR2 σ1 g' w1 x v:=by
   cases hsr with
   | f _ _ _ _ _ s1 s2 r1 r2=>exact zde (us:=#[]) (vs:=[]) s1 s2 r1 r2 rfl (fun j x v hx hv=>by simp at hx)
  have hsz:(v1 ++ v2).size=(first.map AV.x ++ captured.map AV.x).length:=by
   cases hsr with
   | f _ _ _ _ _ s1 s2 r1 r2=>simp [s1,s2]
  obtain⟨hgood,hcall⟩:=hdc;have hinv:(invoke (.fn (.func fid) v2) v1).run P w1=.ok (.enter fid (v1 ++ v2)) w1:=by
   obtain⟨fn,h1,h2,h3⟩:=hgood;have hb:¬ fn.body=none:=fun e=>by rw [e] at h2;cases h2
   have h3':¬ fn.name = "runtime.NumGoroutine" :=by simpa using h3
   simp [invoke,callFunc,h1,h3',hb]
  refine⟨hu,.inr ⟨(fun h=>by cases h),.func fid,v2,fid,v1 ++ v2,rfl,hinv,fun _ _=>trivial,?_⟩⟩
  refine (hcall w0 K0 g' w1 (v1 ++ v2) hL hr1.hp hsz (fun i x v hx hv=>hargs i x v (by simpa using hx) (by simpa using hv))).mono fun e u' w2 ⟨v,g2,σ2,he,hdid,hRd⟩=>?_
  subst he;obtain⟨hset,r,σ',hsub,hc2,ho,hRr⟩:=hR u' σ2 hRd;simp only [Bool.and_eq_true] at hc2;have hr2:=hr1.did hdid;have hsup:=za9 hsub;obtain⟨v',hrun,hvr⟩:=zbQ htt hr2 hsup hres ho;show LeavesInM Fence.wide 0 P fn a'.tmps _ [] (settle u') w2
  rw [hset];refine⟨v',hrun,v',_,σ',r,rfl,⟨hr2.hp.atEnd hsup hc2.1,fun s u hs=>?_⟩,hvr,hRr⟩
  exact zak (zai hsup hc2.2 (hr2.base s u (hB _ _ hs)).1 hs.inI)
 cases e with
 | normal=>exact fin .returning (by simp) hq
 | ret=>exact fin .returning (by simp) hq
 | panic ch=>exact fin (.panicking ch) (by simp) hq
 | exit id=>exact hq.elim
 | goto l=>exact hq.elim
 | outgrown=>exact hq.elim
theorem zi0 {f:FuncId} {fn:Func} {c:Code} {args:List AV} {σ:Sg} {R:AV→Sg→Prop} (dfs:List Nat) (hf:P.funcs[f]?=some fn) (hb:fn.body=some c)
  (hname:(fn.name == "runtime.NumGoroutine")=false) {nt:Nat} (hnt:fn.ntmps=nt) (hle:args.length≤nt)
  (h:∀ w0 K0 g w,Laid P K0.K w0→AWx P ⟨w0,K0,nt,SR σ g w,σ.map (·.1),none,dfs,[]⟩ c (EndX P fn w0 K0 σ g w R) (entry 0 args) σ):ACall P f args σ R:=by
 refine⟨⟨fn,hf,by rw [hb];rfl,hname⟩,fun w0 K0 g w vs hL hp hs hv=>?_⟩
 refine callsIn_wide.1 (callsIn_of_wp_marks (F:=Fence.wide) (n:=0) hf hb trivial ?_)
 have hrel:Rel ⟨w0,K0,nt,SR σ g w,σ.map (·.1),none,dfs,[]⟩ (entry 0 args) σ g ⟨vs ++ Array.replicate (fn.ntmps - vs.size) undef,[]⟩ w:=by
  refine⟨hp,fun t x ht=>?_,by simp;omega,DRb.empty,fun s v hb=>⟨hb,SR.inI hb⟩⟩
  obtain⟨_,hx⟩:=zbm args 0 t x ht;rw [Nat.sub_zero] at hx;have hlt:t < args.length:=(List.getElem?_eq_some_iff.1 hx).1;refine⟨by show t < nt;omega,?_⟩
  have hvt:vs[t]?=some (vs[t]'(by omega)):=Array.getElem?_eq_getElem (by omega);have e:(vs ++ Array.replicate (fn.ntmps - vs.size) undef).getD t undef=vs[t]'(by omega):=by
   rw [Array.getD_eq_getD_getElem?,Array.getElem?_append_left (by omega),hvt];rfl
  show VR _ _ _ _ ((vs ++ Array.replicate (fn.ntmps - vs.size) undef).getD t undef)
  rw [e];exact zZ (hv t x _ hx hvt)
 exact h w0 K0 g w hL hL g _ w hrel
inductive Rcv:FrameMode→Value→FrameMode→Prop
 | none:Rcv .returning .nilIface .returning
 | some (v:Value):Rcv (.panicking [{ v:=v,recovered:=false }]) v (.panicking [{ v:=v,recovered:=true }])
theorem Rcv.recoverD {u u':FrameMode} {rv:Value} (h:Rcv u rv u') (c₀ : Frame) (cs:List Frame) (hu:c₀.mode=u) :
  (Go.recoverD (c₀ :: cs)=Option.some (rv,{ c₀ with mode:=u' }::cs))∨(Go.recoverD (c₀ :: cs)=Option.none∧rv=.nilIface∧{ c₀ with mode:=u' }=c₀):=by
 cases h with
 | none=>exact .inr ⟨by simp [Go.recoverD,hu],rfl,by rw [← hu]⟩
 | some v=>exact .inl (by simp [Go.recoverD,hu])
theorem zfe {Q:Exit→Act→List Frame→World→Prop} {cs:List Frame} {c₀ : Frame} {u u':FrameMode} {rv:Value} (hu:Rcv u rv u') (hc:c₀.mode=u) {id:Nat} {o:Oper} {ops:List Oper} {ts:Array TypeId} (ho:o.op=.call ⟨.builtin .recover,#[],ts⟩) (hg:o.guard=none)
  (h:wpLs none P (o::ops).toArray (fun e a w=>Q e a ({ c₀ with mode:=u' }::cs) w) ops (a.put o.dst rv) w):(Code.region id (o::ops).toArray false).wpSIn Fence.wide 0 P Q a (c₀ :: cs) w:=by
 intro b k hb hro hF hroom;have hx:=zcU (ro:=none) (P:=P) (ops:=(o::ops).toArray) ops 1 (fun j=>by simp [Nat.add_comm 1 j]) _ w h;obtain⟨e,a',w',hq,harr⟩:=wp_opsIn (F:=FX none) (n:=0) _ _ w hx b k ({ c₀ with mode:=u' }::cs) hro hF hroom;have hgo:((o::ops).toArray)[0]?=Option.some o:=by simp
 have hw:Region.wanted o (yielded (o::ops).toArray a.tmps)=true:=by simp [Region.wanted,hg]
 have hgs:=stepGR_op (P:=P) (b:=b) (a:=a) (k:=k) (cs:=c₀ :: cs) (w:=w) (rest:=List.range' 1 ops.length) hgo hw;rw [hro,Oper.semAt_none] at hgs;have hfin:∀ v,(b.atR a (.inRegion (o::ops).toArray (0::List.range' 1 ops.length)::k)).finish v=b.atR (a.put o.dst v) (.inRegion (o::ops).toArray (List.range' 1 ops.length)::k):=by
  intro v;rw [Frame.finish_atR,hgo];rfl
 have hk:(b.atR a (.inRegion (o::ops).toArray (0::List.range' 1 ops.length)::k)).kind=.deferred:=hb;have htr:=tryRecover_deferred hk (c₀ :: cs);have hr:(execOp a.eval o).run P w=.ok .recover w:=by
  simp [execOp,ho,resolve,invoke,builtin]
 have hrange:List.range ((o::ops).toArray).size=0::List.range' 1 ops.length:=by
  rw [List.range_eq_range'];simp [List.range'_succ]
 have hstep:step P (lone (b.atR a (.inRegion (o::ops).toArray (0::List.range' 1 ops.length)::k)) (c₀ :: cs) w)=.next (lone (b.atR (a.put o.dst rv) (.inRegion (o::ops).toArray (List.range' 1 ops.length)::k)) ({ c₀ with mode:=u' }::cs) w):=by
  refine step_lone_go ?_
  rw [hgs,← hfin];rcases hu.recoverD c₀ cs hc with hrec|⟨hrec,rfl,heq⟩
  ·simp only [Frame.atR,hro] at htr ⊢;simp [stepG.apply,hr,htr,hrec]
  ·rw [heq];simp only [Frame.atR,hro] at htr ⊢;simp [stepG.apply,hr,htr,hrec]
 refine⟨e,a',_,w',by simp,hq,.of_steps (.head (fenced_calm hF hroom rfl) stepR_region (.one ?_ (hrange ▸ hstep))) harr⟩
 rw [hrange];exact fenced_oper hF hroom hgo (fun f hf=>trivial)
theorem zcR {tt:TT} (htt:tt.ok P) {f:FuncId} {fn:Func} {id:Nat} {o:Oper} {ops:List Oper} {ts:Array TypeId} {y:Code} {args:List AV} {σ:Sg} {Rd:FrameMode→Sg→Prop} {res:List ResultVar} {u u':FrameMode} {rv:Value}
  (hu:Rcv u rv u') (h1:rv.oneCell'=true) (hf:P.funcs[f]?=Option.some fn) (hb:fn.body=Option.some (.seq (.region id (o::ops).toArray false) y)) (ho:o.op=.call ⟨.builtin .recover,#[],ts⟩) (hg:o.guard=none)
  (hname:(fn.name == "runtime.NumGoroutine")=false) (hres:fn.results=res.toArray) {nt:Nat} (hnt:fn.ntmps=nt) (hle:args.length≤nt)
  (h:∀ w0 K0 B,zba nt o.dst none (.x (.d (.v rv))) (entry 0 args) fun fr'=>zah P tt nt (o::ops) (AW P ⟨w0,K0,nt,B,σ.map (·.1),none,[],[]⟩ y (zqs tt res (σ.map (·.1)) fun _ σ'=>Rd u' σ')) ops fr' σ):zm8 P f args σ u Rd:=by
 refine⟨⟨fn,hf,by rw [hb];rfl,hname⟩,fun w0 K0 g w vs hL hp hs hv=>?_⟩
 refine callsDIn_of_wpSIn hf hb trivial fun c₀ cs hc=>?_
 have hrel:Rel ⟨w0,K0,nt,SR σ g w,σ.map (·.1),none,[],[]⟩ (entry 0 args) σ g ⟨vs ++ Array.replicate (fn.ntmps - vs.size) undef,[]⟩ w:=by
  refine⟨hp,fun t x ht=>?_,by simp;omega,DRb.empty,fun s v hb=>⟨hb,SR.inI hb⟩⟩
  obtain⟨_,hx⟩:=zbm args 0 t x ht;rw [Nat.sub_zero] at hx;have hlt:t < args.length:=(List.getElem?_eq_some_iff.1 hx).1;refine⟨by show t < nt;omega,?_⟩
  have hvt:vs[t]?=Option.some (vs[t]'(by omega)):=Array.getElem?_eq_getElem (by omega);have e:(vs ++ Array.replicate (fn.ntmps - vs.size) undef).getD t undef=vs[t]'(by omega):=by
   rw [Array.getD_eq_getD_getElem?,Array.getElem?_append_left (by omega),hvt];rfl
  show VR _ _ _ _ ((vs ++ Array.replicate (fn.ntmps - vs.size) undef).getD t undef)
  rw [e];exact zZ (hv t x _ hx hvt)
 refine wpSIn_seq (zfe hu hc ho hg ?_)
 obtain⟨fr',hk,hrel'⟩:=zcf hrel (h w0 K0 (SR σ g w)) (v:=rv) (zL _ h1);have fin:∀ e a w',Lift ⟨w0,K0,nt,SR σ g w,σ.map (·.1),none,[],[]⟩ (zqs tt res (σ.map (·.1)) fun _ σ'=>Rd u' σ') e a w' →
   bodyPostS P fn c₀ cs (fun e u' w'=>∃ v g' σ',e=.returned v∧Did w0 K0 σ g w σ' g' w'∧Rd u' σ') e a ({ c₀ with mode:=u' }::cs) w':=by
  intro e a' w' ⟨fr,τ,g',hr,hq⟩;have fin2:(∃ r σ',SubS τ σ'∧(rsSg σ' σ' && zbC (σ.map (·.1)) σ')=true∧zb0 tt res fr τ σ'=Option.some r∧Rd u' σ') →
    a'.defers=[]∧∃ u'',({ c₀ with mode:=u' }::cs:List Frame)={ c₀ with mode:=u'' }::cs∧∃ v,(results fn a'.tmps).run P w'=.ok v w'∧∃ v1 g'' σ'',Ending.returned v=.returned v1∧Did w0 K0 σ g w σ'' g'' w'∧Rd u'' σ'':=by
   rintro⟨r,σ',hsub,hc,ho,hR⟩;simp only [Bool.and_eq_true] at hc;have hsup:=za9 hsub;obtain⟨v,hrun,hvr⟩:=zbQ htt hr hsup hres ho;exact⟨hr.defers.nil,u',rfl,v,hrun,v,_,σ',rfl,⟨hr.hp.atEnd hsup hc.1,fun s u hs=>zak (zai hsup hc.2 (hr.base s u hs).1 (hr.base s u hs).2)⟩,hR⟩
  cases e with
  | normal=>exact fin2 hq
  | ret=>exact fin2 hq
  | _=>exact hq.elim
 refine zaJ (Γ:=⟨w0,K0,nt,SR σ g w,σ.map (·.1),none,[],[]⟩) htt hL ?_ ops fr' σ hk g _ w hrel'
 intro fr σ1 g1 a1 w1 hr1 haw;show y.wpSIn Fence.wide 0 P _ a1 _ w1
 exact wpSIn_of_wpIn rfl (wpIn_mono (haw.use hL hr1) fin)
end
end Go.QL
namespace Go.QL
open Go Go.RowKit
def FnP (P:Program) (f:FuncId) (args:List AV) (r:Option AV) (pv:Value):Prop:=
 Good P f∧∀ (K:Nat→Nat→Prop) (w:World) (vs:Array Value),Laid P K w→(∀ b o,K b o→b < w.heap.size)→vs.size=args.length →
  (∀ (i:Nat) (x:AV) (v:Value),args[i]?=some x→vs[i]?=some v→VR2 [] ⟨K,fun _=>undef⟩ w x v) →
  Calls P f vs w (fun e w'=>∃ K',Below w.heap.size w w'∧Ext K w K' w'∧(∀ b o,b < w.heap.size→K' b o→K b o)∧(∀ b o,K' b o→b < w'.heap.size) ∧
   ((∃ v x,r=some x∧e=.returned v∧VR2 [] ⟨K',fun _=>undef⟩ w' x v)∨(r=none∧e=.panicked [{ v:=pv,recovered:=false }])))
def zrX:Option AV→Bool
 | some x=>zf6 x
 | none=>true
theorem FnP.call {P:Program} {f:FuncId} {args:List AV} {r:Option AV} {pv:Value} (h:FnP P f args r pv) {σ:Sg} (hp:args.all zf6=true) (hr:zrX r=true) :
  PCall P f args σ (fun r' σ'=>r=some r'∧σ'=σ) fun v σ'=>r=none∧v=pv∧σ'=σ:=by
 refine⟨h.1,fun w0 K0 g w vs hL hhp hs hv=>?_⟩
 rw [List.all_eq_true] at hp;refine (h.2 g.K w vs (hL.mono hhp.ext) hhp.val hs fun i x v hi hu=>zcY (g:=g) (g':=⟨g.K,fun _=>undef⟩) (hp x (List.mem_of_getElem? hi)) (Ext.refl _ _) (hv i x v hi hu)).mono ?_
 intro e w' ⟨K',hb,hext,hold,hval,hvr⟩;rcases hvr with ⟨v,x,rfl,rfl,hvr⟩|⟨rfl,rfl⟩
 ·exact .inl ⟨v,⟨K',g.μ⟩,σ,x,rfl,hhp.grow hb hext hold hval,zcY hr (Ext.refl K' w') hvr,rfl,rfl⟩
 ·exact .inr ⟨pv,⟨K',g.μ⟩,σ,rfl,hhp.grow hb hext hold hval,rfl,rfl,rfl⟩
end Go.QL
namespace Go.Proofs.YtdgkljfpaddfpaaGreatDoor
open Go Go.QL FoT
set_option maxHeartbeats 1600000
attribute [local irreducible] ACall FnC YC FnP PCall
abbrev rowX (c:UInt8):Bool:=bif (bif (bif (bif (bif decide ((c.toNat:Int) ≥ 97) then decide ((c.toNat:Int)≤122) else false) then true else (bif decide ((c.toNat:Int) ≥ 65) then decide ((c.toNat:Int)≤90) else false)) then true else (bif decide ((c.toNat:Int) ≥ 48) then decide ((c.toNat:Int)≤57) else false)) then true else ((c.toNat:Int) == 95)) then true else ((c.toNat:Int) == 46)
theorem zpy (c:UInt8):rowX c=zaM c:=by
 have e:∀ k:UInt8,(c == k)=((c.toNat:Int) == k.toNat):=fun k=>by
  rw [Bool.eq_iff_iff,beq_iff_eq,beq_iff_eq,← UInt8.toNat_inj];omega
 unfold zaM;rw [Bool.eq_iff_iff,e 95,e 46];simp only [rowX,Bool.cond_eq_ite];simp [zpj]
theorem zpx (c:UInt8):FnC Tryz.prog 46 [iv .u8 c.toNat] (bv (zaM c)):=by
 rw [← zpy];refine hdC Tryz.func46 Tryz.ntmps46 (res:=[.tmp 2]) fun w0 K0=>?_
 repeat' first|refine zd ?_|((first|refine zi ?_|refine regA ?_|refine pkA ?_|fail);conv=>whnf)|fail
 rfl
abbrev Toks:=List (Nat × Bs8)
def atPV (l:Toks):PV:=zR (l.map fun p=>(p.1:Int))
def tkPV (l:Toks):PV:=zac (l.map (·.2))
abbrev rdS (V:List Bs8) (C:List FNode) (sv sc:Nat) (l:Toks):Sg:=[(70,.box [.o 71 sv V.length,.o 72 sc C.length,.d (atPV l),.d (tkPV l)]),(71,.chain 9 1 sv (V.map zaa)),(72,.chain 50 4 sc (C.map ndPV))]
theorem bxR {x y:SV} {a b c d:PV} (h:a=c) (k:b=d):some (Ob.box [x,y,.d a,.d b])=some (Ob.box [x,y,.d c,.d d]):=by rw [h,k]
theorem bxN {x:SV} {p q:PV} {c st n m:Nat} (h:n=m):some (Ob.box [x,.o c st n,.d p,.d q])=some (Ob.box [x,.o c st m,.d p,.d q]):=by rw [h]
theorem zkv {sz:Nat} (x:List PV) (l:List (List PV)):PV.s sz (List.drop (Int.toNat 1) (List.take (((x::l).length:Nat):Int).toNat (x::l)))=.s sz l:=by simp
theorem zhh (some:List Bs8) (V:List Bs8) (C:List FNode) (s1 s2 a:Nat) (t:Bs8) (l:Toks) (h:t ∉ some) :
  ACall Tryz.prog 48 [.x (.b 70 0),.x (.d (zac some))] (rdS V C s1 s2 ((a,t)::l)) (fun r σ'=>r=.t [sv (bs []),bv false]∧σ'=rdS V C s1 s2 ((a,t)::l)):=by
 have cf:=zdW some t;rw [decide_eq_false h] at cf;refine hdD Tryz.func48 Tryz.ntmps48 (res:=[.tmp 4,.tmp 5]) fun w0 K0 B=>?_
 repeat' first|refine zd ?_|((first|refine zi ?_|refine regA ?_|refine⟨_,ze ⟨by omega,rfl⟩,?_⟩|refine zsn (cf) ?_|fail);conv=>whnf)|(refine zst rfl ?_)|((refine andA ?_);conv=>whnf)|fail
 exact⟨_,rdS V C s1 s2 ((a,t)::l),⟨rfl,rfl,rfl,trivial⟩,rfl,rfl,rfl,rfl⟩
theorem zfl (some:List Bs8) (V:List Bs8) (C:List FNode) (s1 s2 a:Nat) (t:Bs8) (l:Toks) (h:t ∈ some) :
  ACall Tryz.prog 48 [.x (.b 70 0),.x (.d (zac some))] (rdS V C s1 s2 ((a,t)::l)) (fun r σ'=>r=.t [sv (bs t),bv true]∧σ'=rdS V C s1 s2 l):=by
 have cf:=zdW some t;rw [decide_eq_true h] at cf;refine hdD Tryz.func48 Tryz.ntmps48 (res:=[.tmp 4,.tmp 5]) fun w0 K0 B=>?_
 repeat' first|refine zd ?_|((first|refine zf ?_|refine zi ?_|refine regA ?_|refine drM (id:=4) 14 [1,11] false [0,0,0,4,12,28,60,0,128,384,896,1920,2045,6141,14333,32767,65535,131071] ?_|refine LateGo.mk ⟨.x .j,rfl,?_⟩|refine⟨_,ze ⟨by omega,rfl⟩,?_⟩|refine zsn (cf) ?_|fail);conv=>whnf)|(refine zss rfl ?_)|((refine andA ?_);conv=>whnf)|((refine And.intro (by refine⟨?_,?_,?_⟩ <;> simp [zO,maxLen] <;> omega) ?_);conv=>whnf)|fail
 exact⟨_,rdS V C s1 s2 l,⟨bxR (zkv _ _) (zkv _ _),rfl,rfl,trivial⟩,rfl,rfl,rfl,rfl⟩
theorem zga (n:FNode) (V:List Bs8) (C:List FNode) (s1 s2:Nat) (l:Toks) (hC:C.length≤100000) :
  ACall Tryz.prog 49 [.x (.b 70 0),ndAV n] (rdS V C s1 s2 l) (fun r σ'=>r=.t []∧σ'=rdS V (C ++ [n]) s1 (s2+1) l):=by
 have hCl:(C.map ndPV).length=C.length:=List.length_map _;have g0:C.length≤(C.map ndPV).length:=by omega
 have g1:C.length + [ndPV n].length≤maxLen:=by show C.length+1≤_;unfold maxLen;omega
 have g2:(C.length + [ndPV n].length) * 32≤140737488355328:=by show (C.length+1) * 32≤_;omega
 have e:(C.map ndPV).take C.length ++ [ndPV n]=(C ++ [n]).map ndPV:=by rw [List.take_of_length_le (by omega),List.map_append];rfl
 have el:C.length+1=(C ++ [n]).length:=by rw [List.length_append];rfl
 refine hdD Tryz.func49 Tryz.ntmps49 (res:=[]) fun w0 K0 B=>?_
 repeat' first|refine zd ?_|((first|refine regA ?_|refine drM (id:=1) 8 [0] true [0,0,2,6,14,30,0,64,254,511,1023,2047,4095] ?_|refine LateGo.mk ⟨_,rfl,?_⟩|refine And.intro ⟨g0,g1,g2⟩ ?_|refine andA ?_|fail);conv=>whnf)|fail
 exact⟨_,rdS V (C ++ [n]) s1 (s2+1) l,⟨bxN el,rfl,chE e,trivial⟩,rfl,rfl,rfl,rfl⟩
theorem zfv (V:List Bs8) (C:List FNode) (s1 s2 a:Nat) (t:Bs8) (l:Toks) :
  PCall Tryz.prog 137 [.x (.b 70 0),sv (bs t)] (rdS V C s1 s2 ((a,t)::l)) (fun r σ'=>r=.t []∧σ'=rdS V C s1 s2 l) (fun _ _=>False):=by
 have tk:=zfl [t] V C s1 s2 a t l (by simp);refine z6 hTt Tryz.func137 rfl (by kernel_rfl) (res:=[]) rfl Tryz.ntmps137 (by simp) fun w0 K0 B=>?_
 dsimp only [entry];repeat' first|refine zd ?_|((first|refine zf ?_|refine regA ?_|refine frA (tk) [] ?_|fail);conv=>whnf)|(refine zss rfl ?_)|fail
 exact⟨_,rdS V C s1 s2 l,⟨rfl,rfl,rfl,trivial⟩,rfl,rfl,rfl,rfl⟩
theorem zfF:zhH Tryz.prog 3:=⟨_,Tryz.underlying3,rfl⟩
abbrev errA (a:Nat):Value:=.iface 3 (.int .i64 a)
theorem zpM (w:Bs8) (V:List Bs8) (C:List FNode) (s1 s2 a:Nat) (t:Bs8) (l:Toks) (h:t≠w) :
  PCall Tryz.prog 137 [.x (.b 70 0),sv (bs w)] (rdS V C s1 s2 ((a,t)::l)) (fun _ _=>False) (fun v σ'=>v=errA a∧σ'=rdS V C s1 s2 ((a,t)::l)):=by
 have tk:=zhh [w] V C s1 s2 a t l (by simp [h]);refine z6 hTt Tryz.func137 rfl (by kernel_rfl) (res:=[]) rfl Tryz.ntmps137 (by simp) fun w0 K0 B=>?_
 dsimp only [entry];repeat' first|((with_reducible refine zH hTt (id:=2) ?_);conv=>whnf)|refine zd ?_|((first|refine regA ?_|refine frA (tk) [] ?_|refine⟨_,ze ⟨by omega,rfl⟩,?_⟩|fail);conv=>whnf)|(refine And.intro zfF ?_;conv=>whnf)|(refine zst rfl ?_)|((refine andA ?_);conv=>whnf)|fail
 exact⟨_,rdS V C s1 s2 ((a,t)::l),rfl,⟨rfl,rfl,rfl,trivial⟩,rfl,rfl,rfl⟩
end Go.Proofs.YtdgkljfpaddfpaaGreatDoor
namespace Go.Proofs
open Go.Shelf
def Tryz.laysM171_ren:Go.Shelf.Ren:=⟨fun|129=>165|171=>66|243=>111|246=>140|283=>153|284=>154|285=>155|286=>156|317=>164|318=>166|319=>167|320=>168|337=>174|338=>175|n=>n,fun|0=>0|2=>2|3=>3|4=>4|5=>5|9=>9|20=>20|37=>179|46=>143|51=>22|53=>236|171=>246|173=>249|212=>258|213=>259|232=>274|233=>275|n=>n,fun|17=>0|18=>4|19=>5|n=>n⟩
theorem Tryz.laysM171:Go.Proofs.LaysM.n171 Tryz.prog Tryz.laysM171_ren:={
 mixed:=by kernel_rfl
 f129:=Tryz.func165.trans (congrArg some (by kernel_rfl))
 f171:=Tryz.func66.trans (congrArg some (by kernel_rfl))
 f243:=Tryz.func111.trans (congrArg some (by kernel_rfl))
 f246:=Tryz.func140.trans (congrArg some (by kernel_rfl))
 f283:=Tryz.func153.trans (congrArg some (by kernel_rfl))
 f284:=Tryz.func154.trans (congrArg some (by kernel_rfl))
 f285:=Tryz.func155.trans (congrArg some (by kernel_rfl))
 f286:=Tryz.func156.trans (congrArg some (by kernel_rfl))
 f317:=Tryz.func164.trans (congrArg some (by kernel_rfl))
 f318:=Tryz.func166.trans (congrArg some (by kernel_rfl))
 f319:=Tryz.func167.trans (congrArg some (by kernel_rfl))
 f320:=Tryz.func168.trans (congrArg some (by kernel_rfl))
 f337:=Tryz.func174.trans (congrArg some (by kernel_rfl))
 f338:=Tryz.func175.trans (congrArg some (by kernel_rfl))
 t0:=Tryz.underlying0
 a0:=Tryz.isAgg0
 z0:=Tryz.sizeOf0
 v0:=Tryz.zeroValue0
 t2:=Tryz.underlying2
 a2:=Tryz.isAgg2
 z2:=Tryz.sizeOf2
 v2:=Tryz.zeroValue2
 t3:=Tryz.underlying3
 a3:=Tryz.isAgg3
 z3:=Tryz.sizeOf3
 v3:=Tryz.zeroValue3
 t4:=Tryz.underlying4
 a4:=Tryz.isAgg4
 z4:=Tryz.sizeOf4
 v4:=Tryz.zeroValue4
 t5:=Tryz.underlying5
 a5:=Tryz.isAgg5
 z5:=Tryz.sizeOf5
 v5:=Tryz.zeroValue5
 t9:=Tryz.underlying9
 a9:=Tryz.isAgg9
 z9:=Tryz.sizeOf9
 v9:=Tryz.zeroValue9
 t20:=Tryz.underlying20
 a20:=Tryz.isAgg20
 z20:=Tryz.sizeOf20
 v20:=Tryz.zeroValue20
 t37:=Tryz.underlying179
 a37:=Tryz.isAgg179
 z37:=Tryz.sizeOf179
 v37:=Tryz.zeroValue179
 t46:=Tryz.underlying143
 a46:=Tryz.isAgg143
 z46:=Tryz.sizeOf143
 v46:=Tryz.zeroValue143
 t51:=Tryz.underlying22
 a51:=Tryz.isAgg22
 z51:=Tryz.sizeOf22
 v51:=Tryz.zeroValue22
 t53:=Tryz.underlying236
 a53:=Tryz.isAgg236
 z53:=Tryz.sizeOf236
 v53:=Tryz.zeroValue236
 t171:=Tryz.underlying246
 a171:=Tryz.isAgg246
 z171:=Tryz.sizeOf246
 v171:=Tryz.zeroValue246
 t173:=Tryz.underlying249
 a173:=Tryz.isAgg249
 z173:=Tryz.sizeOf249
 v173:=Tryz.zeroValue249
 t212:=Tryz.underlying258
 a212:=Tryz.isAgg258
 z212:=Tryz.sizeOf258
 v212:=Tryz.zeroValue258
 t213:=Tryz.underlying259
 a213:=Tryz.isAgg259
 z213:=Tryz.sizeOf259
 t232:=Tryz.underlying274
 a232:=Tryz.isAgg274
 z232:=Tryz.sizeOf274
 v232:=Tryz.zeroValue274
 t233:=Tryz.underlying275
 a233:=Tryz.isAgg275
 z233:=Tryz.sizeOf275
 v233:=Tryz.zeroValue275
 g17:=by kernel_rfl
 g18:=by kernel_rfl
 g19:=by kernel_rfl
 i0:=by kernel_rfl
 i2:=by kernel_rfl
 i3:=by kernel_rfl
 i4:=by kernel_rfl
 i5:=by kernel_rfl
 i9:=by kernel_rfl
 i20:=by kernel_rfl
 i37:=by kernel_rfl
 i46:=by kernel_rfl
 i51:=by kernel_rfl
 i53:=by kernel_rfl
 i171:=by kernel_rfl
 i173:=by kernel_rfl
 i212:=by kernel_rfl
 i232:=by kernel_rfl
 i233:=by kernel_rfl
 m17:=by kernel_rfl
 m18:=by kernel_rfl
 m19:=by kernel_rfl }
def Tryz.laysC172_ren:Go.Shelf.Ren:=⟨fun|129=>165|171=>66|172=>152|205=>178|243=>111|244=>162|245=>163|246=>140|247=>169|279=>170|280=>171|281=>172|282=>173|283=>153|284=>154|285=>155|286=>156|287=>176|316=>177|317=>164|318=>166|319=>167|320=>168|321=>179|322=>180|337=>174|338=>175|n=>n,fun|0=>0|2=>2|3=>3|4=>4|5=>5|9=>9|20=>20|21=>21|37=>179|46=>143|51=>22|53=>236|75=>205|76=>206|80=>208|85=>262|127=>239|143=>277|145=>279|167=>261|168=>264|171=>246|173=>249|175=>268|210=>272|212=>258|213=>259|232=>274|233=>275|n=>n,fun|15=>2|16=>3|17=>0|18=>4|19=>5|n=>n⟩
theorem Tryz.laysC172:Go.Proofs.LaysC.n172 Tryz.prog Tryz.laysC172_ren:={
 mixed:=by kernel_rfl
 f129:=Tryz.func165.trans (congrArg some (by kernel_rfl))
 f171:=Tryz.func66.trans (congrArg some (by kernel_rfl))
 f172:=Tryz.func152.trans (congrArg some (by kernel_rfl))
 f205:=Tryz.func178.trans (congrArg some (by kernel_rfl))
 f243:=Tryz.func111.trans (congrArg some (by kernel_rfl))
 f244:=Tryz.func162.trans (congrArg some (by kernel_rfl))
 f245:=Tryz.func163.trans (congrArg some (by kernel_rfl))
 f246:=Tryz.func140.trans (congrArg some (by kernel_rfl))
 f247:=Tryz.func169.trans (congrArg some (by kernel_rfl))
 f279:=Tryz.func170.trans (congrArg some (by kernel_rfl))
 f280:=Tryz.func171.trans (congrArg some (by kernel_rfl))
 f281:=Tryz.func172.trans (congrArg some (by kernel_rfl))
 f282:=Tryz.func173.trans (congrArg some (by kernel_rfl))
 f283:=Tryz.func153.trans (congrArg some (by kernel_rfl))
 f284:=Tryz.func154.trans (congrArg some (by kernel_rfl))
 f285:=Tryz.func155.trans (congrArg some (by kernel_rfl))
 f286:=Tryz.func156.trans (congrArg some (by kernel_rfl))
 f287:=Tryz.func176.trans (congrArg some (by kernel_rfl))
 f316:=Tryz.func177.trans (congrArg some (by kernel_rfl))
 f317:=Tryz.func164.trans (congrArg some (by kernel_rfl))
 f318:=Tryz.func166.trans (congrArg some (by kernel_rfl))
 f319:=Tryz.func167.trans (congrArg some (by kernel_rfl))
 f320:=Tryz.func168.trans (congrArg some (by kernel_rfl))
 f321:=Tryz.func179.trans (congrArg some (by kernel_rfl))
 f322:=Tryz.func180.trans (congrArg some (by kernel_rfl))
 f337:=Tryz.func174.trans (congrArg some (by kernel_rfl))
 f338:=Tryz.func175.trans (congrArg some (by kernel_rfl))
 t0:=Tryz.underlying0
 a0:=Tryz.isAgg0
 z0:=Tryz.sizeOf0
 v0:=Tryz.zeroValue0
 t2:=Tryz.underlying2
 a2:=Tryz.isAgg2
 z2:=Tryz.sizeOf2
 v2:=Tryz.zeroValue2
 t3:=Tryz.underlying3
 a3:=Tryz.isAgg3
 z3:=Tryz.sizeOf3
 v3:=Tryz.zeroValue3
 t4:=Tryz.underlying4
 a4:=Tryz.isAgg4
 z4:=Tryz.sizeOf4
 v4:=Tryz.zeroValue4
 t5:=Tryz.underlying5
 a5:=Tryz.isAgg5
 z5:=Tryz.sizeOf5
 v5:=Tryz.zeroValue5
 t9:=Tryz.underlying9
 a9:=Tryz.isAgg9
 z9:=Tryz.sizeOf9
 v9:=Tryz.zeroValue9
 t20:=Tryz.underlying20
 a20:=Tryz.isAgg20
 z20:=Tryz.sizeOf20
 v20:=Tryz.zeroValue20
 t21:=Tryz.underlying21
 a21:=Tryz.isAgg21
 z21:=Tryz.sizeOf21
 v21:=Tryz.zeroValue21
 t37:=Tryz.underlying179
 a37:=Tryz.isAgg179
 z37:=Tryz.sizeOf179
 v37:=Tryz.zeroValue179
 t46:=Tryz.underlying143
 a46:=Tryz.isAgg143
 z46:=Tryz.sizeOf143
 v46:=Tryz.zeroValue143
 t51:=Tryz.underlying22
 a51:=Tryz.isAgg22
 z51:=Tryz.sizeOf22
 v51:=Tryz.zeroValue22
 t53:=Tryz.underlying236
 a53:=Tryz.isAgg236
 z53:=Tryz.sizeOf236
 v53:=Tryz.zeroValue236
 t75:=Tryz.underlying205
 a75:=Tryz.isAgg205
 z75:=Tryz.sizeOf205
 v75:=Tryz.zeroValue205
 t76:=Tryz.underlying206
 a76:=Tryz.isAgg206
 z76:=Tryz.sizeOf206
 v76:=Tryz.zeroValue206
 t85:=Tryz.underlying262
 a85:=Tryz.isAgg262
 z85:=Tryz.sizeOf262
 v85:=Tryz.zeroValue262
 t127:=Tryz.underlying239
 a127:=Tryz.isAgg239
 z127:=Tryz.sizeOf239
 v127:=Tryz.zeroValue239
 t143:=Tryz.underlying277
 a143:=Tryz.isAgg277
 z143:=Tryz.sizeOf277
 v143:=Tryz.zeroValue277
 t145:=Tryz.underlying279
 a145:=Tryz.isAgg279
 z145:=Tryz.sizeOf279
 v145:=Tryz.zeroValue279
 t167:=Tryz.underlying261
 a167:=Tryz.isAgg261
 z167:=Tryz.sizeOf261
 v167:=Tryz.zeroValue261
 t168:=Tryz.underlying264
 a168:=Tryz.isAgg264
 z168:=Tryz.sizeOf264
 v168:=Tryz.zeroValue264
 t171:=Tryz.underlying246
 a171:=Tryz.isAgg246
 z171:=Tryz.sizeOf246
 v171:=Tryz.zeroValue246
 t173:=Tryz.underlying249
 a173:=Tryz.isAgg249
 z173:=Tryz.sizeOf249
 v173:=Tryz.zeroValue249
 t175:=Tryz.underlying268
 a175:=Tryz.isAgg268
 z175:=Tryz.sizeOf268
 v175:=Tryz.zeroValue268
 t210:=Tryz.underlying272
 a210:=Tryz.isAgg272
 z210:=Tryz.sizeOf272
 v210:=Tryz.zeroValue272
 t212:=Tryz.underlying258
 a212:=Tryz.isAgg258
 z212:=Tryz.sizeOf258
 v212:=Tryz.zeroValue258
 t213:=Tryz.underlying259
 a213:=Tryz.isAgg259
 z213:=Tryz.sizeOf259
 t232:=Tryz.underlying274
 a232:=Tryz.isAgg274
 z232:=Tryz.sizeOf274
 v232:=Tryz.zeroValue274
 t233:=Tryz.underlying275
 a233:=Tryz.isAgg275
 z233:=Tryz.sizeOf275
 v233:=Tryz.zeroValue275
 g15:=by kernel_rfl
 g16:=by kernel_rfl
 g17:=by kernel_rfl
 g18:=by kernel_rfl
 g19:=by kernel_rfl
 t80:=Tryz.underlying208
 a80:=Tryz.isAgg208
 z80:=Tryz.sizeOf208
 v80:=Tryz.zeroValue208
 i0:=by kernel_rfl
 i2:=by kernel_rfl
 i3:=by kernel_rfl
 i4:=by kernel_rfl
 i5:=by kernel_rfl
 i9:=by kernel_rfl
 i20:=by kernel_rfl
 i21:=by kernel_rfl
 i37:=by kernel_rfl
 i46:=by kernel_rfl
 i51:=by kernel_rfl
 i53:=by kernel_rfl
 i75:=by kernel_rfl
 i76:=by kernel_rfl
 i80:=by kernel_rfl
 i85:=by kernel_rfl
 i127:=by kernel_rfl
 i143:=by kernel_rfl
 i145:=by kernel_rfl
 i167:=by kernel_rfl
 i168:=by kernel_rfl
 i171:=by kernel_rfl
 i173:=by kernel_rfl
 i175:=by kernel_rfl
 i210:=by kernel_rfl
 i212:=by kernel_rfl
 i232:=by kernel_rfl
 i233:=by kernel_rfl
 m15:=by kernel_rfl
 m16:=by kernel_rfl
 m17:=by kernel_rfl
 m18:=by kernel_rfl
 m19:=by kernel_rfl
 c0:=by kernel_rfl
 c2:=by kernel_rfl
 c3:=by kernel_rfl
 c4:=by kernel_rfl
 c5:=by kernel_rfl
 c9:=by kernel_rfl
 c20:=by kernel_rfl
 c21:=by kernel_rfl
 c37:=by kernel_rfl
 c46:=by kernel_rfl
 c51:=by kernel_rfl
 c53:=by kernel_rfl
 c75:=by kernel_rfl
 c76:=by kernel_rfl
 c80:=by kernel_rfl
 c85:=by kernel_rfl
 c127:=by kernel_rfl
 c143:=by kernel_rfl
 c145:=by kernel_rfl
 c167:=by kernel_rfl
 c168:=by kernel_rfl
 c171:=by kernel_rfl
 c173:=by kernel_rfl
 c175:=by kernel_rfl
 c210:=by kernel_rfl
 c212:=by kernel_rfl
 c213:=by kernel_rfl
 c232:=by kernel_rfl
 c233:=by kernel_rfl }
def Tryz.lays105_ren:Go.Shelf.Ren:=⟨fun|99=>113|105=>67|165=>114|166=>115|169=>117|170=>116|206=>143|212=>112|240=>144|241=>145|263=>141|264=>142|276=>157|277=>158|n=>n,fun|0=>0|3=>3|4=>4|5=>5|9=>9|20=>20|37=>179|46=>143|51=>22|53=>236|70=>201|72=>203|75=>205|76=>206|80=>208|109=>198|127=>239|146=>234|148=>237|164=>251|n=>n,fun|n=>n⟩
theorem Tryz.lays105:Go.Proofs.Lays.n105 Tryz.prog Tryz.lays105_ren:={
 mixed:=by kernel_rfl
 f99:=Tryz.func113.trans (congrArg some (by kernel_rfl))
 f105:=Tryz.func67.trans (congrArg some (by kernel_rfl))
 f165:=Tryz.func114.trans (congrArg some (by kernel_rfl))
 f166:=Tryz.func115.trans (congrArg some (by kernel_rfl))
 f169:=Tryz.func117.trans (congrArg some (by kernel_rfl))
 f170:=Tryz.func116.trans (congrArg some (by kernel_rfl))
 f206:=Tryz.func143.trans (congrArg some (by kernel_rfl))
 f212:=Tryz.func112.trans (congrArg some (by kernel_rfl))
 f240:=Tryz.func144.trans (congrArg some (by kernel_rfl))
 f241:=Tryz.func145.trans (congrArg some (by kernel_rfl))
 f263:=Tryz.func141.trans (congrArg some (by kernel_rfl))
 f264:=Tryz.func142.trans (congrArg some (by kernel_rfl))
 f276:=Tryz.func157.trans (congrArg some (by kernel_rfl))
 f277:=Tryz.func158.trans (congrArg some (by kernel_rfl))
 t0:=Tryz.underlying0
 a0:=Tryz.isAgg0
 z0:=Tryz.sizeOf0
 v0:=Tryz.zeroValue0
 t3:=Tryz.underlying3
 a3:=Tryz.isAgg3
 z3:=Tryz.sizeOf3
 v3:=Tryz.zeroValue3
 t4:=Tryz.underlying4
 a4:=Tryz.isAgg4
 z4:=Tryz.sizeOf4
 v4:=Tryz.zeroValue4
 t5:=Tryz.underlying5
 a5:=Tryz.isAgg5
 z5:=Tryz.sizeOf5
 v5:=Tryz.zeroValue5
 t9:=Tryz.underlying9
 a9:=Tryz.isAgg9
 z9:=Tryz.sizeOf9
 v9:=Tryz.zeroValue9
 t20:=Tryz.underlying20
 a20:=Tryz.isAgg20
 z20:=Tryz.sizeOf20
 v20:=Tryz.zeroValue20
 t37:=Tryz.underlying179
 a37:=Tryz.isAgg179
 z37:=Tryz.sizeOf179
 v37:=Tryz.zeroValue179
 t46:=Tryz.underlying143
 a46:=Tryz.isAgg143
 z46:=Tryz.sizeOf143
 v46:=Tryz.zeroValue143
 t51:=Tryz.underlying22
 a51:=Tryz.isAgg22
 z51:=Tryz.sizeOf22
 v51:=Tryz.zeroValue22
 t53:=Tryz.underlying236
 a53:=Tryz.isAgg236
 z53:=Tryz.sizeOf236
 v53:=Tryz.zeroValue236
 t70:=Tryz.underlying201
 a70:=Tryz.isAgg201
 z70:=Tryz.sizeOf201
 v70:=Tryz.zeroValue201
 t72:=Tryz.underlying203
 a72:=Tryz.isAgg203
 z72:=Tryz.sizeOf203
 v72:=Tryz.zeroValue203
 t75:=Tryz.underlying205
 a75:=Tryz.isAgg205
 z75:=Tryz.sizeOf205
 v75:=Tryz.zeroValue205
 t76:=Tryz.underlying206
 a76:=Tryz.isAgg206
 z76:=Tryz.sizeOf206
 v76:=Tryz.zeroValue206
 t109:=Tryz.underlying198
 a109:=Tryz.isAgg198
 z109:=Tryz.sizeOf198
 v109:=Tryz.zeroValue198
 t127:=Tryz.underlying239
 a127:=Tryz.isAgg239
 z127:=Tryz.sizeOf239
 v127:=Tryz.zeroValue239
 t146:=Tryz.underlying234
 a146:=Tryz.isAgg234
 z146:=Tryz.sizeOf234
 v146:=Tryz.zeroValue234
 t148:=Tryz.underlying237
 a148:=Tryz.isAgg237
 z148:=Tryz.sizeOf237
 v148:=Tryz.zeroValue237
 t164:=Tryz.underlying251
 a164:=Tryz.isAgg251
 z164:=Tryz.sizeOf251
 v164:=Tryz.zeroValue251 }
theorem Tryz.bx105:Builder.Extra Tryz.prog Tryz.lays105_ren:={
 sizeBuilder:=by kernel_rfl
 liesBuilder:=by kernel_rfl
 t5:=Tryz.underlying5
 a5:=Tryz.isAgg5
 z5:=Tryz.sizeOf5
 v5:=Tryz.zeroValue5
 infoByte:=by kernel_rfl
 cellsByte:=by kernel_rfl
 sizeByte:=by kernel_rfl
 neB5:=by decide }
def Tryz.lays103_ren:Go.Shelf.Ren:=⟨fun|103=>151|206=>143|210=>161|n=>n,fun|3=>3|4=>4|9=>9|24=>114|n=>n,fun|n=>n⟩
theorem Tryz.lays103:Go.Proofs.Lays.n103 Tryz.prog Tryz.lays103_ren:={
 mixed:=by kernel_rfl
 f103:=Tryz.func151.trans (congrArg some (by kernel_rfl))
 f206:=Tryz.func143.trans (congrArg some (by kernel_rfl))
 f210:=Tryz.func161.trans (congrArg some (by kernel_rfl))
 t3:=Tryz.underlying3
 a3:=Tryz.isAgg3
 z3:=Tryz.sizeOf3
 v3:=Tryz.zeroValue3
 t4:=Tryz.underlying4
 a4:=Tryz.isAgg4
 z4:=Tryz.sizeOf4
 v4:=Tryz.zeroValue4
 t9:=Tryz.underlying9
 a9:=Tryz.isAgg9
 z9:=Tryz.sizeOf9
 v9:=Tryz.zeroValue9
 t24:=Tryz.underlying114
 a24:=Tryz.isAgg114
 z24:=Tryz.sizeOf114
 v24:=Tryz.zeroValue114 }
end Go.Proofs
namespace Go.Proofs.YtdgkljfpaddfpaaGreatDoor
open Go Go.QL Go.RowKit FoT
set_option maxHeartbeats 1600000
attribute [local irreducible] ACall FnC YC
theorem zod (n:Int) (h0 : -9223372036854775808≤n) (h1:n≤9223372036854775807):FnC Tryz.prog 66 [iv .i64 n] (sv ⟨(Lib.itoa n).toArray⟩):=by
 unfold FnC;refine⟨⟨_,Tryz.func66,rfl,rfl⟩,fun K w vs hL hK hs hv=>?_⟩
 obtain⟨v,rfl⟩:∃ v,vs = #[v]:=by
  match vs,hs with
  | ⟨[v]⟩,_=>exact⟨v,rfl⟩
 have h2:=hv 0 (iv .i64 n) v rfl rfl;have hvi:v=.int .i64 n:=by
  cases h2 with
  | d _ _ h=>cases h;rfl
 subst hvi;refine Calls.mono (show Calls Tryz.prog 66 #[.int .i64 n] w _ from Any.strconv_Itoa Tryz.laysM171 n h0 h1 w (hL.tab (by decide +kernel) (by kernel_rfl:_=some 0))) ?_
 rintro e w' ⟨rfl,k,os,rfl⟩;have hb:=Lib.below_grow w.heap.size w (Nat.le_refl _) k os;refine⟨_,K,rfl,hb,⟨fun _ _ h=>h,fun b o hk=>?_⟩,fun _ _ _ h=>h,fun b o hk=>Nat.lt_of_lt_of_le (hK b o hk) hb.size,zL _ rfl⟩
 exact hb.cell (hK b o hk)
theorem zlA (s:ByteArray) (c:Nat) (hc:c≤1000) (hs:s.size≤1000):FnC Tryz.prog 67 [sv s,iv .i64 c] (sv ⟨(Lib.repeatL s.data.toList c).toArray⟩):=by
 unfold FnC;refine⟨⟨_,Tryz.func67,rfl,rfl⟩,fun K w vs hL hK hs' hv=>?_⟩
 obtain⟨u,v,rfl⟩:∃ u v,vs = #[u,v]:=by
  match vs,hs' with
  | ⟨[u,v]⟩,_=>exact⟨u,v,rfl⟩
 have h1:=hv 0 (sv s) u rfl rfl;have h2:=hv 1 (iv .i64 c) v rfl rfl;obtain rfl:u=.string s:=by
  cases h1 with
  | d _ _ h=>cases h;rfl
 obtain rfl:v=.int .i64 c:=by
  cases h2 with
  | d _ _ h=>cases h;rfl
 have hm:s.size * c≤1000 * 1000:=Nat.mul_le_mul hs hc;refine Calls.mono (show Calls Tryz.prog 67 #[.string s,.int .i64 c] w _ from Any.strings_Repeat Tryz.lays105 Tryz.bx105 s c w (by omega) (by omega)) ?_
 rintro e w' ⟨rfl,hb⟩;refine⟨_,K,rfl,hb,⟨fun _ _ h=>h,fun b o hk=>?_⟩,fun _ _ _ h=>h,fun b o hk=>Nat.lt_of_lt_of_le (hK b o hk) hb.size,zL _ rfl⟩
 exact hb.cell (hK b o hk)
theorem tup2 {σ:Sg} {g:Gh} {w:World} {a b:Value} (ha:a.oneCell'=true) (hb:b.oneCell'=true):VR2 σ g w (.t [.x (.d (.v a)),.x (.d (.v b))]) (.tuple #[a,b]):=by
 refine⟨#[a,b],rfl,rfl,fun i x v hi hv=>?_⟩
 match i with
 | 0=>cases hi;cases hv;exact zL _ ha
 | 1=>cases hi;cases hv;exact zL _ hb
 | i+2=>simp at hi
theorem zql (s p:ByteArray):FnC Tryz.prog 151 [sv s,sv p] (.t [sv ⟨(Lib.trimPrefix s.data.toList p.data.toList).toArray⟩,bv (Lib.hasPrefix s.data.toList p.data.toList)]):=by
 unfold FnC;refine⟨⟨_,Tryz.func151,rfl,rfl⟩,fun K w vs hL hK hs' hv=>?_⟩
 obtain⟨u,v,rfl⟩:∃ u v,vs = #[u,v]:=by
  match vs,hs' with
  | ⟨[u,v]⟩,_=>exact⟨u,v,rfl⟩
 have h2:=zm (hv 0 (sv s) u rfl rfl);have h3:=zm (hv 1 (sv p) v rfl rfl);subst h2;subst h3;refine Calls.mono (show Calls Tryz.prog 151 #[.string s,.string p] w _ from Any.strings_CutPrefix Tryz.lays103 s p w) ?_
 rintro e w' ⟨rfl,rfl⟩;exact⟨_,K,rfl,Below.refl _ _,Ext.refl _ _,fun _ _ _ h=>h,hK,tup2 rfl rfl⟩
def ziW (s:ByteArray) (r:AV):Prop:=
 match Lib.atoiAll s.data.toList with
 | .ok v=>r=.t [iv .i64 v,.x (.d (.v .nilIface))]
 | _=>∃ u t p,r=.t [iv .i64 u,.x (.d (.v (.iface t p)))]
theorem ziV (s:ByteArray) (hs:s.size≤281474976710656) {σ:Sg}:ACall Tryz.prog 152 [sv s] σ (fun r σ'=>σ'=σ∧ziW s r):=by
 unfold ACall;refine⟨⟨_,Tryz.func152,rfl,rfl⟩,fun w0 K0 g w vs hL hhp hs' hv=>?_⟩
 obtain⟨v,rfl⟩:∃ v,vs = #[v]:=by
  match vs,hs' with
  | ⟨[v]⟩,_=>exact⟨v,rfl⟩
 have h2:=zm (hv 0 (sv s) v rfl rfl);subst h2;have hLw:=hL.mono hhp.ext;have fin:∀ (w':World) (a b:Value) (ha:a.oneCell'=true) (hb:b.oneCell'=true),Below w.heap.size w w'→ziW s (.t [.x (.d (.v a)),.x (.d (.v b))]) →
   ∃ v g' σ' r,Ending.returned (.tuple #[a,b])=.returned v∧Did w0 K0 σ g w σ' g' w'∧VR2 σ' g' w' r v∧σ'=σ∧ziW s r:=by
  intro w' a b ha hb hbl hR;refine⟨_,⟨g.K,g.μ⟩,σ,_,rfl,hhp.grow hbl ⟨fun _ _ h=>h,fun b o hk=>hbl.cell (hhp.val b o hk)⟩ (fun _ _ _ h=>h) (fun b o hk=>Nat.lt_of_lt_of_le (hhp.val b o hk) hbl.size),tup2 ha hb,rfl,hR⟩
 cases h:Lib.atoiAll s.data.toList with
 | ok v=>
  refine (show Calls Tryz.prog 152 #[.string s] w _ from Any.strconv_Atoi_ok Tryz.laysC172 s (by omega) v h w).mono ?_
  rintro e w' ⟨rfl,hw⟩;have hbl:Below w.heap.size w w':=by
   rcases hw with rfl|⟨t,rfl⟩
   ·exact Below.refl _ _
   ·exact Lib.bytesWorld_below w _ t
  exact fin w' _ _ rfl rfl hbl (by unfold ziW;rw [h])
 | range=>
  obtain⟨tp,p,hvar⟩:=hLw.err (nm:= "strconv.ErrRange") (by decide +kernel) (by kernel_rfl:_=some 3);refine (show Calls Tryz.prog 152 #[.string s] w _ from Any.strconv_Atoi_range_var Tryz.laysC172 s hs h tp p w hvar).mono ?_
  rintro e w' ⟨N,rfl,_,_,hbl⟩;exact fin w' _ _ rfl rfl hbl (by unfold ziW;rw [h];exact⟨_,_,_,rfl⟩)
 | _=>
  obtain⟨tp,p,hvar⟩:=hLw.err (nm:= "strconv.ErrSyntax") (by decide +kernel) (by kernel_rfl:_=some 2);refine (show Calls Tryz.prog 152 #[.string s] w _ from Any.strconv_Atoi_syntax_var Tryz.laysC172 s hs h tp p w hvar).mono ?_
  rintro e w' ⟨N,rfl,_,_,hbl⟩;exact fin w' _ _ rfl rfl hbl (by unfold ziW;rw [h];exact⟨_,_,_,rfl⟩)
theorem zm5 {s:ByteArray} (hs:s.size≤281474976710656) {v:Int} (h:Lib.atoiAll s.data.toList=.ok v) {σ:Sg}:ACall Tryz.prog 152 [sv s] σ (fun r σ'=>r=.t [iv .i64 v,.x (.d (.v .nilIface))]∧σ'=σ):=
 (ziV s hs).mono fun r σ' ⟨e,hr⟩=>⟨by unfold ziW at hr;rw [h] at hr;exact hr,e⟩
theorem zkx {s:ByteArray} (hs:s.size≤281474976710656) (h:∀ v,Lib.atoiAll s.data.toList≠.ok v) {σ:Sg}:ACall Tryz.prog 152 [sv s] σ (fun r σ'=>(∃ u t p,r=.t [iv .i64 u,.x (.d (.v (.iface t p)))])∧σ'=σ):=
 (ziV s hs).mono fun r σ' ⟨e,hr⟩=>⟨by
  unfold ziW at hr;cases hc:Lib.atoiAll s.data.toList with
  | ok v=>exact absurd hc (h v)
  | range=>rw [hc] at hr;exact hr
  | _=>rw [hc] at hr;exact hr,e⟩
theorem zic:∀ k,padD k 0=List.replicate k 48
 | 0=>rfl
 | k+1=>by
  rw [padD,zic k,List.replicate_succ'];rfl
theorem zqM:∀ k,Lib.repeatL [48] k=List.replicate k 48
 | 0=>rfl
 | k+1=>by rw [Lib.repeatL,zqM k];rfl
theorem zlP:∀ (k n:Nat),1≤k→n < 10 ^ k→(Lib.decDigits n).length≤k∧List.replicate (k - (Lib.decDigits n).length) 48 ++ Lib.decDigits n=padD k n
 | 0,n,h,_=>absurd h (by omega)
 | k+1,n,_,hn=>by
  rw [Lib.decDigits];by_cases h10:n < 10
  ·rw [dif_pos h10,padD,Nat.div_eq_of_lt h10,zic,Nat.mod_eq_of_lt h10];exact⟨by simp,by simp⟩
  ·rw [dif_neg h10];have hk:1≤k:=by
    rcases Nat.eq_zero_or_pos k with rfl|h
    ·simp at hn;omega
    ·exact h
   obtain⟨h1,h2⟩:=zlP k (n / 10) hk (by rw [Nat.pow_succ] at hn;omega);refine⟨by simp;omega,?_⟩
   rw [padD,← h2,List.length_append,List.length_singleton,← List.append_assoc];congr 3
   omega
end Go.Proofs.YtdgkljfpaddfpaaGreatDoor
namespace Go.Proofs.YtdgkljfpaddfpaaGreatDoor
open Go Go.QL FoT
set_option maxHeartbeats 1600000
attribute [local irreducible] ACall FnC
theorem eqL4 {a b c d e f g h:Int}:eqL [.int .i64 a,.int .i64 b,.int .i64 c,.int .i64 d] [.int .i64 e,.int .i64 f,.int .i64 g,.int .i64 h]=(decide (a=e) && (decide (b=f) && (decide (c=g) && decide (d=h)))):=by
 rw [Bool.eq_iff_iff];simp [eqL,eqV]
theorem zrb {nv:Nat} {n:FNode} (h:n.kind=1):(bif (!(eqL [.int .i64 n.kind,.int .i64 0,.int .i64 n.num,.int .i64 n.places] [.int .i64 n.kind,.int .i64 0,.int .i64 0,.int .i64 0])) then true else outB n.var 0 ((nv:Int) - 1)) = !decide (fine nv n):=by
 have e:fine nv n↔(0≤n.var∧n.var≤(nv:Int) - 1∧n.num=0∧n.places=0):=by unfold fine;rw [if_pos h]
 rw [eqL4,zcE,Bool.eq_iff_iff];simp only [Bool.cond_eq_ite,Bool.not_eq_true',decide_eq_false_iff_not,e];simp;omega
theorem zra {nv:Nat} {n:FNode} (h1:n.kind≠1) (h2:n.kind≠2):(!(eqL [.int .i64 n.kind,.int .i64 n.var,.int .i64 n.num,.int .i64 n.places] [.int .i64 n.kind,.int .i64 0,.int .i64 0,.int .i64 0])) = !decide (fine nv n):=by
 have e:fine nv n↔(n.var=0∧n.num=0∧n.places=0):=by unfold fine;rw [if_neg h1,if_neg h2]
 rw [eqL4,Bool.eq_iff_iff];simp only [Bool.not_eq_true',decide_eq_false_iff_not,e];simp
theorem zgA {nv:Nat} {n:FNode} (h2:n.kind=2):fine nv n↔n.var=0∧(1≤n.places∧n.places≤6)∧(0≤n.num∧n.num≤ten n - 1)∧(n.places≤1∨n.num % 10≠0):=by
 unfold fine ten;rw [if_neg (by omega),if_pos h2];constructor
 ·rintro⟨a,b,c,d,e,f⟩;exact⟨a,⟨b,c⟩,⟨d,e⟩,by omega⟩
 ·rintro⟨a,⟨b,c⟩,⟨d,e⟩,f⟩;exact⟨a,b,c,d,e,by omega⟩
theorem zdk {n:FNode} (h:1≤n.places∧n.places≤6):zqG[n.places.toNat]?=some (.d (.v (.int .i64 (ten n))))∧10≤ten n∧ten n≤1000000:=by
 unfold ten;have:n.places=1∨n.places=2∨n.places=3∨n.places=4∨n.places=5∨n.places=6:=by omega
 rcases this with e|e|e|e|e|e <;> rw [e] <;> refine⟨rfl,?_,?_⟩ <;> decide
abbrev CkR (f:FormT) (i:Nat) (s:CS):Prop:=zav f.vars.length f.code ⟨0,0,true⟩=zav f.vars.length (f.code.drop i) s
theorem zmY {f:FormT} {i:Nat} {s s':CS} (hil:i < f.code.length) (h:CkR f i s) (hs:zbx f.vars.length f.code[i] s=.ok s'):CkR f (i+1) s':=by
 unfold CkR at *;rw [h,List.drop_eq_getElem_cons hil,zav,hs]
theorem zmX {f:FormT} {i:Nat} {s:CS} {e:Int} (hv:zaw [] f.vars=none) (h0:¬ (8 < f.vars.length∨¬ (1≤f.code.length∧f.code.length≤40))) (hil:i < f.code.length) (h:CkR f i s) (hs:zbx f.vars.length f.code[i] s=.error e):zD f=e:=by
 unfold CkR at h;unfold zD;rw [if_neg h0,hv];dsimp only;rw [h,List.drop_eq_getElem_cons hil,zav,hs]
theorem zhi {nv:Nat} {n:FNode} {s:CS} (h1:1≤n.kind∧n.kind≤5) (hf:fine nv n):zbx nv n s=if 3≤n.kind∧s.p < 2 then .error 6 else if 12 < (if 3≤n.kind then s.p - 2 else s.p)+1 then .error 3
  else .ok ⟨(if 3≤n.kind then s.p - 2 else s.p)+1,if n.kind=1∧n.var=s.u then s.u+1 else s.u,s.b && !(decide (n.kind=1) && decide ((s.u:Int) < n.var))⟩:=by
 unfold zbx zbA;rw [if_pos h1,if_pos hf,if_neg (by decide)]
theorem zrT {nv:Nat} {n:FNode} {s:CS} (k2:n.kind=2) (hf:fine nv n):zbx nv n s=if 12 < s.p+1 then .error 3 else .ok ⟨s.p+1,s.u,s.b⟩:=by
 rw [zhi (by omega) hf,if_neg (by omega),if_neg (by omega:¬ 3≤n.kind),if_neg (by omega:¬ (n.kind=1∧n.var=s.u)),decide_eq_false (by omega:¬ n.kind=1)];simp
theorem zqJ {nv:Nat} {n:FNode} {s:CS} (k3:3≤n.kind) (k5:n.kind≤5) (hp:s.p≤12) (hf:fine nv n):zbx nv n s=if s.p < 2 then .error 6 else .ok ⟨s.p - 2+1,s.u,s.b⟩:=by
 rw [zhi (by omega) hf];by_cases h:s.p < 2
 ·rw [if_pos ⟨k3,h⟩,if_pos h]
 ·rw [if_neg (by omega),if_neg h,if_pos k3,if_neg (by omega),if_neg (by omega:¬ (n.kind=1∧n.var=s.u)),decide_eq_false (by omega:¬ n.kind=1)];simp
theorem zjY {nv:Nat} {n:FNode} {s:CS} (h1:1≤n.kind∧n.kind≤5) (hf:¬ fine nv n):zbx nv n s=.error 7:=by
 unfold zbx zbA;rw [if_pos h1,if_neg hf,if_pos (by decide)]
theorem zjZ {nv:Nat} {n:FNode} {s:CS} (h1:¬ (1≤n.kind∧n.kind≤5)):zbx nv n s=.error 2:=by
 unfold zbx zbA;rw [if_neg h1,if_pos (by decide)]
end Go.Proofs.YtdgkljfpaddfpaaGreatDoor
namespace Go.Proofs.YtdgkljfpaddfpaaGreatDoor
open Go Go.QL FoT
set_option maxHeartbeats 12800000
attribute [local irreducible] ACall FnC YC FnP PCall
theorem zkt:∀ (l:Bs8) (acc:Nat),Lib.decFrom acc l=digs acc l
 | [],acc=>rfl
 | c::r,acc=>by
  rw [Lib.decFrom,digs];unfold Lib.digitVal;by_cases h:48≤c.toNat∧c.toNat≤57
  ·rw [if_pos h,if_pos h];dsimp only;rw [zkt r,Nat.mul_comm]
  ·rw [if_neg h,if_neg h]
theorem ziU {l:Bs8} (hl:l.length≤18) (h1:1≤l.length) (h48:48≤(l.headD 0).toNat):Lib.atoiAll l=match digs 0 l with|some n=>.ok (n:Int)|none=>.syntax:=by
 rw [Lib.atoiAll_short l hl];match l,h1 with
 | c::r,_=>
  have hc:48≤c.toNat:=h48;have e1:(c == 45)=false:=by rw [beq_eq_false_iff_ne];rintro rfl;exact absurd hc (by decide)
  have e2:(c == 43)=false:=by rw [beq_eq_false_iff_ne];rintro rfl;exact absurd hc (by decide)
  rw [Lib.atoi,e1,e2];simp only [Bool.false_eq_true,if_false];unfold Lib.decNat;rw [if_neg (by simp),zkt];cases digs 0 (c::r) <;> rfl
theorem zjI {l:Bs8} (h1:1≤l.length) (h:¬ 48≤(l.headD 0).toNat):digs 0 l=none:=by
 match l,h1 with
 | c::r,_=>
  have hc:¬ 48≤c.toNat:=h;rw [digs,if_neg (by omega)]
theorem zot (t:Bs8):zaW t=if Lib.hasPrefix t [48,46]=true∧(1≤(t.drop 2).length∧(t.drop 2).length≤6)∧48≤((t.drop 2).headD 0).toNat then
  (match digs 0 (t.drop 2) with|some n=>if (t.drop 2).length=1∨n % 10≠0 then some ⟨2,0,n,(t.drop 2).length⟩ else none|none=>none) else none:=by
 match t with
 | []=>rfl
 | [a]=>unfold Lib.hasPrefix;simp [zaW]
 | a::b::ds=>
  have hp:Lib.hasPrefix (a::b::ds) [48,46]=(decide (a=48) && decide (b=46)):=by
   unfold Lib.hasPrefix;simp [List.isPrefixOf,Bool.beq_eq_decide_eq,eq_comm]
  rw [hp];unfold zaW;dsimp only [List.drop];by_cases h1:a=48∧b=46∧1≤ds.length∧ds.length≤6
  ·rw [if_pos h1];by_cases h2:48≤(ds.headD 0).toNat
   ·exact (if_pos ⟨by simp [h1],⟨h1.2.2.1,h1.2.2.2⟩,h2⟩).symm
   ·rw [zjI h1.2.2.1 h2];exact (if_neg (fun h=>h2 h.2.2)).symm
  ·rw [if_neg h1];refine (if_neg ?_).symm
   rintro⟨h3,h4,_⟩;simp at h3;exact h1 ⟨h3.1,h3.2,h4.1,h4.2⟩
theorem zmH {l:Bs8} (h:1≤l.length):l[0]?=some (l.headD 0):=by
 match l,h with
 | c::r,_=>rfl
theorem zor {t ds:Bs8} {v:Int} (ce:zaW t=if true=true∧(1≤ds.length∧ds.length≤6)∧48≤(ds.headD 0).toNat then
  (match digs 0 ds with|some n=>if ds.length=1∨n % 10≠0 then some ⟨2,0,n,ds.length⟩ else none|none=>none) else none) (hv:Lib.atoiAll ds=.ok v) (hl:1≤ds.length∧ds.length≤6) :
  (bif (bif (bif (bif true then true else false) then !false else false) then decide (((ds.headD 0).toNat:Int) ≥ 48) else false) then (bif (((bs ds).size:Int) == 1) then true else decide (v.tmod 10 > 0)) else false)=(zaW t).isSome ∧
  ∀ n,zaW t=some n→(⟨2,0,v,((bs ds).size:Int)⟩:FNode)=n:=by
 have hsz:=zbj ds;by_cases h48:48≤(ds.headD 0).toNat
 ·have hat:=ziU (by omega) hl.1 h48;rw [hv] at hat;rw [if_pos ⟨rfl,hl,h48⟩] at ce;cases hdg:digs 0 ds with
  | none=>rw [hdg] at hat;cases hat
  | some n=>
   rw [hdg] at hat ce;have hvn:v=n:=by injection hat
   dsimp only at ce;have hb4:decide (((ds.headD 0).toNat:Int) ≥ 48)=true:=decide_eq_true (by omega);rw [hb4];show (bif (((bs ds).size:Int) == 1) then true else decide (v.tmod 10 > 0))=_∧_
   rw [hvn,Int.tmod_eq_emod_of_nonneg (by omega)];by_cases hfin:ds.length=1∨n % 10≠0
   ·rw [if_pos hfin] at ce;rw [ce];refine⟨?_,fun m hm=>?_⟩
    ·by_cases h1:ds.length=1
     ·rw [beq_iff_eq.2 (show ((bs ds).size:Int)=1 by omega)];rfl
     ·rw [decide_eq_true (show (n:Int) % 10 > 0 by omega)];cases (((bs ds).size:Int) == 1) <;> rfl
    ·injection hm
   ·rw [if_neg hfin] at ce;rw [ce];refine⟨?_,fun m hm=>by cases hm⟩
    rw [beq_eq_false_iff_ne.2 (show ((bs ds).size:Int)≠1 by omega),decide_eq_false (show ¬ (n:Int) % 10 > 0 by omega)];rfl
 ·rw [if_neg (fun h=>h48 h.2.2)] at ce;rw [ce];refine⟨?_,fun m hm=>by cases hm⟩
  rw [decide_eq_false (show ¬ ((ds.headD 0).toNat:Int) ≥ 48 by omega)];rfl
theorem zmS {t ds:Bs8} (ce:zaW t=if true=true∧(1≤ds.length∧ds.length≤6)∧48≤(ds.headD 0).toNat then
  (match digs 0 ds with|some n=>if ds.length=1∨n % 10≠0 then some ⟨2,0,n,ds.length⟩ else none|none=>none) else none) (hv:∀ v,Lib.atoiAll ds≠.ok v):zaW t=none:=by
 rw [ce];split
 ·rename_i h;have hat:=ziU (by omega) h.2.1.1 h.2.2;cases hdg:digs 0 ds with
  | none=>rfl
  | some n=>rw [hdg] at hat;exact absurd hat (hv _)
 ·rfl
theorem zjJ (t:Bs8) (ht:t.length≤1000) {σ:Sg}:ACall Tryz.prog 138 [sv (bs t)] [] (fun r σ'=>(∃ m:FNode,r=.t [ndAV m,bv (zaW t).isSome]∧(∀ n,zaW t=some n→m=n))∧σ'=[]):=by
 have ce:=zot t;have cp:=zql (bs t) (bs [48,46]);rw [zco,zco] at cp;have hcase:∀ l:Bs8,(∃ v,Lib.atoiAll l=.ok v)∨∀ v,Lib.atoiAll l≠.ok v:=fun l=>by
  cases h:Lib.atoiAll l with
  | ok v=>exact .inl ⟨v,rfl⟩
  | range=>exact .inr fun v h=>by cases h
  | _=>exact .inr fun v h=>by cases h
 cases hp:Lib.hasPrefix t [48,46] with
 | false=>
  have hn:zaW t=none:=by rw [ce,hp,if_neg (by simp)]
  have htr:Lib.trimPrefix t [48,46]=t:=by unfold Lib.trimPrefix;rw [hp];rfl
  rw [hp,htr] at cp;rw [hn];have hO:=fun k=>zaL k 1 6
  rcases hcase t with ⟨v,hv⟩|hv
  ·have ao:=fun {σ:Sg}=>zm5 (σ:=σ) (s:=bs t) (by rw [zbj];omega) (by rw [zco];exact hv)
   refine hdD Tryz.func138 Tryz.ntmps138 (res:=[.cell 2 50,.tmp 3]) fun w0 K0 B=>?_
   repeat' first|refine zd ?_|((first|refine zi ?_|refine regA ?_|refine drM (id:=4) 27 [22,23,24,25,26] false [0,0,2,6,14,30,62,126,254,510,1022,2046,4094,8190,16382,32766,65534,131070,262142,524286,1048574,2097150,4194302,8388606,16777214,33554430,67108862,4194303,268435455] ?_|refine LateGo.mk ⟨.x .j,rfl,?_⟩|refine zsn (cp) ?_|((refine⟨_,ao,?_⟩);(rintro _ _ ⟨rfl,rfl⟩))|refine zsr ((hO _)) ?_|refine⟨0,zax (fun h=>absurd (show false=true from h) (by decide)),?_⟩|refine⟨Int.tmod _ 10,rfl,?_⟩|refine pkA ?_|refine andA ?_|fail);conv=>whnf)|fail
   exact⟨_,[],trivial,rfl,rfl,⟨⟨⟨2,0,_,_⟩,rfl,fun n h=>(by cases h)⟩,rfl⟩⟩
  ·have ab:=fun {σ:Sg}=>zkx (σ:=σ) (s:=bs t) (by rw [zbj];omega) (by rw [zco];exact hv)
   refine hdD Tryz.func138 Tryz.ntmps138 (res:=[.cell 2 50,.tmp 3]) fun w0 K0 B=>?_
   repeat' first|refine zd ?_|((first|refine zi ?_|refine regA ?_|refine drM (id:=4) 27 [22,23,24,25,26] false [0,0,2,6,14,30,62,126,254,510,1022,2046,4094,8190,16382,32766,65534,131070,262142,524286,1048574,2097150,4194302,8388606,16777214,33554430,67108862,4194303,268435455] ?_|refine LateGo.mk ⟨.x .j,rfl,?_⟩|refine zsn (cp) ?_|((refine⟨_,ab,?_⟩);(rintro _ _ ⟨⟨_,_,_,rfl⟩,rfl⟩))|refine zsr ((hO _)) ?_|refine⟨0,zax (fun h=>absurd (show false=true from h) (by decide)),?_⟩|refine⟨Int.tmod _ 10,rfl,?_⟩|refine pkA ?_|refine andA ?_|fail);conv=>whnf)|fail
   exact⟨_,[],trivial,rfl,rfl,⟨⟨⟨2,0,_,_⟩,rfl,fun n h=>(by cases h)⟩,rfl⟩⟩
 | true=>
  have htr:Lib.trimPrefix t [48,46]=t.drop 2:=by unfold Lib.trimPrefix;rw [hp];rfl
  rw [hp,htr] at cp;rw [hp] at ce;generalize hds:t.drop 2=ds at *;have hdl:ds.length≤1000:=by rw [← hds,List.length_drop];omega
  have hO:=zaL (bs ds).size 1 6;have hsz:=zbj ds;rcases hcase ds with ⟨v,hv⟩|hv
  ·have ao:=fun {σ:Sg}=>zm5 (σ:=σ) (s:=bs ds) (by rw [zbj];omega) (by rw [zco];exact hv)
   by_cases hl:1≤ds.length∧ds.length≤6
   ·rw [zQ.2 (by omega)] at hO;have hg:(bs ds).data.toList[(0:Int).toNat]?=some (ds.headD 0):=by rw [zco];exact zmH hl.1
    obtain⟨hB,hN⟩:=zor ce hv hl;refine hdD Tryz.func138 Tryz.ntmps138 (res:=[.cell 2 50,.tmp 3]) fun w0 K0 B=>?_
    repeat' first|refine zd ?_|((first|refine zi ?_|refine regA ?_|refine drM (id:=4) 27 [22,23,24,25,26] false [0,0,2,6,14,30,62,126,254,510,1022,2046,4094,8190,16382,32766,65534,131070,262142,524286,1048574,2097150,4194302,8388606,16777214,33554430,67108862,4194303,268435455] ?_|refine LateGo.mk ⟨.x .j,rfl,?_⟩|refine zsn (cp) ?_|((refine⟨_,ao,?_⟩);(rintro _ _ ⟨rfl,rfl⟩))|refine zsr (hO) ?_|refine⟨ds.headD 0,ze ⟨by omega,hg⟩,?_⟩|refine⟨Int.tmod _ 10,rfl,?_⟩|refine pkA ?_|refine andA ?_|fail);conv=>whnf)|fail
    exact⟨_,[],trivial,rfl,rfl,⟨⟨⟨2,0,v,((bs ds).size:Int)⟩,congrArg (fun b=>AV.t [ndAV ⟨2,0,v,((bs ds).size:Int)⟩,bv b]) hB,hN⟩,rfl⟩⟩
   ·rw [outB_true.2 (by omega)] at hO;rw [if_neg (fun h=>hl h.2.1)] at ce;rw [ce];refine hdD Tryz.func138 Tryz.ntmps138 (res:=[.cell 2 50,.tmp 3]) fun w0 K0 B=>?_
    repeat' first|refine zd ?_|((first|refine zi ?_|refine regA ?_|refine drM (id:=4) 27 [22,23,24,25,26] false [0,0,2,6,14,30,62,126,254,510,1022,2046,4094,8190,16382,32766,65534,131070,262142,524286,1048574,2097150,4194302,8388606,16777214,33554430,67108862,4194303,268435455] ?_|refine LateGo.mk ⟨.x .j,rfl,?_⟩|refine zsn (cp) ?_|((refine⟨_,ao,?_⟩);(rintro _ _ ⟨rfl,rfl⟩))|refine zsr (hO) ?_|refine⟨0,zax (fun h=>absurd (show false=true from h) (by decide)),?_⟩|refine⟨Int.tmod _ 10,rfl,?_⟩|refine pkA ?_|refine andA ?_|fail);conv=>whnf)|fail
    exact⟨_,[],trivial,rfl,rfl,⟨⟨⟨2,0,_,_⟩,rfl,fun n h=>(by cases h)⟩,rfl⟩⟩
  ·have ab:=fun {σ:Sg}=>zkx (σ:=σ) (s:=bs ds) (by rw [zbj];omega) (by rw [zco];exact hv)
   rw [zmS ce hv];by_cases hl:1≤ds.length∧ds.length≤6
   ·rw [zQ.2 (by omega)] at hO;refine hdD Tryz.func138 Tryz.ntmps138 (res:=[.cell 2 50,.tmp 3]) fun w0 K0 B=>?_
    repeat' first|refine zd ?_|((first|refine zi ?_|refine regA ?_|refine drM (id:=4) 27 [22,23,24,25,26] false [0,0,2,6,14,30,62,126,254,510,1022,2046,4094,8190,16382,32766,65534,131070,262142,524286,1048574,2097150,4194302,8388606,16777214,33554430,67108862,4194303,268435455] ?_|refine LateGo.mk ⟨.x .j,rfl,?_⟩|refine zsn (cp) ?_|((refine⟨_,ab,?_⟩);(rintro _ _ ⟨⟨_,_,_,rfl⟩,rfl⟩))|refine zsr (hO) ?_|refine⟨0,zax (fun h=>absurd (show false=true from h) (by decide)),?_⟩|refine⟨Int.tmod _ 10,rfl,?_⟩|refine pkA ?_|refine andA ?_|fail);conv=>whnf)|fail
    exact⟨_,[],trivial,rfl,rfl,⟨⟨⟨2,0,_,_⟩,rfl,fun n h=>(by cases h)⟩,rfl⟩⟩
   ·rw [outB_true.2 (by omega)] at hO;refine hdD Tryz.func138 Tryz.ntmps138 (res:=[.cell 2 50,.tmp 3]) fun w0 K0 B=>?_
    repeat' first|refine zd ?_|((first|refine zi ?_|refine regA ?_|refine drM (id:=4) 27 [22,23,24,25,26] false [0,0,2,6,14,30,62,126,254,510,1022,2046,4094,8190,16382,32766,65534,131070,262142,524286,1048574,2097150,4194302,8388606,16777214,33554430,67108862,4194303,268435455] ?_|refine LateGo.mk ⟨.x .j,rfl,?_⟩|refine zsn (cp) ?_|((refine⟨_,ab,?_⟩);(rintro _ _ ⟨⟨_,_,_,rfl⟩,rfl⟩))|refine zsr (hO) ?_|refine⟨0,zax (fun h=>absurd (show false=true from h) (by decide)),?_⟩|refine⟨Int.tmod _ 10,rfl,?_⟩|refine pkA ?_|refine andA ?_|fail);conv=>whnf)|fail
    exact⟨_,[],trivial,rfl,rfl,⟨⟨⟨2,0,_,_⟩,rfl,fun n h=>(by cases h)⟩,rfl⟩⟩
end Go.Proofs.YtdgkljfpaddfpaaGreatDoor
namespace FoT
def RInv (N:Nat) (st:PS):Prop:=(∃ p a,st.toks=p ++ [(a,[])])∧(∀ p ∈ st.toks,p.2.length≤1000)∧st.code.length+st.toks.length≤N∧st.vars.length+st.toks.length≤N
theorem RInv.cons {N:Nat} {st:PS} (h:RInv N st):∃ a t rest,st.toks=(a,t)::rest∧t.length≤1000:=by
 obtain⟨⟨p,a,hp⟩,hl,_,_⟩:=h;match hs:st.toks with
 | []=>rw [hs] at hp;simp at hp
 | (b,t)::rest=>exact⟨b,t,rest,rfl,hl (b,t) (by rw [hs];exact List.mem_cons_self ..)⟩
theorem RInv.next {N:Nat} {toks:List (Nat × Bs8)} {vars:List Bs8} {code:List FNode} {a:Nat} {t:Bs8} {rest:List (Nat × Bs8)} (h:RInv N ⟨toks,vars,code⟩) (ht:toks=(a,t)::rest) (hn:t≠[]):RInv N ⟨rest,vars,code⟩∧code.length+rest.length+1≤N∧vars.length+rest.length+1≤N:=by
 subst ht;obtain⟨⟨p,b,hp⟩,hl,h1,h2⟩:=h;dsimp only [List.length_cons] at hp hl h1 h2;match p with
 | []=>injection hp with hp _;injection hp with _ hp;exact absurd hp hn
 | x::p=>
  injection hp with _ hp
  exact⟨⟨⟨p,b,hp⟩,fun q hq=>hl q (List.mem_cons_of_mem _ hq),by dsimp only;omega,by dsimp only;omega⟩,by omega,by omega⟩
theorem znV (vars:List Bs8):zen vars []=none:=rfl
theorem zl9 {vars vs:List Bs8} {t:Bs8} {n:FNode} (h:zen vars t=some (n,vs)):vs.length≤vars.length+1:=by
 unfold zen at h;split at h
 ·split at h
  ·cases h;omega
  ·cases h;rw [List.length_append];exact Nat.le_refl _
 ·split at h
  ·cases h;omega
  ·cases h
theorem zdn (N:Nat):∀ k:Nat,(∀ st st',RInv N st→opM k st=some (.ok st')→RInv N st'∧st'.code.length+st'.toks.length≤st.code.length+st.toks.length) ∧
  (∀ st st',RInv N st→zaY k st=some (.ok st')→RInv N st'∧st'.code.length+st'.toks.length≤st.code.length+st.toks.length) ∧
  (∀ st st',RInv N st→zcb k st=some (.ok st')→RInv N st'∧st'.code.length+st'.toks.length≤st.code.length+st.toks.length) ∧
  (∀ st st',RInv N st→sumM k st=some (.ok st')→RInv N st'∧st'.code.length+st'.toks.length≤st.code.length+st.toks.length) ∧
  ∀ st st',RInv N st→sumT k st=some (.ok st')→RInv N st'∧st'.code.length+st'.toks.length≤st.code.length+st.toks.length:=by
 intro k;induction k with
 | zero=>exact⟨fun _ _ _ h=>by simp [opM] at h,fun _ _ _ h=>by simp [zaY] at h,fun _ _ _ h=>by simp [zcb] at h,fun _ _ _ h=>by simp [sumM] at h,fun _ _ _ h=>by simp [sumT] at h⟩
 | succ k ih=>
  obtain⟨hO,hP,hPT,hS,hST⟩:=ih;refine⟨?_,?_,?_,?_,?_⟩
  ·rintro⟨toks,vars,code⟩ st' hi h;obtain⟨a,t,rest,ht,_⟩:=hi.cons;dsimp only at ht;rw [opM] at h;dsimp only at h;rw [ht] at h;dsimp only at h;by_cases h40:t=[40]
   ·rw [if_pos h40] at h;obtain⟨hi1,_,_⟩:=hi.next ht (by rw [h40];simp);cases hs:sumM k ⟨rest,vars,code⟩ with
    | none=>rw [hs] at h;cases h
    | some r=>
     cases r with
     | error e=>rw [hs] at h;cases h
     | ok s1=>
      rw [hs] at h;obtain⟨hi2,hm⟩:=hS _ _ hi1 hs;obtain⟨t1,v1,c1⟩:=s1;obtain⟨a',t',rest',ht',_⟩:=hi2.cons;dsimp only at h ht' hm;rw [ht'] at h;dsimp only at h;by_cases h41:t'=[41]
      ·rw [if_pos h41] at h;cases h;refine⟨(hi2.next ht' (by rw [h41];simp)).1,?_⟩
       rw [ht'] at hm;rw [ht];dsimp only [List.length_cons] at hm ⊢;omega
      ·rw [if_neg h41] at h;cases h
   ·rw [if_neg h40] at h;cases hl:zen vars t with
    | none=>rw [hl] at h;cases h
    | some p=>
     obtain⟨n,vs⟩:=p;rw [hl] at h;cases h;have hv:=zl9 hl;obtain⟨⟨h1,h2,h3,h4⟩,h5,h6⟩:=hi.next ht (by rintro rfl;rw [znV] at hl;cases hl);refine⟨⟨h1,h2,by dsimp only;rw [List.length_append];dsimp only [List.length_cons,List.length_nil];omega,by dsimp only;omega⟩,?_⟩
     rw [ht];dsimp only [List.length_cons];rw [List.length_append];dsimp only [List.length_cons,List.length_nil];omega
  ·intro st st' hi h;rw [zaY] at h;cases hs:opM k st with
   | none=>rw [hs] at h;cases h
   | some r=>
    cases r with
    | error e=>rw [hs] at h;cases h
    | ok s1=>
     rw [hs] at h;obtain⟨hi1,hm1⟩:=hO _ _ hi hs;obtain⟨hi2,hm2⟩:=hPT _ _ hi1 h;exact⟨hi2,by omega⟩
  ·rintro⟨toks,vars,code⟩ st' hi h;obtain⟨a,t,rest,ht,_⟩:=hi.cons;dsimp only at ht;rw [zcb] at h;dsimp only at h;rw [ht] at h;dsimp only at h;by_cases h42:t=[42]
   ·rw [if_pos h42] at h;obtain⟨hi1,_,_⟩:=hi.next ht (by rw [h42];simp);cases hs:opM k ⟨rest,vars,code⟩ with
    | none=>rw [hs] at h;cases h
    | some r=>
     cases r with
     | error e=>rw [hs] at h;cases h
     | ok s1=>
      rw [hs] at h;obtain⟨⟨h1,h2,h3,h4⟩,hm⟩:=hO _ _ hi1 hs;dsimp only at hm;obtain⟨_,hc,_⟩:=hi.next ht (by rw [h42];simp);obtain⟨hi3,hm3⟩:=hPT ⟨s1.toks,s1.vars,s1.code ++ [opN 5]⟩ _ ⟨h1,h2,by dsimp only;rw [List.length_append];dsimp only [List.length_cons,List.length_nil];omega,h4⟩ h;refine⟨hi3,?_⟩
      rw [ht];dsimp only at hm3 ⊢;rw [List.length_append] at hm3;dsimp only [List.length_cons,List.length_nil] at hm3 ⊢;omega
   ·rw [if_neg h42] at h;cases h;exact⟨by rw [← ht];exact hi,by rw [ht];exact Nat.le_refl _⟩
  ·intro st st' hi h;rw [sumM] at h;cases hs:zaY k st with
   | none=>rw [hs] at h;cases h
   | some r=>
    cases r with
    | error e=>rw [hs] at h;cases h
    | ok s1=>
     rw [hs] at h;obtain⟨hi1,hm1⟩:=hP _ _ hi hs;obtain⟨hi2,hm2⟩:=hST _ _ hi1 h;exact⟨hi2,by omega⟩
  ·rintro⟨toks,vars,code⟩ st' hi h;obtain⟨a,t,rest,ht,_⟩:=hi.cons;dsimp only at ht;rw [sumT] at h;dsimp only at h;rw [ht] at h;dsimp only at h;by_cases h42:t=[43]∨t=[45]
   ·rw [if_pos h42] at h;obtain⟨hi1,hc,_⟩:=hi.next ht (by rcases h42 with rfl|rfl <;> simp);cases hs:zaY k ⟨rest,vars,code⟩ with
    | none=>rw [hs] at h;cases h
    | some r=>
     cases r with
     | error e=>rw [hs] at h;cases h
     | ok s1=>
      rw [hs] at h;obtain⟨⟨h1,h2,h3,h4⟩,hm⟩:=hP _ _ hi1 hs;dsimp only at hm;obtain⟨hi3,hm3⟩:=hST ⟨s1.toks,s1.vars,s1.code ++ [opN (if t=[45] then 4 else 3)]⟩ _ ⟨h1,h2,by dsimp only;rw [List.length_append];dsimp only [List.length_cons,List.length_nil];omega,h4⟩ h;refine⟨hi3,?_⟩
      rw [ht];dsimp only at hm3 ⊢;rw [List.length_append] at hm3;dsimp only [List.length_cons,List.length_nil] at hm3 ⊢;omega
   ·rw [if_neg h42] at h;cases h;exact⟨by rw [← ht];exact hi,by rw [ht];exact Nat.le_refl _⟩
end FoT
namespace Go.QL
open Go Go.RowKit
theorem PCall.frame {P:Program} {f:FuncId} {args:List AV} {σ0 σ:Sg} {R:AV→Sg→Prop} {Rp:Value→Sg→Prop} (h:PCall P f args σ0 R Rp) (ρ : Nat→Nat) (hl:SubR ρ σ σ0)
  (hc:(args.all (zeR σ0) && rsSg σ0 σ0 && injK ρ (σ0.map (·.1)))=true) (hn:∀ r1 σ1,R r1 σ1→zdN ρ σ0 σ1 σ=true) (hnp:∀ v σ1,Rp v σ1→zdN ρ σ0 σ1 σ=true) :
  PCall P f (args.map (rnAV ρ)) σ (fun r σ'=>∃ r1 σ1,R r1 σ1∧r=rnAV ρ r1∧σ'=after ρ σ0 σ1 σ) (fun v σ'=>∃ σ1,Rp v σ1∧σ'=after ρ σ0 σ1 σ):=by
 refine⟨h.1,fun w0 K0 g w vs hL hp hs hv=>?_⟩
 have hl:=zjN hl;simp only [Bool.and_eq_true,List.all_eq_true] at hc;obtain⟨⟨hca,hcs⟩,hinj0⟩:=hc;have hinj0:=zgj hinj0;have dom0:∀ {i:Nat},(lk i σ0).isSome=true→(lk (ρ i) σ).isSome=true:=fun {i} hi=>by
  obtain⟨ob,hob⟩:=Option.isSome_iff_exists.1 hi;rw [hl i ob hob];rfl
 let g0:Gh:=⟨g.K,fun i=>g.μ (ρ i)⟩
 let F':Nat→Prop:=fun b=>b < w.heap.size∧∀ i,(lk i σ0).isSome=true→blk (g.μ (ρ i))≠some b
 have hp0:Hp w ⟨g.K,F'⟩ σ0 g0 w:=by
  refine⟨.refl _ _,fun b hb=>hb.1,.refl _ _,fun _ _ _ h=>h,hp.val,fun id ob hid=>?_,fun id b hid hb hF=>hF.2 id hid hb,fun i j b hi hj hbi hbj=>?_⟩
  ·have hO:=hp.obs (ρ id) _ (hl id ob hid);cases ob with
   | box cs=>
    have hcs':=za2 hcs _ _ hid;simp only [rsOb,List.all_eq_true] at hcs';obtain⟨b,us,T,k1,k2,k3,k4,k5,k6⟩:=hO;refine⟨b,us,T,k1,k2,k3,by simpa using k4,fun i s hi=>?_,k6⟩
    obtain⟨v,hv,hr⟩:=k5 i (rnSV ρ s) (by rw [List.getElem?_map,hi];rfl);exact⟨v,hv,zed hl (hcs' s (List.mem_of_getElem? hi)) hr⟩
   | chain e sz st xs=>exact hO
   | x o=>obtain⟨b,k1,k2,k3,k4⟩:=hO;exact⟨b,k1,k2,zh4 hl (za2 hcs _ _ hid) k3,k4⟩
  ·have:=hp.inj (ρ i) (ρ j) b (dom0 hi) (dom0 hj) hbi hbj;exact hinj0 i (zz.1 hi) j (zz.1 hj) this
 have main:∀ (g1:Gh) (σ1:Sg) (w':World),Did w ⟨g.K,F'⟩ σ0 g0 w σ1 g1 w'→zdN ρ σ0 σ1 σ=true→∃ g'',Did w0 K0 σ g w (after ρ σ0 σ1 σ) g'' w'∧∀ r1 v,VR2 σ1 g1 w' r1 v→VR2 (after ρ σ0 σ1 σ) g'' w' (rnAV ρ r1) v:=by
  intro g1 σ1 w' hd hon;unfold zdN at hon;simp only [Bool.and_eq_true,List.all_eq_true,Bool.or_eq_true,Bool.not_eq_true',zdY] at hon;obtain⟨⟨hi1,hsub⟩,hnew⟩:=hon;have hi1:=zgj hi1;let ks:=σ1.map (·.1)
  let g'':Gh:=⟨g1.K,fun k=>match unrn ρ ks k with|some i=>g1.μ i|none=>g.μ k⟩
  have out:∀ {k:Nat},(lk k σ).isSome=true→(∀ i,(lk i σ0).isSome=true→ρ i≠k)→∀ i ∈ ks,ρ i≠k:=by
   intro k hk hno i hi he';rcases hnew i hi with h1|h1
   ·exact hno i (zz.2 h1) he'
   ·have : ρ i ∈ σ.map (·.1):=by rw [he'];exact zz.1 hk
    rw [zdY.2 this] at h1;cases h1
  have lkin:∀ {i:Nat},i ∈ ks→lk (ρ i) (after ρ σ0 σ1 σ)=(lk i σ1).map (rnOb ρ)∧g''.μ (ρ i)=g1.μ i:=by
   intro i hi;have h1:=zjp (ρ:=ρ) (σ:=σ1) (ks:=ks) hi1 (fun _ h=>h) hi;refine⟨?_,?_⟩
   ·unfold after;rw [zel,h1];obtain⟨ob,hob⟩:=Option.isSome_iff_exists.1 (zz.2 hi);rw [hob];rfl
   ·show (match unrn ρ ks (ρ i) with|some i=>g1.μ i|none=>_)=_
    rw [zjS hi1 hi]
  have lkout:∀ {k:Nat},(∀ i ∈ ks,ρ i≠k)→(∀ i,(lk i σ0).isSome=true→ρ i≠k)→lk k (after ρ σ0 σ1 σ)=lk k σ∧g''.μ k=g.μ k:=by
   intro k hk hk0;refine⟨?_,?_⟩
   ·unfold after;rw [zel,zc4 hk];exact zfb (fun hm=>by
     obtain⟨i,hi,he'⟩:=List.mem_map.1 hm;exact hk0 i (zz.2 hi) he') σ
   ·show (match unrn ρ ks k with|some i=>g1.μ i|none=>_)=_
    rw [zfS hk]
  have hlp:∀ id ob,lk id σ1=some ob→lk (ρ id) (after ρ σ0 σ1 σ)=some (rnOb ρ ob)∧g''.μ (ρ id)=g1.μ id:=by
   intro id ob hid;have:=lkin (i:=id) (zz.1 (by rw [hid];rfl));rw [hid] at this;exact this
  have hext:Ext g.K w g1.K w':=hd.hp.ext;have leaf:∀ {s:SV} {u:Value},SR σ0 g0 w s u→SR (after ρ σ0 σ1 σ) g'' w' (rnSV ρ s) u:=fun hs=>(zbs hlp rfl (hd.keep _ _ hs)).1
  have isin:∀ k,(∃ i,(lk i σ0).isSome=true∧ρ i=k)∨(∀ i,(lk i σ0).isSome=true→ρ i≠k):=by
   intro k;by_cases hk:∃ i,(lk i σ0).isSome=true∧ρ i=k
   ·exact .inl hk
   ·exact .inr fun i hi he'=>hk ⟨i,hi,he'⟩
  have keep:∀ s u,SR σ g w s u→SR (after ρ σ0 σ1 σ) g'' w' s u:=by
   intro s u hs;induction hs with
   | d x v h=>exact .d x v (h.mono hext)
   | old c st n e sz st' xs v h hlt h1=>
    rcases isin c with ⟨i,hi,rfl⟩|hno
    ·exact leaf (s:=.o i st n) (zV hl (s:=.o i st n) hi (SR.old (σ:=σ) (ρ i) st n e sz st' xs v h hlt h1))
    ·have:=lkout (out (by rw [h];rfl) hno) hno;exact .old c st n e sz st' xs v (by rw [this.1];exact h) hlt h1
   | o c st n e sz xs a cap h hn hμ=>
    rcases isin c with ⟨i,hi,rfl⟩|hno
    ·exact leaf (s:=.o i st n) (zV hl (s:=.o i st n) hi (SR.o (σ:=σ) (ρ i) st n e sz xs a cap h hn hμ))
    ·have:=lkout (out (by rw [h];rfl) hno) hno;exact .o c st n e sz xs a cap (by rw [this.1];exact h) hn (by rw [this.2];exact hμ)
   | b id off cs k h hμ=>
    rcases isin id with ⟨i,hi,rfl⟩|hno
    ·exact leaf (s:=.b i off) (zV hl (s:=.b i off) hi (SR.b (σ:=σ) (ρ i) off cs k h hμ))
    ·have:=lkout (out (by rw [h];rfl) hno) hno;exact .b id off cs k (by rw [this.1];exact h) (by rw [this.2];exact hμ)
   | se e off k l vs hK hc' hr=>
    exact .se e off k l vs (fun j hj=>hext.sub _ _ (hK j hj)) (fun j hj=>by rw [hext.cell _ _ (hK j hj)];exact hc' j hj) (fun j x hx=>(hr j x hx).mono hext)
   | oeold c st i0 off e sz st' xs v h hlt h1=>
    rcases isin c with ⟨i,hi,rfl⟩|hno
    ·exact leaf (s:=.oe i st i0 off) (zV hl (s:=.oe i st i0 off) hi (SR.oeold (σ:=σ) (ρ i) st i0 off e sz st' xs v h hlt h1))
    ·have:=lkout (out (by rw [h];rfl) hno) hno;exact .oeold c st i0 off e sz st' xs v (by rw [this.1];exact h) hlt h1
   | oe c st i0 off e sz xs k cap h hμ=>
    rcases isin c with ⟨i,hi,rfl⟩|hno
    ·exact leaf (s:=.oe i st i0 off) (zV hl (s:=.oe i st i0 off) hi (SR.oe (σ:=σ) (ρ i) st i0 off e sz xs k cap h hμ))
    ·have:=lkout (out (by rw [h];rfl) hno) hno;exact .oe c st i0 off e sz xs k cap (by rw [this.1];exact h) (by rw [this.2];exact hμ)
   | f fn first captured v1 v2 h1 h2 _ _ ih1 ih2=>exact .f fn first captured v1 v2 h1 h2 ih1 ih2
   | j v h1=>exact .j v h1
   | h id o k h hμ=>
    rcases isin id with ⟨i,hi,rfl⟩|hno
    ·exact leaf (s:=.h i) (zV hl (s:=.h i) hi (SR.h (σ:=σ) (ρ i) o k h hμ))
    ·have:=lkout (out (by rw [h];rfl) hno) hno;exact .h id o k (by rw [this.1];exact h) (by rw [this.2];exact hμ)
   | sb id off n cap cs k h hμ hn' hc'=>
    rcases isin id with ⟨i,hi,rfl⟩|hno
    ·exact leaf (s:=.sb i off n cap) (zV hl (s:=.sb i off n cap) hi (SR.sb (σ:=σ) (ρ i) off n cap cs k h hμ hn' hc'))
    ·have:=lkout (out (by rw [h];rfl) hno) hno;exact .sb id off n cap cs k (by rw [this.1];exact h) (by rw [this.2];exact hμ) hn' hc'
  have fsub:∀ b,K0.F b→F' b:=fun b hb=>⟨hp.F_lt b hb,fun i hi he'=>hp.own (ρ i) b (dom0 hi) he' hb⟩
  have cases':∀ {k:Nat},(lk k (after ρ σ0 σ1 σ)).isSome=true→(∃ i,i ∈ ks∧ρ i=k)∨((∀ i ∈ ks,ρ i≠k)∧(∀ i,(lk i σ0).isSome=true→ρ i≠k)∧(lk k σ).isSome=true):=by
   intro k hk;by_cases hin:∃ i,i ∈ ks∧ρ i=k
   ·exact .inl hin
   ·have hks:∀ i ∈ ks,ρ i≠k:=fun i hi he'=>hin ⟨i,hi,he'⟩
    have hk0:∀ i,(lk i σ0).isSome=true→ρ i≠k:=fun i hi=>hks i (hsub i (zz.1 hi))
    refine .inr ⟨hks,hk0,?_⟩
    rw [(lkout hks hk0).1] at hk;exact hk
  have frameF:∀ {k b:Nat},(lk k σ).isSome=true→(∀ i,(lk i σ0).isSome=true→ρ i≠k)→blk (g.μ k)=some b→F' b:=by
   intro k b hk hno hb;obtain⟨ob,hob⟩:=Option.isSome_iff_exists.1 hk;exact⟨((hp.obs k ob hob).blk_lt hb).2,fun i hi he'=>hno i hi (hp.inj (ρ i) k b (dom0 hi) hk he' hb)⟩
  have hd1:=hd.hp;refine⟨g'',⟨⟨?_,hp.flt,hp.ext.trans hext,?_,hd1.val,?_,?_,?_⟩,keep⟩,fun _ _ hvr=>zf5 hlp rfl hvr⟩
  ·exact hp.kept.trans ⟨hd1.kept.os,hd1.kept.tape,hd1.kept.output,hd1.kept.size,fun b hb=>hd1.kept.block b (fsub b hb)⟩
  ·exact fun b o hF hk=>hp.old b o hF (hd1.old b o (fsub b hF) hk)
  ·intro k ob hk;rcases cases' (by rw [hk];rfl) with ⟨i,hi,rfl⟩|⟨hks,hk0,hkσ⟩
   ·have h2:=lkin hi;obtain⟨ob1,hob1⟩:=Option.isSome_iff_exists.1 (zz.2 hi);rw [hob1,hk] at h2;obtain⟨h2,h3⟩:=h2;cases h2;have hO:=hd1.obs i ob1 hob1;cases ob1 with
    | box cs=>
     obtain⟨b,us,T,k1,k2,k3,k4,k5,k6⟩:=hO;refine⟨b,us,T,by rw [h3];exact k1,k2,k3,by simpa using k4,fun j s hj=>?_,k6⟩
     rw [List.getElem?_map] at hj;cases hs':cs[j]? with
     | none=>rw [hs'] at hj;cases hj
     | some s0=>
      rw [hs'] at hj;cases hj;obtain⟨u,hu,hr⟩:=k5 j s0 hs';exact⟨u,hu,(zbs hlp rfl hr).1⟩
    | chain e sz st xs=>
     obtain⟨us,k1,k2,k3,k4,k5⟩:=hO;exact⟨us,by rw [h3];exact k1,by rw [h3];exact k2,k3,k4,fun b hb=>k5 b (by rw [← h3];exact hb)⟩
    | x o=>obtain⟨b,k1,k2,k3,k4⟩:=hO;exact⟨b,by rw [h3];exact k1,k2,zh3 hlp rfl k3,k4⟩
   ·have h2:=lkout hks hk0;rw [h2.1] at hk;have hO:=hp.obs k ob hk;refine hO.keep keep hext h2.2 (fun b hb=>hd1.kept.block b (frameF hkσ hk0 hb)) (fun b hb o hkk=>?_)
    exact hp.notK hk hb o (hd1.old b o (frameF hkσ hk0 hb) hkk)
  ·intro k b hk hb hF;rcases cases' hk with ⟨i,hi,rfl⟩|⟨hks,hk0,hkσ⟩
   ·rw [(lkin hi).2] at hb;exact hd1.own i b (zz.2 hi) hb (fsub b hF)
   ·rw [(lkout hks hk0).2] at hb;exact hp.own k b hkσ hb hF
  ·intro k k' b hk hk' hb hb';rcases cases' hk with ⟨i,hi,rfl⟩|⟨hks,hk0,hkσ⟩ <;> rcases cases' hk' with ⟨j,hj,rfl⟩|⟨hks',hk0',hkσ'⟩
   ·rw [(lkin hi).2] at hb;rw [(lkin hj).2] at hb';rw [hd1.inj i j b (zz.2 hi) (zz.2 hj) hb hb']
   ·rw [(lkin hi).2] at hb;rw [(lkout hks' hk0').2] at hb';exact absurd (frameF hkσ' hk0' hb') (hd1.own i b (zz.2 hi) hb)
   ·rw [(lkout hks hk0).2] at hb;rw [(lkin hj).2] at hb';exact absurd (frameF hkσ hk0 hb) (hd1.own j b (zz.2 hj) hb')
   ·rw [(lkout hks hk0).2] at hb;rw [(lkout hks' hk0').2] at hb';exact hp.inj k k' b hkσ hkσ' hb hb'
 refine (h.2 w ⟨g.K,F'⟩ g0 w vs (hL.mono hp.ext) hp0 (by simpa using hs) fun i x v hi hu=>?_).mono ?_
 ·exact zcr hl (hca x (List.mem_of_getElem? hi)) (hv i (rnAV ρ x) v (by rw [List.getElem?_map,hi];rfl) hu)
 rintro e w' (⟨v,g1,σ1,r1,he,hd,hvr,hR⟩|⟨v,g1,σ1,he,hd,hR⟩)
 ·obtain⟨g2,hd2,hv2⟩:=main g1 σ1 w' hd (hn _ _ hR);exact .inl ⟨v,g2,_,_,he,hd2,hv2 _ _ hvr,r1,σ1,hR,rfl,rfl⟩
 ·obtain⟨g2,hd2,_⟩:=main g1 σ1 w' hd (hnp _ _ hR);exact .inr ⟨v,g2,_,he,hd2,σ1,hR,rfl⟩
end Go.QL
namespace Go.Proofs.YtdgkljfpaddfpaaGreatDoor
open Go Go.QL FoT
set_option maxHeartbeats 3200000
attribute [local irreducible] ACall FnC YC FnP PCall
theorem zkk (t:Bs8):∀ (V:List Bs8) (i:Nat),idxV t V i=match idxB V t i with|some j=>(j:Int)|none=>-1
 | [],_=>rfl
 | v::r,i=>by
  rw [idxV,idxB];by_cases e:v=t
  ·rw [if_pos e,if_pos e]
  ·rw [if_neg e,if_neg e,zkk t r (i+1)]
theorem zog (V:List Bs8) (t:Bs8) (st:Nat):ACall Tryz.prog 102 [.x (.o 71 st V.length),sv (bs t)] [(71,.chain 9 1 st (V.map zaa))] (fun r σ'=>r=iv .i64 (idxV t V 0)∧σ'=[(71,.chain 9 1 st (V.map zaa))]):=by
 have hVl:(V.map zaa).length=V.length:=List.length_map _;refine hdD Tryz.func102 Tryz.ntmps102 (res:=[.tmp 4]) fun w0 K0 B=>?_
 repeat' first|refine zd ?_|refine zc ?_|((first|refine regA ?_|refine andA ?_|fail);conv=>whnf)|(refine lnA fun hln=>?_;conv=>whnf)|fail
 refine zJ (fun i:Nat=>[(8,iv .i64 i),(7,iv .i64 V.length),(0,.x (.o 71 st V.length)),(1,sv (bs t))]) (fun _=>[(71,.chain 9 1 st (V.map zaa))]) (fun i=>i≤V.length∧idxV t V 0=idxV t (V.drop i) i) (fun i=>V.length - i) 0 ⟨Nat.zero_le _,rfl⟩
  impA ?_
 rintro i ⟨hi,hfo⟩;rcases Nat.lt_or_ge i V.length with hil|hil
 ·rw [List.drop_eq_getElem_cons hil,idxV] at hfo;by_cases e:V[i]=t
  ·rw [if_pos e] at hfo;have hq:((bs t).toList == (bs V[i]).toList)=true:=by rw [zdf,e];exact decide_eq_true rfl
   repeat' first|refine zd ?_|refine zc ?_|((first|refine zf ?_|refine zk ?_|refine zi ?_|refine regA ?_|fail);conv=>whnf)|exact abA hb|(refine za rfl (fun _=>?_) (zaf hq))|(refine zso rfl (fun hb=>?_) (fun hb=>?_))|((first|refine andA ?_|with_reducible refine Exists.intro _ (And.intro (ze (zh (by omega) (by omega))) (And.intro (And.intro (Nat.le_of_ble_eq_true rfl) rfl) ?_))|fail);conv=>whnf)|fail
   exact⟨_,[(71,.chain 9 1 st (V.map zaa))],⟨rfl,trivial⟩,rfl,rfl,congrArg (iv .i64) hfo.symm,rfl⟩
  ·rw [if_neg e] at hfo;have hq:((bs t).toList == (bs V[i]).toList)=false:=by rw [zdf];exact decide_eq_false (fun h=>e h.symm)
   repeat' first|refine zd ?_|refine zc ?_|((first|refine zf ?_|refine zk ?_|refine zi ?_|refine regA ?_|fail);conv=>whnf)|exact abA hb|(refine za rfl (zM hq) (fun _=>?_))|(refine zso rfl (fun hb=>?_) (fun hb=>?_))|((first|refine zsq ?_|refine andA ?_|with_reducible refine Exists.intro _ (And.intro (ze (zh (by omega) (by omega))) (And.intro (And.intro (Nat.le_of_ble_eq_true rfl) rfl) ?_))|fail);conv=>whnf)|fail
   exact⟨i+1,⟨by omega,hfo⟩,by omega,impA⟩
 ·rw [List.drop_eq_nil_of_le hil,idxV] at hfo;repeat' first|refine zd ?_|refine zc ?_|((first|refine zf ?_|refine zk ?_|refine zi ?_|refine regA ?_|fail);conv=>whnf)|exact abA hb|(refine zso rfl (fun hb=>?_) (fun hb=>?_))|fail
  exact⟨_,[(71,.chain 9 1 st (V.map zaa))],⟨rfl,trivial⟩,rfl,rfl,congrArg (iv .i64) hfo.symm,rfl⟩
theorem bxV {y:SV} {p q:PV} {c st n m:Nat} (h:n=m):some (Ob.box [.o c st n,y,.d p,.d q])=some (Ob.box [.o c st m,y,.d p,.d q]):=by rw [h]
def RdC (f:FuncId) (m:PS→Rs):Prop:=∀ st,RInv 2000 st→(∀ st',m st=some (.ok st')→∀ s1 s2,PCall Tryz.prog f [.x (.b 70 0)] (rdS st.vars st.code s1 s2 st.toks) (fun r σ'=>r=.t []∧∃ s1 s2,σ'=rdS st'.vars st'.code s1 s2 st'.toks) (fun _ _=>False)) ∧
 ∀ a,m st=some (.error a)→∀ s1 s2,PCall Tryz.prog f [.x (.b 70 0)] (rdS st.vars st.code s1 s2 st.toks) (fun _ _=>False) (fun v σ'=>v=errA a∧∃ V C s1 s2 l,σ'=rdS V C s1 s2 l)
theorem zpH {k:Nat} (ih:RdC 11 (sumM k)):RdC 100 (opM (k+1)):=by
 rintro⟨toks,V,C⟩ hi;obtain⟨a,t,l,ht,htl⟩:=hi.cons;dsimp only at ht;subst ht;have hC2:C.length≤2000:=by have:=hi.2.2.1;dsimp only [List.length_cons] at this;omega
 have hV2:V.length≤2000:=by have:=hi.2.2.2;dsimp only [List.length_cons] at this;omega
 rw [opM];dsimp only;by_cases h40:t=[40]
 ·rw [if_pos h40];subst h40;have tk:=fun s1 s2=>zfl [[40]] V C s1 s2 a [40] l (by simp)
  obtain⟨hi1,_,_⟩:=hi.next rfl (by simp);obtain⟨ih1,ih2⟩:=ih _ hi1;cases hs:sumM k ⟨l,V,C⟩ with
  | none=>exact⟨fun _ h=>(by cases h),fun _ h=>(by cases h)⟩
  | some r=>
   cases r with
   | error e=>
    refine⟨fun _ h=>(by cases h),fun a' h s1 s2=>?_⟩
    cases h;have ih2:=ih2 _ hs s1 s2;dsimp only at ih2 ⊢;refine z6 hTt Tryz.func100 rfl (by kernel_rfl) (res:=[]) rfl Tryz.ntmps100 (by simp) fun w0 K0 B=>?_
    dsimp only [entry];repeat' first|((with_reducible refine zH hTt (id:=2) ?_);conv=>whnf)|refine zd ?_|((first|refine regA ?_|refine frA ((tk s1 s2)) [] ?_|fail);conv=>whnf)|((refine⟨_,_,ih2,?_,?_⟩) <;> first|(exact fun _ _ h=>h.elim)|(rintro _ _ ⟨rfl,V',C',s1',s2',l',rfl⟩;conv=>whnf))|(refine zst rfl ?_)|fail
    exact⟨_,rdS V' C' s1' s2' l',rfl,⟨rfl,rfl,rfl,trivial⟩,rfl,rfl,V',C',s1',s2',l',rfl⟩
   | ok st1=>
    have ih1:=fun s1 s2=>ih1 _ hs s1 s2
    have hi2:=((zdn 2000 k).2.2.2.1 _ _ hi1 hs).1;obtain⟨t1,V1,C1⟩:=st1;obtain⟨a1,w,l1,hw,_⟩:=hi2.cons;dsimp only at hw ih1 ⊢;subst hw;dsimp only;by_cases h41:w=[41]
    ·subst h41;rw [if_pos rfl];refine⟨fun st' h s1 s2=>?_,fun _ h=>(by cases h)⟩
     cases h;have my:=fun s1 s2=>zfv V1 C1 s1 s2 a1 [41] l1
     refine z6 hTt Tryz.func100 rfl (by kernel_rfl) (res:=[]) rfl Tryz.ntmps100 (by simp) fun w0 K0 B=>?_
     dsimp only [entry];repeat' first|((with_reducible refine zH hTt (id:=2) ?_);conv=>whnf)|refine zd ?_|((first|refine zi ?_|refine regA ?_|refine frA ((tk s1 s2)) [] ?_|fail);conv=>whnf)|((refine⟨_,_,ih1 s1 s2,?_,?_⟩) <;> first|(exact fun _ _ h=>h.elim)|(rintro _ _ ⟨rfl,s1',s2',rfl⟩;conv=>whnf))|((refine frA (((my _ _).toA)) [] ?_);conv=>whnf)|(refine zst rfl ?_)|fail
     exact⟨_,rdS V1 C1 s1' s2' l1,⟨rfl,rfl,rfl,trivial⟩,rfl,rfl,rfl,s1',s2',rfl⟩
    ·rw [if_neg h41];refine⟨fun _ h=>(by cases h),fun a' h s1 s2=>?_⟩
     cases h;have mn:=fun s1 s2=>zpM [41] V1 C1 s1 s2 a1 w l1 h41
     refine z6 hTt Tryz.func100 rfl (by kernel_rfl) (res:=[]) rfl Tryz.ntmps100 (by simp) fun w0 K0 B=>?_
     dsimp only [entry];repeat' first|((first|with_reducible refine zH hTt (id:=2) ?_|with_reducible refine zH hTt (id:=3) ?_|fail);conv=>whnf)|refine zd ?_|((first|refine regA ?_|refine frA ((tk s1 s2)) [] ?_|fail);conv=>whnf)|((refine⟨_,_,ih1 s1 s2,?_,?_⟩) <;> first|(exact fun _ _ h=>h.elim)|(rintro _ _ ⟨rfl,s1',s2',rfl⟩;conv=>whnf))|((refine⟨_,_,mn _ _,?_,?_⟩) <;> first|(exact fun _ _ h=>h.elim)|(rintro _ _ ⟨rfl,rfl⟩;conv=>whnf))|(refine zst rfl ?_)|fail
     exact⟨_,rdS V1 C1 s1' s2' ((a1,w)::l1),rfl,⟨rfl,rfl,rfl,trivial⟩,rfl,rfl,V1,C1,s1',s2',_,rfl⟩
 ·rw [if_neg h40];have tk:=fun s1 s2=>zhh [[40]] V C s1 s2 a t l (by simp [h40])
  have cn:=zjJ t htl (σ:=[]);have nm:=zl3 t;have hg:((a,t)::l).length=l.length+1:=rfl;unfold zen;cases hn:zbb t with
  | false=>
   rw [hn] at nm;rw [if_neg (by simp)];cases hc:zaW t with
   | none=>
    rw [hc] at cn;refine⟨fun _ h=>(by cases h),fun a' h s1 s2=>?_⟩
    cases h;refine z6 hTt Tryz.func100 rfl (by kernel_rfl) (res:=[]) rfl Tryz.ntmps100 (by simp) fun w0 K0 B=>?_
    dsimp only [entry];repeat' first|((with_reducible refine zH hTt (id:=12) ?_);conv=>whnf)|refine zd ?_|((first|refine zf ?_|refine regA ?_|refine frA ((tk s1 s2)) [] ?_|((refine⟨_,cn.frame (asc []) (by repeat (first|exact trivial|refine⟨rfl,?_⟩)) rfl (by rintro _ _ ⟨⟨_,rfl,_⟩,rfl⟩;rfl),?_⟩);(rintro _ _ ⟨_,_,⟨⟨m,rfl,hm⟩,rfl⟩,rfl,rfl⟩))|refine zsn (nm) ?_|refine⟨_,ze ⟨by omega,rfl⟩,?_⟩|fail);conv=>whnf)|(refine And.intro zfF ?_;conv=>whnf)|(refine zst rfl ?_)|(refine zss rfl ?_)|((refine andA ?_);conv=>whnf)|fail
    exact⟨_,rdS V C s1 s2 ((a,t)::l),rfl,⟨rfl,rfl,rfl,trivial⟩,rfl,rfl,V,C,s1,s2,_,rfl⟩
   | some n=>
    rw [hc] at cn;refine⟨fun st' h s1 s2=>?_,fun _ h=>(by cases h)⟩
    cases h;have my:=zfv V C s1 s2 a t l;have nd:=zga n V C s1 s2 l (by omega);refine z6 hTt Tryz.func100 rfl (by kernel_rfl) (res:=[]) rfl Tryz.ntmps100 (by simp) fun w0 K0 B=>?_
    dsimp only [entry];repeat' first|refine zd ?_|((first|refine zf ?_|refine regA ?_|refine frA ((tk s1 s2)) [] ?_|((refine⟨_,cn.frame (asc []) (by repeat (first|exact trivial|refine⟨rfl,?_⟩)) rfl (by rintro _ _ ⟨⟨_,rfl,_⟩,rfl⟩;rfl),?_⟩);(rintro _ _ ⟨_,_,⟨⟨m,rfl,hm⟩,rfl⟩,rfl,rfl⟩);have hm:=hm n rfl;subst hm)|refine zsn (nm) ?_|refine⟨_,ze ⟨by omega,rfl⟩,?_⟩|refine frA ((my.toA)) [] ?_|refine frA (nd) [] ?_|fail);conv=>whnf)|(refine zss rfl ?_)|((refine andA ?_);conv=>whnf)|fail
    exact⟨_,rdS V (C ++ [m]) s1 (s2+1) l,⟨rfl,rfl,rfl,trivial⟩,rfl,rfl,rfl,s1,(s2+1),rfl⟩
  | true=>
   rw [hn] at nm;rw [if_pos rfl];have ix:=fun st=>zog V t st
   have lk:=zkk t V 0;cases hx:idxB V t 0 with
   | some i=>
    rw [hx] at lk;dsimp only at lk ⊢;rw [lk] at ix;refine⟨fun st' h s1 s2=>?_,fun _ h=>(by cases h)⟩
    cases h;have my:=zfv V C s1 s2 a t l;have nd:=zga ⟨1,i,0,0⟩ V C s1 s2 l (by omega);refine z6 hTt Tryz.func100 rfl (by kernel_rfl) (res:=[]) rfl Tryz.ntmps100 (by simp) fun w0 K0 B=>?_
    dsimp only [entry];repeat' first|refine zd ?_|((first|refine zf ?_|refine regA ?_|refine frA ((tk s1 s2)) [] ?_|((refine⟨_,cn.frame (asc []) (by repeat (first|exact trivial|refine⟨rfl,?_⟩)) rfl (by rintro _ _ ⟨⟨_,rfl,_⟩,rfl⟩;rfl),?_⟩);(rintro _ _ ⟨_,_,⟨⟨m,rfl,hm⟩,rfl⟩,rfl,rfl⟩))|refine zsn (nm) ?_|refine⟨_,ze ⟨by omega,rfl⟩,?_⟩|refine frA ((my.toA)) [] ?_|refine frA (nd) [] ?_|refine frA ((ix _)) [] ?_|fail);conv=>whnf)|(refine zst rfl ?_)|(refine zss rfl ?_)|((refine andA ?_);conv=>whnf)|fail
    exact⟨_,rdS V (C ++ [⟨1,i,0,0⟩]) s1 (s2+1) l,⟨rfl,rfl,rfl,trivial⟩,rfl,rfl,rfl,s1,(s2+1),rfl⟩
   | none=>
    rw [hx] at lk;dsimp only at lk ⊢;rw [lk] at ix;refine⟨fun st' h s1 s2=>?_,fun _ h=>(by cases h)⟩
    cases h;have hVl:(V.map zaa).length=V.length:=List.length_map _;have my:=fun s1=>zfv (V ++ [t]) C s1 s2 a t l
    have nd:=fun s1=>zga ⟨1,V.length,0,0⟩ (V ++ [t]) C s1 s2 l (by omega)
    have g0:V.length≤(V.map zaa).length:=by omega
    have g1:V.length + [zaa t].length≤maxLen:=by show V.length+1≤_;unfold maxLen;omega
    have g2:(V.length + [zaa t].length) * 16≤140737488355328:=by show (V.length+1) * 16≤_;omega
    have e:(V.map zaa).take V.length ++ [zaa t]=(V ++ [t]).map zaa:=by rw [List.take_of_length_le (by omega),List.map_append];rfl
    have el:V.length+1=(V ++ [t]).length:=by rw [List.length_append];rfl
    refine z6 hTt Tryz.func100 rfl (by kernel_rfl) (res:=[]) rfl Tryz.ntmps100 (by simp) fun w0 K0 B=>?_
    dsimp only [entry];repeat' first|refine zd ?_|((first|refine zf ?_|refine regA ?_|refine frA ((tk s1 s2)) [] ?_|((refine⟨_,cn.frame (asc []) (by repeat (first|exact trivial|refine⟨rfl,?_⟩)) rfl (by rintro _ _ ⟨⟨_,rfl,_⟩,rfl⟩;rfl),?_⟩);(rintro _ _ ⟨_,_,⟨⟨m,rfl,hm⟩,rfl⟩,rfl,rfl⟩))|refine zsn (nm) ?_|refine⟨_,ze ⟨by omega,rfl⟩,?_⟩|refine And.intro ⟨g0,g1,g2⟩ ?_|refine frA ((ix _)) [] ?_|((refine⟨_,((my _).toA).frame (asc []) ⟨bxV el,chE e,rfl,trivial⟩ rfl (by rintro _ _ ⟨rfl,rfl⟩;rfl),?_⟩);(rintro _ _ ⟨_,_,⟨rfl,rfl⟩,rfl,rfl⟩))|refine frA ((nd _)) [] ?_|fail);conv=>whnf)|(refine zst rfl ?_)|(refine zss rfl ?_)|((refine andA ?_);conv=>whnf)|(refine lnA fun hln=>?_;conv=>whnf)|fail
    exact⟨_,rdS (V ++ [t]) (C ++ [⟨1,V.length,0,0⟩]) (s1+1) (s2+1) l,⟨rfl,rfl,rfl,trivial⟩,rfl,rfl,rfl,s1+1,s2+1,rfl⟩
end Go.Proofs.YtdgkljfpaddfpaaGreatDoor
namespace Go.Proofs.YtdgkljfpaddfpaaGreatDoor
open Go Go.QL FoT
set_option maxHeartbeats 3200000
attribute [local irreducible] ACall FnC YC FnP PCall
def RdA (f:FuncId) (st:PS) (r:Except Nat PS):Prop:=∀ s1 s2,PCall Tryz.prog f [.x (.b 70 0)] (rdS st.vars st.code s1 s2 st.toks) (fun r' σ'=>r'=.t []∧∃ st',r=.ok st'∧∃ s1 s2,σ'=rdS st'.vars st'.code s1 s2 st'.toks)
 (fun v σ'=>∃ a,r=.error a∧v=errA a∧∃ V C s1 s2 l,σ'=rdS V C s1 s2 l)
theorem zpb {f:FuncId} {m:PS→Rs} (h:∀ st,RInv 2000 st→∀ r,m st=some r→RdA f st r):RdC f m:=
 fun st hi=>⟨fun st' hs s1 s2=>(h st hi _ hs s1 s2).mono (fun _ _ ⟨h1,x,h2,h3⟩=>⟨h1,by cases h2;exact h3⟩) (fun _ _ ⟨_,h1,_⟩=>by cases h1),
  fun a hs s1 s2=>(h st hi _ hs s1 s2).mono (fun _ _ ⟨_,_,h1,_⟩=>by cases h1) (fun _ _ ⟨x,h1,h2,h3⟩=>by cases h1;exact⟨h2,h3⟩)⟩
def Pnd (k:Nat) (b:Bool) (w:Bs8) (st:PS) (r:Except Nat PS):Prop:=
 if b then st.code.length+st.toks.length+1≤2000∧((∃ s1,opM k st=some (.ok s1)∧zcb k ⟨s1.toks,s1.vars,s1.code ++ [opN 5]⟩=some r)∨∃ e,opM k st=some (.error e)∧r=.error e) else r=.ok st
theorem zgP {k:Nat} {V:List Bs8} {C:List FNode} {l:Toks} {r:Except Nat PS} (hi:RInv 2000 ⟨l,V,C⟩) (h:zcb k ⟨l,V,C⟩=some r):∃ j b w l2,k=j+1 ∧
  (∀ s1 s2,ACall Tryz.prog 48 [.x (.b 70 0),.x (.d (zac [[42]]))] (rdS V C s1 s2 l) (fun r' σ'=>r'=.t [sv (bs w),bv b]∧σ'=rdS V C s1 s2 l2))∧RInv 2000 ⟨l2,V,C⟩∧Pnd j b w ⟨l2,V,C⟩ r:=by
 obtain⟨a,t,rest,ht,_⟩:=hi.cons;cases k with
 | zero=>simp [zcb] at h
 | succ j=>
  dsimp only at ht;subst ht;rw [zcb] at h;dsimp only at h;by_cases hq:t=[42]
  ·rw [if_pos hq] at h;obtain⟨h1,h2,_⟩:=hi.next rfl (by rw [hq];simp);refine⟨j,true,t,rest,rfl,fun s1 s2=>zfl [[42]] V C s1 s2 a t rest (by rw [hq];simp),h1,?_⟩
   unfold Pnd;rw [if_pos rfl];refine⟨h2,?_⟩
   cases hs:opM j ⟨rest,V,C⟩ with
   | none=>rw [hs] at h;cases h
   | some x=>
    rw [hs] at h;cases x with
    | error e=>cases h;exact .inr ⟨e,rfl,rfl⟩
    | ok s1=>exact .inl ⟨s1,rfl,h⟩
  ·rw [if_neg hq] at h;refine⟨j,false,[],(a,t)::rest,rfl,fun s1 s2=>zhh [[42]] V C s1 s2 a t rest (by simp [hq]),hi,?_⟩
   unfold Pnd;rw [if_neg (by simp)];cases h;rfl
theorem zlK {K:Nat} (ih:∀ j,j≤K→RdC 100 (opM j)):RdC 47 (zaY (K+1)):=by
 refine zpb fun st hi r h s1 s2=>?_
 obtain⟨toks,V,C⟩:=st;rw [zaY] at h;obtain⟨ih1,ih2⟩:=ih K (Nat.le_refl _) _ hi;cases hs:opM K ⟨toks,V,C⟩ with
 | none=>rw [hs] at h;cases h
 | some x=>
  rw [hs] at h;cases x with
  | error e=>
   cases h;have ih2:=ih2 _ hs s1 s2;dsimp only at ih2 ⊢;refine z6 hTt Tryz.func47 rfl (by kernel_rfl) (res:=[]) rfl Tryz.ntmps47 (by simp) fun w0 K0 B=>?_
   dsimp only [entry];repeat' first|((with_reducible refine zH hTt (id:=0) ?_);conv=>whnf)|refine zd ?_|((refine⟨_,_,ih2,?_,?_⟩) <;> first|(exact fun _ _ h=>h.elim)|(rintro _ _ ⟨rfl,V',C',s1',s2',l',rfl⟩;conv=>whnf))|fail
   exact⟨_,rdS V' C' s1' s2' l',rfl,⟨rfl,rfl,rfl,trivial⟩,rfl,_,rfl,rfl,V',C',s1',s2',l',rfl⟩
  | ok st1=>
   have jh1:=ih1 _ hs s1 s2;obtain⟨hi1,_⟩:=(zdn 2000 K).1 _ _ hi hs;obtain⟨t1,V1,C1⟩:=st1;dsimp only at jh1 h ⊢;refine z6 hTt Tryz.func47 rfl (by kernel_rfl) (res:=[]) rfl Tryz.ntmps47 (by simp) fun w0 K0 B=>?_
   dsimp only [entry];obtain⟨j,b,w,l2,rfl,tk,hi2,hp⟩:=zgP hi1 h;repeat' first|((with_reducible refine zH hTt (id:=0) ?_);conv=>whnf)|refine zd ?_|refine zc ?_|((refine regA ?_);conv=>whnf)|((refine⟨_,_,jh1,?_,?_⟩) <;> first|(exact fun _ _ h=>h.elim)|(rintro _ _ ⟨rfl,s1',s2',rfl⟩;conv=>whnf))|((refine frA ((tk _ _)) [] ?_);conv=>whnf)|fail
   refine zJ (fun x:Nat × Bool × Bs8 × PS × Nat × Nat=>[(3,bv x.2.1),(0,.x (.b 70 0))]) (fun x=>rdS x.2.2.2.1.vars x.2.2.2.1.code x.2.2.2.2.1 x.2.2.2.2.2 x.2.2.2.1.toks)
    (fun x=>x.1≤j∧RInv 2000 x.2.2.2.1∧Pnd x.1 x.2.1 x.2.2.1 x.2.2.2.1 r) (fun x=>x.1) (j,b,w,⟨l2,V1,C1⟩,s1',s2') ⟨Nat.le_refl _,hi2,hp⟩ impA ?_
   clear tk hi2 hp b w l2 jh1 ih1 ih2 hi1 h hs;rintro⟨i,b,w,⟨l2,V2,C2⟩,s3,s4⟩ ⟨hij,hi2,hp⟩;dsimp only at hij hi2 hp ⊢;unfold Pnd at hp;cases b with
   | false=>
    rw [if_neg (by simp)] at hp;repeat' first|refine zd ?_|((first|refine zk ?_|refine regA ?_|fail);conv=>whnf)|(refine zss rfl ?_)|fail
    exact⟨_,rdS V2 C2 s3 s4 l2,⟨rfl,rfl,rfl,trivial⟩,rfl,rfl,rfl,_,hp,s3,s4,rfl⟩
   | true=>
    rw [if_pos rfl] at hp;obtain⟨hroom,hp⟩:=hp;dsimp only at hroom;obtain⟨ih1,ih2⟩:=ih i (by omega) _ hi2;rcases hp with ⟨⟨t3,V3,C3⟩,hs,hr⟩|⟨e,hs,hr⟩
    ·have jh1:=ih1 _ hs s3 s4;obtain⟨⟨q1,q2,q3,q4⟩,hm⟩:=(zdn 2000 i).1 _ _ hi2 hs;dsimp only at jh1 hm hr q1 q2 q3 q4;have hi4:RInv 2000 ⟨t3,V3,C3 ++ [opN 5]⟩:=⟨q1,q2,by dsimp only;rw [List.length_append];dsimp only [List.length_cons,List.length_nil];omega,q4⟩;obtain⟨j2,b2,w2,l4,rfl,tk,hi5,hp5⟩:=zgP hi4 hr;have nd:=fun s1 s2=>zga (opN 5) V3 C3 s1 s2 t3 (by omega)
     repeat' first|((with_reducible refine zH hTt (id:=4) ?_);conv=>whnf)|refine zd ?_|refine zc ?_|((first|refine zf ?_|refine regA ?_|fail);conv=>whnf)|((refine⟨_,_,jh1,?_,?_⟩) <;> first|(exact fun _ _ h=>h.elim)|(rintro _ _ ⟨rfl,s1',s2',rfl⟩;conv=>whnf))|((first|refine frA ((tk _ _)) [] ?_|refine frA ((nd _ _)) [] ?_|fail);conv=>whnf)|(refine zst rfl ?_)|fail
     exact⟨(j2,b2,w2,⟨l4,V3,C3 ++ [opN 5]⟩,s1',s2'+1),⟨by show j2≤j;omega,hi5,hp5⟩,by show j2 < j2+1;omega,impA⟩
    ·have ih2:=ih2 _ hs s3 s4;subst hr;repeat' first|((with_reducible refine zH hTt (id:=4) ?_);conv=>whnf)|refine zd ?_|refine zc ?_|((first|refine zf ?_|refine regA ?_|fail);conv=>whnf)|((refine⟨_,_,ih2,?_,?_⟩) <;> first|(exact fun _ _ h=>h.elim)|(rintro _ _ ⟨rfl,V',C',s1',s2',l',rfl⟩;conv=>whnf))|(refine zst rfl ?_)|fail
     exact⟨_,rdS V' C' s1' s2' l',rfl,⟨rfl,rfl,rfl,trivial⟩,rfl,_,rfl,rfl,V',C',s1',s2',l',rfl⟩
def Snd (k:Nat) (b:Bool) (w:Bs8) (st:PS) (r:Except Nat PS):Prop:=
 if b then (w=[43]∨w=[45])∧st.code.length+st.toks.length+1≤2000∧((∃ s1,zaY k st=some (.ok s1)∧sumT k ⟨s1.toks,s1.vars,s1.code ++ [opN (if w=[45] then 4 else 3)]⟩=some r)∨∃ e,zaY k st=some (.error e)∧r=.error e) else r=.ok st
theorem zhU {k:Nat} {V:List Bs8} {C:List FNode} {l:Toks} {r:Except Nat PS} (hi:RInv 2000 ⟨l,V,C⟩) (h:sumT k ⟨l,V,C⟩=some r):∃ j b w l2,k=j+1 ∧
  (∀ s1 s2,ACall Tryz.prog 48 [.x (.b 70 0),.x (.d (zac [[43],[45]]))] (rdS V C s1 s2 l) (fun r' σ'=>r'=.t [sv (bs w),bv b]∧σ'=rdS V C s1 s2 l2))∧RInv 2000 ⟨l2,V,C⟩∧Snd j b w ⟨l2,V,C⟩ r:=by
 obtain⟨a,t,rest,ht,_⟩:=hi.cons;cases k with
 | zero=>simp [sumT] at h
 | succ j=>
  dsimp only at ht;subst ht;rw [sumT] at h;dsimp only at h;by_cases hq:(t=[43]∨t=[45])
  ·rw [if_pos hq] at h;obtain⟨h1,h2,_⟩:=hi.next rfl (by rcases hq with rfl|rfl <;> simp);refine⟨j,true,t,rest,rfl,fun s1 s2=>zfl [[43],[45]] V C s1 s2 a t rest (by rcases hq with rfl|rfl <;> simp),h1,?_⟩
   unfold Snd;rw [if_pos rfl];refine⟨hq,h2,?_⟩
   cases hs:zaY j ⟨rest,V,C⟩ with
   | none=>rw [hs] at h;cases h
   | some x=>
    rw [hs] at h;cases x with
    | error e=>cases h;exact .inr ⟨e,rfl,rfl⟩
    | ok s1=>exact .inl ⟨s1,rfl,h⟩
  ·rw [if_neg hq] at h;refine⟨j,false,[],(a,t)::rest,rfl,fun s1 s2=>zhh [[43],[45]] V C s1 s2 a t rest (by rw [not_or] at hq;simp [hq]),hi,?_⟩
   unfold Snd;rw [if_neg (by simp)];cases h;rfl
theorem zrS {K:Nat} (ih:∀ j,j≤K→RdC 47 (zaY j)):RdC 11 (sumM (K+1)):=by
 refine zpb fun st hi r h s1 s2=>?_
 obtain⟨toks,V,C⟩:=st;rw [sumM] at h;obtain⟨ih1,ih2⟩:=ih K (Nat.le_refl _) _ hi;cases hs:zaY K ⟨toks,V,C⟩ with
 | none=>rw [hs] at h;cases h
 | some x=>
  rw [hs] at h;cases x with
  | error e=>
   cases h;have ih2:=ih2 _ hs s1 s2;dsimp only at ih2 ⊢;refine z6 hTt Tryz.func11 rfl (by kernel_rfl) (res:=[]) rfl Tryz.ntmps11 (by simp) fun w0 K0 B=>?_
   dsimp only [entry];repeat' first|((with_reducible refine zH hTt (id:=0) ?_);conv=>whnf)|refine zd ?_|((refine⟨_,_,ih2,?_,?_⟩) <;> first|(exact fun _ _ h=>h.elim)|(rintro _ _ ⟨rfl,V',C',s1',s2',l',rfl⟩;conv=>whnf))|fail
   exact⟨_,rdS V' C' s1' s2' l',rfl,⟨rfl,rfl,rfl,trivial⟩,rfl,_,rfl,rfl,V',C',s1',s2',l',rfl⟩
  | ok st1=>
   have jh1:=ih1 _ hs s1 s2;obtain⟨hi1,_⟩:=(zdn 2000 K).2.1 _ _ hi hs;obtain⟨t1,V1,C1⟩:=st1;dsimp only at jh1 h ⊢;refine z6 hTt Tryz.func11 rfl (by kernel_rfl) (res:=[]) rfl Tryz.ntmps11 (by simp) fun w0 K0 B=>?_
   dsimp only [entry];obtain⟨j,b,w,l2,rfl,tk,hi2,hp⟩:=zhU hi1 h;repeat' first|((with_reducible refine zH hTt (id:=0) ?_);conv=>whnf)|refine zd ?_|refine zc ?_|((refine regA ?_);conv=>whnf)|((refine⟨_,_,jh1,?_,?_⟩) <;> first|(exact fun _ _ h=>h.elim)|(rintro _ _ ⟨rfl,s1',s2',rfl⟩;conv=>whnf))|((refine frA ((tk _ _)) [] ?_);conv=>whnf)|fail
   refine zJ (fun x:Nat × Bool × Bs8 × PS × Nat × Nat=>[(2,sv (bs x.2.2.1)),(3,bv x.2.1),(0,.x (.b 70 0))]) (fun x=>rdS x.2.2.2.1.vars x.2.2.2.1.code x.2.2.2.2.1 x.2.2.2.2.2 x.2.2.2.1.toks)
    (fun x=>x.1≤j∧RInv 2000 x.2.2.2.1∧Snd x.1 x.2.1 x.2.2.1 x.2.2.2.1 r) (fun x=>x.1) (j,b,w,⟨l2,V1,C1⟩,s1',s2') ⟨Nat.le_refl _,hi2,hp⟩ impA ?_
   clear tk hi2 hp b w l2 jh1 ih1 ih2 hi1 h hs;rintro⟨i,b,w,⟨l2,V2,C2⟩,s3,s4⟩ ⟨hij,hi2,hp⟩;dsimp only at hij hi2 hp ⊢;unfold Snd at hp;cases b with
   | false=>
    rw [if_neg (by simp)] at hp;repeat' first|refine zd ?_|((first|refine zk ?_|refine regA ?_|fail);conv=>whnf)|(refine zss rfl ?_)|fail
    exact⟨_,rdS V2 C2 s3 s4 l2,⟨rfl,rfl,rfl,trivial⟩,rfl,rfl,rfl,_,hp,s3,s4,rfl⟩
   | true=>
    rw [if_pos rfl] at hp;obtain⟨hw,hroom,hp⟩:=hp;dsimp only at hroom;obtain⟨ih1,ih2⟩:=ih i (by omega) _ hi2;rcases hp with ⟨⟨t3,V3,C3⟩,hs,hr⟩|⟨e,hs,hr⟩
    ·have jh1:=ih1 _ hs s3 s4;obtain⟨⟨q1,q2,q3,q4⟩,hm⟩:=(zdn 2000 i).2.1 _ _ hi2 hs;dsimp only at jh1 hm hr q1 q2 q3 q4;have hi4:RInv 2000 ⟨t3,V3,C3 ++ [opN (if w=[45] then 4 else 3)]⟩:=⟨q1,q2,by dsimp only;rw [List.length_append];dsimp only [List.length_cons,List.length_nil];omega,q4⟩;obtain⟨j2,b2,w2,l4,rfl,tk,hi5,hp5⟩:=zhU hi4 hr;have nd:=fun s1 s2=>zga (opN (if w=[45] then 4 else 3)) V3 C3 s1 s2 t3 (by omega)
     rcases hw with rfl|rfl
     ·rw [if_neg (by decide)] at nd tk hi5 hp5;have hq:((bs [43]).toList == (bs [45]).toList)=false:=by rw [zdf];decide
      repeat' first|((with_reducible refine zH hTt (id:=4) ?_);conv=>whnf)|refine zd ?_|refine zc ?_|((first|refine zf ?_|refine regA ?_|fail);conv=>whnf)|((refine⟨_,_,jh1,?_,?_⟩) <;> first|(exact fun _ _ h=>h.elim)|(rintro _ _ ⟨rfl,s1',s2',rfl⟩;conv=>whnf))|((first|refine frA ((tk _ _)) [] ?_|refine frA ((nd _ _)) [] ?_|fail);conv=>whnf)|(refine za rfl (zM hq) (fun _=>?_))|(refine zst rfl ?_)|fail
      exact⟨(j2,b2,w2,⟨l4,V3,C3 ++ [opN 3]⟩,s1',s2'+1),⟨by show j2≤j;omega,hi5,hp5⟩,by show j2 < j2+1;omega,impA⟩
     ·rw [if_pos rfl] at nd tk hi5 hp5;have hq:((bs [45]).toList == (bs [45]).toList)=true:=by rw [zdf];decide
      repeat' first|((with_reducible refine zH hTt (id:=4) ?_);conv=>whnf)|refine zd ?_|refine zc ?_|((first|refine zf ?_|refine regA ?_|fail);conv=>whnf)|((refine⟨_,_,jh1,?_,?_⟩) <;> first|(exact fun _ _ h=>h.elim)|(rintro _ _ ⟨rfl,s1',s2',rfl⟩;conv=>whnf))|((first|refine frA ((tk _ _)) [] ?_|refine frA ((nd _ _)) [] ?_|fail);conv=>whnf)|(refine za rfl (fun _=>?_) (zaf hq))|(refine zst rfl ?_)|fail
      exact⟨(j2,b2,w2,⟨l4,V3,C3 ++ [opN 4]⟩,s1',s2'+1),⟨by show j2≤j;omega,hi5,hp5⟩,by show j2 < j2+1;omega,impA⟩
    ·have ih2:=ih2 _ hs s3 s4;subst hr;repeat' first|((with_reducible refine zH hTt (id:=4) ?_);conv=>whnf)|refine zd ?_|refine zc ?_|((first|refine zf ?_|refine regA ?_|fail);conv=>whnf)|((refine⟨_,_,ih2,?_,?_⟩) <;> first|(exact fun _ _ h=>h.elim)|(rintro _ _ ⟨rfl,V',C',s1',s2',l',rfl⟩;conv=>whnf))|(refine zst rfl ?_)|fail
     exact⟨_,rdS V' C' s1' s2' l',rfl,⟨rfl,rfl,rfl,trivial⟩,rfl,_,rfl,rfl,V',C',s1',s2',l',rfl⟩
theorem zj5:∀ k:Nat,(∀ j,j≤k→RdC 100 (opM j))∧(∀ j,j≤k→RdC 47 (zaY j))∧∀ j,j≤k→RdC 11 (sumM j)
 | 0=>by
  refine⟨fun j hj=>?_,fun j hj=>?_,fun j hj=>?_⟩
  all_goals
   obtain rfl:j=0:=by omega
   refine fun st hi=>⟨fun st' h=>?_,fun a h=>?_⟩
   all_goals simp [opM,zaY,sumM] at h
 | k+1=>by
  obtain⟨h1,h2,h3⟩:=zj5 k;have ho:∀ j,j≤k+1→RdC 100 (opM j):=fun j hj=>by
   rcases Nat.lt_or_ge j (k+1) with h|h
   ·exact h1 j (by omega)
   ·obtain rfl:j=k+1:=by omega
    exact zpH (h3 k (Nat.le_refl _))
  have hp:∀ j,j≤k+1→RdC 47 (zaY j):=fun j hj=>by
   rcases Nat.lt_or_ge j (k+1) with h|h
   ·exact h2 j (by omega)
   ·obtain rfl:j=k+1:=by omega
    exact zlK h1
  refine⟨ho,hp,fun j hj=>?_⟩
  rcases Nat.lt_or_ge j (k+1) with h|h
  ·exact h3 j (by omega)
  ·obtain rfl:j=k+1:=by omega
   exact zrS h2
end Go.Proofs.YtdgkljfpaddfpaaGreatDoor
namespace Go.Proofs.YtdgkljfpaddfpaaGreatDoor
open Go Go.QL FoT
set_option maxHeartbeats 3200000
attribute [local irreducible] ACall FnC YC FnP PCall
theorem zi8 (s:Bs8):ACall Tryz.prog 10 [sv (bs s)] [] (fun r σ'=>r=.x (.f (.func 45) [] [.b 1 0])∧σ'=[(1,.box [.d (.v (.string (bs s)))])]):=by
 refine hdD Tryz.func10 Tryz.ntmps10 (res:=[.tmp 2]) fun w0 K0 B=>?_
 repeat' first|refine zd ?_|((first|refine zi ?_|refine regA ?_|fail);conv=>whnf)|fail
 exact⟨_,[(1,.box [.d (.v (.string (bs s)))])],⟨rfl,trivial⟩,rfl,rfl,rfl,rfl⟩
theorem zlt {s:Bs8} {a e:Nat} {hes:e < s.length} (hrs:∀ k (h:k < s.length),a < k→k < e→zaM s[k]=true) (hre:zaM s[e]=true) {k:Nat} (hk:k < s.length) (h1:a < k) (h2:k < e+1):zaM s[k]=true:=by
 rcases Nat.lt_or_ge k e with h|h
 ·exact hrs k hk h1 h
 ·have:k=e:=by omega
  subst this;exact hre
theorem zm2 (s:Bs8) {a e:Nat} (h:e≤s.length):(bs s).extract a e=bs ((s.take e).drop a):=by
 apply ByteArray.ext;apply Array.ext';rw [ByteArray.data_extract,Array.toList_extract];show List.extract s.toArray.toList a e=_
 simp [List.extract,bs,List.drop_take]
abbrev frX:Fr:=[(16,.x (.f (.func 45) [] [.b 950 0])),(5,.x (.b 5 0)),(4,.x (.b 4 0)),(3,.x (.b 3 0)),(2,.x (.b 2 0))]
abbrev atX (l:Toks):List (List PV):=l.map fun p=>[PV.v (.int .i64 p.1)]
abbrev tkX (l:Toks):List (List PV):=l.map fun p=>[PV.v (.string (bs p.2))]
abbrev sgX (asg bdy:Code) (acc:Toks) (s:Bs8):Sg:=
 [(930,.x (.loop .ready none #[17,18] asg bdy 65 frX 931)),(931,.x .dfr),(5,.box [.b 14 0]),(14,.box [.d (.v (.slice none 0 0)),.d (.v (.slice none 0 0)),.o 73 acc.length acc.length,.o 74 acc.length acc.length]),
  (73,.chain 3 1 acc.length (atX acc)),(74,.chain 9 1 acc.length (tkX acc)),
  (4,.box [.d (.v (.int .i64 0))]),(3,.box [.d (.v (.int .i64 0))]),(2,.box [.d (.v (.slice none 0 0)),.d (.v (.slice none 0 0))]),(950,.box [.d (.v (.string (bs s)))])]
theorem zlf {asg bdy:Code} {s:Bs8} (hs:s.length≤600)
  (hy:∀ (acc:Toks) (a:Nat) (t:Bs8),acc.length≤700→a≤600→YC Tryz.prog 930 [iv .i64 a,sv (bs t)] (sgX asg bdy acc s) (fun r σ'=>r=bv true∧σ'=sgX asg bdy (acc ++ [(a,t)]) s)) :
  ACall Tryz.prog 45 [.x (.h 930),.x (.b 950 0)] (sgX asg bdy [] s) (fun r σ'=>r=.t []∧σ'=sgX asg bdy (tk 0 none s) s):=by
 have hsz:=zbj s;have hli:=zco s;have hrow:∀ c:UInt8,FnC Tryz.prog 46 [iv .u8 c.toNat] (bv (zaM c)):=zpx;refine hdD Tryz.func45 Tryz.ntmps45 (res:=[]) fun w0 K0 B=>?_
 repeat' first|refine zd ?_|refine zc ?_|((refine regA ?_);conv=>whnf)|fail
 refine zJ (fun x:Nat × Toks=>[(3,iv .i64 x.1),(1,.x (.b 950 0)),(0,.x (.h 930))]) (fun x=>sgX asg bdy x.2 s)
  (fun x=>x.1≤s.length∧x.2 ++ tk x.1 none (s.drop x.1)=tk 0 none s∧x.2.length≤x.1) (fun x=>s.length - x.1) (0,[]) ⟨Nat.zero_le _,rfl,Nat.le_refl _⟩ impA ?_
 rintro⟨a,acc⟩ ⟨ha,hT,hac⟩;dsimp only at ha hT hac ⊢;rcases Nat.lt_or_ge a s.length with hal|hal
 ·have hga:(bs s).data.toList[(a:Int).toNat]?=some s[a]:=by rw [hli,Int.toNat_natCast];exact List.getElem?_eq_getElem hal
  have hra:=hrow s[a];repeat' first|refine zd ?_|refine zc ?_|((first|refine zf ?_|refine zk ?_|refine regA ?_|fail);conv=>whnf)|exact abA hb|(refine zso rfl (fun hb=>?_) (fun hb=>?_))|((refine zsq ?_);conv=>whnf)|fail
  refine zJ (fun e:Nat=>[(4,iv .i64 e),(3,iv .i64 a),(1,.x (.b 950 0)),(0,.x (.h 930))]) (fun _=>sgX asg bdy acc s)
   (fun e=>a < e∧e≤s.length∧(∀ k (h:k < s.length),a < k→k < e→zaM s[k]=true)∧(a+1 < e→zaM s[a]=true)) (fun e=>s.length - e) (a+1) ⟨by omega,by omega,fun k _ h1 h2=>absurd h2 (by omega),fun h=>absurd h (by omega)⟩ (impX (by repeat' (first|exact trivial|refine And.intro ?_ ?_|exact ivE (by push_cast;omega)|exact zsw))) ?_
  rintro e ⟨hae,hel,hrs,hrn⟩;cases hr:zaM s[a] with
  | false=>
   have r1:=hra;rw [hr] at r1;have hst:=zi9 hal hae hel hrs hrn (fun h=>absurd (h.symm.trans hr) (by decide));rw [hst] at hT;have hex:(bs s).extract a e=bs ((s.take e).drop a):=zm2 s hel;by_cases c:s[a]=32
   ·rw [if_pos c,List.nil_append] at hT;have c32:(((s[a].toNat:Nat):Int) != 32)=false:=by rw [c];rfl
    repeat' first|refine zd ?_|((first|refine zf ?_|refine zk ?_|refine regA ?_|refine zsn (r1) ?_|refine⟨0,zax (fun h=>absurd (show false=true from h) (by decide)),?_⟩|refine zsp ((hrow 0)) ?_|refine⟨s[a],ze ⟨by omega,hga⟩,?_⟩|refine pkA ?_|refine And.intro (fun h=>absurd (show (((s[a].toNat:Nat):Int) != 32)=true from h) (by rw [c32];decide)) (fun _=>?_)|refine And.intro (zax (fun h=>absurd (show (((s[a].toNat:Nat):Int) != 32)=true from h) (by rw [c32];decide))) ?_|fail);conv=>whnf)|(refine za rfl (zM (by rw [c32];rfl)) (fun _=>?_))|(refine zss rfl ?_)|fail
    exact⟨(e,acc),⟨hel,hT,by show acc.length≤e;omega⟩,by show s.length - e < s.length - a;omega,impA⟩
   ·rw [if_neg c,← List.append_assoc] at hT;have c32:(((s[a].toNat:Nat):Int) != 32)=true:=by
     rw [bne_iff_ne];intro h;exact c (UInt8.toNat_inj.1 (by show s[a].toNat=32;omega))
    have hyf:=hy acc a ((s.take e).drop a) (by omega) (by omega);rw [← hex] at hyf;repeat' first|refine zd ?_|((first|refine zf ?_|refine zk ?_|refine regA ?_|refine zsn (r1) ?_|refine⟨0,zax (fun h=>absurd (show false=true from h) (by decide)),?_⟩|refine zsp ((hrow 0)) ?_|refine⟨s[a],ze ⟨by omega,hga⟩,?_⟩|refine pkA ?_|refine And.intro (fun _=>?_) (fun h=>absurd (show (((s[a].toNat:Nat):Int) != 32)=false from h) (by rw [c32];decide));refine⟨_,hyf,?_⟩;rintro _ _ ⟨rfl,rfl⟩|fail);conv=>whnf)|(refine za rfl (zM (by rw [c32];rfl)) (fun _=>?_))|(refine zss rfl ?_)|((refine andA ?_);conv=>whnf)|fail
    exact⟨(e,acc ++ [(a,(s.take e).drop a)]),⟨hel,hT,by show (acc ++ [(a,(s.take e).drop a)]).length≤e;rw [List.length_append];dsimp only [List.length_cons,List.length_nil];omega⟩,by show s.length - e < s.length - a;omega,impA⟩
  | true=>
   have r1:=hra;rw [hr] at r1;rcases Nat.lt_or_ge e s.length with hes|hes
   ·have hge:(bs s).data.toList[(e:Int).toNat]?=some s[e]:=by rw [hli,Int.toNat_natCast];exact List.getElem?_eq_getElem hes
    have r2:=hrow s[e];have hd:decide ((e:Int) < ((bs s).size:Int))=true:=decide_eq_true (by omega);cases hre:zaM s[e] with
    | true=>
     rw [hre] at r2;have hrs':∀ k (h:k < s.length),a < k→k < e+1→zaM s[k]=true:=fun k hk h1 h2=>zlt hrs hre hk h1 h2
     repeat' first|refine zd ?_|refine zc ?_|((first|refine zf ?_|refine regA ?_|refine zsn (r1) ?_|refine zsp (r2) ?_|refine pkA ?_|refine⟨s[a],ze ⟨by omega,hga⟩,?_⟩|refine⟨s[e],ze ⟨by omega,hge⟩,?_⟩|fail);conv=>whnf)|(refine za rfl (fun _=>?_) (zaf (by rw [hd];rfl)))|((refine zsq ?_);conv=>whnf)|fail
     exact⟨e+1,⟨by omega,by omega,hrs',fun _=>by first|exact hr|rfl⟩,by omega,impA⟩
    | false=>
     rw [hre] at r2;have hst:=zi9 hal hae hel hrs hrn (fun _ _=>hre);rw [hst] at hT;have hex:(bs s).extract a e=bs ((s.take e).drop a):=zm2 s hel;by_cases c:s[a]=32
     ·rw [if_pos c,List.nil_append] at hT;have c32:(((s[a].toNat:Nat):Int) != 32)=false:=by rw [c];rfl
      repeat' first|refine zd ?_|((first|refine zf ?_|refine zk ?_|refine regA ?_|refine zsn (r1) ?_|refine zsp (r2) ?_|refine⟨s[e],ze ⟨by omega,hge⟩,?_⟩|refine⟨s[a],ze ⟨by omega,hga⟩,?_⟩|refine pkA ?_|refine And.intro (fun h=>absurd (show (((s[a].toNat:Nat):Int) != 32)=true from h) (by rw [c32];decide)) (fun _=>?_)|refine And.intro (zax (fun h=>absurd (show (((s[a].toNat:Nat):Int) != 32)=true from h) (by rw [c32];decide))) ?_|fail);conv=>whnf)|(refine za rfl (zM (by rw [c32];rfl)) (fun _=>?_))|(refine za rfl (zM (by rw [hd];rfl)) (fun _=>?_))|fail
      exact⟨(e,acc),⟨hel,hT,by show acc.length≤e;omega⟩,by show s.length - e < s.length - a;omega,impA⟩
     ·rw [if_neg c,← List.append_assoc] at hT;have c32:(((s[a].toNat:Nat):Int) != 32)=true:=by
       rw [bne_iff_ne];intro h;exact c (UInt8.toNat_inj.1 (by show s[a].toNat=32;omega))
      have hyf:=hy acc a ((s.take e).drop a) (by omega) (by omega);rw [← hex] at hyf;repeat' first|refine zd ?_|((first|refine zf ?_|refine zk ?_|refine regA ?_|refine zsn (r1) ?_|refine zsp (r2) ?_|refine⟨s[e],ze ⟨by omega,hge⟩,?_⟩|refine⟨s[a],ze ⟨by omega,hga⟩,?_⟩|refine pkA ?_|refine And.intro (fun _=>?_) (fun h=>absurd (show (((s[a].toNat:Nat):Int) != 32)=false from h) (by rw [c32];decide));refine⟨_,hyf,?_⟩;rintro _ _ ⟨rfl,rfl⟩|fail);conv=>whnf)|(refine za rfl (zM (by rw [c32];rfl)) (fun _=>?_))|(refine za rfl (zM (by rw [hd];rfl)) (fun _=>?_))|((refine andA ?_);conv=>whnf)|fail
      exact⟨(e,acc ++ [(a,(s.take e).drop a)]),⟨hel,hT,by show (acc ++ [(a,(s.take e).drop a)]).length≤e;rw [List.length_append];dsimp only [List.length_cons,List.length_nil];omega⟩,by show s.length - e < s.length - a;omega,impA⟩
   ·have hd:decide ((e:Int) < ((bs s).size:Int))=false:=decide_eq_false (by omega);have hst:=zi9 hal hae hel hrs hrn (fun _ h=>absurd h (by omega));rw [hst] at hT;have hex:(bs s).extract a e=bs ((s.take e).drop a):=zm2 s hel;by_cases c:s[a]=32
    ·rw [if_pos c,List.nil_append] at hT;have c32:(((s[a].toNat:Nat):Int) != 32)=false:=by rw [c];rfl
     repeat' first|refine zd ?_|((first|refine zf ?_|refine zk ?_|refine regA ?_|refine zsn (r1) ?_|refine zsp ((hrow 0)) ?_|refine⟨0,zax (fun h=>absurd (show (bif true then decide ((e:Int) < ((bs s).size:Int)) else false)=true from h) (by rw [hd];decide)),?_⟩|refine⟨s[a],ze ⟨by omega,hga⟩,?_⟩|refine pkA ?_|refine And.intro (fun h=>absurd (show (((s[a].toNat:Nat):Int) != 32)=true from h) (by rw [c32];decide)) (fun _=>?_)|refine And.intro (zax (fun h=>absurd (show (((s[a].toNat:Nat):Int) != 32)=true from h) (by rw [c32];decide))) ?_|fail);conv=>whnf)|(refine za rfl (zM (by rw [c32];rfl)) (fun _=>?_))|(refine za rfl (zM (by rw [hd];rfl)) (fun _=>?_))|fail
     exact⟨(e,acc),⟨hel,hT,by show acc.length≤e;omega⟩,by show s.length - e < s.length - a;omega,impA⟩
    ·rw [if_neg c,← List.append_assoc] at hT;have c32:(((s[a].toNat:Nat):Int) != 32)=true:=by
      rw [bne_iff_ne];intro h;exact c (UInt8.toNat_inj.1 (by show s[a].toNat=32;omega))
     have hyf:=hy acc a ((s.take e).drop a) (by omega) (by omega);rw [← hex] at hyf;repeat' first|refine zd ?_|((first|refine zf ?_|refine zk ?_|refine regA ?_|refine zsn (r1) ?_|refine zsp ((hrow 0)) ?_|refine⟨0,zax (fun h=>absurd (show (bif true then decide ((e:Int) < ((bs s).size:Int)) else false)=true from h) (by rw [hd];decide)),?_⟩|refine⟨s[a],ze ⟨by omega,hga⟩,?_⟩|refine pkA ?_|refine And.intro (fun _=>?_) (fun h=>absurd (show (((s[a].toNat:Nat):Int) != 32)=false from h) (by rw [c32];decide));refine⟨_,hyf,?_⟩;rintro _ _ ⟨rfl,rfl⟩|fail);conv=>whnf)|(refine za rfl (zM (by rw [c32];rfl)) (fun _=>?_))|(refine za rfl (zM (by rw [hd];rfl)) (fun _=>?_))|((refine andA ?_);conv=>whnf)|fail
     exact⟨(e,acc ++ [(a,(s.take e).drop a)]),⟨hel,hT,by show (acc ++ [(a,(s.take e).drop a)]).length≤e;rw [List.length_append];dsimp only [List.length_cons,List.length_nil];omega⟩,by show s.length - e < s.length - a;omega,impA⟩
 ·have hae:a=s.length:=by omega
  subst hae;rw [List.drop_eq_nil_of_le (Nat.le_refl _),zqE] at hT;have hyf:=hy acc (bs s).size [] (by omega) (by omega);repeat' first|refine zd ?_|refine zc ?_|((first|refine zf ?_|refine zk ?_|refine regA ?_|fail);conv=>whnf)|exact abA hb|((refine⟨_,hyf,?_⟩);(rintro _ _ ⟨rfl,rfl⟩);conv=>whnf)|(refine zso rfl (fun hb=>?_) (fun hb=>?_))|fail
  rw [← hT,← hsz];exact⟨_,sgX asg bdy (acc ++ [((bs s).size,[])]) s,⟨rfl,rfl,rfl,rfl,rfl,rfl,rfl,rfl,rfl,rfl,trivial⟩,rfl,rfl,rfl,rfl⟩
end Go.Proofs.YtdgkljfpaddfpaaGreatDoor
namespace Go.Proofs.YtdgkljfpaddfpaaGreatDoor
open Go Go.QL FoT
set_option maxHeartbeats 3200000
attribute [local irreducible] ACall FnC fine ten zbx zav zaw
theorem zli (V:List Bs8) (i:Nat):(PV.s 1 (List.drop (Int.toNat 0) (List.take ((i:Int)).toNat (V.map zaa))))=zac (V.take i):=by
 unfold zac;rw [List.map_take];simp
theorem bvE {a b:Bool} (h:a=b):some (bv a)=some (bv b):=by rw [h]
theorem gcut {b c:Bool} (h0:b=true) {P:Prop}:(!bif b then true else c)=true→P:=fun e=>by subst h0;cases e
theorem zhc {V:List Bs8}:∀ (l seen:List Bs8),zaw seen l=none∨zaw seen l=some 6∨zaw seen l=some 5
 | [],_=>.inl (by unfold zaw;rfl)
 | s::r,seen=>by
  unfold zaw;split
  ·exact .inr (.inl rfl)
  ·split
   ·exact .inr (.inr rfl)
   ·exact zhc (V:=V) r _
theorem ziO (f:FormT):FnC Tryz.prog 12 [zaB f] (iv .i64 (zD f)):=by
 have hlv:(f.vars.map zaa).length=f.vars.length:=List.length_map _;have hlc:(f.code.map ndPV).length=f.code.length:=List.length_map _;have o1:=zaL ((f.code.map ndPV).length:Int) 1 40;by_cases h0:8 < f.vars.length∨¬ (1≤f.code.length∧f.code.length≤40)
 ·have hr:zD f=3:=by unfold zD;rw [if_pos h0]
  rw [hr];by_cases h8:8 < f.vars.length
  ·generalize hob:outB ((f.code.map ndPV).length:Int) 1 40=ob at o1;have hc:(bif decide (((f.vars.map zaa).length:Int) > 8) then true else ob)=true:=by rw [decide_eq_true (by omega)];rfl
   refine hdC Tryz.func12 Tryz.ntmps12 (res:=[.tmp 2]) fun w0 K0=>?_
   repeat' first|refine zd ?_|((first|refine zi ?_|refine regA ?_|refine zsp (o1) ?_|fail);conv=>whnf)|(refine za rfl (fun _=>?_) (zaf hc))|((refine andA ?_);conv=>whnf)|(refine lnA fun hln=>?_;conv=>whnf)|fail
   rfl
  ·have ho:outB ((f.code.map ndPV).length:Int) 1 40=true:=outB_true.2 (by omega);rw [ho] at o1;have hc:(bif decide (((f.vars.map zaa).length:Int) > 8) then true else true)=true:=by cases decide (((f.vars.map zaa).length:Int) > 8) <;> rfl
   refine hdC Tryz.func12 Tryz.ntmps12 (res:=[.tmp 2]) fun w0 K0=>?_
   repeat' first|refine zd ?_|((first|refine zi ?_|refine regA ?_|refine zsp (o1) ?_|fail);conv=>whnf)|(refine za rfl (fun _=>?_) (zaf hc))|((refine andA ?_);conv=>whnf)|(refine lnA fun hln=>?_;conv=>whnf)|fail
   rfl
 ·have ho:outB ((f.code.map ndPV).length:Int) 1 40=false:=zQ.2 (by omega);rw [ho] at o1;have hc:(bif decide (((f.vars.map zaa).length:Int) > 8) then true else false)=false:=by rw [decide_eq_false (by omega)];rfl
  have hv8:f.vars.length≤8:=by omega
  have hc40:f.code.length≤40:=by omega
  refine hdC Tryz.func12 Tryz.ntmps12 (res:=[.tmp 2]) fun w0 K0=>?_
  repeat' first|refine zd ?_|refine zc ?_|((first|refine zf ?_|refine regA ?_|refine zsp (o1) ?_|fail);conv=>whnf)|(refine za rfl (zM hc) (fun _=>?_))|((refine andA ?_);conv=>whnf)|(refine lnA fun hln=>?_;conv=>whnf)|fail
  refine zJ (fun i:Nat=>[(24,iv .i64 i),(23,iv .i64 f.vars.length),(22,.x (.d (zac f.vars))),(1,.x (.b 1 0))]) (fun _=>[(1,.box (zb5 f))])
   (fun i=>i≤f.vars.length∧zaw [] f.vars=zaw (f.vars.take i) (f.vars.drop i)) (fun i=>f.vars.length - i) 0 ⟨Nat.zero_le _,by simp⟩ impA ?_
  rintro i ⟨hi,hz⟩;rcases Nat.lt_or_ge i f.vars.length with hil|hil
  ·have nf:=zl3 f.vars[i];have cf:=zdW (f.vars.take i) f.vars[i];rw [← zli] at cf;rw [List.drop_eq_getElem_cons hil] at hz;cases hN:zbb f.vars[i] with
   | false=>
    have hr:zD f=6:=by
     unfold zD;rw [if_neg h0,hz,zaw,if_pos hN]
    rw [hr];rw [hN] at nf;repeat' first|refine zd ?_|refine zc ?_|((first|refine zf ?_|refine zk ?_|refine zi ?_|refine regA ?_|fail);conv=>whnf)|exact abA hb|((refine zsn (nf) ?_);conv=>whnf)|(refine zst rfl ?_)|(refine zso rfl (fun hb=>?_) (fun hb=>?_))|((first|refine andA ?_|with_reducible refine exA fun _=>?_|fail);conv=>whnf)|fail
    rfl
   | true=>
    rw [hN] at nf;by_cases hM:f.vars[i] ∈ f.vars.take i
    ·have hr:zD f=5:=by
      unfold zD;rw [if_neg h0,hz,zaw,if_neg (by rw [hN];decide),if_pos hM]
     rw [hr];rw [decide_eq_true hM] at cf;repeat' first|refine zd ?_|refine zc ?_|((first|refine zf ?_|refine zk ?_|refine zi ?_|refine regA ?_|fail);conv=>whnf)|exact abA hb|((first|refine zsn (nf) ?_|refine zsn (cf) ?_|fail);conv=>whnf)|(refine zst rfl ?_)|(refine zss rfl ?_)|(refine zso rfl (fun hb=>?_) (fun hb=>?_))|((first|refine andA ?_|with_reducible refine exA fun _=>?_|fail);conv=>whnf)|fail
     rfl
    ·have hz2:zaw [] f.vars=zaw (f.vars.take (i+1)) (f.vars.drop (i+1)):=by
      rw [hz,zaw,if_neg (by rw [hN];decide),if_neg hM,List.take_add_one,List.getElem?_eq_getElem hil];rfl
     rw [decide_eq_false hM] at cf;repeat' first|refine zd ?_|refine zc ?_|((first|refine zf ?_|refine zk ?_|refine regA ?_|fail);conv=>whnf)|exact abA hb|((first|refine zsn (nf) ?_|refine zsn (cf) ?_|fail);conv=>whnf)|(refine zss rfl ?_)|(refine zso rfl (fun hb=>?_) (fun hb=>?_))|((first|refine zsq ?_|refine andA ?_|with_reducible refine exA fun _=>?_|fail);conv=>whnf)|fail
     exact⟨i+1,⟨by omega,hz2⟩,by omega,impA⟩
  ·have hv:zaw [] f.vars=none:=by rw [hz,List.drop_eq_nil_of_le hil,zaw]
   obtain rfl:i=f.vars.length:=by omega
   clear hz o1 hc ho;repeat' first|refine zd ?_|refine zc ?_|((first|refine zf ?_|refine zk ?_|refine regA ?_|fail);conv=>whnf)|exact abA hb|(refine zso rfl (fun hb=>?_) (fun hb=>?_))|((refine andA ?_);conv=>whnf)|(refine lnA fun hln=>?_;conv=>whnf)|fail
   refine zJ (fun x:Nat × CS=>[(44,iv .i64 x.1),(43,iv .i64 f.code.length),(42,.x (.d (zS f.code))),(5,iv .i64 x.2.p),(6,iv .i64 x.2.u),(7,bv (!x.2.b)),(1,.x (.b 1 0))]) (fun _=>[(1,.box (zb5 f))])
    (fun x=>x.1≤f.code.length∧x.2.p≤12∧x.2.u≤x.1∧CkR f x.1 x.2) (fun x=>f.code.length - x.1) (0,⟨0,0,true⟩) ⟨Nat.zero_le _,Nat.zero_le _,Nat.zero_le _,rfl⟩ impA ?_
   rintro⟨i,s⟩ ⟨hi,hp,hu,hz⟩;dsimp only at hi hp hu hz ⊢;have hv8i:(f.vars.map zaa).length≤8:=by omega
   rcases Nat.lt_or_ge i f.code.length with hil|hil
   ·have stop:=fun {e:Int}=>zmX (e:=e) hv h0 hil hz
    have next:=fun {s':CS}=>zmY (s':=s') hil hz
    have pl:=znH f.code[i];by_cases hk:1≤f.code[i].kind∧f.code[i].kind≤5
    ·by_cases hf:fine f.vars.length f.code[i]
     ·have st:=zhi (s:=s) hk hf;by_cases k1:f.code[i].kind=1
      ·have hodd:=zrb (nv:=f.vars.length) k1;rw [decide_eq_true hf,← hlv] at hodd;have ou:=zaL f.code[i].var 0 (((f.vars.map zaa).length:Int) - 1);rw [if_pos k1] at pl;rw [if_neg (by omega),if_neg (by omega:¬ (3≤f.code[i].kind))] at st;have hw:(bif (!s.b) then true else decide (f.code[i].var > (s.u:Int))) = !(s.b && !(decide (f.code[i].kind=1) && decide ((s.u:Int) < f.code[i].var))):=by
        rw [decide_eq_true k1];cases s.b <;> simp
       clear hz;by_cases h12:12 < s.p+1
       ·rw [if_pos h12] at st;rw [stop st];repeat' first|refine zd ?_|refine zc ?_|((first|refine zf ?_|refine zk ?_|refine zi ?_|refine regA ?_|refine drA (id:=15) 5 false [0,1,0,4,12,31,63] ?_|fail);conv=>whnf)|exact abA hb|((first|refine zsp (pl) ?_|refine zsp (ou) ?_|fail);conv=>whnf)|(refine za rfl (zM hodd) (fun _=>?_))|(refine zss rfl ?_)|(refine zso rfl (fun hb=>?_) (fun hb=>?_))|((first|refine zsq ?_|refine andA ?_|with_reducible refine exA fun _=>?_|fail);conv=>whnf)|fail
        all_goals rfl
       ·rw [if_neg h12] at st;by_cases hu1:f.code[i].var=s.u
        ·rw [if_pos ⟨k1,hu1⟩] at st;repeat' first|refine zd ?_|refine zc ?_|((first|refine zf ?_|refine zk ?_|refine zi ?_|refine regA ?_|refine drA (id:=15) 5 false [0,1,0,4,12,31,63] ?_|fail);conv=>whnf)|exact abA hb|((first|refine zsp (pl) ?_|refine zsp (ou) ?_|fail);conv=>whnf)|(refine za rfl (zM hodd) (fun _=>?_))|(refine zss rfl ?_)|(refine zso rfl (fun hb=>?_) (fun hb=>?_))|((first|refine zsq ?_|refine andA ?_|with_reducible refine exA fun _=>?_|fail);conv=>whnf)|fail
         exact⟨(i+1,_),⟨by show i+1≤_;omega,by show s.p+1≤12;omega,by show s.u+1≤i+1;omega,next st⟩,by show f.code.length - (i+1) < f.code.length - i;omega,(impX (by repeat' (first|exact trivial|refine And.intro ?_ ?_|exact bvE hw|exact zsw)))⟩
        ·rw [if_neg (by omega)] at st;repeat' first|refine zd ?_|refine zc ?_|((first|refine zf ?_|refine zk ?_|refine zi ?_|refine regA ?_|refine drA (id:=15) 5 false [0,1,0,4,12,31,63] ?_|fail);conv=>whnf)|exact abA hb|((first|refine zsp (pl) ?_|refine zsp (ou) ?_|fail);conv=>whnf)|(refine za rfl (zM hodd) (fun _=>?_))|(refine zss rfl ?_)|(refine zso rfl (fun hb=>?_) (fun hb=>?_))|((first|refine zsq ?_|refine andA ?_|with_reducible refine exA fun _=>?_|fail);conv=>whnf)|fail
         exact⟨(i+1,_),⟨by show i+1≤_;omega,by show s.p+1≤12;omega,by show s.u≤i+1;omega,next st⟩,by show f.code.length - (i+1) < f.code.length - i;omega,(impX (by repeat' (first|exact trivial|refine And.intro ?_ ?_|exact bvE hw|exact zsw)))⟩
      ·clear st;by_cases k2:f.code[i].kind=2
       ·obtain⟨f1,f2,f3,f4⟩:=(zgA k2).1 hf;obtain⟨tg,t1,t2⟩:=zdk f2;have o2:=zaL f.code[i].places 1 6;have o3:=zaL f.code[i].num 0 (ten f.code[i] - 1);rw [zQ.2 f2] at o2;rw [zQ.2 f3] at o3;rw [if_neg k1,if_pos k2] at pl;have st:=zrT (s:=s) k2 hf;have hodd:(bif (bif (bif !(eqL [.int .i64 f.code[i].kind,.int .i64 f.code[i].var,.int .i64 0,.int .i64 0] [.int .i64 f.code[i].kind,.int .i64 0,.int .i64 0,.int .i64 0]) then true else false) then true else false) then true else bif decide (f.code[i].places > 1) then f.code[i].num.tmod 10 == 0 else false)=false:=by
         rw [eqL4,f1];simp;intro h5;have:=Int.tmod_eq_emod_of_nonneg f3.1 (b:=10);omega
        have hb0:(!(eqL [.int .i64 f.code[i].kind,.int .i64 f.code[i].var,.int .i64 0,.int .i64 0] [.int .i64 f.code[i].kind,.int .i64 0,.int .i64 0,.int .i64 0]))=false:=by rw [eqL4,f1];simp
        clear hz;by_cases h12:12 < s.p+1
        ·rw [if_pos h12] at st;rw [stop st];repeat' first|refine zd ?_|refine zc ?_|((first|refine zf ?_|refine zk ?_|refine zi ?_|refine regA ?_|refine drA (id:=15) 5 false [0,1,0,4,12,31,63] ?_|refine drA (id:=24) 14 false [0,1,3,7,15,31,63,127,255,127,127,1151,3711,7807,16383,32767,65535,131071,262143,524287,1048575,2097151,4194303,8388607,16777215,33554431,67108863,134217727] ?_|fail);conv=>whnf)|exact abA hb|((first|refine zsr (zdI) ?_|refine⟨f.code[i].num.tmod 10,rfl,?_⟩|refine zsp (pl) ?_|refine zsr (o2) ?_|refine zsp (o3) ?_|fail);conv=>whnf)|(refine za rfl (zM hodd) (fun _=>?_))|((first|refine⟨_,ze ⟨by omega,tg⟩,?_⟩|refine pkA ?_|fail);conv=>whnf)|(refine zss rfl ?_)|(refine zso rfl (fun hb=>?_) (fun hb=>?_))|((first|refine zsq ?_|refine andA ?_|with_reducible refine exA fun _=>?_|fail);conv=>whnf)|fail
         rfl
        ·rw [if_neg h12] at st;repeat' first|refine zd ?_|refine zc ?_|((first|refine zf ?_|refine zk ?_|refine zi ?_|refine regA ?_|refine drA (id:=15) 5 false [0,1,0,4,12,31,63] ?_|refine drA (id:=24) 14 false [0,1,3,7,15,31,63,127,255,127,127,1151,3711,7807,16383,32767,65535,131071,262143,524287,1048575,2097151,4194303,8388607,16777215,33554431,67108863,134217727] ?_|fail);conv=>whnf)|exact abA hb|((first|refine zsr (zdI) ?_|refine⟨f.code[i].num.tmod 10,rfl,?_⟩|refine zsp (pl) ?_|refine zsr (o2) ?_|refine zsp (o3) ?_|fail);conv=>whnf)|(refine za rfl (zM hodd) (fun _=>?_))|((first|refine⟨_,ze ⟨by omega,tg⟩,?_⟩|refine pkA ?_|fail);conv=>whnf)|(refine zss rfl ?_)|(refine zso rfl (fun hb=>?_) (fun hb=>?_))|((first|refine zsq ?_|refine andA ?_|with_reducible refine exA fun _=>?_|fail);conv=>whnf)|fail
         exact⟨(i+1,_),⟨by show i+1≤_;omega,by show s.p+1≤12;omega,by show s.u≤i+1;omega,next st⟩,by show f.code.length - (i+1) < f.code.length - i;omega,impA⟩
       ·have hodd:=zra (nv:=f.vars.length) k1 k2;rw [decide_eq_true hf] at hodd;rw [if_neg k1,if_neg k2] at pl;have st:=zqJ (s:=s) (by omega) hk.2 hp hf;clear hz;have hkk:f.code[i].kind=3∨f.code[i].kind=4∨f.code[i].kind=5:=by omega
        by_cases hp2:s.p < 2
        ·rw [if_pos hp2] at st;rw [stop st];rcases hkk with hkk|hkk|hkk
         ·repeat' first|refine zd ?_|refine zc ?_|((first|refine zf ?_|refine zk ?_|refine zi ?_|refine regA ?_|refine drA (id:=15) 5 false [0,1,0,4,12,31,63] ?_|refine drA (id:=24) 14 false [0,1,3,7,15,31,63,127,255,127,127,1151,3711,7807,16383,32767,65535,131071,262143,524287,1048575,2097151,4194303,8388607,16777215,33554431,67108863,134217727] ?_|fail);conv=>whnf)|exact abA hb|((refine zsp (pl) ?_);conv=>whnf)|(refine za rfl (zM hodd) (fun _=>?_))|(refine zso rfl (fun hb=>?_) (fun hb=>?_))|((first|refine zsq ?_|refine andA ?_|with_reducible refine exA fun _=>?_|fail);conv=>whnf)|fail
          rfl
         ·repeat' first|refine zd ?_|refine zc ?_|((first|refine zf ?_|refine zk ?_|refine zi ?_|refine regA ?_|refine drA (id:=15) 5 false [0,1,0,4,12,31,63] ?_|refine drA (id:=24) 14 false [0,1,3,7,15,31,63,127,255,127,127,1151,3711,7807,16383,32767,65535,131071,262143,524287,1048575,2097151,4194303,8388607,16777215,33554431,67108863,134217727] ?_|fail);conv=>whnf)|exact abA hb|((refine zsp (pl) ?_);conv=>whnf)|(refine za rfl (zM hodd) (fun _=>?_))|(refine zso rfl (fun hb=>?_) (fun hb=>?_))|((first|refine zsq ?_|refine andA ?_|with_reducible refine exA fun _=>?_|fail);conv=>whnf)|fail
          rfl
         ·repeat' first|refine zd ?_|refine zc ?_|((first|refine zf ?_|refine zk ?_|refine zi ?_|refine regA ?_|refine drA (id:=15) 5 false [0,1,0,4,12,31,63] ?_|refine drA (id:=24) 14 false [0,1,3,7,15,31,63,127,255,127,127,1151,3711,7807,16383,32767,65535,131071,262143,524287,1048575,2097151,4194303,8388607,16777215,33554431,67108863,134217727] ?_|fail);conv=>whnf)|exact abA hb|((refine zsp (pl) ?_);conv=>whnf)|(refine za rfl (zM hodd) (fun _=>?_))|(refine zso rfl (fun hb=>?_) (fun hb=>?_))|((first|refine zsq ?_|refine andA ?_|with_reducible refine exA fun _=>?_|fail);conv=>whnf)|fail
          rfl
        ·rw [if_neg hp2] at st;rcases hkk with hkk|hkk|hkk
         ·repeat' first|refine zd ?_|refine zc ?_|((first|refine zf ?_|refine zk ?_|refine zi ?_|refine regA ?_|refine drA (id:=15) 5 false [0,1,0,4,12,31,63] ?_|refine drA (id:=24) 14 false [0,1,3,7,15,31,63,127,255,127,127,1151,3711,7807,16383,32767,65535,131071,262143,524287,1048575,2097151,4194303,8388607,16777215,33554431,67108863,134217727] ?_|fail);conv=>whnf)|exact abA hb|((refine zsp (pl) ?_);conv=>whnf)|(refine za rfl (zM hodd) (fun _=>?_))|(refine zso rfl (fun hb=>?_) (fun hb=>?_))|((first|refine zsq ?_|refine andA ?_|with_reducible refine exA fun _=>?_|fail);conv=>whnf)|fail
          exact⟨(i+1,_),⟨by show i+1≤_;omega,by show s.p - 2+1≤12;omega,by show s.u≤i+1;omega,next st⟩,by show f.code.length - (i+1) < f.code.length - i;omega,impA⟩
         ·repeat' first|refine zd ?_|refine zc ?_|((first|refine zf ?_|refine zk ?_|refine zi ?_|refine regA ?_|refine drA (id:=15) 5 false [0,1,0,4,12,31,63] ?_|refine drA (id:=24) 14 false [0,1,3,7,15,31,63,127,255,127,127,1151,3711,7807,16383,32767,65535,131071,262143,524287,1048575,2097151,4194303,8388607,16777215,33554431,67108863,134217727] ?_|fail);conv=>whnf)|exact abA hb|((refine zsp (pl) ?_);conv=>whnf)|(refine za rfl (zM hodd) (fun _=>?_))|(refine zso rfl (fun hb=>?_) (fun hb=>?_))|((first|refine zsq ?_|refine andA ?_|with_reducible refine exA fun _=>?_|fail);conv=>whnf)|fail
          exact⟨(i+1,_),⟨by show i+1≤_;omega,by show s.p - 2+1≤12;omega,by show s.u≤i+1;omega,next st⟩,by show f.code.length - (i+1) < f.code.length - i;omega,impA⟩
         ·repeat' first|refine zd ?_|refine zc ?_|((first|refine zf ?_|refine zk ?_|refine zi ?_|refine regA ?_|refine drA (id:=15) 5 false [0,1,0,4,12,31,63] ?_|refine drA (id:=24) 14 false [0,1,3,7,15,31,63,127,255,127,127,1151,3711,7807,16383,32767,65535,131071,262143,524287,1048575,2097151,4194303,8388607,16777215,33554431,67108863,134217727] ?_|fail);conv=>whnf)|exact abA hb|((refine zsp (pl) ?_);conv=>whnf)|(refine za rfl (zM hodd) (fun _=>?_))|(refine zso rfl (fun hb=>?_) (fun hb=>?_))|((first|refine zsq ?_|refine andA ?_|with_reducible refine exA fun _=>?_|fail);conv=>whnf)|fail
          exact⟨(i+1,_),⟨by show i+1≤_;omega,by show s.p - 2+1≤12;omega,by show s.u≤i+1;omega,next st⟩,by show f.code.length - (i+1) < f.code.length - i;omega,impA⟩
     ·have hr:=stop (zjY hk hf);rw [hr];clear hz;by_cases k1:f.code[i].kind=1
      ·have hodd:=zrb (nv:=f.vars.length) k1;rw [decide_eq_false hf,← hlv] at hodd;have ou:=zaL f.code[i].var 0 (((f.vars.map zaa).length:Int) - 1);rw [if_pos k1] at pl;repeat' first|refine zd ?_|refine zc ?_|((first|refine zf ?_|refine zk ?_|refine zi ?_|refine regA ?_|refine drA (id:=15) 5 false [0,1,0,4,12,31,63] ?_|fail);conv=>whnf)|exact abA hb|((first|refine zsp (pl) ?_|refine zsp (ou) ?_|fail);conv=>whnf)|(refine za rfl (fun _=>?_) (zaf hodd))|(refine zso rfl (fun hb=>?_) (fun hb=>?_))|((first|refine zsq ?_|refine andA ?_|with_reducible refine exA fun _=>?_|fail);conv=>whnf)|fail
       all_goals rfl
      ·by_cases k2:f.code[i].kind=2
       ·rw [if_neg k1,if_pos k2] at pl;have o2:=zaL f.code[i].places 1 6;by_cases f1:f.code[i].var=0
        ·have hb0:(!(eqL [.int .i64 f.code[i].kind,.int .i64 f.code[i].var,.int .i64 0,.int .i64 0] [.int .i64 f.code[i].kind,.int .i64 0,.int .i64 0,.int .i64 0]))=false:=by rw [eqL4,f1];simp
         by_cases f2:1≤f.code[i].places∧f.code[i].places≤6
         ·obtain⟨tg,t1,t2⟩:=zdk f2;rw [zQ.2 f2] at o2;have o3:=zaL f.code[i].num 0 (ten f.code[i] - 1);have hodd:(bif (bif (bif !(eqL [.int .i64 f.code[i].kind,.int .i64 f.code[i].var,.int .i64 0,.int .i64 0] [.int .i64 f.code[i].kind,.int .i64 0,.int .i64 0,.int .i64 0]) then true else false) then true else outB f.code[i].num 0 (ten f.code[i] - 1)) then true else bif decide (f.code[i].places > 1) then f.code[i].num.tmod 10 == 0 else false)=true:=by
           rw [hb0];by_cases f3:0≤f.code[i].num∧f.code[i].num≤ten f.code[i] - 1
           ·rw [zQ.2 f3];have f4:¬ (f.code[i].places≤1∨f.code[i].num % 10≠0):=fun e=>hf ((zgA k2).2 ⟨f1,f2,f3,e⟩)
            have:=Int.tmod_eq_emod_of_nonneg f3.1 (b:=10);have e1:decide (f.code[i].places > 1)=true:=decide_eq_true (by omega);have e2:(f.code[i].num.tmod 10 == 0)=true:=beq_iff_eq.2 (by omega);rw [e1,e2];rfl
           ·rw [outB_true.2 f3];rfl
          generalize outB f.code[i].num 0 (ten f.code[i] - 1)=b3 at o3 hodd;repeat' first|refine zd ?_|refine zc ?_|((first|refine zf ?_|refine zk ?_|refine zi ?_|refine regA ?_|refine drA (id:=15) 5 false [0,1,0,4,12,31,63] ?_|refine drA (id:=24) 14 false [0,1,3,7,15,31,63,127,255,127,127,1151,3711,7807,16383,32767,65535,131071,262143,524287,1048575,2097151,4194303,8388607,16777215,33554431,67108863,134217727] ?_|fail);conv=>whnf)|exact abA hb|((first|refine zsr (zdI) ?_|refine⟨f.code[i].num.tmod 10,rfl,?_⟩|refine zsp (pl) ?_|refine zsr (o2) ?_|refine zsp (o3) ?_|fail);conv=>whnf)|(refine za rfl (fun _=>?_) (zaf hodd))|((first|refine⟨_,ze ⟨by omega,tg⟩,?_⟩|refine pkA ?_|fail);conv=>whnf)|(refine zso rfl (fun hb=>?_) (fun hb=>?_))|((first|refine zsq ?_|refine andA ?_|with_reducible refine exA fun _=>?_|fail);conv=>whnf)|fail
          rfl
         ·rw [outB_true.2 f2] at o2;have o3:=fun k=>zaL f.code[i].num 0 k
          have hodd:∀ b1 b2,(bif (bif (bif !(eqL [.int .i64 f.code[i].kind,.int .i64 f.code[i].var,.int .i64 0,.int .i64 0] [.int .i64 f.code[i].kind,.int .i64 0,.int .i64 0,.int .i64 0]) then true else true) then true else b1) then true else b2)=true:=by
           rw [hb0];intros;rfl
          repeat' first|refine zd ?_|refine zc ?_|((first|refine zf ?_|refine zk ?_|refine zi ?_|refine regA ?_|refine drA (id:=15) 5 false [0,1,0,4,12,31,63] ?_|refine drA (id:=24) 14 false [0,1,3,7,15,31,63,127,255,127,127,1151,3711,7807,16383,32767,65535,131071,262143,524287,1048575,2097151,4194303,8388607,16777215,33554431,67108863,134217727] ?_|fail);conv=>whnf)|exact abA hb|((first|refine zsr (zdI) ?_|refine⟨f.code[i].num.tmod 10,rfl,?_⟩|refine zsp (pl) ?_|refine zsr (o2) ?_|refine zsp ((o3 _)) ?_|fail);conv=>whnf)|(refine za rfl (fun _=>?_) (zaf (hodd _ _)))|((first|refine⟨.d (.v (.int .i64 1)),zax (fun h=>absurd h (by rw [hb0];decide)),?_⟩|refine pkA ?_|fail);conv=>whnf)|(refine zso rfl (fun hb=>?_) (fun hb=>?_))|((first|refine zsq ?_|refine andA ?_|with_reducible refine exA fun _=>?_|fail);conv=>whnf)|fail
          rfl
        ·have hb0:(!(eqL [.int .i64 f.code[i].kind,.int .i64 f.code[i].var,.int .i64 0,.int .i64 0] [.int .i64 f.code[i].kind,.int .i64 0,.int .i64 0,.int .i64 0]))=true:=by rw [eqL4];simp [f1]
         have o3:=fun k=>zaL f.code[i].num 0 k
         have hodd:∀ b0 b1 b2,(bif (bif (bif !(eqL [.int .i64 f.code[i].kind,.int .i64 f.code[i].var,.int .i64 0,.int .i64 0] [.int .i64 f.code[i].kind,.int .i64 0,.int .i64 0,.int .i64 0]) then true else b0) then true else b1) then true else b2)=true:=by
           rw [hb0];intros;rfl
         repeat' first|refine zd ?_|refine zc ?_|((first|refine zf ?_|refine zk ?_|refine zi ?_|refine regA ?_|refine drA (id:=15) 5 false [0,1,0,4,12,31,63] ?_|refine drA (id:=24) 14 false [0,1,3,7,15,31,63,127,255,127,127,1151,3711,7807,16383,32767,65535,131071,262143,524287,1048575,2097151,4194303,8388607,16777215,33554431,67108863,134217727] ?_|fail);conv=>whnf)|exact abA hb|((first|refine zsr (zdI) ?_|refine⟨f.code[i].num.tmod 10,rfl,?_⟩|refine zsp (pl) ?_|refine zsr (o2) ?_|refine zsp ((o3 _)) ?_|fail);conv=>whnf)|(refine za rfl (fun _=>?_) (zaf (hodd _ _ _)))|((first|refine⟨.d (.v (.int .i64 1)),zax (gcut hb0),?_⟩|refine pkA ?_|fail);conv=>whnf)|(refine zso rfl (fun hb=>?_) (fun hb=>?_))|((first|refine zsq ?_|refine andA ?_|with_reducible refine exA fun _=>?_|fail);conv=>whnf)|fail
         rfl
       ·have hodd:=zra (nv:=f.vars.length) k1 k2;rw [decide_eq_false hf] at hodd;rw [if_neg k1,if_neg k2] at pl;have hkk:f.code[i].kind=3∨f.code[i].kind=4∨f.code[i].kind=5:=by omega
        rcases hkk with hkk|hkk|hkk
        ·repeat' first|refine zd ?_|refine zc ?_|((first|refine zf ?_|refine zk ?_|refine zi ?_|refine regA ?_|refine drA (id:=15) 5 false [0,1,0,4,12,31,63] ?_|refine drA (id:=24) 14 false [0,1,3,7,15,31,63,127,255,127,127,1151,3711,7807,16383,32767,65535,131071,262143,524287,1048575,2097151,4194303,8388607,16777215,33554431,67108863,134217727] ?_|fail);conv=>whnf)|exact abA hb|((refine zsp (pl) ?_);conv=>whnf)|(refine za rfl (fun _=>?_) (zaf hodd))|(refine zso rfl (fun hb=>?_) (fun hb=>?_))|((first|refine zsq ?_|refine andA ?_|with_reducible refine exA fun _=>?_|fail);conv=>whnf)|fail
         rfl
        ·repeat' first|refine zd ?_|refine zc ?_|((first|refine zf ?_|refine zk ?_|refine zi ?_|refine regA ?_|refine drA (id:=15) 5 false [0,1,0,4,12,31,63] ?_|refine drA (id:=24) 14 false [0,1,3,7,15,31,63,127,255,127,127,1151,3711,7807,16383,32767,65535,131071,262143,524287,1048575,2097151,4194303,8388607,16777215,33554431,67108863,134217727] ?_|fail);conv=>whnf)|exact abA hb|((refine zsp (pl) ?_);conv=>whnf)|(refine za rfl (fun _=>?_) (zaf hodd))|(refine zso rfl (fun hb=>?_) (fun hb=>?_))|((first|refine zsq ?_|refine andA ?_|with_reducible refine exA fun _=>?_|fail);conv=>whnf)|fail
         rfl
        ·repeat' first|refine zd ?_|refine zc ?_|((first|refine zf ?_|refine zk ?_|refine zi ?_|refine regA ?_|refine drA (id:=15) 5 false [0,1,0,4,12,31,63] ?_|refine drA (id:=24) 14 false [0,1,3,7,15,31,63,127,255,127,127,1151,3711,7807,16383,32767,65535,131071,262143,524287,1048575,2097151,4194303,8388607,16777215,33554431,67108863,134217727] ?_|fail);conv=>whnf)|exact abA hb|((refine zsp (pl) ?_);conv=>whnf)|(refine za rfl (fun _=>?_) (zaf hodd))|(refine zso rfl (fun hb=>?_) (fun hb=>?_))|((first|refine zsq ?_|refine andA ?_|with_reducible refine exA fun _=>?_|fail);conv=>whnf)|fail
         rfl
    ·have hr:=stop (zjZ hk);rw [hr];clear hz;rw [if_neg (by omega),if_neg (by omega)] at pl;repeat' first|refine zd ?_|refine zc ?_|((first|refine zf ?_|refine zk ?_|refine zi ?_|refine regA ?_|refine drA (id:=15) 5 false [0,1,0,4,12,31,63] ?_|refine drA (id:=24) 14 false [0,1,3,7,15,31,63,127,255,127,127,1151,3711,7807,16383,32767,65535,131071,262143,524287,1048575,2097151,4194303,8388607,16777215,33554431,67108863,134217727] ?_|fail);conv=>whnf)|exact abA hb|((refine zsp (pl) ?_);conv=>whnf)|(refine zso rfl (fun hb=>?_) (fun hb=>?_))|((first|refine andA ?_|with_reducible refine exA fun _=>?_|fail);conv=>whnf)|fail
     rfl
   ·have hfin:zD f=if s.p≠1 then 6 else if s.b=false∨s.u < f.vars.length then 2 else 0:=by
     unfold CkR at hz;unfold zD;rw [if_neg h0,hv];dsimp only;rw [hz,List.drop_eq_nil_of_le hil,zav]
    rw [hfin];clear hz hfin hv;by_cases hp1:s.p=1
    ·rw [if_neg (by omega)];cases hsb:s.b with
     | false=>
      rw [if_pos (.inl rfl)];have hc:∀ b:Bool,(bif (!s.b) then true else b)=true:=by rw [hsb];intro b;rfl
      repeat' first|refine zd ?_|refine zc ?_|((first|refine zf ?_|refine zk ?_|refine zi ?_|refine regA ?_|fail);conv=>whnf)|exact abA hb|(refine zst rfl ?_)|(refine zso rfl (fun hb=>?_) (fun hb=>?_))|((refine andA ?_);conv=>whnf)|fail
      rfl
     | true=>
      by_cases hul:s.u < f.vars.length
      ·rw [if_pos (.inr hul)];have hc:(bif (!s.b) then true else decide ((s.u:Int) < ((f.vars.map zaa).length:Int)))=true:=by rw [hsb,decide_eq_true (by omega)];rfl
       repeat' first|refine zd ?_|refine zc ?_|((first|refine zf ?_|refine zk ?_|refine zi ?_|refine regA ?_|fail);conv=>whnf)|exact abA hb|(refine zso rfl (fun hb=>?_) (fun hb=>?_))|((refine andA ?_);conv=>whnf)|fail
       rfl
      ·rw [if_neg (by simp;omega)];have hc:(bif (!s.b) then true else decide ((s.u:Int) < ((f.vars.map zaa).length:Int)))=false:=by rw [hsb,decide_eq_false (by omega)];rfl
       repeat' first|refine zd ?_|refine zc ?_|((first|refine zf ?_|refine zk ?_|refine zi ?_|refine regA ?_|fail);conv=>whnf)|exact abA hb|(refine zso rfl (fun hb=>?_) (fun hb=>?_))|((refine andA ?_);conv=>whnf)|fail
       rfl
    ·rw [if_pos (by omega)];repeat' first|refine zd ?_|refine zc ?_|((first|refine zf ?_|refine zk ?_|refine zi ?_|refine regA ?_|fail);conv=>whnf)|exact abA hb|(refine zso rfl (fun hb=>?_) (fun hb=>?_))|fail
     rfl
end Go.Proofs.YtdgkljfpaddfpaaGreatDoor
namespace Go.QL
open Go Go.RowKit
def LeC:List SV→List SV→Prop
 | [],[]=>True
 | s::r,t::q=>LeSV s t∧LeC r q
 | _,_=>False
def LeW1:AV→AV→Prop
 | .x s,.x t=>LeSV s t
 | .a cs,.a ds=>LeC cs ds
 | _,_=>False
def LeW2:List AV→List AV→Prop
 | [],[]=>True
 | x::r,y::q=>LeW1 x y∧LeW2 r q
 | _,_=>False
def LeW:AV→AV→Prop
 | .t xs,.t ys=>LeW2 xs ys
 | x,y=>LeW1 x y
section
variable {P:Program} {σ:Sg} {g:Gh} {w:World}
theorem LeC.get:∀ {cs ds:List SV},LeC cs ds→cs.length=ds.length∧∀ (i:Nat) (t:SV),ds[i]?=some t→∃ s,cs[i]?=some s∧LeSV s t
 | [],[],_=>⟨rfl,fun i t h=>by simp at h⟩
 | s::r,t::q,h=>by
  obtain⟨e,ih⟩:=LeC.get h.2;refine⟨by simp [e],fun i z hi=>?_⟩
  cases i with
  | zero=>cases hi;exact⟨s,rfl,h.1⟩
  | succ i=>exact ih i z hi
 | [],_::_,h=>h.elim
 | _::_,[],h=>h.elim
theorem LeW2.get:∀ {cs ds:List AV},LeW2 cs ds→cs.length=ds.length∧∀ (i:Nat) (t:AV),ds[i]?=some t→∃ s,cs[i]?=some s∧LeW1 s t
 | [],[],_=>⟨rfl,fun i t h=>by simp at h⟩
 | s::r,t::q,h=>by
  obtain⟨e,ih⟩:=LeW2.get h.2;refine⟨by simp [e],fun i z hi=>?_⟩
  cases i with
  | zero=>cases hi;exact⟨s,rfl,h.1⟩
  | succ i=>exact ih i z hi
 | [],_::_,h=>h.elim
 | _::_,[],h=>h.elim
theorem LeW1.ok {x y:AV} (h:LeW1 x y) {v:Value} (hv:VR1 σ g w x v):VR1 σ g w y v:=by
 cases x with
 | x s=>
  cases y with
  | x t=>exact LeSV.ok h hv
  | _=>exact h.elim
 | a cs=>
  cases y with
  | a ds=>
   obtain⟨vs,rfl,hs,hr⟩:=hv;obtain⟨e,hg⟩:=LeC.get h;exact⟨vs,rfl,by omega,fun i t u hi hu=>let ⟨s,h1,h2⟩:=hg i t hi;h2.ok (hr i s u h1 hu)⟩
  | _=>exact h.elim
 | t _=>exact h.elim
 | g _ _=>exact h.elim
theorem LeW.ok {x y:AV} (h:LeW x y) {v:Value} (hv:VR2 σ g w x v):VR2 σ g w y v:=by
 cases x with
 | x s=>
  cases y with
  | x t=>exact LeW1.ok (x:=.x s) (y:=.x t) h hv
  | _=>exact h.elim
 | a cs=>
  cases y with
  | a ds=>exact LeW1.ok (x:=.a cs) (y:=.a ds) h hv
  | _=>exact h.elim
 | t xs=>
  cases y with
  | t ys=>
   obtain⟨vs,rfl,hs,hr⟩:=hv;obtain⟨e,hg⟩:=LeW2.get h;exact⟨vs,rfl,by omega,fun i t u hi hu=>let ⟨s,h1,h2⟩:=hg i t hi;h2.ok (hr i s u h1 hu)⟩
  | _=>exact h.elim
 | g _ _=>
  cases y with
  | g _ _=>exact h.elim
  | _=>exact h.elim
theorem ACall.leW {f:FuncId} {args:List AV} {R R':AV→Sg→Prop} (h:ACall P f args σ R) (hr:∀ r σ',R r σ'→∃ r',LeW r r'∧R' r' σ'):ACall P f args σ R':=
 ⟨h.1,fun w0 K0 g w vs hL hp hs hv=>(h.2 w0 K0 g w vs hL hp hs hv).mono fun e w' ⟨v,g',σ',r,a,b,c,d⟩=>let ⟨r',l,d'⟩:=hr r σ' d;⟨v,g',σ',r',a,b,l.ok c,d'⟩⟩
theorem zfd {f:FuncId} {args:List AV} {r:AV} (h:ACall P f args [] fun r' σ'=>r'=r∧σ'=[]):FnC P f args r:=by
 refine⟨h.1,fun K w vs hL hK hs hv=>?_⟩
 have hp:Hp w ⟨K,(· < w.heap.size)⟩ [] ⟨K,fun _=>undef⟩ w:=⟨.refl _ _,fun _ h=>h,.refl _ _,fun _ _ _ h=>h,hK,(fun id ob hid=>by cases hid),(fun id b hi=>by cases hi),(fun i j b hi=>by cases hi)⟩;refine (h.2 w ⟨K,(· < w.heap.size)⟩ ⟨K,fun _=>undef⟩ w vs hL hp hs hv).mono ?_
 rintro e w' ⟨v,g',σ',r',rfl,hd,hv,rfl,rfl⟩;refine⟨v,g'.K,rfl,hd.hp.kept.below,hd.hp.ext,fun b o hb hk=>hd.hp.old b o hb hk,hd.hp.val,?_⟩
 exact VR2.keep (fun s u hs=>SR.keep (σ:=[]) (σ':=[]) (g:=g') (g':=⟨g'.K,fun _=>undef⟩) ⟨fun _ cs h=>(by cases h),fun _ _ _ _ xs h=>(by cases h),fun _ o h=>(by cases h)⟩ (Ext.refl _ _) hs) hv
end
end Go.QL
namespace Go.QL
open Go Go.RowKit
def FzSV (c sz st:Nat) (xs:List (List PV)) (s s':SV):Prop:=s=s'∨∃ n,s=.o c st n∧n≤xs.length∧s'=.d (.s sz (xs.take n))
def zjP (c sz st:Nat) (xs:List (List PV)):List SV→List SV→Prop
 | [],[]=>True
 | s::r,s'::r'=>FzSV c sz st xs s s'∧zjP c sz st xs r r'
 | _,_=>False
def FzOb (c sz st:Nat) (xs:List (List PV)) (o o':Ob):Prop:=o=o'∨∃ cs cs',o=.box cs∧o'=.box cs'∧zjP c sz st xs cs cs'
def FzS (c sz st:Nat) (xs:List (List PV)) (σ:Sg):Sg→Prop
 | []=>True
 | (i,o')::r=>(∃ o,lk i σ=some o∧FzOb c sz st xs o o')∧FzS c sz st xs σ r
theorem zg6 {c sz st:Nat} {xs:List (List PV)} {σ:Sg}:∀ {σ':Sg},FzS c sz st xs σ σ'→∀ t v',lk t σ'=some v'→∃ v,lk t σ=some v∧FzOb c sz st xs v v'
 | [],_,t,v,h=>by cases h
 | (s,x)::r,hs,t,v,h=>by
  rw [zr] at h;by_cases e:s=t
  ·subst e;rw [if_pos rfl] at h;cases h;exact hs.1
  ·rw [if_neg e] at h;exact zg6 hs.2 t v h
theorem zgy {c sz st:Nat} {xs:List (List PV)}:∀ {cs cs':List SV},zjP c sz st xs cs cs'→cs.length=cs'.length∧∀ (i:Nat) (s':SV),cs'[i]?=some s'→∃ s,cs[i]?=some s∧FzSV c sz st xs s s'
 | [],[],_=>⟨rfl,fun i s h=>by simp at h⟩
 | s::r,s'::r',h=>by
  obtain⟨h1,h2⟩:=zgy h.2;refine⟨by simp [h1],fun i x hx=>?_⟩
  cases i with
  | zero=>cases hx;exact⟨s,rfl,h.1⟩
  | succ i=>exact h2 i x hx
 | [],_::_,h=>h.elim
 | _::_,[],h=>h.elim
section
variable {P:Program} {Γ:Cx} {fr fr':Fr} {σ σ':Sg} {g:Gh} {a:Act} {w:World} {Q:Exit→Fr→Sg→Prop}
theorem Imp.freezeB {fr':Fr} {σ':Sg} (c:Nat) {ce sz st:Nat} {xs:List (List PV)} (hc:lk c σ=some (.chain ce sz st xs)) (hf:FzF c sz st xs fr fr') (hs:FzS c sz st xs σ σ') (hn:lk c σ'=none)
  (hr:(rsFr σ' fr' && rsSg σ' σ')=true) (hB:zbC Γ.ids σ'=true:=by rfl) (hD:ziL Γ.dfs σ σ'=true:=by rfl):Imp Γ fr σ fr' σ':=by
 intro g a w hrel;simp only [Bool.and_eq_true] at hr;let K':Nat→Nat→Prop:=fun b o=>g.K b o∨(blk (g.μ c)=some b∧b < w.heap.size)
 let g':Gh:=⟨K',g.μ⟩
 have hext:Ext g.K w K' w:=⟨fun _ _ h=>.inl h,fun _ _ _=>rfl⟩;have hbox:∀ i cs,lk i σ=some (.box cs)→(lk i σ').isSome→∃ cs',lk i σ'=some (.box cs'):=by
  intro i cs hi hi';obtain⟨o',ho'⟩:=Option.isSome_iff_exists.1 hi';obtain⟨o,ho,hnl⟩:=zg6 hs i o' ho';rw [hi] at ho;cases ho;rcases hnl with rfl|⟨cs1,cs',h1,h2,_⟩
  ·exact⟨cs,ho'⟩
  ·simp_all
 have hch:∀ i e0 sz0 st xs,lk i σ=some (.chain e0 sz0 st xs)→(lk i σ').isSome→lk i σ'=some (.chain e0 sz0 st xs):=by
  intro i e0 sz0 st xs hi hi';obtain⟨o',ho'⟩:=Option.isSome_iff_exists.1 hi';obtain⟨o,ho,hnl⟩:=zg6 hs i o' ho';rw [hi] at ho;cases ho;rcases hnl with rfl|⟨cs1,cs',h1,_⟩
  ·exact ho'
  ·cases h1
 have hoth:∀ i o,lk i σ=some (.x o)→(lk i σ').isSome→lk i σ'=some (.x o):=by
  intro i o hi hi';obtain⟨o',ho'⟩:=Option.isSome_iff_exists.1 hi';obtain⟨o1,ho,hnl⟩:=zg6 hs i o' ho';rw [hi] at ho;cases ho;rcases hnl with rfl|⟨cs1,cs',h1,_⟩
  ·exact ho'
  ·cases h1
 have sr1:∀ s v,rs1 σ' s=true→SR σ g w s v→SR σ' g' w s v:=by
  intro s v hrs hv;have up:∀ i,(lk i σ).isSome→(lk i σ').isSome=true→(lk i σ').isSome∧g'.μ i=g.μ i:=fun i hi hi'=>by
   exact⟨hi',rfl⟩
  cases hv with
  | d x v h=>exact .d x v (h.mono hext)
  | old c0 st n e0 sz0 st' xs v hl hlt h1=>
   have hs0:(lk c0 σ).isSome:=by rw [hl];rfl
   obtain⟨h2,h3⟩:=up c0 hs0 hrs;exact .old c0 st n e0 sz0 st' xs v (hch _ _ _ _ _ hl h2) hlt h1
  | o c0 st n e0 sz0 xs a cap hl hn hμ=>
   have hs0:(lk c0 σ).isSome:=by rw [hl];rfl
   obtain⟨h2,h3⟩:=up c0 hs0 hrs;exact .o c0 st n e0 sz0 xs a cap (hch _ _ _ _ _ hl h2) hn (by rw [h3,hμ])
  | b id off cs k hl hμ=>
   have hs0:(lk id σ).isSome:=by rw [hl];rfl
   obtain⟨h2,h3⟩:=up id hs0 hrs;obtain⟨cs',hcs'⟩:=hbox _ _ hl h2;exact .b id off cs' k (hcs') (by rw [h3,hμ])
  | se e off k l vs h1 h2 h3=>exact .se e off k l vs (fun j hj=>.inl (h1 j hj)) h2 (fun j x hj=>(h3 j x hj).mono hext)
  | oeold c0 st i off e0 sz0 st' xs v hl hlt h1=>
   have hs0:(lk c0 σ).isSome:=by rw [hl];rfl
   obtain⟨h2,h3⟩:=up c0 hs0 hrs;exact .oeold c0 st i off e0 sz0 st' xs v (hch _ _ _ _ _ hl h2) hlt h1
  | oe c0 st i off e0 sz0 xs k cap hl hμ=>
   have hs0:(lk c0 σ).isSome:=by rw [hl];rfl
   obtain⟨h2,h3⟩:=up c0 hs0 hrs;exact .oe c0 st i off e0 sz0 xs k cap (hch _ _ _ _ _ hl h2) (by rw [h3,hμ])
  | f=>cases hrs
  | j v h1=>exact .j v h1
  | h id o k hl hμ=>
   have hs0:(lk id σ).isSome:=by rw [hl];rfl
   obtain⟨h2,h3⟩:=up id hs0 hrs;exact .h id o k (hoth _ _ hl h2) (by rw [h3,hμ])
  | sb id off n cap cs k hl hμ hn hcc=>
   have hs0:(lk id σ).isSome:=by rw [hl];rfl
   obtain⟨h2,h3⟩:=up id hs0 hrs;obtain⟨cs',hcs'⟩:=hbox _ _ hl h2;exact .sb id off n cap cs' k (hcs') (by rw [h3,hμ]) hn hcc
 have sr:∀ s v,rsSV σ' s=true→SR σ g w s v→SR σ' g' w s v:=by
  intro s v hrs hv;cases s with
  | f fn a b=>
   simp only [rsSV,Bool.and_eq_true,List.all_eq_true] at hrs;cases hv with
   | f _ _ _ v1 v2 h1 h2 r1 r2=>
    exact .f fn a b v1 v2 h1 h2 (fun i s v hi hv=>sr1 _ _ (hrs.1 s (List.mem_of_getElem? hi)) (r1 i s v hi hv)) (fun i s v hi hv=>sr1 _ _ (hrs.2 s (List.mem_of_getElem? hi)) (r2 i s v hi hv))
  | d x=>exact sr1 _ _ hrs hv
  | o c st n=>exact sr1 _ _ hrs hv
  | b id off=>exact sr1 _ _ hrs hv
  | se e off=>exact sr1 _ _ hrs hv
  | oe c st i off=>exact sr1 _ _ hrs hv
  | j=>exact sr1 _ _ hrs hv
  | h id=>exact sr1 _ _ hrs hv
  | sb id off n cap=>exact sr1 _ _ hrs hv
 have srfz:∀ n v,n≤xs.length→SR σ g w (.o c st n) v→SR σ' g' w (.d (.s sz (xs.take n))) v:=fun n v hn hv=>
  Imp.freeze.freeze_one (a:={ a with tmps:=#[v] }) (t:=0) (σ':=σ') hrel.hp hc hn hv
 have vr1:∀ x v,zec σ' x=true→VR1 σ g w x v→VR1 σ' g' w x v:=by
  intro x v hrs hv;cases x with
  | x s=>exact sr _ _ hrs hv
  | a cs=>
   obtain⟨vs,rfl,hl,hr⟩:=hv;simp only [zec,List.all_eq_true] at hrs;exact⟨vs,rfl,hl,fun i s u hi hu=>sr _ _ (hrs s (List.mem_of_getElem? hi)) (hr i s u hi hu)⟩
  | _=>exact hv.elim
 have vr2:∀ x v,zeR σ' x=true→VR2 σ g w x v→VR2 σ' g' w x v:=by
  intro x v hrs hv;cases x with
  | t xs=>
   obtain⟨vs,rfl,hl,hr⟩:=hv;simp only [zeR,List.all_eq_true] at hrs;exact⟨vs,rfl,hl,fun i s u hi hu=>vr1 _ _ (hrs s (List.mem_of_getElem? hi)) (hr i s u hi hu)⟩
  | x s=>exact vr1 (.x s) _ hrs hv
  | a cs=>exact vr1 (.a cs) _ hrs hv
  | g _ _=>exact hv.elim
 have vr:∀ x v,rsAV σ' x=true→VR σ g w x v→VR σ' g' w x v:=by
  intro x v hrs hv;cases x with
  | g c0 y=>exact⟨fun hc0=>vr2 _ _ hrs (hv.1 hc0),hv.2⟩
  | x s=>exact vr2 (.x s) _ hrs hv
  | a cs=>exact vr2 (.a cs) _ hrs hv
  | t xs=>exact vr2 (.t xs) _ hrs hv
 have upI:∀ i,(lk i σ).isSome→i ∈ Γ.ids→(lk i σ').isSome∧g'.μ i=g.μ i:=fun i hi hi'=>⟨zbJ hB hi',rfl⟩
 have srI:∀ s v,SR σ g w s v→InI Γ.ids s→SR σ' g' w s v:=by
  intro s v hv;induction hv with
  | d x v h=>exact fun _=>.d x v (h.mono hext)
  | old c0 st n e0 sz0 st' xs v hl hlt h1=>
   intro h;cases h with
   | o _ _ _ h=>
    have hs0:(lk c0 σ).isSome:=by rw [hl];rfl
    obtain⟨h2,h3⟩:=upI c0 hs0 h;exact .old c0 st n e0 sz0 st' xs v (hch _ _ _ _ _ hl h2) hlt h1
  | o c0 st n e0 sz0 xs a cap hl hn hμ=>
   intro h;cases h with
   | o _ _ _ h=>
    have hs0:(lk c0 σ).isSome:=by rw [hl];rfl
    obtain⟨h2,h3⟩:=upI c0 hs0 h;exact .o c0 st n e0 sz0 xs a cap (hch _ _ _ _ _ hl h2) hn (by rw [h3,hμ])
  | b id off cs k hl hμ=>
   intro h;cases h with
   | b _ _ h=>
    have hs0:(lk id σ).isSome:=by rw [hl];rfl
    obtain⟨h2,h3⟩:=upI id hs0 h;obtain⟨cs',hcs'⟩:=hbox _ _ hl h2;exact .b id off cs' k (hcs') (by rw [h3,hμ])
  | se e off k l vs h1 h2 h3=>exact fun _=>.se e off k l vs (fun j hj=>.inl (h1 j hj)) h2 (fun j x hj=>(h3 j x hj).mono hext)
  | oeold c0 st i off e0 sz0 st' xs v hl hlt h1=>
   intro h;cases h with
   | oe _ _ _ _ h=>
    have hs0:(lk c0 σ).isSome:=by rw [hl];rfl
    obtain⟨h2,h3⟩:=upI c0 hs0 h;exact .oeold c0 st i off e0 sz0 st' xs v (hch _ _ _ _ _ hl h2) hlt h1
  | oe c0 st i off e0 sz0 xs k cap hl hμ=>
   intro h;cases h with
   | oe _ _ _ _ h=>
    have hs0:(lk c0 σ).isSome:=by rw [hl];rfl
    obtain⟨h2,h3⟩:=upI c0 hs0 h;exact .oe c0 st i off e0 sz0 xs k cap (hch _ _ _ _ _ hl h2) (by rw [h3,hμ])
  | f fn a b v1 v2 h1 h2 _ _ ih1 ih2=>
   intro h;cases h with
   | f _ _ _ k1 k2=>exact .f fn a b v1 v2 h1 h2 (fun i s v hi hv=>ih1 i s v hi hv (k1 s (List.mem_of_getElem? hi))) (fun i s v hi hv=>ih2 i s v hi hv (k2 s (List.mem_of_getElem? hi)))
  | j v h1=>exact fun _=>.j v h1
  | h id o k hl hμ=>
   intro h;cases h with
   | h _ h=>
    have hs0:(lk id σ).isSome:=by rw [hl];rfl
    obtain⟨h2,h3⟩:=upI id hs0 h;exact .h id o k (hoth _ _ hl h2) (by rw [h3,hμ])
  | sb id off n cap cs k hl hμ hn hcc=>
   intro h;cases h with
   | sb _ _ _ _ h=>
    have hs0:(lk id σ).isSome:=by rw [hl];rfl
    obtain⟨h2,h3⟩:=upI id hs0 h;obtain⟨cs',hcs'⟩:=hbox _ _ hl h2;exact .sb id off n cap cs' k (hcs') (by rw [h3,hμ]) hn hcc
 have ins:∀ i,(lk i σ').isSome→(lk i σ).isSome:=fun i hi=>by
  obtain⟨o',ho'⟩:=Option.isSome_iff_exists.1 hi;obtain⟨o,ho,_⟩:=zg6 hs i o' ho';rw [ho];rfl
 have hap:∀ i,(lk i σ').isSome→∀ b,blk (g.μ i)=some b→blk (g.μ c)≠some b:=by
  intro i hi b hb hb';have:=hrel.hp.inj i c b (ins i hi) (by rw [hc];rfl) hb hb';simp_all
 have hK:∀ id ob b,lk id σ'=some ob→blk (g.μ id)=some b→(∀ o,¬ g.K b o)→∀ o,¬ K' b o:=
  fun id ob b hid hb hk o h=>h.elim (hk o) (fun h=>hap id (by rw [hid];rfl) b hb h.1)
 refine⟨g',⟨⟨hrel.hp.kept,hrel.hp.flt,hrel.hp.ext.trans hext,?_,?_,?_,fun i b hi hb=>hrel.hp.own i b (ins i hi) hb,fun i j b hi hj=>hrel.hp.inj i j b (ins i hi) (ins j hj)⟩,?_,hrel.size,
  hrel.defers.map (fun i d hi hl hμ=>⟨hoth _ _ hl (zfE hD hi hl ▸ rfl),hμ⟩),fun s v hb=>⟨srI _ _ (hrel.base s v hb).1 (hrel.base s v hb).2,(hrel.base s v hb).2⟩⟩⟩
 ·intro b o hb hk;rcases hk with hk|⟨hk,_⟩
  ·exact hrel.hp.old b o hb hk
  ·exact absurd hb (hrel.hp.own c b (by rw [hc];rfl) hk)
 ·intro b o hk;rcases hk with hk|⟨_,hk⟩
  ·exact hrel.hp.val b o hk
  ·exact hk
 ·intro id ob hid;obtain⟨o,ho,hnl⟩:=zg6 hs id ob hid;have hO:=hrel.hp.obs id o ho;cases ob with
  | x o1=>
   have:o=.x o1:=by
    rcases hnl with h|⟨cs1,cs',_,h2,_⟩
    ·exact h
    ·cases h2
   subst this;have hrb:=za2 hr.2 _ _ hid;obtain⟨b,k1,k2,k3,k4⟩:=hO;refine⟨b,k1,k2,?_,hK _ _ b hid (by rw [k1];rfl) k4⟩
   cases o1 with
   | map kt kvs=>obtain⟨es,h1,h2,h3,h4⟩:=k3;exact⟨es,h1,h2,fun i k x hi=>let ⟨e,a,c,d,f⟩:=h3 i k x hi;⟨e,a,c,d,vr1 _ _ (zeb (h4.2.2 i k x hi)) f⟩,h4⟩
   | mapIter m since seen last=>
    cases m with
    | some m=>obtain⟨mb,h1,h2⟩:=k3;exact⟨mb,h1,sr1 (.h m) _ hrb h2⟩
    | none=>exact k3
   | strIter s pos=>exact k3
   | loop st pend params assign body nt fr dfr=>
    simp only [rsOb,rsO2,Bool.and_eq_true] at hrb;obtain⟨f,tmps,d,h1,h2,h3,h4⟩:=k3;exact⟨f,tmps,d,h1,h2,fun t v ht=>⟨(h3 t v ht).1,vr _ _ (zaO hrb.1 t v ht) (h3 t v ht).2⟩,sr1 (.h dfr) _ hrb.2 h4⟩
   | dfr=>exact k3
  | chain e0 sz0 st0 xs0=>
   have:o=.chain e0 sz0 st0 xs0:=by
    rcases hnl with h|⟨cs1,cs',_,h2,_⟩
    ·exact h
    ·cases h2
   subst this;obtain⟨vs,h1,h2,h3,h4,h5⟩:=hO;exact⟨vs,h1,h2,h3,fun i x hi j p hp=>let ⟨v,q,r⟩:=h4 i x hi j p hp;⟨v,q,r.mono hext⟩,fun b hb=>hK _ _ b hid hb (h5 b hb)⟩
  | box cs'=>
   have hrb:=za2 hr.2 _ _ hid;simp only [rsOb,List.all_eq_true] at hrb;rcases hnl with h|⟨cs,cs1,h1,h2,h3⟩
   ·subst h;obtain⟨b,vs,T,k1,k2,k3,k4,k5,k6⟩:=hO;exact⟨b,vs,T,k1,k2,k3,k4,fun i s hi=>let ⟨v,p,q⟩:=k5 i s hi;⟨v,p,sr _ _ (hrb s (List.mem_of_getElem? hi)) q⟩,hK _ _ b hid (by rw [k1];rfl) k6⟩
   ·subst h1;cases h2;obtain⟨b,vs,T,k1,k2,k3,k4,k5,k6⟩:=hO;obtain⟨hl,hg⟩:=zgy h3;refine⟨b,vs,T,k1,k2,k3,by rw [k4,hl],fun i s hi=>?_,hK _ _ b hid (by rw [k1];rfl) k6⟩
    obtain⟨s0,hs0,hnl0⟩:=hg i s hi;obtain⟨v,p,q⟩:=k5 i s0 hs0;refine⟨v,p,?_⟩
    rcases hnl0 with rfl|⟨n,rfl,hn1,rfl⟩
    ·grind
    ·exact srfz _ _ hn1 q
 ·intro t v' ht;obtain⟨v,hv,hnl⟩:=zm7 hf t v' ht;obtain⟨hlt,hvr⟩:=hrel.fr t v hv;refine⟨hlt,?_⟩
  rcases hnl with rfl|⟨n,rfl,hn1,rfl⟩
  ·exact vr _ _ (zaO hr.1 t v ht) hvr
  ·exact srfz _ _ hn1 hvr
end
end Go.QL
namespace FoT
theorem zja (i:Nat) (cur:Option (Nat × Bs8)) (c:UInt8) (r:Bs8):tk i cur (c::r)=if zaM c then tk (i+1) (match cur with|none=>some (i,[c])|some p=>some (p.1,p.2 ++ [c])) r else zc7 cur ++ (if c=32 then [] else [(i,[c])]) ++ tk (i+1) none r:=by
 cases cur <;> rw [tk]
theorem zhf:∀ (l:Bs8) (i:Nat) (cur:Option (Nat × Bs8)),∃ p a,tk i cur l=p ++ [(a,[])]
 | [],i,cur=>⟨zc7 cur,i,by rw [tk]⟩
 | c::r,i,cur=>by
  rw [zja];by_cases h:zaM c
  ·rw [if_pos h];cases cur with
   | none=>exact zhf r (i+1) _
   | some q=>exact zhf r (i+1) _
  ·rw [if_neg h];obtain⟨p,a,hp⟩:=zhf r (i+1) none;exact⟨zc7 cur ++ (if c=32 then [] else [(i,[c])]) ++ p,a,by rw [hp];simp⟩
def curN:Option (Nat × Bs8)→Nat
 | none=>0
 | some _=>1
def curL:Option (Nat × Bs8)→Nat
 | none=>0
 | some p=>p.2.length
theorem ziz:∀ cur,(zc7 cur).length=curN cur
 | none=>rfl
 | some _=>rfl
theorem zfk:∀ (l:Bs8) (i:Nat) (cur:Option (Nat × Bs8)),(tk i cur l).length≤l.length+1+curN cur
 | [],i,cur=>by
  rw [tk,List.length_append,ziz];simp only [List.length_cons,List.length_nil];omega
 | c::r,i,cur=>by
  rw [zja];by_cases h:zaM c
  ·rw [if_pos h];cases cur with
   | none=>
    have:=zfk r (i+1) (some (i,[c]));simp only [curN,List.length_cons] at this ⊢;omega
   | some q=>
    have:=zfk r (i+1) (some (q.1,q.2 ++ [c]));simp only [curN,List.length_cons] at this ⊢;omega
  ·rw [if_neg h];have:=zfk r (i+1) none;have h1:(if c=32 then [] else [(i,[c])]:List (Nat × Bs8)).length≤1:=by split <;> simp
   rw [List.length_append,List.length_append,ziz];simp only [curN,List.length_cons] at this ⊢;omega
theorem zhe:∀ (l:Bs8) (i:Nat) (cur:Option (Nat × Bs8)),∀ p ∈ tk i cur l,p.2.length≤l.length+curL cur
 | [],i,cur,p,hp=>by
  rw [tk,List.mem_append] at hp;rcases hp with hp|hp
  ·cases cur with
   | none=>simp [zc7] at hp
   | some q=>simp [zc7] at hp;subst hp;simp [curL]
  ·simp at hp;subst hp;simp
 | c::r,i,cur,p,hp=>by
  rw [zja] at hp;by_cases h:zaM c
  ·rw [if_pos h] at hp;cases cur with
   | none=>
    have:=zhe r (i+1) (some (i,[c])) p hp;simp only [curL,List.length_cons,List.length_nil] at this ⊢;omega
   | some q=>
    have:=zhe r (i+1) (some (q.1,q.2 ++ [c])) p hp;simp only [curL,List.length_cons,List.length_nil,List.length_append] at this ⊢;omega
  ·rw [if_neg h,List.mem_append,List.mem_append] at hp;rcases hp with (hp|hp)|hp
   ·cases cur with
    | none=>simp [zc7] at hp
    | some q=>simp [zc7] at hp;subst hp;simp [curL]
   ·split at hp
    ·simp at hp
    ·simp at hp;subst hp;simp;omega
   ·have:=zhe r (i+1) none p hp;simp only [curL,List.length_cons] at this ⊢;omega
theorem zqD {s:Bs8} (h:s.length≤600):RInv 2000 ⟨tk 0 none s,[],[]⟩:=by
 have h1:=zfk s 0 none;simp only [curN] at h1;refine⟨zhf s 0 none,fun p hp=>?_,by dsimp only [List.length_nil];omega,by dsimp only [List.length_nil];omega⟩
 have:=zhe s 0 none p hp;simp only [curL] at this;omega
end FoT
namespace Go.Proofs.YtdgkljfpaddfpaaGreatDoor
open Go Go.QL Go.RowKit FoT
set_option maxHeartbeats 3200000
attribute [local irreducible] ACall FnC YC FnP PCall AWx EndX zm8 zD sumM
theorem zmC:∃ ms,Tryz.prog.underlying 20=some (.interface ms):=⟨_,Tryz.underlying20⟩
theorem zlB (σ:Sg) (hs:SubS σ σ) (hc:(rsSg σ σ && zbC (σ.map (·.1)) σ)=true):zm8 Tryz.prog 9 ([].map AV.x ++ [SV.b 2 0,SV.b 3 0,SV.b 4 0].map .x) σ .returning (fun u' σ'=>u'=.returning∧σ'=σ):=by
 refine zcR hTt .none rfl Tryz.func9 rfl rfl rfl (by kernel_rfl) (res:=[]) rfl Tryz.ntmps9 (by simp) fun w0 K0 B=>?_
 conv=>whnf
 repeat' first|((with_reducible refine zH hTt (id:=1) ?_);conv=>whnf)|refine zd ?_|((refine zf ?_);conv=>whnf)|(refine And.intro zmC ?_;conv=>whnf)|(refine zss rfl ?_)|fail
 exact⟨_,σ,hs,hc,rfl,rfl,rfl⟩
abbrev resF (a b:PV) (c d:PV):Sg:=[(4,.box [.d a]),(3,.box [.d b]),(2,.box [.d c,.d d])]
theorem zpB (k:Nat) (a b c d:PV):zm8 Tryz.prog 9 ([].map AV.x ++ [SV.b 2 0,SV.b 3 0,SV.b 4 0].map .x) (resF a b c d) (.panicking [{ v:=errA k,recovered:=false }])
  (fun u' σ'=>u'=.panicking [{ v:=errA k,recovered:=true }]∧σ'=resF (.v (.int .i64 6)) (.v (.int .i64 k)) (.v (.slice none 0 0)) (.v (.slice none 0 0))):=by
 refine zcR hTt (.some _) rfl Tryz.func9 rfl rfl rfl (by kernel_rfl) (res:=[]) rfl Tryz.ntmps9 (by simp) fun w0 K0 B=>?_
 conv=>whnf
 repeat' first|(with_reducible exact trivial)|(exact impA)|((with_reducible refine And.intro (b:=allN _ _ _) ?_ ?_) <;> conv=>whnf)|((refine zoL hTt hMix (id:=2) [0,0,2,1,15,31] (by kernel_rfl) [] (resF (.v (.int .i64 6)) (.v (.int .i64 k)) (.v (.slice none 0 0)) (.v (.slice none 0 0))) ?_ ?_) <;> conv=>whnf)|((with_reducible refine zH hTt (id:=1) ?_);conv=>whnf)|refine zd ?_|(refine And.intro zmC ?_;conv=>whnf)|(refine And.intro zfF ?_;conv=>whnf)|(refine And.intro (rfl:_=3) ?_;conv=>whnf)|(refine zst rfl ?_)|((refine andA ?_);conv=>whnf)|fail
 exact⟨_,resF (.v (.int .i64 6)) (.v (.int .i64 k)) (.v (.slice none 0 0)) (.v (.slice none 0 0)),⟨rfl,rfl,rfl,trivial⟩,rfl,rfl,rfl,rfl⟩
def RdF (s:Bs8) (r:AV) (σ':Sg):Prop:=LeW r (.t [zaB (zbH s).1,iv .i64 (zbH s).2.1,iv .i64 (zbH s).2.2])∧σ'=[]
theorem zkp (s:Bs8) (k:Nat) (hR:zbH s=(zdw,(k:Int),6)) (a b c d:PV) {fr:Fr} {τ : Sg} (hf:SubF fr [(4,.x (.b 4 0)),(3,.x (.b 3 0)),(2,.x (.b 2 0))]) (hs:SubS τ (resF a b c d)) :
  zhL Tryz.prog Tt [.cell 2 26,.cell 3 3,.cell 4 27] [] [4,3,2] [931] (RdF s) 9 [] [.b 2 0,.b 3 0,.b 4 0] (.panicking [{ v:=errA k,recovered:=false }]) fr τ:=by
 refine⟨_,_,hf,hs,by kernel_rfl,_,zpB ..,?_⟩
 rintro _ _ ⟨rfl,rfl⟩;refine⟨rfl,.t [.a [.d (.v (.slice none 0 0)),.d (.v (.slice none 0 0))],iv .i64 k,iv .i64 6],[],trivial,rfl,rfl,?_,rfl⟩
 rw [hR];exact⟨⟨.inr ⟨rfl,_,rfl⟩,.inr ⟨rfl,_,rfl⟩,trivial⟩,.inl rfl,.inl rfl,trivial⟩
def StpR (P:Program) (Γ:Cx) (c:Code) (Q:Exit→Fr→Sg→Prop) (fr:Fr) (σ:Sg):Prop:=AW P Γ c Q fr σ
theorem StpR.at10 {P:Program} {Γ:Cx} {y:Code} {ops:Array Oper} {b:Bool} {Q:Exit→Fr→Sg→Prop} {fr:Fr} {σ:Sg} (h:StpR P Γ (.seq (.region 10 ops b) y) Q fr σ):AW P Γ (.seq (.region 10 ops b) y) Q fr σ:=h
attribute [irreducible] StpR
def finF:Except Nat PS→FormT × Int × Int
 | .error a=>(zdw,(a:Int),6)
 | .ok st=>match st.toks with
  | (a,_)::_::_=>(zdw,(a:Int),6)
  | _=>if zD ⟨st.vars,st.code⟩=0 then (⟨st.vars,st.code⟩,0,0) else (zdw,0,3)
theorem bxT {a b:PV} {c d n m:Nat} (h:n=m):some (Ob.box [.d a,.d b,.o c n n,.o d n n])=some (Ob.box [.d a,.d b,.o c m m,.o d m m]):=by rw [h]
theorem chT {e sz n m:Nat} {xs ys:List (List PV)} (h:n=m) (k:xs=ys):some (Ob.chain e sz n xs)=some (Ob.chain e sz m ys):=by rw [h,k]
theorem zkX (s:Bs8):ACall Tryz.prog 4 [sv (bs s)] [] (RdF s):=by
 have hsz:=zbj s;refine zi0 [931] Tryz.func4 rfl (by kernel_rfl) Tryz.ntmps4 (by simp) fun w0 K0 g w hL=>?_
 dsimp only [entry];refine zm9 (Q:=zk6 Tt [.cell 2 26,.cell 3 3,.cell 4 27] [] [931] (RdF s)) ?_ (fun e fr τ g' a' w' hr hq=>zg8 (σ:=[]) (res:=[.cell 2 26,.cell 3 3,.cell 4 27]) (dfs:=[931]) hTt (by rfl) hr hq)
 repeat' first|((refine regA ?_);conv=>whnf)|fail
 refine zm9 (Q:=zk6 Tt [.cell 2 26,.cell 3 3,.cell 4 27] [] [931] (RdF s)) ?_ (fun e fr τ g' a' w' hr hq=>zg8 (σ:=[]) (res:=[.cell 2 26,.cell 3 3,.cell 4 27]) (dfs:=[931]) hTt (by rfl) hr hq)
 repeat' first|refine zd ?_|((first|refine zf ?_|refine zi ?_|refine regA ?_|fail);conv=>whnf)|(refine zso rfl (fun hb=>?_) (fun hb=>?_))|fail
 ·have hR:zbH s=(zdw,0,3):=by
   unfold zbH;rw [if_pos (by omega)]
  refine⟨[(4,.x (.b 4 0)),(3,.x (.b 3 0)),(2,.x (.b 2 0))],resF (.v (.int .i64 3)) (.v (.int .i64 0)) (.v (.slice none 0 0)) (.v (.slice none 0 0)),⟨rfl,rfl,rfl,trivial⟩,⟨rfl,rfl,rfl,trivial⟩,rfl,.t [.a [.d (.v (.slice none 0 0)),.d (.v (.slice none 0 0))],iv .i64 0,iv .i64 3],[],trivial,rfl,rfl,?_,rfl⟩
  rw [hR];exact⟨⟨.inr ⟨rfl,_,rfl⟩,.inr ⟨rfl,_,rfl⟩,trivial⟩,.inl rfl,.inl rfl,trivial⟩
 ·refine zna hTt rfl ?_
  conv=>whnf
  refine⟨rfl,?_⟩
  conv=>whnf
  refine⟨rfl,fun B' d hd=>?_⟩
  conv=>whnf
  refine zrx (Q:=zpc Tryz.prog Tt [.cell 2 26,.cell 3 3,.cell 4 27] [] [4,3,2] [931] (RdF s) 9 [] [.b 2 0,.b 3 0,.b 4 0]) ?_ (fun e fr τ g' a' w' hr hq=>zoJ (σ:=[]) (res:=[.cell 2 26,.cell 3 3,.cell 4 27]) hTt hL (by rfl) hd hr hq)
  have tok:=zi8 s;repeat' first|refine zd ?_|refine zc ?_|((first|refine regA ?_|refine frA (tok) [(1,950)] ?_|fail);conv=>whnf)|fail
  refine zaq (Imp.nil 73 3 1 (fr':=frX) (σ':=[(5,.box [.b 14 0]),(14,.box [.d (.v (.slice none 0 0)),.d (.v (.slice none 0 0)),.o 73 0 0,.d (.v (.slice none 0 0))]),(4,.box [.d (.v (.int .i64 0))]),(3,.box [.d (.v (.int .i64 0))]),(2,.box [.d (.v (.slice none 0 0)),.d (.v (.slice none 0 0))]),(950,.box [.d (.v (.string (bs s)))])]) rfl ?_ ?_ rfl rfl) ?_
  ·exact⟨⟨_,rfl,.inl rfl⟩,⟨_,rfl,.inl rfl⟩,⟨_,rfl,.inl rfl⟩,⟨_,rfl,.inl rfl⟩,⟨_,rfl,.inl rfl⟩,trivial⟩
  ·exact⟨⟨_,rfl,.inl rfl⟩,⟨_,rfl,.inr ⟨_,_,rfl,rfl,.inl rfl,.inl rfl,.inr ⟨rfl,rfl⟩,.inl rfl,trivial⟩⟩,⟨_,rfl,.inl rfl⟩,⟨_,rfl,.inl rfl⟩,⟨_,rfl,.inl rfl⟩,⟨_,rfl,.inl rfl⟩,trivial⟩
  refine zaq (Imp.nil 74 9 1 (fr':=frX) (σ':=[(73,.chain 3 1 0 []),(5,.box [.b 14 0]),(14,.box [.d (.v (.slice none 0 0)),.d (.v (.slice none 0 0)),.o 73 0 0,.o 74 0 0]),(4,.box [.d (.v (.int .i64 0))]),(3,.box [.d (.v (.int .i64 0))]),(2,.box [.d (.v (.slice none 0 0)),.d (.v (.slice none 0 0))]),(950,.box [.d (.v (.string (bs s)))])]) rfl ?_ ?_ rfl rfl) ?_
  ·exact⟨⟨_,rfl,.inl rfl⟩,⟨_,rfl,.inl rfl⟩,⟨_,rfl,.inl rfl⟩,⟨_,rfl,.inl rfl⟩,⟨_,rfl,.inl rfl⟩,trivial⟩
  ·exact⟨⟨_,rfl,.inl rfl⟩,⟨_,rfl,.inl rfl⟩,⟨_,rfl,.inr ⟨_,_,rfl,rfl,.inl rfl,.inl rfl,.inl rfl,.inr ⟨rfl,rfl⟩,trivial⟩⟩,⟨_,rfl,.inl rfl⟩,⟨_,rfl,.inl rfl⟩,⟨_,rfl,.inl rfl⟩,⟨_,rfl,.inl rfl⟩,trivial⟩
  refine zaq (Imp.forget (fr':=frX) (σ':=(sgX .skip .skip [] s).tail.tail) ⟨rfl,rfl,rfl,rfl,rfl,trivial⟩ ⟨rfl,rfl,rfl,rfl,rfl,rfl,rfl,rfl,trivial⟩ rfl) ?_
  refine ziZ 930 931 rfl rfl rfl (by decide) (by simp [Cx.dfrd]) rfl _ (zlf (s:=s) (by omega) ?hy) ?hk
  case hy=>
   intro acc a t hacc ha;have e1:(atX acc).take acc.length ++ [[PV.v (.int .i64 a)]]=atX (acc ++ [(a,t)]):=by rw [List.take_of_length_le (by simp)];simp [atX]
   have e2:(tkX acc).take acc.length ++ [[PV.v (.string (bs t))]]=tkX (acc ++ [(a,t)]):=by rw [List.take_of_length_le (by simp)];simp [tkX]
   have el:acc.length+1=(acc ++ [(a,t)]).length:=by simp
   have ga:acc.length≤(atX acc).length∧acc.length+1≤maxLen∧(acc.length+1) * 8≤140737488355328:=⟨by simp,by unfold maxLen;omega,by omega⟩;have gt:acc.length≤(tkX acc).length∧acc.length+1≤maxLen∧(acc.length+1) * 16≤140737488355328:=⟨by simp,by unfold maxLen;omega,by omega⟩;refine zoH (pend:=none) rfl rfl (by decide) rfl ?_
   intro w0 K0 B b;dsimp only [zk2];repeat' first|refine zd ?_|((refine regA ?_);conv=>whnf)|fail
   refine⟨_,rfl,?_⟩
   repeat' first|((first|refine zkA hTt hMix (id:=8) 19 [0,1,2,3,4,5,6,7,9,10,11,12,13,14] [⟨8,false,false,[0,1,9,10,11,12,13,14],[]⟩,⟨15,false,false,[0,1],[16,17]⟩,⟨18,false,false,[1],[]⟩] [0,0,0,4,12,28,0,64,252,0,512,1536,3584,0,8192,32764,65533,131069,262141,524287,1048575,2097151] (by kernel_rfl) rfl (by kernel_rfl) (by kernel_rfl) (by kernel_rfl) ?_|refine LateGo.mk ⟨_,rfl,?_⟩|fail);conv=>whnf)|refine zc ?_|((first|refine LateGo.mk ⟨.x .j,rfl,?_⟩|refine And.intro ga ?_|refine And.intro gt ?_|refine andA ?_|fail);conv=>whnf)|fail
   refine⟨zat 930 (.x (.loop .busy none #[17,18] ?asg ?bdy 65 frX 931)) (sgX ?asg ?bdy (acc ++ [(a,t)]) s),none,?h1,?h2,?h3,?h4⟩
   case h3=>exact rfl
   case h1=>exact⟨rfl,rfl,rfl,bxT el,chT el e1,chT el e2,rfl,rfl,rfl,rfl,trivial⟩
   case h2=>rfl
   case h4=>exact⟨rfl,rfl⟩
  case hk=>
   rintro rv σ' ⟨rfl,rfl⟩;refine⟨rfl,.ready,none,rfl,by decide,?_⟩
   have hi:=zqD (s:=s) (by omega);generalize hl:tk 0 none s=l at hi ⊢;dsimp only;conv=>whnf
   have hla:(atX l).length=l.length:=List.length_map _;have hlt:(tkX l).length=l.length:=List.length_map _;have hle1:l.length≤(atX l).length:=by omega
   have hle2:l.length≤(tkX l).length:=by omega
   have hz1:atPV l=.s 1 ((atX l).take l.length):=by rw [List.take_of_length_le (by omega)];simp [atPV,zR,atX]
   have hz2:tkPV l=.s 1 ((tkX l).take l.length):=by rw [List.take_of_length_le (by omega)];simp [tkPV,zac,tkX,zaa]
   refine zaq (Imp.freezeB 73 (fr':=[(5,.x (.b 5 0)),(4,.x (.b 4 0)),(3,.x (.b 3 0)),(2,.x (.b 2 0))])
    (σ':=[(931,.x .dfr),(5,.box [.b 14 0]),(14,.box [.d (.v (.slice none 0 0)),.d (.v (.slice none 0 0)),.d (atPV l),.o 74 l.length l.length]),(74,.chain 9 1 l.length (tkX l)),(4,.box [.d (.v (.int .i64 0))]),(3,.box [.d (.v (.int .i64 0))]),(2,.box [.d (.v (.slice none 0 0)),.d (.v (.slice none 0 0))])]) rfl
    ⟨⟨_,rfl,.inl rfl⟩,⟨_,rfl,.inl rfl⟩,⟨_,rfl,.inl rfl⟩,⟨_,rfl,.inl rfl⟩,trivial⟩ ⟨⟨_,rfl,.inl rfl⟩,⟨_,rfl,.inl rfl⟩,⟨_,rfl,.inr ⟨_,_,rfl,rfl,⟨.inl rfl,.inl rfl,.inr ⟨_,rfl,hle1,congrArg SV.d hz1⟩,.inl rfl,trivial⟩⟩⟩,⟨_,rfl,.inl rfl⟩,⟨_,rfl,.inl rfl⟩,⟨_,rfl,.inl rfl⟩,⟨_,rfl,.inl rfl⟩,trivial⟩ rfl rfl) ?_
   refine zaq (Imp.freezeB 74 (fr':=[(5,.x (.b 5 0)),(4,.x (.b 4 0)),(3,.x (.b 3 0)),(2,.x (.b 2 0))])
    (σ':=[(931,.x .dfr),(5,.box [.b 14 0]),(14,.box [.d (.v (.slice none 0 0)),.d (.v (.slice none 0 0)),.d (atPV l),.d (tkPV l)]),(4,.box [.d (.v (.int .i64 0))]),(3,.box [.d (.v (.int .i64 0))]),(2,.box [.d (.v (.slice none 0 0)),.d (.v (.slice none 0 0))])]) rfl
    ⟨⟨_,rfl,.inl rfl⟩,⟨_,rfl,.inl rfl⟩,⟨_,rfl,.inl rfl⟩,⟨_,rfl,.inl rfl⟩,trivial⟩ ⟨⟨_,rfl,.inl rfl⟩,⟨_,rfl,.inl rfl⟩,⟨_,rfl,.inr ⟨_,_,rfl,rfl,⟨.inl rfl,.inl rfl,.inl rfl,.inr ⟨_,rfl,hle2,congrArg SV.d hz2⟩,trivial⟩⟩⟩,⟨_,rfl,.inl rfl⟩,⟨_,rfl,.inl rfl⟩,⟨_,rfl,.inl rfl⟩,trivial⟩ rfl rfl) ?_
   refine zaq (Imp.nil 71 9 1 (fr':=[(5,.x (.b 5 0)),(4,.x (.b 4 0)),(3,.x (.b 3 0)),(2,.x (.b 2 0))])
    (σ':=[(931,.x .dfr),(5,.box [.b 14 0]),(14,.box [.o 71 0 0,.d (.v (.slice none 0 0)),.d (atPV l),.d (tkPV l)]),(4,.box [.d (.v (.int .i64 0))]),(3,.box [.d (.v (.int .i64 0))]),(2,.box [.d (.v (.slice none 0 0)),.d (.v (.slice none 0 0))])]) rfl ?_ ?_ rfl rfl) ?_
   ·exact⟨⟨_,rfl,.inl rfl⟩,⟨_,rfl,.inl rfl⟩,⟨_,rfl,.inl rfl⟩,⟨_,rfl,.inl rfl⟩,trivial⟩
   ·exact⟨⟨_,rfl,.inl rfl⟩,⟨_,rfl,.inl rfl⟩,⟨_,rfl,.inr ⟨_,_,rfl,rfl,.inr ⟨rfl,rfl⟩,.inl rfl,.inl rfl,.inl rfl,trivial⟩⟩,⟨_,rfl,.inl rfl⟩,⟨_,rfl,.inl rfl⟩,⟨_,rfl,.inl rfl⟩,trivial⟩
   refine zaq (Imp.nil 72 50 4 (fr':=[(5,.x (.b 5 0)),(4,.x (.b 4 0)),(3,.x (.b 3 0)),(2,.x (.b 2 0))])
    (σ':=[(71,.chain 9 1 0 []),(931,.x .dfr),(5,.box [.b 14 0]),(14,.box [.o 71 0 0,.o 72 0 0,.d (atPV l),.d (tkPV l)]),(4,.box [.d (.v (.int .i64 0))]),(3,.box [.d (.v (.int .i64 0))]),(2,.box [.d (.v (.slice none 0 0)),.d (.v (.slice none 0 0))])]) rfl ?_ ?_ rfl rfl) ?_
   ·exact⟨⟨_,rfl,.inl rfl⟩,⟨_,rfl,.inl rfl⟩,⟨_,rfl,.inl rfl⟩,⟨_,rfl,.inl rfl⟩,trivial⟩
   ·exact⟨⟨_,rfl,.inl rfl⟩,⟨_,rfl,.inl rfl⟩,⟨_,rfl,.inl rfl⟩,⟨_,rfl,.inr ⟨_,_,rfl,rfl,.inl rfl,.inr ⟨rfl,rfl⟩,.inl rfl,.inl rfl,trivial⟩⟩,⟨_,rfl,.inl rfl⟩,⟨_,rfl,.inl rfl⟩,⟨_,rfl,.inl rfl⟩,trivial⟩
   have hsum:=(zj5 (4 * l.length+3)).2.2 _ (Nat.le_refl _) _ hi;obtain⟨r,hr,_⟩:=(zqB l.length).2.2.2.2 ⟨l,[],[]⟩ rfl;have hrf:zbH s=finF r:=by
    unfold zbH;rw [if_neg (by omega),hl,hr];cases r <;> rfl
   cases r with
   | error e=>
    have hs2:=(hsum.2 e hr 0 0);dsimp only at hs2 hrf;have hs3:=hs2.frame (σ:=(72,.chain 50 4 0 [])::(71,.chain 9 1 0 [])::(931,.x .dfr)::(5,.box [.b 14 0])::(14,.box [.o 71 0 0,.o 72 0 0,.d (atPV l),.d (tkPV l)])::resF (.v (.int .i64 0)) (.v (.int .i64 0)) (.v (.slice none 0 0)) (.v (.slice none 0 0))) (asc [(70,14)]) (by repeat (first|exact trivial|refine⟨rfl,?_⟩)) rfl (fun _ _ h=>h.elim) (by rintro _ _ ⟨_,V',C',s1',s2',l',rfl⟩;rfl);repeat' first|((with_reducible refine zH hTt (id:=9) ?_);conv=>whnf)|refine zd ?_|((refine⟨_,_,hs3,?_,?_⟩) <;> first|(rintro _ _ ⟨_,_,h,_⟩;exact h.elim)|(rintro _ _ ⟨_,⟨rfl,V',C',s1',s2',l',rfl⟩,rfl⟩;conv=>whnf))|fail
    exact zkp s e hrf _ _ _ _ ⟨rfl,rfl,rfl,trivial⟩ ⟨rfl,rfl,rfl,trivial⟩
   | ok st=>
    obtain⟨hi2,_⟩:=(zdn 2000 _).2.2.2.1 _ _ hi hr;have hs2:=(hsum.1 st hr 0 0);clear hsum hi hr hz1 hz2 hle1 hle2 hla hlt tok;obtain⟨t1,V1,C1⟩:=st;obtain⟨a1,w1,l1,ht,_⟩:=hi2.cons;dsimp only at hs2 ht;have hs3:=hs2.frame (σ:=(72,.chain 50 4 0 [])::(71,.chain 9 1 0 [])::(931,.x .dfr)::(5,.box [.b 14 0])::(14,.box [.o 71 0 0,.o 72 0 0,.d (atPV l),.d (tkPV l)])::resF (.v (.int .i64 0)) (.v (.int .i64 0)) (.v (.slice none 0 0)) (.v (.slice none 0 0))) (asc [(70,14)]) (by repeat (first|exact trivial|refine⟨rfl,?_⟩)) rfl (by rintro _ _ ⟨_,s1',s2',rfl⟩;rfl) (fun _ _ h=>h.elim);have hlV:(V1.map zaa).length=V1.length:=List.length_map _;have hlC:(C1.map ndPV).length=C1.length:=List.length_map _;have hle1:V1.length≤(V1.map zaa).length:=by omega
    have hle2:C1.length≤(C1.map ndPV).length:=by omega
    have hz1:zac V1=.s 1 ((V1.map zaa).take V1.length):=by rw [List.take_of_length_le (by omega)];rfl
    have hz2:zS C1=.s 4 ((C1.map ndPV).take C1.length):=by rw [List.take_of_length_le (by omega)];rfl
    have ck:=ziO ⟨V1,C1⟩;repeat' first|(with_reducible refine StpR.at10 ?_)|((with_reducible refine zH hTt (id:=9) ?_);conv=>whnf)|refine zd ?_|((refine⟨_,_,hs3,?_,?_⟩) <;> first|(rintro _ _ ⟨_,h,_⟩;exact h.elim)|(rintro _ _ ⟨_,_,⟨rfl,s1',s2',rfl⟩,rfl,rfl⟩;conv=>whnf))|fail
    unfold StpR;refine zaq (Imp.freezeB 71 (fr':=[(5,.x (.b 5 0)),(4,.x (.b 4 0)),(3,.x (.b 3 0)),(2,.x (.b 2 0))])
     (σ':=[(931,.x .dfr),(5,.box [.b 14 0]),(14,.box [.d (zac V1),.o 72 s2' C1.length,.d (atPV t1),.d (tkPV t1)]),(72,.chain 50 4 s2' (C1.map ndPV)),(4,.box [.d (.v (.int .i64 0))]),(3,.box [.d (.v (.int .i64 0))]),(2,.box [.d (.v (.slice none 0 0)),.d (.v (.slice none 0 0))])]) rfl
     ⟨⟨_,rfl,.inl rfl⟩,⟨_,rfl,.inl rfl⟩,⟨_,rfl,.inl rfl⟩,⟨_,rfl,.inl rfl⟩,trivial⟩ ⟨⟨_,rfl,.inl rfl⟩,⟨_,rfl,.inl rfl⟩,⟨_,rfl,.inr ⟨_,_,rfl,rfl,⟨.inr ⟨_,rfl,hle1,congrArg SV.d hz1⟩,.inl rfl,.inl rfl,.inl rfl,trivial⟩⟩⟩,⟨_,rfl,.inl rfl⟩,⟨_,rfl,.inl rfl⟩,⟨_,rfl,.inl rfl⟩,⟨_,rfl,.inl rfl⟩,trivial⟩ rfl rfl) ?_
    refine zaq (Imp.freezeB 72 (fr':=[(5,.x (.b 5 0)),(4,.x (.b 4 0)),(3,.x (.b 3 0)),(2,.x (.b 2 0))])
     (σ':=[(931,.x .dfr),(5,.box [.b 14 0]),(14,.box [.d (zac V1),.d (zS C1),.d (atPV t1),.d (tkPV t1)]),(4,.box [.d (.v (.int .i64 0))]),(3,.box [.d (.v (.int .i64 0))]),(2,.box [.d (.v (.slice none 0 0)),.d (.v (.slice none 0 0))])]) rfl
     ⟨⟨_,rfl,.inl rfl⟩,⟨_,rfl,.inl rfl⟩,⟨_,rfl,.inl rfl⟩,⟨_,rfl,.inl rfl⟩,trivial⟩ ⟨⟨_,rfl,.inl rfl⟩,⟨_,rfl,.inl rfl⟩,⟨_,rfl,.inr ⟨_,_,rfl,rfl,⟨.inl rfl,.inr ⟨_,rfl,hle2,congrArg SV.d hz2⟩,.inl rfl,.inl rfl,trivial⟩⟩⟩,⟨_,rfl,.inl rfl⟩,⟨_,rfl,.inl rfl⟩,⟨_,rfl,.inl rfl⟩,trivial⟩ rfl rfl) ?_
    cases l1 with
    | cons q l2=>
     rw [ht] at hrf ⊢;have hrf:zbH s=(zdw,(a1:Int),6):=hrf;have hln:((a1,w1)::q::l2).length=l2.length+2:=rfl;repeat' first|((with_reducible refine zH hTt (id:=11) ?_);conv=>whnf)|refine zd ?_|((first|refine zf ?_|refine regA ?_|fail);conv=>whnf)|exact abA hb|((refine⟨_,ze ⟨by omega,rfl⟩,?_⟩);conv=>whnf)|(refine And.intro zfF ?_;conv=>whnf)|(refine zso rfl (fun hb=>?_) (fun hb=>?_))|((refine andA ?_);conv=>whnf)|(refine lnA fun hln=>?_;conv=>whnf)|fail
     exact zkp s a1 hrf _ _ _ _ ⟨rfl,rfl,rfl,trivial⟩ ⟨rfl,rfl,rfl,trivial⟩
    | nil=>
     rw [ht] at hrf ⊢;have hrf:zbH s=if zD ⟨V1,C1⟩=0 then (⟨V1,C1⟩,0,0) else (zdw,0,3):=hrf
     by_cases hc:zD ⟨V1,C1⟩=0
     ·rw [if_pos hc] at hrf;rw [hc] at ck;repeat' first|refine zd ?_|((first|refine zf ?_|refine zi ?_|refine regA ?_|refine zsn (ck) ?_|fail);conv=>whnf)|(refine zss rfl ?_)|((refine andA ?_);conv=>whnf)|(refine lnA fun hln=>?_;conv=>whnf)|fail
      refine⟨[(4,.x (.b 4 0)),(3,.x (.b 3 0)),(2,.x (.b 2 0))],resF (.v (.int .i64 0)) (.v (.int .i64 0)) (zac V1) (zS C1),⟨rfl,rfl,rfl,trivial⟩,⟨rfl,rfl,rfl,trivial⟩,by kernel_rfl,_,zlB _ ⟨rfl,rfl,rfl,trivial⟩ (by kernel_rfl),?_⟩
      rintro _ _ ⟨rfl,rfl⟩;refine⟨rfl,.t [.a [.d (zac V1),.d (zS C1)],iv .i64 0,iv .i64 0],[],trivial,rfl,rfl,?_,rfl⟩
      rw [hrf];exact⟨⟨.inl rfl,.inl rfl,trivial⟩,.inl rfl,.inl rfl,trivial⟩
     ·rw [if_neg hc] at hrf;repeat' first|refine zd ?_|((first|refine zf ?_|refine zi ?_|refine regA ?_|fail);conv=>whnf)|exact abA hb|((refine zsn (ck) ?_);conv=>whnf)|(refine zss rfl ?_)|(refine zso rfl (fun hb=>?_) (fun hb=>?_))|((refine andA ?_);conv=>whnf)|(refine lnA fun hln=>?_;conv=>whnf)|fail
      refine⟨[(4,.x (.b 4 0)),(3,.x (.b 3 0)),(2,.x (.b 2 0))],resF (.v (.int .i64 3)) (.v (.int .i64 0)) (.v (.slice none 0 0)) (.v (.slice none 0 0)),⟨rfl,rfl,rfl,trivial⟩,⟨rfl,rfl,rfl,trivial⟩,by kernel_rfl,_,zlB _ ⟨rfl,rfl,rfl,trivial⟩ (by kernel_rfl),?_⟩
      rintro _ _ ⟨rfl,rfl⟩;refine⟨rfl,.t [.a [.d (.v (.slice none 0 0)),.d (.v (.slice none 0 0))],iv .i64 0,iv .i64 3],[],trivial,rfl,rfl,?_,rfl⟩
      rw [hrf];exact⟨⟨.inr ⟨rfl,_,rfl⟩,.inr ⟨rfl,_,rfl⟩,trivial⟩,.inl rfl,.inl rfl,trivial⟩
theorem zbK (s:Bs8):FnC Tryz.prog 4 [sv (bs s)] (.t [zaB (zbH s).1,iv .i64 (zbH s).2.1,iv .i64 (zbH s).2.2]):=
 zfd ((zkX s).leW fun _ _ h=>⟨_,h.1,rfl,h.2⟩)
end Go.Proofs.YtdgkljfpaddfpaaGreatDoor
namespace Go.Proofs.YtdgkljfpaddfpaaGreatDoor
open Go Go.QL FoT
set_option maxHeartbeats 1600000
attribute [local irreducible] ACall FnC fine ten
theorem zlh {a b:Int} (h:0≤a):a.tdiv b=a / b:=Int.tdiv_eq_ediv_of_nonneg h
theorem zpo {a b:Int} (h:0≤a):a.tmod b=a % b:=Int.tmod_eq_emod_of_nonneg h
theorem zi1 (n:FNode) (hp:1≤n.places∧n.places≤6) (hn:0≤n.num∧n.num≤ten n - 1):FnC Tryz.prog 19 [ndAV n] (.t [iv .i64 (zbo n),iv .i64 (zdz n)]):=by
 obtain⟨tg,t1,t2⟩:=zdk hp;have e1:(n.num * 8388608).tmod (ten n)=n.num * 8388608 % ten n:=zpo (by omega);have e2:IntKind.i64.wrap ((ten n).tdiv 2)=ten n / 2:=by rw [zlh (by omega)];exact zg (by omega)
 have q1:=Int.ediv_le_self (ten n) (a:=n.num * 8388608+ten n / 2) (by omega);have q0:0≤(n.num * 8388608+ten n / 2) / ten n:=Int.ediv_nonneg (by omega) (by omega);have e3:IntKind.i64.wrap ((n.num * 8388608+ten n / 2).tdiv (ten n))=(n.num * 8388608+ten n / 2) / ten n:=by rw [zlh (by omega)];exact zg (by omega)
 have w0:IntKind.i64.wrap (n.num * 8388608)=n.num * 8388608:=zg (by omega);have h0:ten n≠0:=by omega
 unfold zbo zdz;generalize ten n=t at *;by_cases hz:n.num * 8388608 % t=0
 ·rw [if_pos hz];refine hdC Tryz.func19 Tryz.ntmps19 (res:=[.tmp 2,.tmp 3]) fun w0 K0=>?_
  repeat' first|refine zd ?_|((first|refine zf ?_|refine zi ?_|refine regA ?_|refine drA (id:=1) 8 false [0,1,3,0,0,16,56,15,255] ?_|refine zsp (zdI) ?_|refine⟨_,ze ⟨by omega,tg⟩,?_⟩|refine⟨_,e1,?_⟩|refine⟨_,e2,?_⟩|refine⟨_,e3,?_⟩|refine And.intro (zay h0) ?_|fail);conv=>whnf)|(exact absurd hz hb)|(refine zso rfl (fun hb=>?_) (fun hb=>?_))|((first|refine zsq ?_|refine andA ?_|fail);conv=>whnf)|fail
  all_goals rfl
 ·rw [if_neg hz];refine hdC Tryz.func19 Tryz.ntmps19 (res:=[.tmp 2,.tmp 3]) fun w0 K0=>?_
  repeat' first|refine zd ?_|((first|refine zf ?_|refine zi ?_|refine regA ?_|refine drA (id:=1) 8 false [0,1,3,0,0,16,56,15,255] ?_|refine zsp (zdI) ?_|refine⟨_,ze ⟨by omega,tg⟩,?_⟩|refine⟨_,e1,?_⟩|refine⟨_,e2,?_⟩|refine⟨_,e3,?_⟩|refine And.intro (zay h0) ?_|fail);conv=>whnf)|(exact absurd hb hz)|(refine zso rfl (fun hb=>?_) (fun hb=>?_))|((first|refine zsq ?_|refine andA ?_|fail);conv=>whnf)|fail
  all_goals rfl
theorem zpa (a b:Int) (h : -4611686018427387904≤a+b∧a+b≤4611686018427387904):FnC Tryz.prog 55 [.a [],iv .i64 a,iv .i64 b] (iv .i64 (a+b)):=by
 refine hdC Tryz.func55 Tryz.ntmps55 (res:=[.tmp 6]) fun w0 K0=>?_
 repeat' first|refine zd ?_|((first|refine zi ?_|refine regA ?_|refine zsq ?_|fail);conv=>whnf)|fail
 rfl
theorem zoQ (a b:Int) (h : -4611686018427387904≤a - b∧a - b≤4611686018427387904):FnC Tryz.prog 56 [.a [],iv .i64 a,iv .i64 b] (iv .i64 (a - b)):=by
 refine hdC Tryz.func56 Tryz.ntmps56 (res:=[.tmp 6]) fun w0 K0=>?_
 repeat' first|refine zd ?_|((first|refine zi ?_|refine regA ?_|refine zsq ?_|fail);conv=>whnf)|fail
 rfl
theorem zo1 (a b:Int) (h : -4611686018427387904≤a * b∧a * b≤4611686018427387904):FnC Tryz.prog 57 [.a [],iv .i64 a,iv .i64 b] (iv .i64 (a * b / 8388608)):=by
 have w0':IntKind.i64.wrap (a * b)=a * b:=zg (by omega);have hsh:(a * b).fdiv (2 ^ min (Int.toNat 23) IntKind.i64.bits)=a * b / 8388608:=Int.fdiv_eq_ediv_of_nonneg _ (by decide);refine hdC Tryz.func57 Tryz.ntmps57 (res:=[.tmp 6]) fun w0 K0=>?_
 repeat' first|refine zd ?_|((first|refine zi ?_|refine regA ?_|refine⟨_,w0',?_⟩|refine⟨_,hsh,?_⟩|refine andA ?_|fail);conv=>whnf)|fail
 rfl
def opF (k:FuncId):AV:=.x (.d (.v (.func (.func k) #[.agg #[]] #[])))
def opsM:List (Value × AV):=[(.int .i64 3,opF 55),(.int .i64 4,opF 56),(.int .i64 5,opF 57)]
theorem zqz (k:Value) (x:AV):zk5 [] k x [(k,x)]:=.inr ⟨fun i y h=>by simp at h,rfl⟩
theorem zjR {kvs:List (Value × AV)} {k:Int} {x:AV} (h:∀ p ∈ kvs,p.1≠.int .i64 k):zk5 kvs (.int .i64 k) x (kvs ++ [(.int .i64 k,x)]):=
 .inr ⟨fun i y hi=>h _ (List.mem_of_getElem? hi) rfl,rfl⟩
theorem zlR:ACall Tryz.prog 16 [] [] (fun r σ'=>r=.x (.h 2)∧σ'=[(2,.x (.map (.one (.int .i64)) opsM))]):=by
 have u1:zk5 [] (.int .i64 3) (opF 55) _:=zqz _ _;have u2:zk5 [(.int .i64 3,opF 55)] (.int .i64 4) (opF 56) _:=zjR (by simp);have u3:zk5 [(.int .i64 3,opF 55),(.int .i64 4,opF 56)] (.int .i64 5) (opF 57) _:=zjR (by simp);refine hdD Tryz.func16 Tryz.ntmps16 (res:=[.tmp 0]) fun w0 K0 B=>?_
 repeat' first|refine zd ?_|((first|refine zi ?_|refine regA ?_|refine⟨_,u1,?_⟩|refine⟨_,u2,?_⟩|refine⟨_,u3,?_⟩|refine andA ?_|fail);conv=>whnf)|fail
 exact⟨_,[(2,.x (.map (.one (.int .i64)) opsM))],⟨rfl,trivial⟩,rfl,rfl,rfl,rfl⟩
end Go.Proofs.YtdgkljfpaddfpaaGreatDoor
namespace Go.Proofs.YtdgkljfpaddfpaaGreatDoor
open Go Go.QL FoT
set_option maxHeartbeats 1600000
attribute [local irreducible] ACall FnC fine ten
def fstI {α : Type} (p : α→Bool):List α→Nat→Option Nat
 | [],_=>none
 | x::r,j=>if p x=true then some j else fstI p r (j+1)
def idxI {α : Type} (p : α→Bool) (xs:List α):Int:=
 match fstI p xs 0 with
 | some j=>j
 | none=>-1
theorem zoj {α : Type} (p : α→Bool) (xs:List α) (j:Nat):(fstI p xs j).isSome=xs.any p:=by
 induction xs generalizing j with
 | nil=>rfl
 | cons x r ih=>
  simp only [fstI,List.any_cons];cases h:p x with
  | true=>simp
  | false=>simp [ih]
theorem zoh {α : Type} (p : α→Bool) (xs:List α):decide (0≤idxI p xs)=xs.any p:=by
 rw [← zoj p xs 0];unfold idxI;cases fstI p xs 0 with
 | none=>rfl
 | some j=>simp
theorem zp9 (fid:FuncId) (cs:List SV) (p:Int→Bool) (xs:List Int) (σ:Sg)
  (hf:∀ x ∈ xs,ACall Tryz.prog fid ([].map AV.x ++ [iv .i64 x] ++ cs.map .x) σ (fun r σ'=>r=bv (p x)∧σ'=σ)) :
  ACall Tryz.prog 54 [sl xs,.x (.f (.func fid) [] cs)] σ (fun r σ'=>r=iv .i64 (idxI p xs)∧σ'=σ):=by
 refine zcN hTt Tryz.func54 rfl (by kernel_rfl) (res:=[.tmp 4]) rfl Tryz.ntmps54 (by simp) fun w0 K0 B=>?_
 dsimp only [entry];repeat' first|refine zd ?_|refine zc ?_|((refine regA ?_);conv=>whnf)|(refine lnA fun hln=>?_;conv=>whnf)|fail
 refine zJ (fun i:Nat=>[(8,iv .i64 i),(7,iv .i64 xs.length),(0,sl xs),(1,.x (.f (.func fid) [] cs))]) (fun _=>σ)
  (fun i=>i≤xs.length∧fstI p xs 0=fstI p (xs.drop i) i) (fun i=>xs.length - i) 0 (by simp) (Imp.slots ⟨rfl,congrArg (fun k:Nat=>some (iv .i64 k)) (List.length_map _),rfl,rfl,trivial⟩) ?_
 rintro i ⟨hi,hfo⟩;rcases Nat.lt_or_ge i xs.length with hil|hil
 ·have hc:=hf xs[i] (List.getElem_mem hil);rw [List.drop_eq_getElem_cons hil] at hfo;simp only [fstI] at hfo;generalize p xs[i]=b at hc hfo;cases b with
  | true=>
   rw [if_pos rfl] at hfo;repeat' first|refine zd ?_|refine zc ?_|((first|refine zf ?_|refine zk ?_|refine zi ?_|refine regA ?_|fail);conv=>whnf)|exact abA hb|((refine⟨_,hc,?_⟩);(rintro _ _ ⟨rfl,rfl⟩);conv=>whnf)|(refine zst rfl ?_)|(refine zso rfl (fun hb=>?_) (fun hb=>?_))|((first|refine andA ?_|with_reducible refine exA fun _=>?_|fail);conv=>whnf)|fail
   exact⟨_,rfl,by unfold idxI;rw [hfo],rfl⟩
  | false=>
   rw [if_neg (by decide)] at hfo;repeat' first|refine zd ?_|refine zc ?_|((first|refine zf ?_|refine zk ?_|refine zi ?_|refine regA ?_|fail);conv=>whnf)|exact abA hb|((refine⟨_,hc,?_⟩);(rintro _ _ ⟨rfl,rfl⟩);conv=>whnf)|(refine zss rfl ?_)|(refine zso rfl (fun hb=>?_) (fun hb=>?_))|((first|refine zsq ?_|refine andA ?_|with_reducible refine exA fun _=>?_|fail);conv=>whnf)|fail
   exact⟨i+1,⟨by omega,hfo⟩,by omega,Imp.slots ⟨rfl,rfl,rfl,rfl,trivial⟩⟩
 ·rw [List.drop_eq_nil_of_le hil] at hfo;repeat' first|refine zd ?_|refine zc ?_|((first|refine zf ?_|refine zk ?_|refine zi ?_|refine regA ?_|fail);conv=>whnf)|exact abA hb|(refine zso rfl (fun hb=>?_) (fun hb=>?_))|fail
  exact⟨_,rfl,by unfold idxI;rw [hfo];rfl,rfl⟩
theorem zdc (fid:FuncId) (cs:List SV) (p:Int→Bool) (xs:List Int) (σ:Sg)
  (hf:∀ x ∈ xs,ACall Tryz.prog fid ([].map AV.x ++ [iv .i64 x] ++ cs.map .x) σ (fun r σ'=>r=bv (p x)∧σ'=σ)) :
  ACall Tryz.prog 13 [sl xs,.x (.f (.func fid) [] cs)] σ (fun r σ'=>r=bv (xs.any p)∧σ'=σ):=by
 have hc:=zp9 fid cs p xs σ hf;rw [← zoh];refine zcN hTt Tryz.func13 rfl (by kernel_rfl) (res:=[.tmp 4]) rfl Tryz.ntmps13 (by simp) fun w0 K0 B=>?_
 dsimp only [entry];repeat' first|refine zd ?_|((first|refine zi ?_|refine regA ?_|((refine⟨_,hc,?_⟩);(rintro _ _ ⟨rfl,rfl⟩))|fail);conv=>whnf)|fail
 exact⟨_,rfl,rfl,rfl⟩
theorem znM (hi x:Int):ACall Tryz.prog 139 [iv .i64 x,.x (.b 2 0)] [(2,.box [.d (.v (.int .i64 hi))])]
  (fun r σ'=>r=bv (outB x 0 hi)∧σ'=[(2,.box [.d (.v (.int .i64 hi))])]):=by
 refine zcN hTt Tryz.func139 rfl (by kernel_rfl) (res:=[.tmp 3]) rfl Tryz.ntmps139 (by simp) fun w0 K0 B=>?_
 dsimp only [entry];repeat' first|refine zd ?_|((first|refine zi ?_|refine regA ?_|refine andA ?_|fail);conv=>whnf)|fail
 exact⟨_,rfl,rfl,rfl⟩
theorem zjl (hi:Int) (xs:List Int):FnC Tryz.prog 103 [iv .i64 hi,sl xs] (bv (xs.any fun x=>outB x 0 hi)):=by
 have hc:=zdc 139 [.b 2 0] (fun x=>outB x 0 hi) xs _ (fun x _=>znM hi x);generalize (xs.any fun x=>outB x 0 hi)=b at hc;refine hdC Tryz.func103 Tryz.ntmps103 (res:=[.tmp 4]) fun w0 K0=>?_
 repeat' first|refine zd ?_|((first|refine zi ?_|refine regA ?_|((refine⟨_,hc,?_⟩);(rintro _ _ ⟨rfl,rfl⟩))|fail);conv=>whnf)|fail
 rfl
theorem zps (v:Int) (h:zP v):FnC Tryz.prog 104 [iv .i64 v] (iv .i64 (sgnW v)):=by
 unfold zP at h;have hs:∃ b:Int,(b=0∨b=1)∧v.fdiv (2 ^ min (Int.toNat 23) IntKind.i64.bits)=b∧sgnW v=v - b * 16777216:=by
  refine⟨v / 8388608,by omega,Int.fdiv_eq_ediv_of_nonneg _ (by decide),?_⟩
  unfold sgnW;split <;> omega
 obtain⟨b,hb01,hs1,hs2⟩:=hs;have hs3:IntKind.i64.wrap (1 * 2 ^ min (Int.toNat 24) IntKind.i64.bits)=16777216:=by decide
 rw [hs2];rcases hb01 with rfl|rfl
 ·refine hdC Tryz.func104 Tryz.ntmps104 (res:=[.tmp 2]) fun w0 K0=>?_
  repeat' first|refine zd ?_|((first|refine zi ?_|refine regA ?_|refine⟨_,hs1,?_⟩|refine zsq ?_|refine andA ?_|fail);conv=>whnf)|fail
  rfl
 ·refine hdC Tryz.func104 Tryz.ntmps104 (res:=[.tmp 2]) fun w0 K0=>?_
  repeat' first|refine zd ?_|((first|refine zi ?_|refine regA ?_|refine⟨_,hs1,?_⟩|refine⟨_,hs3,?_⟩|refine zsq ?_|refine andA ?_|fail);conv=>whnf)|fail
  rfl
theorem zpG (v:Int) (h:zP v):FnC Tryz.prog 60 [iv .i64 v] (.t [iv .i64 (sgnW v),iv .i64 0]):=by
 have h1:=zjl 16777215 [v];have e:([v].any fun x=>outB x 0 16777215)=false:=by
  unfold zP at h;rw [List.any_cons,List.any_nil,Bool.or_false];exact zQ.2 h
 rw [e] at h1;have h2:=zps v h;refine hdC Tryz.func60 Tryz.ntmps60 (res:=[.tmp 2,.tmp 3]) fun w0 K0=>?_
 repeat' first|refine zd ?_|((first|refine zf ?_|refine zi ?_|refine regA ?_|refine zsn (h1) ?_|refine zsn (h2) ?_|fail);conv=>whnf)|(refine zss rfl ?_)|fail
 rfl
theorem zoR (v:Int) (h:zP v):FnC Tryz.prog 21 [iv .i64 v] (iv .i64 (sgnW v)):=by
 have h1:=zpG v h;refine hdC Tryz.func21 Tryz.ntmps21 (res:=[.tmp 2]) fun w0 K0=>?_
 repeat' first|refine zd ?_|((first|refine zi ?_|refine regA ?_|refine zsn (h1) ?_|fail);conv=>whnf)|fail
 rfl
theorem zo8 (x:Int) {σ:Sg}:ACall Tryz.prog 14 ([].map AV.x ++ [iv .i64 x] ++ [].map .x) σ (fun r σ'=>r=bv (outB x 0 16777215)∧σ'=σ):=by
 have h1:=zaL x 0 16777215;have:FnC Tryz.prog 14 [iv .i64 x] (bv (outB x 0 16777215)):=by
  refine hdC Tryz.func14 Tryz.ntmps14 (res:=[.tmp 2]) fun w0 K0=>?_
  repeat' first|refine zd ?_|((first|refine zi ?_|refine regA ?_|refine zsn (h1) ?_|fail);conv=>whnf)|fail
  rfl
 exact this.call rfl rfl
abbrev mpS:Nat × Ob:=(102,.x (.map (.one (.int .i64)) opsM))
abbrev evS (words:List Int):Sg:=[(100,.box [.d (zR words)]),(101,.box [.h 102]),mpS]
theorem zrf (words:List Int) (i:Int) (n:FNode) (hk:n.kind=1∨n.kind=2) (hf:fine words.length n) :
  ACall Tryz.prog 18 ([].map AV.x ++ [iv .i64 i,ndAV n] ++ [.b 100 0].map .x) (evS words) (fun r σ'=>r=iv .i64 (zcw words 0 n)∧σ'=evS words):=by
 unfold zcw;by_cases k1:n.kind=1
 ·rw [if_pos k1];unfold fine at hf;rw [if_pos k1] at hf;have hlt:n.var.toNat < words.length:=by omega
  have hg:words[n.var.toNat]?=some (words.getD n.var.toNat 0):=by
   rw [List.getD_eq_getElem?_getD,List.getElem?_eq_getElem hlt];rfl
  generalize words.getD n.var.toNat 0=v at hg;show ACall Tryz.prog 18 [iv .i64 i,ndAV n,.x (.b 100 0)] _ _
  refine hdD Tryz.func18 Tryz.ntmps18 (res:=[.tmp 5]) fun w0 K0 B=>?_
  repeat' first|refine zd ?_|((first|refine zf ?_|refine zi ?_|refine regA ?_|fail);conv=>whnf)|exact abA hb|((with_reducible refine Exists.intro _ (And.intro (ze (And.intro (by omega) (zgb hg))) ?_));conv=>whnf)|(refine zso rfl (fun hb=>?_) (fun hb=>?_))|((refine andA ?_);conv=>whnf)|fail
  exact⟨_,evS words,⟨rfl,rfl,rfl,trivial⟩,rfl,rfl,rfl,rfl⟩
 ·rw [if_neg k1];have k2:n.kind=2:=by omega
  obtain⟨f1,f2,f3,f4⟩:=(zgA k2).1 hf;have hw:=zi1 n f2 f3;show ACall Tryz.prog 18 [iv .i64 i,ndAV n,.x (.b 100 0)] _ _
  refine hdD Tryz.func18 Tryz.ntmps18 (res:=[.tmp 5]) fun w0 K0 B=>?_
  repeat' first|refine zd ?_|((first|refine zf ?_|refine zi ?_|refine regA ?_|fail);conv=>whnf)|exact abA hb|((refine zsn (hw) ?_);conv=>whnf)|(refine zso rfl (fun hb=>?_) (fun hb=>?_))|((refine andA ?_);conv=>whnf)|fail
  exact⟨_,evS words,⟨rfl,rfl,rfl,trivial⟩,rfl,rfl,rfl,rfl⟩
end Go.Proofs.YtdgkljfpaddfpaaGreatDoor
namespace Go.Proofs.YtdgkljfpaddfpaaGreatDoor
open Go Go.QL FoT
set_option maxHeartbeats 1600000
attribute [local irreducible] ACall FnC fine ten
theorem zlr {v:Int} (h:zP v) : -8388608≤sgnW v∧sgnW v≤8388607:=by
 unfold zP at h;unfold sgnW;split <;> omega
theorem zhv {a b:Int} (ha : -8388608≤a∧a≤8388607) (hb : -8388608≤b∧b≤8388607) : -70368744177664≤a * b∧a * b≤70368744177664:=by
 have h1:(a * b).natAbs≤8388608 * 8388608:=by
  rw [Int.natAbs_mul];exact Nat.mul_le_mul (by omega) (by omega)
 omega
theorem zsh (v:Int):ze6 .and .i64 v 16777215=v % 16777216:=by
 have e:(BitVec.ofInt 64 v &&& BitVec.ofInt 64 16777215).toNat=(v % 16777216).toNat:=by
  rw [BitVec.toNat_and,BitVec.toNat_ofInt,BitVec.toNat_ofInt];have e2:((16777215:Int) % ((2 ^ 64:Nat):Int)).toNat=2 ^ 24 - 1:=by decide
  rw [e2,Nat.and_two_pow_sub_one_eq_mod];have e3:((2 ^ 64:Nat):Int)=18446744073709551616:=by decide
  rw [e3];omega
 show IntKind.i64.wrap ((BitVec.ofInt 64 v &&& BitVec.ofInt 64 16777215).toNat:Int)=_
 rw [e,Int.toNat_of_nonneg (by omega)];exact zg (by omega)
theorem zre (words:List Int) (i:Int) (n:FNode) (a b:Int) (hk:n.kind=3∨n.kind=4∨n.kind=5) (ha:zP a) (hb':zP b) :
  ACall Tryz.prog 20 ([].map AV.x ++ [iv .i64 i,ndAV n,iv .i64 a,iv .i64 b] ++ [.b 101 0].map .x) (evS words) (fun r σ'=>r=iv .i64 (zdQ 0 n a b)∧σ'=evS words):=by
 have h1:=zoR a ha;have h2:=zoR b hb';have b1:=zlr ha;have b2:=zlr hb';show ACall Tryz.prog 20 [iv .i64 i,ndAV n,iv .i64 a,iv .i64 b,.x (.b 101 0)] _ _
 unfold zdQ;generalize sgnW a=x at *;generalize sgnW b=y at *;have hand:=zsh;rcases hk with hk|hk|hk
 ·have hlk:∀ z,ziY z opsM (.int .i64 n.kind) (opF 55) true:=fun z=>.inl ⟨rfl,0,by rw [hk];rfl⟩
  have h3:=zpa x y (by omega);rw [show opV n.kind x y=x+y by unfold opV;rw [if_pos hk]];have h4:=hand (x+y);refine hdD Tryz.func20 Tryz.ntmps20 (res:=[.tmp 9]) fun w0 K0 B=>?_
  repeat' first|refine zd ?_|((first|refine zi ?_|refine regA ?_|refine drA (id:=1) 8 false [0,0,2,7,0,16,0,112,255,511,1023] ?_|refine zsp (h1) ?_|refine zsp (h2) ?_|refine zsn (h3) ?_|refine⟨_,true,hlk _,rfl,?_⟩|refine⟨_,h4,?_⟩|refine andA ?_|fail);conv=>whnf)|fail
  exact⟨_,evS words,⟨rfl,rfl,rfl,trivial⟩,rfl,rfl,rfl,rfl⟩
 ·have hlk:∀ z,ziY z opsM (.int .i64 n.kind) (opF 56) true:=fun z=>.inl ⟨rfl,1,by rw [hk];rfl⟩
  have h3:=zoQ x y (by omega);rw [show opV n.kind x y=x - y by unfold opV;rw [if_neg (by omega),if_pos hk]];have h4:=hand (x - y);refine hdD Tryz.func20 Tryz.ntmps20 (res:=[.tmp 9]) fun w0 K0 B=>?_
  repeat' first|refine zd ?_|((first|refine zi ?_|refine regA ?_|refine drA (id:=1) 8 false [0,0,2,7,0,16,0,112,255,511,1023] ?_|refine zsp (h1) ?_|refine zsp (h2) ?_|refine zsn (h3) ?_|refine⟨_,true,hlk _,rfl,?_⟩|refine⟨_,h4,?_⟩|refine andA ?_|fail);conv=>whnf)|fail
  exact⟨_,evS words,⟨rfl,rfl,rfl,trivial⟩,rfl,rfl,rfl,rfl⟩
 ·have hlk:∀ z,ziY z opsM (.int .i64 n.kind) (opF 57) true:=fun z=>.inl ⟨rfl,2,by rw [hk];rfl⟩
  have m:=zhv b1 b2;have h3:=zo1 x y (by omega);rw [show opV n.kind x y=x * y / 8388608 by unfold opV;rw [if_neg (by omega),if_neg (by omega)]];have h4:=hand (x * y / 8388608);refine hdD Tryz.func20 Tryz.ntmps20 (res:=[.tmp 9]) fun w0 K0 B=>?_
  repeat' first|refine zd ?_|((first|refine zi ?_|refine regA ?_|refine drA (id:=1) 8 false [0,0,2,7,0,16,0,112,255,511,1023] ?_|refine zsp (h1) ?_|refine zsp (h2) ?_|refine zsn (h3) ?_|refine⟨_,true,hlk _,rfl,?_⟩|refine⟨_,h4,?_⟩|refine andA ?_|fail);conv=>whnf)|fail
  exact⟨_,evS words,⟨rfl,rfl,rfl,trivial⟩,rfl,rfl,rfl,rfl⟩
end Go.Proofs.YtdgkljfpaddfpaaGreatDoor
namespace Go.Proofs.YtdgkljfpaddfpaaGreatDoor
open Go Go.QL FoT
set_option maxHeartbeats 1600000
attribute [local irreducible] ACall FnC fine ten
def iPV (v:Int):List PV:=[.v (.int .i64 v)]
abbrev plI (st k:Nat) (xs:List (List PV)):Sg:=[(50,.box [.o 51 st k]),(51,.chain 3 1 st xs)]
theorem zlH (v:Int) (st k:Nat) (xs:List (List PV)) (hk:k≤xs.length) (hl:k≤100) :
  ACall Tryz.prog 58 [.x (.b 50 0),iv .i64 v] (plI st k xs) (fun r σ'=>r=.t []∧σ'=plI (st+1) (k+1) (xs.take k ++ [iPV v])):=by
 have g1:k + [iPV v].length≤maxLen:=by show k+1≤_;unfold maxLen;omega
 have g2:(k + [iPV v].length) * 8≤140737488355328:=by show (k+1) * 8≤_;omega
 refine hdD Tryz.func58 Tryz.ntmps58 (res:=[]) fun w0 K0 B=>?_
 repeat' first|((first|refine regA ?_|refine And.intro ⟨hk,g1,g2⟩ ?_|refine andA ?_|fail);conv=>whnf)|fail
 exact⟨_,plI (st+1) (k+1) (xs.take k ++ [iPV v]),⟨rfl,rfl,trivial⟩,rfl,rfl,rfl,rfl⟩
theorem zpm (a b:Int) (st k:Nat) (xs:List (List PV)) (hk:k+2≤xs.length) (hl:k≤100) (ha:xs[k]?=some (iPV a)) (hb':xs[k+1]?=some (iPV b)) :
  ACall Tryz.prog 59 [.x (.b 50 0)] (plI st (k+2) xs) (fun r σ'=>r=.t [iv .i64 a,iv .i64 b]∧σ'=plI st k xs):=by
 have ha':xs[(((k+2:Nat):Int) - 2).toNat]?=some (iPV a):=by rw [show (((k+2:Nat):Int) - 2).toNat=k by omega];exact ha
 have hb2:xs[(((k+2:Nat):Int) - 1).toNat]?=some (iPV b):=by rw [show (((k+2:Nat):Int) - 1).toNat=k+1 by omega];exact hb'
 have he:(((k+2:Nat):Int) - 2).toNat=k:=by omega
 refine hdD Tryz.func59 Tryz.ntmps59 (res:=[.tmp 2,.tmp 3]) fun w0 K0 B=>?_
 repeat' first|refine zd ?_|((first|refine zi ?_|refine regA ?_|refine drA (id:=2) 17 false [0,1,3,7,0,16,63,127,0,256,768,1792,0,4096,16128,32512,255,131071] ?_|refine⟨_,ze ha',⟨Nat.le_of_ble_eq_true rfl,rfl⟩,?_⟩|refine⟨_,ze hb2,⟨Nat.le_of_ble_eq_true rfl,rfl⟩,?_⟩|refine zsq ?_|refine andA ?_|fail);conv=>whnf)|(refine lnA fun hln=>?_;conv=>whnf)|fail
 exact⟨_,plI st k xs,⟨congrArg (fun n:Nat=>some (Ob.box [.o 51 st n])) he,rfl,trivial⟩,rfl,rfl,rfl,rfl⟩
end Go.Proofs.YtdgkljfpaddfpaaGreatDoor
namespace Go.Proofs.YtdgkljfpaddfpaaGreatDoor
open Go Go.QL FoT
set_option maxHeartbeats 1600000
attribute [local irreducible] ACall FnC fine ten
def Ht (f:FormT) (i p:Nat):Prop:=∃ s e:CS,s.p=p∧p≤12∧zav f.vars.length (f.code.drop i) s=.ok e∧e.p=1
theorem zdt {f:FormT} (h:zD f=0):Ht f 0 0:=by
 unfold zD at h;split at h
 ·cases h
 ·split at h
  ·rename_i e he;rcases zhc (V:=f.vars) f.vars [] with h1|h1|h1 <;> rw [h1] at he <;> cases he <;> cases h
  ·split at h
   ·rename_i e he;exact absurd h (fun h0=>by
     have key:∀ (l:List FNode) (s:CS) (e:Int),zav f.vars.length l s=.error e→e≠0:=by
      intro l;induction l with
      | nil=>intro s e he;cases he
      | cons n r ih=>
       intro s e he;unfold zav at he;cases hs:zbx f.vars.length n s with
       | error e'=>rw [hs] at he;cases he;exact zfX hs
       | ok s'=>rw [hs] at he;exact ih _ _ he
     exact key _ _ _ he h0)
   ·rename_i s hs;refine⟨⟨0,0,true⟩,s,rfl,Nat.zero_le _,hs,?_⟩
    by_cases hp:s.p=1
    ·exact hp
    ·rw [if_pos hp] at h;cases h
theorem zdR {f:FormT} {i p:Nat} (hi:i < f.code.length) (h:Ht f i p):(1≤f.code[i].kind∧f.code[i].kind≤5)∧fine f.vars.length f.code[i]∧(f.code[i].kind < 3→Ht f (i+1) (p+1))∧(3≤f.code[i].kind→∃ q,p=q+2∧Ht f (i+1) (q+1)):=by
 obtain⟨s,e,h1,hp12,h2,h3⟩:=h;rw [List.drop_eq_getElem_cons hi] at h2;unfold zav at h2;cases hs:zbx f.vars.length f.code[i] s with
 | error e'=>rw [hs] at h2;cases h2
 | ok s'=>
  rw [hs] at h2;obtain⟨a,b,c,d⟩:=zd7 hs;obtain⟨k1,k2,k3⟩:=zfu a;subst d;refine⟨⟨k1,k2⟩,k3,fun hk=>?_,fun hk=>?_⟩
  ·rw [if_neg (by omega)] at h2 c;exact⟨_,e,by show s.p+1=p+1;omega,by omega,h2,h3⟩
  ·rw [if_pos hk] at h2 c;refine⟨s.p - 2,by omega,_,e,by show s.p - 2+1=_;rfl,by omega,h2,h3⟩
theorem ziw {f:FormT} {i p:Nat} (hi:f.code.length≤i) (h:Ht f i p):p=1:=by
 obtain⟨s,e,h1,_,h2,h3⟩:=h;rw [List.drop_eq_nil_of_le hi] at h2;cases h2;omega
theorem zbD {f:FormT} (h:zD f=0):f.vars.length≤8∧1≤f.code.length∧f.code.length≤40:=by
 unfold zD at h;split at h
 ·cases h
 ·rename_i h0;omega
theorem zfT {α : Type} {l:List α} {q:Nat} (h:l.length=q+2):∃ (r:List α) (a b : α),l=r ++ [a,b]∧r.length=q:=by
 have h1:l=l.take q ++ l.drop q:=(List.take_append_drop q l).symm;have h2:(l.drop q).length=2:=by rw [List.length_drop];omega
 match hd:l.drop q,h2 with
 | [a,b],_=>exact⟨l.take q,a,b,by rw [← hd];exact h1,by rw [List.length_take];omega⟩
theorem zaG {α : Type} {pv : α→List PV} {xs:List (List PV)} {st:List α} {k:Nat} (hk:st.length=k) (h:xs.take k=st.map pv) (x : α):(xs.take k ++ [pv x]).take (k+1)=(st ++ [x]).map pv:=by
 rw [h,List.map_append,List.take_of_length_le (by simp [hk])];rfl
theorem zi7 {α : Type} {pv : α→List PV} {xs:List (List PV)} {r:List α} {a b : α} {q:Nat} (hq:r.length=q) (h:xs.take (q+2)=(r ++ [a,b]).map pv):q+2≤xs.length∧xs[q]?=some (pv a)∧xs[q+1]?=some (pv b)∧xs.take q=r.map pv:=by
 have hl:(xs.take (q+2)).length=q+2:=by rw [h];simp [hq]
 rw [List.length_take] at hl;have g1:(xs.take (q+2))[q]?=some (pv a):=by rw [h,List.map_append,List.getElem?_append_right (by simp [hq])];simp [hq]
 have g2:(xs.take (q+2))[q+1]?=some (pv b):=by rw [h,List.map_append,List.getElem?_append_right (by simp [hq])];simp [hq]
 rw [List.getElem?_take,if_pos (by omega)] at g1 g2;refine⟨by omega,g1,g2,?_⟩
 have:xs.take q=(xs.take (q+2)).take q:=by rw [List.take_take,Nat.min_eq_left (by omega)]
 rw [this,h,List.map_append,List.take_append_of_le_length (by simp [hq]),List.take_of_length_le (by simp [hq])]
end Go.Proofs.YtdgkljfpaddfpaaGreatDoor
namespace Go.Proofs.YtdgkljfpaddfpaaGreatDoor
open Go Go.QL FoT
set_option maxHeartbeats 1600000
attribute [local irreducible] ACall FnC fine ten
abbrev orAV (op a b c:Int):AV:=.a [.d (.v (.int .i64 op)),.d (.v (.int .i64 a)),.d (.v (.int .i64 b)),.d (.v (.int .i64 c))]
abbrev orPV (op a b c:Int):List PV:=[.v (.int .i64 op),.v (.int .i64 a),.v (.int .i64 b),.v (.int .i64 c)]
theorem or7 {a b:Int} (ha:0≤a∧a≤1000000000) (hb:0≤b∧b≤127):ze6 .or .i64 (a * 128) b=a * 128+b:=by
 obtain⟨x,rfl⟩:∃ x:Nat,a=x:=⟨a.toNat,by omega⟩;obtain⟨y,rfl⟩:∃ y:Nat,b=y:=⟨b.toNat,by omega⟩;have e1:BitVec.ofInt 64 ((x:Int) * 128)=BitVec.ofNat 64 (x * 128):=by
  rw [show (x:Int) * 128=((x * 128:Nat):Int) by push_cast;rfl,BitVec.ofInt_natCast]
 have e2:BitVec.ofInt 64 ((y:Int))=BitVec.ofNat 64 y:=BitVec.ofInt_natCast ..;show IntKind.i64.wrap ((BitVec.ofInt 64 ((x:Int) * 128) ||| BitVec.ofInt 64 (y:Int)).toNat:Int)=_
 rw [e1,e2,BitVec.toNat_or,BitVec.toNat_ofNat,BitVec.toNat_ofNat,Nat.mod_eq_of_lt (by omega),Nat.mod_eq_of_lt (by omega)];have e3:x * 128 ||| y=x * 128+y:=by
  have:=Nat.two_pow_add_eq_or_of_lt (i:=7) (show y < 2 ^ 7 by omega) x;rw [show 2 ^ 7 * x=x * 128 by omega] at this;exact this.symm
 rw [e3];push_cast;exact zg (by omega)
theorem zjj (a b:Int) (ha:0≤a∧a≤1000000000) (hb':0≤b∧b≤127):FnC Tryz.prog 147 [iv .i64 a,iv .i64 b] (iv .i64 (a * 128+b)):=by
 have h1:IntKind.i64.wrap (a * 2 ^ min (Int.toNat 7) IntKind.i64.bits)=a * 128:=by
  show IntKind.i64.wrap (a * 128)=_
  exact zg (by omega)
 have h2:=or7 ha hb';refine hdC Tryz.func147 Tryz.ntmps147 (res:=[.tmp 4]) fun w0 K0=>?_
 repeat' first|refine zd ?_|((first|refine zi ?_|refine regA ?_|refine⟨_,h1,?_⟩|refine⟨_,h2,?_⟩|refine andA ?_|fail);conv=>whnf)|fail
 rfl
theorem zkG (op a b c:Int) (h0:0≤op∧op≤7) (h1:0≤a∧a≤127) (h2:0≤b∧b≤127) (h3:0≤c∧c≤127):FnC Tryz.prog 146 [orAV op a b c] (bv false):=by
 have o1:=zjl 7 [op];have o2:=zjl 127 [a,b,c];have e1:([op].any fun x=>outB x 0 7)=false:=by
  rw [List.any_cons,List.any_nil,Bool.or_false];exact zQ.2 h0
 have e2:([a,b,c].any fun x=>outB x 0 127)=false:=by
  rw [List.any_cons,List.any_cons,List.any_cons,List.any_nil,zQ.2 h1,zQ.2 h2,zQ.2 h3];rfl
 rw [e1] at o1;rw [e2] at o2;refine hdC Tryz.func146 Tryz.ntmps146 (res:=[.tmp 2]) fun w0 K0=>?_
 repeat' first|refine zd ?_|((first|refine zi ?_|refine regA ?_|refine zsn (o1) ?_|refine zsp (o2) ?_|refine andA ?_|fail);conv=>whnf)|fail
 rfl
theorem zri (op a b c:Int) (h0:0≤op∧op≤7) (h1:0≤a∧a≤127) (h2:0≤b∧b≤127) (h3:0≤c∧c≤127):FnC Tryz.prog 120 [orAV op a b c] (.t [iv .i64 (encW op a b c),iv .i64 0]):=by
 have st:=zkG op a b c h0 h1 h2 h3;have p1:=zjj op a (by omega) h1;have p2:=zjj (op * 128+a) b (by omega) h2;have p3:=zjj ((op * 128+a) * 128+b) c (by omega) h3;unfold encW;refine hdC Tryz.func120 Tryz.ntmps120 (res:=[.tmp 2,.tmp 3]) fun w0 K0=>?_
 repeat' first|refine zd ?_|((first|refine zf ?_|refine zi ?_|refine regA ?_|refine drA (id:=3) 10 false [0,1,0,4,15,0,32,127,0,256,1023,2047,4095] ?_|refine zsn (st) ?_|refine zsp (p1) ?_|refine zsp (p2) ?_|refine zsn (p3) ?_|fail);conv=>whnf)|(refine zss rfl ?_)|((refine andA ?_);conv=>whnf)|fail
 rfl
abbrev emS (f:FormT) (st k:Nat) (xs:List (List PV)):Sg:=[(60,.box [.d (zac f.vars),.d (zS f.code),.o 61 st k]),(61,.chain 3 1 st xs)]
theorem zgo (f:FormT) (op a b:Int) (st k:Nat) (xs:List (List PV)) (hk:k≤xs.length) (hk2:k≤126) (h0:0≤op∧op≤7) (h1:0≤a∧a≤127) (h2:0≤b∧b≤127) :
  ACall Tryz.prog 78 [.x (.b 60 0),.x (.d (.s 4 [orPV op a b 0]))] (emS f st k xs) (fun r σ'=>r=.t []∧σ'=emS f (st+1) (k+1) (xs.take k ++ [iPV (encW op a b (k+1))])):=by
 have en:=zri op a b ((k:Int)+1) h0 h1 h2 (by omega);generalize encW op a b ((k:Int)+1)=E at *;have g1:k + [iPV E].length≤maxLen:=by show k+1≤_;unfold maxLen;omega
 have g2:(k + [iPV E].length) * 8≤140737488355328:=by show (k+1) * 8≤_;omega
 refine hdD Tryz.func78 Tryz.ntmps78 (res:=[]) fun w0 K0 B=>?_
 repeat' first|refine zd ?_|refine zc ?_|((refine regA ?_);conv=>whnf)|(refine lnA fun hln=>?_;conv=>whnf)|fail
 refine zJ (fun j:Nat=>[(10,iv .i64 j),(9,iv .i64 1),(8,.x (.d (.s 4 [orPV op a b 0]))),(0,.x (.b 60 0))])
  (fun j=>emS f (st+j) (k+j) (if j=0 then xs else xs.take k ++ [iPV E])) (fun j=>j≤1) (fun j=>1 - j) 0 (Nat.zero_le _) impA ?_
 intro j hj;have hj':j=0∨j=1:=by omega
 rcases hj' with rfl|rfl
 ·repeat' first|refine zd ?_|refine zc ?_|((first|refine zf ?_|refine regA ?_|refine⟨orPV op a b 0,ze ⟨by omega,rfl⟩,?_⟩|refine zsn (en) ?_|refine And.intro ⟨hk,g1,g2⟩ ?_|fail);conv=>whnf)|(refine zst rfl ?_)|((first|refine zsq ?_|refine andA ?_|fail);conv=>whnf)|(refine lnA fun hln=>?_;conv=>whnf)|fail
  exact⟨1,by omega,by omega,impA⟩
 ·repeat' first|refine zd ?_|((first|refine zk ?_|refine regA ?_|fail);conv=>whnf)|(refine zss rfl ?_)|fail
  all_goals trace_state
  exact⟨_,emS f (st+1) (k+1) (xs.take k ++ [iPV E]),⟨rfl,rfl,trivial⟩,rfl,rfl,rfl,rfl⟩
end Go.Proofs.YtdgkljfpaddfpaaGreatDoor
namespace Go.Proofs.YtdgkljfpaddfpaaGreatDoor
open Go Go.QL Go.RowKit Go.Shelf FoT
set_option maxHeartbeats 1600000
attribute [local irreducible] ACall FnC
def zoi:Go.Shelf.Ren:=⟨fun|4=>121|n=>n,fun|0=>0|3=>3|4=>4|9=>9|20=>20|22=>32|25=>3|n=>n,fun n=>n⟩
theorem zmD:Go.Proofs.Lays8.n4 Tryz.prog zoi:={
 mixed:=by kernel_rfl
 f4:=⟨Tryz.f121.name,by kernel_rfl,Tryz.func121.trans (congrArg some (by kernel_rfl))⟩
 t0:=Tryz.underlying0
 a0:=Tryz.isAgg0
 z0:=Tryz.sizeOf0
 v0:=Tryz.zeroValue0
 t3:=Tryz.underlying3
 a3:=Tryz.isAgg3
 z3:=Tryz.sizeOf3
 v3:=Tryz.zeroValue3
 t4:=Tryz.underlying4
 a4:=Tryz.isAgg4
 z4:=Tryz.sizeOf4
 v4:=Tryz.zeroValue4
 t9:=Tryz.underlying9
 a9:=Tryz.isAgg9
 z9:=Tryz.sizeOf9
 v9:=Tryz.zeroValue9
 t20:=Tryz.underlying20
 a20:=Tryz.isAgg20
 z20:=Tryz.sizeOf20
 v20:=Tryz.zeroValue20
 t22:=Tryz.underlying32
 a22:=Tryz.isAgg32
 z22:=Tryz.sizeOf32
 v22:=Tryz.zeroValue32 }
theorem zqa (n:Nat) (h0:0 < n) (hn:n≤100000):ACall Tryz.prog 121 [.x (.d (.v (.slice none 0 0))),iv .i64 n] [] (fun r σ'=>r=.x (.o 50 0 0)∧σ'=[(50,.chain 3 1 0 [])]):=by
 unfold ACall;refine⟨⟨_,Tryz.func121,rfl,rfl⟩,fun w0 K0 g w vs hL hp hs' hv=>?_⟩
 obtain⟨u,v,rfl⟩:∃ u v,vs = #[u,v]:=by
  match vs,hs' with
  | ⟨[u,v]⟩,_=>exact⟨u,v,rfl⟩
 have h2:=zm (hv 0 (.x (.d (.v (.slice none 0 0)))) u rfl rfl);have h3:=zm (hv 1 (iv .i64 n) v rfl rfl);subst h2;subst h3;obtain⟨info,z,i1,i2,i3,i4,i5⟩:=(hTt 3 _ rfl).info;have hsz:info.size=1:=i2;have hby:info.bytes=8:=i3;have hzl:z.cells.size=1:=by rw [i5];rfl
 refine (show Calls Tryz.prog 121 #[.slice none 0 0,.int .i64 n] w _ from Any8.slices_Grow_grow zmD info z i1 i4 (by omega) none 0 0 n [] w (by omega) (by omega) (by rw [hby];omega) (by omega) (by simp) (fun _=>rfl) (fun a h=>by cases h)).mono ?_
 rintro e w' ⟨rfl,rfl⟩;have hd1:=hp.grow (w':=w.drew) (K':=g.K) (Below.refl w.heap.size w).drew ⟨fun _ _ h=>h,fun b o hk=>rfl⟩ (fun _ _ _ h=>h) (fun b o hk=>hp.val b o hk);have hcap:grownCap w (0+n) 0 3≤maxLen:=grownCap_le_maxLen w (0+n) 0 3 (by unfold maxLen;omega);have hge:0+n≤grownCap w (0+n) 0 3:=grownCap_ge w _ _ _;have hge2:=hge;rw [Nat.zero_add] at hge2;have hd2:=hd1.hp.addChain 50 rfl 3 1 (grownCap w (0+n) 0 3) [] (([]:List Value).toArray ++ Builtin.zeroCells z.cells (0+n - 0) ++ Builtin.zeroCells z.cells (grownCap w (0+n) 0 3 - (0+n))) (by simp) hcap
  (by simp [Builtin.zeroCells,hzl];omega) (by simp) (fun i x h=>by simp at h)
 refine⟨_,_,_,_,rfl,hd1.trans hd2,?_,rfl,rfl⟩
 refine .o 50 0 0 3 1 [] _ _ rfl (Nat.le_refl _) ?_
 dsimp only;rw [zy];rfl
theorem zlQ {tt:TT} {a:Nat} {fr:Fr} {σ:Sg} {c st n:Nat} {e:TypeId} {sz:Nat} {xs:List (List PV)} (h1:lk a fr=some (.x (.o c st n))) (h3:lk c σ=some (.chain e sz st xs)) (h4:n≤xs.length) :
  za6 tt [.tmp a] fr σ=some (.x (.d (.s sz (xs.take n)))):=by
 simp [za6,zbY,zhp,h1,zd1,zbV,zbW,zbq,h3,h4]
theorem zN {l:List Int}:(l.map fun n=>[PV.v (.int .i64 n)]).length=l.length:=List.length_map _
theorem zmV (a b c d:List Int) (h1:0 < a.length) (ha:a.length≤1000) (hb':b.length≤1000) (hc:c.length≤1000) (hd:d.length≤1000) :
  FnC Tryz.prog 79 [.x (.d (.s 1 [[zR a],[zR b],[zR c],[zR d]]))] (sl (a ++ b ++ c ++ d)):=by
 have gr:=zqa (a.length+b.length+c.length+d.length) (by omega) (by omega);refine hdC Tryz.func79 Tryz.ntmps79 (res:=[.tmp 2]) fun w0 K0=>?_
 repeat' first|refine zd ?_|refine zc ?_|((refine regA ?_);conv=>whnf)|(refine lnA fun hln=>?_;conv=>whnf)|fail
 refine zJ (fun x:Nat × Nat=>[(11,iv .i64 x.1),(10,iv .i64 4),(9,.x (.d (.s 1 [[zR a],[zR b],[zR c],[zR d]]))),(0,.x (.d (.s 1 [[zR a],[zR b],[zR c],[zR d]]))),(3,iv .i64 x.2)]) (fun _=>[])
  (fun x=>(x.1=0∧x.2=0)∨(x.1=1∧x.2=a.length)∨(x.1=2∧x.2=a.length+b.length)∨(x.1=3∧x.2=a.length+b.length+c.length)∨(x.1=4∧x.2=a.length+b.length+c.length+d.length)) (fun x=>4 - x.1) (0,0) (.inl ⟨rfl,rfl⟩) impA ?_
 rintro⟨i,m⟩ h;dsimp only at h ⊢;rcases h with ⟨rfl,rfl⟩|⟨rfl,rfl⟩|⟨rfl,rfl⟩|⟨rfl,rfl⟩|⟨rfl,rfl⟩
 ·repeat' first|refine zd ?_|refine zc ?_|((first|refine zf ?_|refine regA ?_|refine⟨[zR a],ze ⟨by omega,rfl⟩,?_⟩|fail);conv=>whnf)|(refine zst rfl ?_)|(refine zss rfl ?_)|((first|refine zsq ?_|refine andA ?_|fail);conv=>whnf)|(refine lnA fun hln=>?_;conv=>whnf)|fail
  exact⟨(1,a.length),.inr (.inl ⟨rfl,rfl⟩),by show 4 - 1 < 4 - 0;decide,(impX (by repeat' (first|exact trivial|refine And.intro ?_ ?_|exact ivE (show ((0:Nat):Int)+1=((1:Nat):Int) from rfl)|exact ivE (by rw [zN];push_cast;omega)|exact zsw)))⟩
 ·repeat' first|refine zd ?_|refine zc ?_|((first|refine zf ?_|refine regA ?_|refine⟨[zR b],ze ⟨by omega,rfl⟩,?_⟩|fail);conv=>whnf)|(refine zst rfl ?_)|(refine zss rfl ?_)|((first|refine zsq ?_|refine andA ?_|fail);conv=>whnf)|(refine lnA fun hln=>?_;conv=>whnf)|fail
  exact⟨(2,a.length+b.length),.inr (.inr (.inl ⟨rfl,rfl⟩)),by show 4 - 2 < 4 - 1;decide,(impX (by repeat' (first|exact trivial|refine And.intro ?_ ?_|exact ivE (show ((1:Nat):Int)+1=((2:Nat):Int) from rfl)|exact ivE (by rw [zN];push_cast;omega)|exact zsw)))⟩
 ·repeat' first|refine zd ?_|refine zc ?_|((first|refine zf ?_|refine regA ?_|refine⟨[zR c],ze ⟨by omega,rfl⟩,?_⟩|fail);conv=>whnf)|(refine zst rfl ?_)|(refine zss rfl ?_)|((first|refine zsq ?_|refine andA ?_|fail);conv=>whnf)|(refine lnA fun hln=>?_;conv=>whnf)|fail
  exact⟨(3,a.length+b.length+c.length),.inr (.inr (.inr (.inl ⟨rfl,rfl⟩))),by show 4 - 3 < 4 - 2;decide,(impX (by repeat' (first|exact trivial|refine And.intro ?_ ?_|exact ivE (show ((2:Nat):Int)+1=((3:Nat):Int) from rfl)|exact ivE (by rw [zN];push_cast;omega)|exact zsw)))⟩
 ·repeat' first|refine zd ?_|refine zc ?_|((first|refine zf ?_|refine regA ?_|refine⟨[zR d],ze ⟨by omega,rfl⟩,?_⟩|fail);conv=>whnf)|(refine zst rfl ?_)|(refine zss rfl ?_)|((first|refine zsq ?_|refine andA ?_|fail);conv=>whnf)|(refine lnA fun hln=>?_;conv=>whnf)|fail
  exact⟨(4,a.length+b.length+c.length+d.length),.inr (.inr (.inr (.inr ⟨rfl,rfl⟩))),by show 4 - 4 < 4 - 3;decide,(impX (by repeat' (first|exact trivial|refine And.intro ?_ ?_|exact ivE (show ((3:Nat):Int)+1=((4:Nat):Int) from rfl)|exact ivE (by rw [zN];push_cast;omega)|exact zsw)))⟩
 ·repeat' first|refine zd ?_|refine zc ?_|((first|refine zk ?_|refine regA ?_|refine frA (gr) [(50,900)] ?_|fail);conv=>whnf)|(refine zss rfl ?_)|(refine lnA fun hln=>?_;conv=>whnf)|fail
  refine zJ (fun x:Nat × List Int=>[(27,iv .i64 x.1),(26,iv .i64 4),(25,.x (.d (.s 1 [[zR a],[zR b],[zR c],[zR d]]))),(6,.x (.o 900 x.1 x.2.length))]) (fun x=>[(900,.chain 3 1 x.1 (x.2.map fun n=>[PV.v (.int .i64 n)]))])
   (fun x=>(x.1=0∧x.2=[])∨(x.1=1∧a=x.2)∨(x.1=2∧x.2=a ++ b)∨(x.1=3∧x.2=a ++ b ++ c)∨(x.1=4∧x.2=a ++ b ++ c ++ d)) (fun x=>4 - x.1) (0,[]) (.inl ⟨rfl,rfl⟩) impA ?_
  rintro⟨i,l⟩ h;dsimp only at h ⊢;rcases h with ⟨rfl,rfl⟩|⟨rfl,rfl⟩|⟨rfl,rfl⟩|⟨rfl,rfl⟩|⟨rfl,rfl⟩
  ·have g0:(([]:List Int)).length≤((([]:List Int)).map fun n=>[PV.v (.int .i64 n)]).length:=by rw [zN];exact Nat.le_refl _
   have g1:(([]:List Int)).length+((a).map fun n=>[PV.v (.int .i64 n)]).length≤maxLen:=by rw [zN];(try simp only [List.length_append,List.length_nil]);unfold maxLen;omega
   have g2:((([]:List Int)).length+((a).map fun n=>[PV.v (.int .i64 n)]).length) * 8≤140737488355328:=by rw [zN];(try simp only [List.length_append,List.length_nil]);omega
   have e:((([]:List Int)).map fun n=>[PV.v (.int .i64 n)]).take (([]:List Int)).length ++ ((a).map fun n=>[PV.v (.int .i64 n)])=((a)).map fun n=>[PV.v (.int .i64 n)]:=by
    rw [List.take_of_length_le (by rw [zN];exact Nat.le_refl _)];rfl
   repeat' first|refine zd ?_|refine zc ?_|((first|refine zf ?_|refine regA ?_|refine⟨[zR a],ze ⟨by omega,rfl⟩,?_⟩|refine And.intro ⟨g0,g1,g2⟩ ?_|fail);conv=>whnf)|(refine zst rfl ?_)|((first|refine zsq ?_|refine andA ?_|fail);conv=>whnf)|fail
   exact⟨(1,(a)),.inr (.inl ⟨rfl,rfl⟩),by show 4 - 1 < 4 - 0;decide,(impX (by repeat' (first|exact trivial|refine And.intro ?_ ?_|exact ivE (show ((0:Nat):Int)+1=((1:Nat):Int) from rfl)|exact oE (by rw [zN];exact List.length_append.symm)|exact oE (by rw [zN];exact Nat.zero_add _)|exact chE e|exact zsw)))⟩
  ·have g0:((a)).length≤(((a)).map fun n=>[PV.v (.int .i64 n)]).length:=by rw [zN];exact Nat.le_refl _
   have g1:((a)).length+((b).map fun n=>[PV.v (.int .i64 n)]).length≤maxLen:=by rw [zN];(try simp only [List.length_append,List.length_nil]);unfold maxLen;omega
   have g2:(((a)).length+((b).map fun n=>[PV.v (.int .i64 n)]).length) * 8≤140737488355328:=by rw [zN];(try simp only [List.length_append,List.length_nil]);omega
   have e:(((a)).map fun n=>[PV.v (.int .i64 n)]).take ((a)).length ++ ((b).map fun n=>[PV.v (.int .i64 n)])=((a ++ b)).map fun n=>[PV.v (.int .i64 n)]:=by
    rw [List.take_of_length_le (by rw [zN];exact Nat.le_refl _)];exact List.map_append.symm
   repeat' first|refine zd ?_|refine zc ?_|((first|refine zf ?_|refine regA ?_|refine⟨[zR b],ze ⟨by omega,rfl⟩,?_⟩|refine And.intro ⟨g0,g1,g2⟩ ?_|fail);conv=>whnf)|(refine zst rfl ?_)|((first|refine zsq ?_|refine andA ?_|fail);conv=>whnf)|fail
   exact⟨(2,(a ++ b)),.inr (.inr (.inl ⟨rfl,rfl⟩)),by show 4 - 2 < 4 - 1;decide,(impX (by repeat' (first|exact trivial|refine And.intro ?_ ?_|exact ivE (show ((1:Nat):Int)+1=((2:Nat):Int) from rfl)|exact oE (by rw [zN];exact List.length_append.symm)|exact oE (by rw [zN];exact Nat.zero_add _)|exact chE e|exact zsw)))⟩
  ·have g0:((a ++ b)).length≤(((a ++ b)).map fun n=>[PV.v (.int .i64 n)]).length:=by rw [zN];exact Nat.le_refl _
   have g1:((a ++ b)).length+((c).map fun n=>[PV.v (.int .i64 n)]).length≤maxLen:=by rw [zN];(try simp only [List.length_append,List.length_nil]);unfold maxLen;omega
   have g2:(((a ++ b)).length+((c).map fun n=>[PV.v (.int .i64 n)]).length) * 8≤140737488355328:=by rw [zN];(try simp only [List.length_append,List.length_nil]);omega
   have e:(((a ++ b)).map fun n=>[PV.v (.int .i64 n)]).take ((a ++ b)).length ++ ((c).map fun n=>[PV.v (.int .i64 n)])=((a ++ b ++ c)).map fun n=>[PV.v (.int .i64 n)]:=by
    rw [List.take_of_length_le (by rw [zN];exact Nat.le_refl _)];exact List.map_append.symm
   repeat' first|refine zd ?_|refine zc ?_|((first|refine zf ?_|refine regA ?_|refine⟨[zR c],ze ⟨by omega,rfl⟩,?_⟩|refine And.intro ⟨g0,g1,g2⟩ ?_|fail);conv=>whnf)|(refine zst rfl ?_)|((first|refine zsq ?_|refine andA ?_|fail);conv=>whnf)|fail
   exact⟨(3,(a ++ b ++ c)),.inr (.inr (.inr (.inl ⟨rfl,rfl⟩))),by show 4 - 3 < 4 - 2;decide,(impX (by repeat' (first|exact trivial|refine And.intro ?_ ?_|exact ivE (show ((2:Nat):Int)+1=((3:Nat):Int) from rfl)|exact oE (by rw [zN];exact List.length_append.symm)|exact oE (by rw [zN];exact Nat.zero_add _)|exact chE e|exact zsw)))⟩
  ·have g0:((a ++ b ++ c)).length≤(((a ++ b ++ c)).map fun n=>[PV.v (.int .i64 n)]).length:=by rw [zN];exact Nat.le_refl _
   have g1:((a ++ b ++ c)).length+((d).map fun n=>[PV.v (.int .i64 n)]).length≤maxLen:=by rw [zN];(try simp only [List.length_append,List.length_nil]);unfold maxLen;omega
   have g2:(((a ++ b ++ c)).length+((d).map fun n=>[PV.v (.int .i64 n)]).length) * 8≤140737488355328:=by rw [zN];(try simp only [List.length_append,List.length_nil]);omega
   have e:(((a ++ b ++ c)).map fun n=>[PV.v (.int .i64 n)]).take ((a ++ b ++ c)).length ++ ((d).map fun n=>[PV.v (.int .i64 n)])=((a ++ b ++ c ++ d)).map fun n=>[PV.v (.int .i64 n)]:=by
    rw [List.take_of_length_le (by rw [zN];exact Nat.le_refl _)];exact List.map_append.symm
   repeat' first|refine zd ?_|refine zc ?_|((first|refine zf ?_|refine regA ?_|refine⟨[zR d],ze ⟨by omega,rfl⟩,?_⟩|refine And.intro ⟨g0,g1,g2⟩ ?_|fail);conv=>whnf)|(refine zst rfl ?_)|((first|refine zsq ?_|refine andA ?_|fail);conv=>whnf)|fail
   exact⟨(4,(a ++ b ++ c ++ d)),.inr (.inr (.inr (.inr ⟨rfl,rfl⟩))),by show 4 - 4 < 4 - 3;decide,(impX (by repeat' (first|exact trivial|refine And.intro ?_ ?_|exact ivE (show ((3:Nat):Int)+1=((4:Nat):Int) from rfl)|exact oE (by rw [zN];exact List.length_append.symm)|exact oE (by rw [zN];exact Nat.zero_add _)|exact chE e|exact zsw)))⟩
  ·repeat' first|refine zd ?_|((first|refine zk ?_|refine zi ?_|refine regA ?_|fail);conv=>whnf)|(refine zss rfl ?_)|fail
   rw [zlQ rfl rfl (by rw [zN];exact Nat.le_refl _),List.take_of_length_le (by rw [zN];exact Nat.le_refl _)];rfl
end Go.Proofs.YtdgkljfpaddfpaaGreatDoor
