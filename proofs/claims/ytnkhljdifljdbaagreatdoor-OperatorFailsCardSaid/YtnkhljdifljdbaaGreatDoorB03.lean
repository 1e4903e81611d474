/- The logic of walks, and what the functions of the program return: part 3. No condition. -/
import Derived.Test.YtnkhljdifljdbaaGreatDoorB02
import Derived.Lib.SlicesS
import Derived.Shelf.LaysM
import Derived.Shelf.LaysC
import Derived.Shelf.Strconv.Itoa3
import Derived.Shelf.Strconv.AtoiAll
import Derived.Shelf.Strconv.ErrVarAll
import Derived.Shelf.Strings.Split
import Derived.Shelf.Strings.OnBuilder
import Derived.Shelf.Strings.BuilderK
import Derived.Shelf.Small.Wraps
import Derived.Test.YtnkhljdifljdbaaGreatDoorProg
import Derived.Lib.AppendIntMem
import Derived.Lib.ItoaLen
import Derived.Lib.SplitLaws
import Derived.Lib.AtoiErrMem
import Derived.LoopNIn
set_option linter.all false
noncomputable section
namespace Go.QL
open Go Go.RowKit
def zm8 (P:Program) (f:FuncId) (args:List AV) (σ:Sg) (u:FrameMode) (R:FrameMode→Sg→Prop):Prop:=
 Good P f∧∀ (w0:World) (K0:Bs) (g:Gh) (w:World) (vs:Array Value),Laid P K0.K w0→Hp w0 K0 σ g w→vs.size=args.length →
  (∀ (i:Nat) (x:AV) (v:Value),args[i]?=some x→vs[i]?=some v→VR2 σ g w x v) →
  CallsDIn Fence.wide 0 P f vs u w fun e u' w'=>∃ v g' σ',e=.returned v∧Did w0 K0 σ g w σ' g' w'∧R u' σ'
def AWx (P:Program) (Γ:Cx) (c:Code) (E:Exit→Act→World→Prop) (fr:Fr) (σ:Sg):Prop:=
 Laid P Γ.K0.K Γ.w0→∀ g a w,Rel Γ fr σ g a w→c.wpIn (FX Γ.ro) 0 P E a w
def DF (B B':SV→Value→Prop) (fid:FuncId) (first captured:List SV) (d:Deferred):Prop:=
 (∀ s v,B s v→B' s v)∧∃ v1 v2,B' (.f (.func fid) first captured) (.func (.func fid) v1 v2)∧d=⟨.fn (.func fid) v2,v1⟩
abbrev Cx.dfrd (Γ:Cx) (σ:Sg) (B':SV→Value→Prop) (d:Deferred):Cx:=⟨Γ.w0,Γ.K0,Γ.nt,B',σ.map (·.1),Γ.ro,Γ.dfs,d :: Γ.bs⟩
def zjQ (P:Program) (tt:TT) (Γ:Cx) (all:List Oper) (k:Cx→Fr→Sg→Prop):List Oper→Fr→Sg→Prop
 | [],_,_=>False
 | o::r,fr,σ=>
  match o.guard,o.dst,o.op with
  | none,none,.defer ⟨.value f,args,_⟩=>args.toList=[]∧ev1 fr none f fun fv=>
   (match fv with
   | .x (.f (.func fid) first captured)=>(Γ.dfs.all fun i=>!(lk i σ).isSome)=true∧∀ B' d,DF Γ.B B' fid first captured d→zah P tt Γ.nt all (fun fr' σ'=>k (Γ.dfrd σ B' d) fr' σ') r fr σ
   | _=>False)
  | _,_,_=>zah P tt Γ.nt all (fun fr' σ'=>zjQ P tt Γ all k r fr' σ') [o] fr σ
section
variable {P:Program} {Γ:Cx} {fr:Fr} {σ:Sg}
theorem zrx {c:Code} {Q:Exit→Fr→Sg→Prop} {E:Exit→Act→World→Prop} (h:AW P Γ c Q fr σ) (hq:∀ e fr σ g a w,Rel Γ fr σ g a w→Q e fr σ→E e a w):AWx P Γ c E fr σ:=
 fun hL g a w hr=>wpIn_mono (h.use hL hr) fun e a w ⟨fr,σ,g,r,q⟩=>hq e fr σ g a w r q
theorem zm9 {x y:Code} {Q:Exit→Fr→Sg→Prop} {E:Exit→Act→World→Prop} (h:AW P Γ x (Exit.thn (AWx P Γ y E) Q) fr σ) (hq:∀ e fr σ g a w,Rel Γ fr σ g a w→Q e fr σ→E e a w):AWx P Γ (.seq x y) E fr σ:=by
 intro hL g a w hr;refine wpIn_seq (wpIn_mono (h.use hL hr) ?_)
 intro e a w ⟨fr,σ,g,r,q⟩;cases e with
 | normal=>exact q hL g a w r
 | ret=>exact hq _ _ _ _ _ _ r q
 | exit _=>exact hq _ _ _ _ _ _ r q
 | goto _=>exact hq _ _ _ _ _ _ r q
 | panic _=>exact hq _ _ _ _ _ _ r q
 | outgrown=>exact hq _ _ _ _ _ _ r q
theorem Rel.dfrd {g:Gh} {a:Act} {w:World} (hr:Rel Γ fr σ g a w) (hno:(Γ.dfs.all fun i=>!(lk i σ).isSome)=true) (d:Deferred):Rel (Γ.dfrd σ (SR σ g w) d) fr σ g { a with defers:=d::a.defers } w:=by
 refine⟨hr.hp,hr.fr,hr.size,?_,fun s v h=>⟨h,h.inI⟩⟩
 obtain⟨ms,hms,is,h1,h2,h3⟩:=hr.defers;have:ms=[]:=by
  cases ms with
  | nil=>rfl
  | cons x r=>
   cases is with
   | nil=>cases h2
   | cons i r'=>
    obtain⟨hi,hl,_⟩:=h3 0 i x rfl rfl;rw [List.all_eq_true] at hno;have:=hno i hi;rw [hl] at this;cases this
 subst this;exact⟨[],by show d::a.defers=_;rw [hms];rfl,DR.empty⟩
theorem zhP {tt:TT} (htt:tt.ok P) (hro:Γ.ro=none) (hL:Laid P Γ.K0.K Γ.w0) {all:List Oper} {k:Cx→Fr→Sg→Prop} {E:Exit→Act→World→Prop} {K:Act→World→Prop}
  (hk:∀ σ0 B' d fr σ g a w,Rel (Γ.dfrd σ0 B' d) fr σ g a w→k (Γ.dfrd σ0 B' d) fr σ→K a w):∀ (rest:List Oper) (fr:Fr) (σ:Sg),zjQ P tt Γ all k rest fr σ →
  ∀ (g:Gh) (a:Act) (w:World),Rel Γ fr σ g a w→wpLk Γ.ro P all.toArray E K rest a w
 | [],fr,σ,h,g,a,w,hr=>h.elim
 | o::rest,fr,σ,h,g,a,w,hr=>by
  have ih:=fun fr σ=>zhP htt hro hL (all:=all) (E:=E) hk rest fr σ
  unfold zjQ at h;split at h
  ·rename_i f args ts hg hdst ho;obtain⟨ha,h⟩:=h;obtain⟨fv,h,hfv⟩:=zK h;split at h
   ·rename_i fid first captured
    obtain⟨hno,h⟩:=h;have hsr:SR σ g w (.f (.func fid) first captured) (a.eval f):=hfv (.inl rfl) Γ σ g a w hr;generalize hae:a.eval f=fval at hsr;have hsr0:=hsr;cases hsr with
    | f _ _ _ v1 v2 s1 s2 r1 r2=>
     unfold wpLk;rw [if_pos (show Region.wanted o _=true by simp [Region.wanted,hg])];refine⟨fun _ _=>trivial,?_⟩
     obtain⟨args⟩:=args;simp only at ha;subst ha;have hrun:(o.semAt (FX Γ.ro).round a.eval).run P w=.ok (.defer ⟨.fn (.func fid) v2,v1⟩) w:=by
      rw [show (FX Γ.ro).round=none from hro,Oper.semAt_none];simp [execOp,ho,resolve,Deferred.ofValue,hae]
     rw [hrun];show wpLk Γ.ro P all.toArray E K rest ({ a with defers:=⟨.fn (.func fid) v2,v1⟩::a.defers }.put o.dst undef) w
     rw [hdst];show wpLk Γ.ro P all.toArray E K rest { a with defers:=⟨.fn (.func fid) v2,v1⟩::a.defers } w
     have hr':=hr.dfrd hno ⟨.fn (.func fid) v2,v1⟩;exact zaJ (Γ:=Γ.dfrd σ (SR σ g w) ⟨.fn (.func fid) v2,v1⟩) htt hL (Qx:=E) (K:=K) (fun fr σ g a w hr h=>hk _ _ _ _ _ _ _ _ hr h) rest fr σ
      (h (SR σ g w) _ ⟨fun s v hb=>(hr.base s v hb).1,v1,v2,hsr0,rfl⟩) g _ w hr'
   ·exact h.elim
  ·have h2:=zaJ (Γ:=Γ) htt hL (Qx:=E) (K:=wpLk Γ.ro P all.toArray E K rest) (fun fr2 σ2 g2 a2 w2 hr2 hv2=>ih fr2 σ2 hv2 g2 a2 w2 hr2) [o] fr σ h g a w hr;unfold wpLk at h2 ⊢;exact h2
theorem zna {tt:TT} (htt:tt.ok P) (hro:Γ.ro=none) {id:Nat} {ops:List Oper} {y:Code} {E:Exit→Act→World→Prop} (h:zjQ P tt Γ ops (fun Γ' fr σ=>AWx P Γ' y E fr σ) ops fr σ):AWx P Γ (.seq (.region id ops.toArray false) y) E fr σ:=by
 intro hL g a w hr;refine wpIn_seq (wpIn_region_lit ?_)
 exact zhP htt hro hL (E:=Exit.then (y.wpIn (FX Γ.ro) 0 P E) E) (K:=fun a w=>y.wpIn (FX Γ.ro) 0 P E a w) (fun σ0 B' d fr σ g a w hr h=>h hL g a w hr) ops fr σ h g a w hr
end
section
variable {P:Program} {Γ:Cx} {w0:World} {K0:Bs} {fr:Fr} {σ σ':Sg} {g:Gh} {a:Act} {w:World}
theorem zhk (hs:Sup σ' σ) (hr:rsSg σ' σ'=true):∀ (is:List Nat) (ds:List Deferred) (w:World),is.Nodup→is.length=ds.length→Hp w0 K0 σ' g w →
  (∀ i ∈ is,lk i σ'=none) →
  (∀ (k i:Nat) (x:Deferred),is[k]?=some i→ds[k]?=some x→∃ d,g.μ i=.pointer (some ⟨d,0,none⟩)∧x=⟨.collected d,#[]⟩∧w.heap[d]?=some (.deferred (some []))∧(∀ o,¬ g.K d o)∧¬ K0.F d∧(∀ id,(lk id σ').isSome→blk (g.μ id)≠some d)) →
  (∀ (i j:Nat),i ∈ is→j ∈ is→∀ b,blk (g.μ i)=some b→blk (g.μ j)=some b→i=j) →
  ∃ w1,Hp w0 K0 σ' g w1∧(∀ s v,SR σ' g w s v→SR σ' g w1 s v)∧w1.heap.size=w.heap.size ∧
   ∀ (F:Fence) (n:Nat) (fn:Func) (tmps:Array Value) (R:Ending→World→Prop),∀ (u:FrameMode) (bs:List Deferred),u≠.run→LeavesInM F n P fn tmps R bs u w1→LeavesInM F n P fn tmps R (ds ++ bs) u w
 | [],ds,w,_,hl,hp,_,_,_=>by
  cases ds with
  | nil=>exact⟨w,hp,fun _ _ h=>h,rfl,fun _ _ _ _ _ _ _ _ h=>h⟩
  | cons _ _=>cases hl
 | i::is,ds,w,hnd,hl,hp,hno,hx,hinj=>by
  cases ds with
  | nil=>cases hl
  | cons x ds=>
   rw [List.nodup_cons] at hnd;obtain⟨d,hμ,rfl,hheap,hK,hF,hother⟩:=hx 0 i x rfl rfl;have hbi:blk (g.μ i)=some d:=by rw [hμ];rfl
   let w1:=putO w d (.deferred none)
   have hext:Ext g.K w g.K w1:=⟨fun _ _ h=>h,fun b o hk=>World.cell?_of_block (w:=w) (a:=⟨b,o,none⟩) (zan (fun e=>hK o (e ▸ hk)))⟩;have hkeep:∀ s v,SR σ' g w s v→SR σ' g w1 s v:=fun s v h=>
    SR.keep (σ:=σ') (σ':=σ') (g:=g) (g':=g) (w:=w) (w':=w1) (Compat.refl σ' g) hext h
   have hp1:Hp w0 K0 σ' g w1:=by
    refine⟨?_,hp.flt,hp.ext.trans hext,hp.old,fun b o hk=>by have:=hp.val b o hk;simpa [w1] using this,fun id obj hid=>?_,hp.own,hp.inj⟩
    ·exact hp.kept.trans ⟨rfl,rfl,rfl,by simp [w1],fun k hk=>zan (fun e=>hF (e ▸ hk))⟩
    ·exact (hp.obs id obj hid).keep hkeep hext rfl (fun b hb=>zan (fun e=>hother id (by rw [hid];rfl) (e ▸ hb))) (fun b hb o=>hp.notK hid hb o)
   have ih:=zhk hs hr is ds w1 hnd.2 (by simpa using hl) hp1 (fun j hj=>hno j (List.mem_cons_of_mem _ hj)) (fun k j y hj hy=>?_) (fun j k hj hk=>hinj j k (List.mem_cons_of_mem _ hj) (List.mem_cons_of_mem _ hk))
   ·obtain⟨w2,q1,q2,q3,q4⟩:=ih;refine⟨w2,q1,fun s v h=>q2 s v (hkeep s v h),by rw [q3];simp [w1],fun F n fn tmps R u bs hu h=>?_⟩
    refine⟨hu,.inl ⟨d,w1,rfl,run_takeDeferred hheap,q4 F n fn tmps R u bs hu h⟩⟩
   ·obtain⟨d',p1,p2,p3,p4,p5,p6⟩:=hx (k+1) j y hj hy;refine⟨d',p1,p2,?_,p4,p5,p6⟩
    have hjm:j ∈ is:=List.mem_of_getElem? hj;have hne:d'≠d:=fun e=>by
     have:=hinj j i (List.mem_cons_of_mem _ hjm) (by simp) d (by rw [p1,e];rfl) hbi;subst this;exact hnd.1 hjm
    show (putO w d (.deferred none)).heap[d']?=_
    rw [zan hne];exact p3
def EndX (P:Program) (fn:Func) (w0:World) (K0:Bs) (σ:Sg) (g:Gh) (w:World) (R:AV→Sg→Prop):Exit→Act→World→Prop:=
 bodyPostM Fence.wide 0 P fn fun e w'=>∃ v g' σ' r,e=.returned v∧Did w0 K0 σ g w σ' g' w'∧VR2 σ' g' w' r v∧R r σ'
theorem zg8 {tt:TT} (htt:tt.ok P) {fn:Func} {res:List ResultVar} (hres:fn.results=res.toArray) {nt:Nat} {dfs:List Nat} {R:AV→Sg→Prop} {e:Exit} {fr:Fr} {τ : Sg} {g':Gh} {a':Act} {w':World}
  (hr:Rel ⟨w0,K0,nt,SR σ g w,σ.map (·.1),none,dfs,[]⟩ fr τ g' a' w') (hq:zk6 tt res (σ.map (·.1)) dfs R e fr τ):EndX P fn w0 K0 σ g w R e a' w':=by
 have fin:zk6 tt res (σ.map (·.1)) dfs R .ret fr τ →
   LeavesInM Fence.wide 0 P fn a'.tmps (fun e w'=>∃ v g' σ' r,e=.returned v∧Did w0 K0 σ g w σ' g' w'∧VR2 σ' g' w' r v∧R r σ') a'.defers .returning w':=by
  rintro⟨fr1,σ1,hsf,hss,hc,r,σ',hsub,hc2,ho,hR⟩;simp only [Bool.and_eq_true,List.all_eq_true,Bool.not_eq_true'] at hc hc2;obtain⟨⟨hcf,hcs⟩,hno⟩:=hc;have hsf:=ze8 hsf;have hss:=za9 hss;have hp1:=hr.hp.weaken hss hcs;obtain⟨ms,hms,is,q1,q2,q3⟩:=hr.defers;obtain rfl:ms=a'.defers:=by simpa using hms.symm
  have hnone:∀ i ∈ is,lk i σ1=none:=fun i hi=>by
   obtain⟨k,hk,he⟩:=List.getElem_of_mem hi;have:=(q3 k i (a'.defers[k]'(by omega)) (by rw [List.getElem?_eq_getElem hk,he]) (List.getElem?_eq_getElem (by omega))).1;have:=hno i this;cases hl:lk i σ1 with
   | none=>rfl
   | some _=>rw [hl] at this;cases this
  have hdfr:∀ i ∈ is,lk i τ = some (.x .dfr):=fun i hi=>by
   obtain⟨k,hk,he⟩:=List.getElem_of_mem hi;exact (q3 k i (a'.defers[k]'(by omega)) (by rw [List.getElem?_eq_getElem hk,he]) (List.getElem?_eq_getElem (by omega))).2.1
  obtain⟨w1,s1,s2,s3,s4⟩:=zhk (P:=P) (w0:=w0) (K0:=K0) (g:=g') hss hcs is a'.defers w' q1 q2 hp1 hnone (fun k i x hi hx=>by
   obtain⟨b1,b2,d,b3,b4⟩:=q3 k i x hi hx;have hbi:blk (g'.μ i)=some d:=by rw [b3];rfl
   obtain⟨b',h1,h2,h3,h4⟩:=hr.hp.obs i _ b2;rw [b3] at h1;cases h1;refine⟨d,b3,b4,h3,h4,hr.hp.own i d (by rw [b2];rfl) hbi,fun id hid hb=>?_⟩
   obtain⟨ob,hob⟩:=Option.isSome_iff_exists.1 hid;have:=hr.hp.inj id i d (by rw [hss _ _ hob];rfl) (by rw [b2];rfl) hb hbi;subst this;rw [hnone id (List.mem_of_getElem? hi)] at hob;cases hob)
   (fun i j hi hj b hb1 hb2=>hr.hp.inj i j b (by rw [hdfr i hi];rfl) (by rw [hdfr j hj];rfl) hb1 hb2)
  rw [← List.append_nil a'.defers];refine s4 Fence.wide 0 fn a'.tmps _ _ [] (by simp) ?_
  have hrel1:Rel ⟨w0,K0,nt,SR σ g w,σ.map (·.1),none,[],[]⟩ fr1 σ1 g' { a' with defers:=[] } w1:=by
   refine⟨s1,fun t v ht=>⟨(hr.fr t v (hsf t v ht)).1,?_⟩,hr.size,DRb.empty,fun s v hb=>⟨s2 _ _ (zai hss hc2.2 (hr.base s v hb).1 (hr.base s v hb).2),(hr.base s v hb).2⟩⟩
   exact (zeQ hss (zaO hcf t v ht) (hr.fr t v (hsf t v ht)).2).keep s2
  have hsup:=za9 hsub;obtain⟨v,hrun,hvr⟩:=zbQ htt hrel1 hsup hres ho;refine zdC hrun ?_
  exact⟨v,_,σ',r,rfl,⟨hrel1.hp.atEnd hsup hc2.1.1,fun s u hs=>zak (zai hsup hc2.1.2 (hrel1.base s u hs).1 (hrel1.base s u hs).2)⟩,hvr,hR⟩
 cases e with
 | normal=>exact fin hq
 | ret=>exact fin hq
 | _=>exact hq.elim
theorem Rel.unmark {nt:Nat} {B:SV→Value→Prop} {ids dfs:List Nat} {bs:List Deferred} {fr fr1:Fr} {τ σ1:Sg} {g':Gh} {a':Act} {w':World} (hr:Rel ⟨w0,K0,nt,B,ids,none,dfs,bs⟩ fr τ g' a' w') (hsf:SubF fr fr1) (hss:SubS τ σ1)
  (hc:(rsFr σ1 fr1 && rsSg σ1 σ1 && dfs.all (fun i=>!(lk i σ1).isSome) && zbC ids σ1)=true) :
  ∃ w1,Rel ⟨w0,K0,nt,B,ids,none,[],bs⟩ fr1 σ1 g' { a' with defers:=bs } w1∧∀ (fn:Func) (tmps:Array Value) (R:Ending→World→Prop) (u:FrameMode),u≠.run→LeavesInM Fence.wide 0 P fn tmps R bs u w1→LeavesInM Fence.wide 0 P fn tmps R a'.defers u w':=by
 simp only [Bool.and_eq_true,List.all_eq_true,Bool.not_eq_true'] at hc;obtain⟨⟨⟨hcf,hcs⟩,hno⟩,hids⟩:=hc;have hsf:=ze8 hsf;have hss:=za9 hss;have hp1:=hr.hp.weaken hss hcs;obtain⟨ms,hms,is,q1,q2,q3⟩:=hr.defers;have hdi:∀ i ∈ is,i ∈ dfs∧lk i τ = some (.x .dfr):=fun i hi=>by
  obtain⟨k,hk,he⟩:=List.getElem_of_mem hi;have:=q3 k i (ms[k]'(by omega)) (by rw [List.getElem?_eq_getElem hk,he]) (List.getElem?_eq_getElem (by omega));exact⟨this.1,this.2.1⟩
 have hnone:∀ i ∈ is,lk i σ1=none:=fun i hi=>by
  have:=hno i (hdi i hi).1;cases hl:lk i σ1 with
  | none=>rfl
  | some _=>rw [hl] at this;cases this
 obtain⟨w1,s1,s2,s3,s4⟩:=zhk (P:=P) (w0:=w0) (K0:=K0) (g:=g') hss hcs is ms w' q1 q2 hp1 hnone (fun k i x hi hx=>by
  obtain⟨b1,b2,d,b3,b4⟩:=q3 k i x hi hx;have hbi:blk (g'.μ i)=some d:=by rw [b3];rfl
  obtain⟨b',h1,h2,h3,h4⟩:=hr.hp.obs i _ b2;rw [b3] at h1;cases h1;refine⟨d,b3,b4,h3,h4,hr.hp.own i d (by rw [b2];rfl) hbi,fun id hid hb=>?_⟩
  obtain⟨ob,hob⟩:=Option.isSome_iff_exists.1 hid;have:=hr.hp.inj id i d (by rw [hss _ _ hob];rfl) (by rw [b2];rfl) hb hbi;subst this;rw [hnone id (List.mem_of_getElem? hi)] at hob;cases hob)
  (fun i j hi hj b hb1 hb2=>hr.hp.inj i j b (by rw [(hdi i hi).2];rfl) (by rw [(hdi j hj).2];rfl) hb1 hb2)
 refine⟨w1,⟨s1,fun t v ht=>⟨(hr.fr t v (hsf t v ht)).1,?_⟩,hr.size,DRb.empty,fun s v hb=>⟨s2 _ _ (zai hss hids (hr.base s v hb).1 (hr.base s v hb).2),(hr.base s v hb).2⟩⟩,fun fn tmps R u hu h=>?_⟩
 ·exact (zeQ hss (zaO hcf t v ht) (hr.fr t v (hsf t v ht)).2).keep s2
 ·rw [show a'.defers=ms ++ bs from hms];exact s4 Fence.wide 0 fn tmps R u bs hu h
def zhL (P:Program) (tt:TT) (res:List ResultVar) (ids ids' dfs:List Nat) (R:AV→Sg→Prop) (fid:FuncId) (first captured:List SV) (u:FrameMode) (fr:Fr) (τ : Sg):Prop:=
 ∃ fr1 σ1,SubF fr fr1∧SubS τ σ1∧(rsFr σ1 fr1 && rsSg σ1 σ1 && dfs.all (fun i=>!(lk i σ1).isSome) && zbC ids' σ1)=true ∧
  ∃ Rd,zm8 P fid (first.map .x ++ captured.map .x) σ1 u Rd∧∀ u' σ2,Rd u' σ2→settle u'=.returning ∧
   ∃ r σ',SubS σ2 σ'∧(rsSg σ' σ' && zbC ids σ')=true∧zb0 tt res fr1 σ2 σ'=some r∧R r σ'
def zpc (P:Program) (tt:TT) (res:List ResultVar) (ids ids' dfs:List Nat) (R:AV→Sg→Prop) (fid:FuncId) (first captured:List SV):Exit→Fr→Sg→Prop
 | .normal,fr,τ | .ret,fr,τ=>zhL P tt res ids ids' dfs R fid first captured .returning fr τ
 | .panic ch,fr,τ=>zhL P tt res ids ids' dfs R fid first captured (.panicking ch) fr τ
 | _,_,_=>False
theorem zoJ {tt:TT} (htt:tt.ok P) (hL:Laid P K0.K w0) {fn:Func} {res:List ResultVar} (hres:fn.results=res.toArray) {nt:Nat} {dfs ids':List Nat} {R:AV→Sg→Prop} {fid:FuncId} {first captured:List SV} {B':SV→Value→Prop} {d:Deferred}
  (hd:DF (SR σ g w) B' fid first captured d) {e:Exit} {fr:Fr} {τ : Sg} {g':Gh} {a':Act} {w':World}
  (hr:Rel ⟨w0,K0,nt,B',ids',none,dfs,[d]⟩ fr τ g' a' w') (hq:zpc P tt res (σ.map (·.1)) ids' dfs R fid first captured e fr τ):EndX P fn w0 K0 σ g w R e a' w':=by
 have fin:∀ u,u≠.run→zhL P tt res (σ.map (·.1)) ids' dfs R fid first captured u fr τ →
   LeavesInM Fence.wide 0 P fn a'.tmps (fun e w'=>∃ v g' σ' r,e=.returned v∧Did w0 K0 σ g w σ' g' w'∧VR2 σ' g' w' r v∧R r σ') a'.defers u w':=by
  rintro u hu ⟨fr1,σ1,hsf,hss,hc,Rd,hdc,hR⟩;obtain⟨w1,hr1,hl⟩:=Rel.unmark (P:=P) hr hsf hss hc;refine hl fn a'.tmps _ u hu ?_
  obtain⟨hB,v1,v2,hf,rfl⟩:=hd;have hsr:=(hr1.base _ _ hf).1;have hargs:∀ (i:Nat) (x:AV) (v:Value),(first.map AV.x ++ [] ++ captured.map AV.x)[i]?=some x→(v1 ++ #[] ++ v2)[i]?=some v→VR2 σ1 g' w1 x v:=by
   cases hsr with
   | f _ _ _ _ _ s1 s2 r1 r2=>exact zde (us:=#[]) (vs:=[]) s1 s2 r1 r2 rfl (fun j x v hx hv=>by simp at hx)
  have hsz:(v1 ++ v2).size=(first.map AV.x ++ captured.map AV.x).length:=by
   cases hsr with
   | f _ _ _ _ _ s1 s2 r1 r2=>simp [s1,s2]
  obtain⟨hgood,hcall⟩:=hdc;have hinv:(invoke (.fn (.func fid) v2) v1).run P w1=.ok (.enter fid (v1 ++ v2)) w1:=by
   obtain⟨fn,h1,h2,h3⟩:=hgood;have hb:¬ fn.body=none:=fun e=>by rw [e] at h2;cases h2
   have h3':¬ fn.name = "runtime.NumGoroutine" :=by simpa using h3
   simp [invoke,callFunc,h1,h3',hb]
  refine⟨hu,.inr ⟨(fun h=>by cases h),.func fid,v2,fid,v1 ++ v2,rfl,hinv,fun _ _=>trivial,?_⟩⟩
  refine (hcall w0 K0 g' w1 (v1 ++ v2) hL hr1.hp hsz (fun i x v hx hv=>hargs i x v (by simpa using hx) (by simpa using hv))).mono fun e u' w2 ⟨v,g2,σ2,he,hdid,hRd⟩=>?_
  subst he;obtain⟨hset,r,σ',hsub,hc2,ho,hRr⟩:=hR u' σ2 hRd;simp only [Bool.and_eq_true] at hc2;have hr2:=hr1.did hdid;have hsup:=za9 hsub;obtain⟨v',hrun,hvr⟩:=zbQ htt hr2 hsup hres ho;show LeavesInM Fence.wide 0 P fn a'.tmps _ [] (settle u') w2
  rw [hset];refine⟨v',hrun,v',_,σ',r,rfl,⟨hr2.hp.atEnd hsup hc2.1,fun s u hs=>?_⟩,hvr,hRr⟩
  exact zak (zai hsup hc2.2 (hr2.base s u (hB _ _ hs)).1 hs.inI)
 cases e with
 | normal=>exact fin .returning (by simp) hq
 | ret=>exact fin .returning (by simp) hq
 | panic ch=>exact fin (.panicking ch) (by simp) hq
 | exit id=>exact hq.elim
 | goto l=>exact hq.elim
 | outgrown=>exact hq.elim
theorem zi0 {f:FuncId} {fn:Func} {c:Code} {args:List AV} {σ:Sg} {R:AV→Sg→Prop} (dfs:List Nat) (hf:P.funcs[f]?=some fn) (hb:fn.body=some c)
  (hname:(fn.name == "runtime.NumGoroutine")=false) {nt:Nat} (hnt:fn.ntmps=nt) (hle:args.length≤nt)
  (h:∀ w0 K0 g w,Laid P K0.K w0→AWx P ⟨w0,K0,nt,SR σ g w,σ.map (·.1),none,dfs,[]⟩ c (EndX P fn w0 K0 σ g w R) (entry 0 args) σ):ACall P f args σ R:=by
 refine⟨⟨fn,hf,by rw [hb];rfl,hname⟩,fun w0 K0 g w vs hL hp hs hv=>?_⟩
 refine callsIn_wide.1 (callsIn_of_wp_marks (F:=Fence.wide) (n:=0) hf hb trivial ?_)
 have hrel:Rel ⟨w0,K0,nt,SR σ g w,σ.map (·.1),none,dfs,[]⟩ (entry 0 args) σ g ⟨vs ++ Array.replicate (fn.ntmps - vs.size) undef,[]⟩ w:=by
  refine⟨hp,fun t x ht=>?_,by simp;omega,DRb.empty,fun s v hb=>⟨hb,SR.inI hb⟩⟩
  obtain⟨_,hx⟩:=zbm args 0 t x ht;rw [Nat.sub_zero] at hx;have hlt:t < args.length:=(List.getElem?_eq_some_iff.1 hx).1;refine⟨by show t < nt;omega,?_⟩
  have hvt:vs[t]?=some (vs[t]'(by omega)):=Array.getElem?_eq_getElem (by omega);have e:(vs ++ Array.replicate (fn.ntmps - vs.size) undef).getD t undef=vs[t]'(by omega):=by
   rw [Array.getD_eq_getD_getElem?,Array.getElem?_append_left (by omega),hvt];rfl
  show VR _ _ _ _ ((vs ++ Array.replicate (fn.ntmps - vs.size) undef).getD t undef)
  rw [e];exact zZ (hv t x _ hx hvt)
 exact h w0 K0 g w hL hL g _ w hrel
inductive Rcv:FrameMode→Value→FrameMode→Prop
 | none:Rcv .returning .nilIface .returning
 | some (v:Value):Rcv (.panicking [{ v:=v,recovered:=false }]) v (.panicking [{ v:=v,recovered:=true }])
theorem Rcv.recoverD {u u':FrameMode} {rv:Value} (h:Rcv u rv u') (c₀ : Frame) (cs:List Frame) (hu:c₀.mode=u) :
  (Go.recoverD (c₀ :: cs)=Option.some (rv,{ c₀ with mode:=u' }::cs))∨(Go.recoverD (c₀ :: cs)=Option.none∧rv=.nilIface∧{ c₀ with mode:=u' }=c₀):=by
 cases h with
 | none=>exact .inr ⟨by simp [Go.recoverD,hu],rfl,by rw [← hu]⟩
 | some v=>exact .inl (by simp [Go.recoverD,hu])
theorem zfe {Q:Exit→Act→List Frame→World→Prop} {cs:List Frame} {c₀ : Frame} {u u':FrameMode} {rv:Value} (hu:Rcv u rv u') (hc:c₀.mode=u) {id:Nat} {o:Oper} {ops:List Oper} {ts:Array TypeId} (ho:o.op=.call ⟨.builtin .recover,#[],ts⟩) (hg:o.guard=none)
  (h:wpLs none P (o::ops).toArray (fun e a w=>Q e a ({ c₀ with mode:=u' }::cs) w) ops (a.put o.dst rv) w):(Code.region id (o::ops).toArray false).wpSIn Fence.wide 0 P Q a (c₀ :: cs) w:=by
 intro b k hb hro hF hroom;have hx:=zcU (ro:=none) (P:=P) (ops:=(o::ops).toArray) ops 1 (fun j=>by simp [Nat.add_comm 1 j]) _ w h;obtain⟨e,a',w',hq,harr⟩:=wp_opsIn (F:=FX none) (n:=0) _ _ w hx b k ({ c₀ with mode:=u' }::cs) hro hF hroom;have hgo:((o::ops).toArray)[0]?=Option.some o:=by simp
 have hw:Region.wanted o (yielded (o::ops).toArray a.tmps)=true:=by simp [Region.wanted,hg]
 have hgs:=stepGR_op (P:=P) (b:=b) (a:=a) (k:=k) (cs:=c₀ :: cs) (w:=w) (rest:=List.range' 1 ops.length) hgo hw;rw [hro,Oper.semAt_none] at hgs;have hfin:∀ v,(b.atR a (.inRegion (o::ops).toArray (0::List.range' 1 ops.length)::k)).finish v=b.atR (a.put o.dst v) (.inRegion (o::ops).toArray (List.range' 1 ops.length)::k):=by
  intro v;rw [Frame.finish_atR,hgo];rfl
 have hk:(b.atR a (.inRegion (o::ops).toArray (0::List.range' 1 ops.length)::k)).kind=.deferred:=hb;have htr:=tryRecover_deferred hk (c₀ :: cs);have hr:(execOp a.eval o).run P w=.ok .recover w:=by
  simp [execOp,ho,resolve,invoke,builtin]
 have hrange:List.range ((o::ops).toArray).size=0::List.range' 1 ops.length:=by
  rw [List.range_eq_range'];simp [List.range'_succ]
 have hstep:step P (lone (b.atR a (.inRegion (o::ops).toArray (0::List.range' 1 ops.length)::k)) (c₀ :: cs) w)=.next (lone (b.atR (a.put o.dst rv) (.inRegion (o::ops).toArray (List.range' 1 ops.length)::k)) ({ c₀ with mode:=u' }::cs) w):=by
  refine step_lone_go ?_
  rw [hgs,← hfin];rcases hu.recoverD c₀ cs hc with hrec|⟨hrec,rfl,heq⟩
  ·simp only [Frame.atR,hro] at htr ⊢;simp [stepG.apply,hr,htr,hrec]
  ·rw [heq];simp only [Frame.atR,hro] at htr ⊢;simp [stepG.apply,hr,htr,hrec]
 refine⟨e,a',_,w',by simp,hq,.of_steps (.head (fenced_calm hF hroom rfl) stepR_region (.one ?_ (hrange ▸ hstep))) harr⟩
 rw [hrange];exact fenced_oper hF hroom hgo (fun f hf=>trivial)
theorem zcR {tt:TT} (htt:tt.ok P) {f:FuncId} {fn:Func} {id:Nat} {o:Oper} {ops:List Oper} {ts:Array TypeId} {y:Code} {args:List AV} {σ:Sg} {Rd:FrameMode→Sg→Prop} {res:List ResultVar} {u u':FrameMode} {rv:Value}
  (hu:Rcv u rv u') (h1:rv.oneCell'=true) (hf:P.funcs[f]?=Option.some fn) (hb:fn.body=Option.some (.seq (.region id (o::ops).toArray false) y)) (ho:o.op=.call ⟨.builtin .recover,#[],ts⟩) (hg:o.guard=none)
  (hname:(fn.name == "runtime.NumGoroutine")=false) (hres:fn.results=res.toArray) {nt:Nat} (hnt:fn.ntmps=nt) (hle:args.length≤nt)
  (h:∀ w0 K0 B,zba nt o.dst none (.x (.d (.v rv))) (entry 0 args) fun fr'=>zah P tt nt (o::ops) (AW P ⟨w0,K0,nt,B,σ.map (·.1),none,[],[]⟩ y (zqs tt res (σ.map (·.1)) fun _ σ'=>Rd u' σ')) ops fr' σ):zm8 P f args σ u Rd:=by
 refine⟨⟨fn,hf,by rw [hb];rfl,hname⟩,fun w0 K0 g w vs hL hp hs hv=>?_⟩
 refine callsDIn_of_wpSIn hf hb trivial fun c₀ cs hc=>?_
 have hrel:Rel ⟨w0,K0,nt,SR σ g w,σ.map (·.1),none,[],[]⟩ (entry 0 args) σ g ⟨vs ++ Array.replicate (fn.ntmps - vs.size) undef,[]⟩ w:=by
  refine⟨hp,fun t x ht=>?_,by simp;omega,DRb.empty,fun s v hb=>⟨hb,SR.inI hb⟩⟩
  obtain⟨_,hx⟩:=zbm args 0 t x ht;rw [Nat.sub_zero] at hx;have hlt:t < args.length:=(List.getElem?_eq_some_iff.1 hx).1;refine⟨by show t < nt;omega,?_⟩
  have hvt:vs[t]?=Option.some (vs[t]'(by omega)):=Array.getElem?_eq_getElem (by omega);have e:(vs ++ Array.replicate (fn.ntmps - vs.size) undef).getD t undef=vs[t]'(by omega):=by
   rw [Array.getD_eq_getD_getElem?,Array.getElem?_append_left (by omega),hvt];rfl
  show VR _ _ _ _ ((vs ++ Array.replicate (fn.ntmps - vs.size) undef).getD t undef)
  rw [e];exact zZ (hv t x _ hx hvt)
 refine wpSIn_seq (zfe hu hc ho hg ?_)
 obtain⟨fr',hk,hrel'⟩:=zcf hrel (h w0 K0 (SR σ g w)) (v:=rv) (zL _ h1);have fin:∀ e a w',Lift ⟨w0,K0,nt,SR σ g w,σ.map (·.1),none,[],[]⟩ (zqs tt res (σ.map (·.1)) fun _ σ'=>Rd u' σ') e a w' →
   bodyPostS P fn c₀ cs (fun e u' w'=>∃ v g' σ',e=.returned v∧Did w0 K0 σ g w σ' g' w'∧Rd u' σ') e a ({ c₀ with mode:=u' }::cs) w':=by
  intro e a' w' ⟨fr,τ,g',hr,hq⟩;have fin2:(∃ r σ',SubS τ σ'∧(rsSg σ' σ' && zbC (σ.map (·.1)) σ')=true∧zb0 tt res fr τ σ'=Option.some r∧Rd u' σ') →
    a'.defers=[]∧∃ u'',({ c₀ with mode:=u' }::cs:List Frame)={ c₀ with mode:=u'' }::cs∧∃ v,(results fn a'.tmps).run P w'=.ok v w'∧∃ v1 g'' σ'',Ending.returned v=.returned v1∧Did w0 K0 σ g w σ'' g'' w'∧Rd u'' σ'':=by
   rintro⟨r,σ',hsub,hc,ho,hR⟩;simp only [Bool.and_eq_true] at hc;have hsup:=za9 hsub;obtain⟨v,hrun,hvr⟩:=zbQ htt hr hsup hres ho;exact⟨hr.defers.nil,u',rfl,v,hrun,v,_,σ',rfl,⟨hr.hp.atEnd hsup hc.1,fun s u hs=>zak (zai hsup hc.2 (hr.base s u hs).1 (hr.base s u hs).2)⟩,hR⟩
  cases e with
  | normal=>exact fin2 hq
  | ret=>exact fin2 hq
  | _=>exact hq.elim
 refine zaJ (Γ:=⟨w0,K0,nt,SR σ g w,σ.map (·.1),none,[],[]⟩) htt hL ?_ ops fr' σ hk g _ w hrel'
 intro fr σ1 g1 a1 w1 hr1 haw;show y.wpSIn Fence.wide 0 P _ a1 _ w1
 exact wpSIn_of_wpIn rfl (wpIn_mono (haw.use hL hr1) fin)
end
end Go.QL
namespace Go.QL
open Go Go.RowKit
def FnP (P:Program) (f:FuncId) (args:List AV) (r:Option AV) (pv:Value):Prop:=
 Good P f∧∀ (K:Nat→Nat→Prop) (w:World) (vs:Array Value),Laid P K w→(∀ b o,K b o→b < w.heap.size)→vs.size=args.length →
  (∀ (i:Nat) (x:AV) (v:Value),args[i]?=some x→vs[i]?=some v→VR2 [] ⟨K,fun _=>undef⟩ w x v) →
  Calls P f vs w (fun e w'=>∃ K',Below w.heap.size w w'∧Ext K w K' w'∧(∀ b o,b < w.heap.size→K' b o→K b o)∧(∀ b o,K' b o→b < w'.heap.size) ∧
   ((∃ v x,r=some x∧e=.returned v∧VR2 [] ⟨K',fun _=>undef⟩ w' x v)∨(r=none∧e=.panicked [{ v:=pv,recovered:=false }])))
def zrX:Option AV→Bool
 | some x=>zf6 x
 | none=>true
theorem FnP.call {P:Program} {f:FuncId} {args:List AV} {r:Option AV} {pv:Value} (h:FnP P f args r pv) {σ:Sg} (hp:args.all zf6=true) (hr:zrX r=true) :
  PCall P f args σ (fun r' σ'=>r=some r'∧σ'=σ) fun v σ'=>r=none∧v=pv∧σ'=σ:=by
 refine⟨h.1,fun w0 K0 g w vs hL hhp hs hv=>?_⟩
 rw [List.all_eq_true] at hp;refine (h.2 g.K w vs (hL.mono hhp.ext) hhp.val hs fun i x v hi hu=>zcY (g:=g) (g':=⟨g.K,fun _=>undef⟩) (hp x (List.mem_of_getElem? hi)) (Ext.refl _ _) (hv i x v hi hu)).mono ?_
 intro e w' ⟨K',hb,hext,hold,hval,hvr⟩;rcases hvr with ⟨v,x,rfl,rfl,hvr⟩|⟨rfl,rfl⟩
 ·exact .inl ⟨v,⟨K',g.μ⟩,σ,x,rfl,hhp.grow hb hext hold hval,zcY hr (Ext.refl K' w') hvr,rfl,rfl⟩
 ·exact .inr ⟨pv,⟨K',g.μ⟩,σ,rfl,hhp.grow hb hext hold hval,rfl,rfl,rfl⟩
end Go.QL
namespace Go.QL
open Go Go.RowKit
def LeC:List SV→List SV→Prop
 | [],[]=>True
 | s::r,t::q=>LeSV s t∧LeC r q
 | _,_=>False
def LeW1:AV→AV→Prop
 | .x s,.x t=>LeSV s t
 | .a cs,.a ds=>LeC cs ds
 | _,_=>False
def LeW2:List AV→List AV→Prop
 | [],[]=>True
 | x::r,y::q=>LeW1 x y∧LeW2 r q
 | _,_=>False
def LeW:AV→AV→Prop
 | .t xs,.t ys=>LeW2 xs ys
 | x,y=>LeW1 x y
section
variable {P:Program} {σ:Sg} {g:Gh} {w:World}
theorem LeC.get:∀ {cs ds:List SV},LeC cs ds→cs.length=ds.length∧∀ (i:Nat) (t:SV),ds[i]?=some t→∃ s,cs[i]?=some s∧LeSV s t
 | [],[],_=>⟨rfl,fun i t h=>by simp at h⟩
 | s::r,t::q,h=>by
  obtain⟨e,ih⟩:=LeC.get h.2;refine⟨by simp [e],fun i z hi=>?_⟩
  cases i with
  | zero=>cases hi;exact⟨s,rfl,h.1⟩
  | succ i=>exact ih i z hi
 | [],_::_,h=>h.elim
 | _::_,[],h=>h.elim
theorem LeW2.get:∀ {cs ds:List AV},LeW2 cs ds→cs.length=ds.length∧∀ (i:Nat) (t:AV),ds[i]?=some t→∃ s,cs[i]?=some s∧LeW1 s t
 | [],[],_=>⟨rfl,fun i t h=>by simp at h⟩
 | s::r,t::q,h=>by
  obtain⟨e,ih⟩:=LeW2.get h.2;refine⟨by simp [e],fun i z hi=>?_⟩
  cases i with
  | zero=>cases hi;exact⟨s,rfl,h.1⟩
  | succ i=>exact ih i z hi
 | [],_::_,h=>h.elim
 | _::_,[],h=>h.elim
theorem LeW1.ok {x y:AV} (h:LeW1 x y) {v:Value} (hv:VR1 σ g w x v):VR1 σ g w y v:=by
 cases x with
 | x s=>
  cases y with
  | x t=>exact LeSV.ok h hv
  | _=>exact h.elim
 | a cs=>
  cases y with
  | a ds=>
   obtain⟨vs,rfl,hs,hr⟩:=hv;obtain⟨e,hg⟩:=LeC.get h;exact⟨vs,rfl,by omega,fun i t u hi hu=>let ⟨s,h1,h2⟩:=hg i t hi;h2.ok (hr i s u h1 hu)⟩
  | _=>exact h.elim
 | t _=>exact h.elim
 | g _ _=>exact h.elim
theorem LeW.ok {x y:AV} (h:LeW x y) {v:Value} (hv:VR2 σ g w x v):VR2 σ g w y v:=by
 cases x with
 | x s=>
  cases y with
  | x t=>exact LeW1.ok (x:=.x s) (y:=.x t) h hv
  | _=>exact h.elim
 | a cs=>
  cases y with
  | a ds=>exact LeW1.ok (x:=.a cs) (y:=.a ds) h hv
  | _=>exact h.elim
 | t xs=>
  cases y with
  | t ys=>
   obtain⟨vs,rfl,hs,hr⟩:=hv;obtain⟨e,hg⟩:=LeW2.get h;exact⟨vs,rfl,by omega,fun i t u hi hu=>let ⟨s,h1,h2⟩:=hg i t hi;h2.ok (hr i s u h1 hu)⟩
  | _=>exact h.elim
 | g _ _=>
  cases y with
  | g _ _=>exact h.elim
  | _=>exact h.elim
end
end Go.QL
namespace Go.Proofs.YtnkhljdifljdbaaGreatDoor
open Go Go.QL FoT
set_option maxHeartbeats 1600000
set_option maxRecDepth 20000
attribute [local irreducible] ACall FnC YC
def outB (n lo hi:Int):Bool:=bif decide (n < lo) then true else decide (hi < n)
theorem zQ {n lo hi:Int}:outB n lo hi=false↔lo≤n∧n≤hi:=by
 unfold outB;cases h:decide (n < lo) with
 | true=>have:=of_decide_eq_true h;simp;omega
 | false=>have:=of_decide_eq_false h;simp;omega
def fstI {α : Type} (p : α→Bool):List α→Nat→Option Nat
 | [],_=>none
 | x::r,j=>if p x=true then some j else fstI p r (j+1)
def idxI {α : Type} (p : α→Bool) (xs:List α):Int:=
 match fstI p xs 0 with
 | some j=>j
 | none=>-1
theorem zoj {α : Type} (p : α→Bool) (xs:List α) (j:Nat):(fstI p xs j).isSome=xs.any p:=by
 induction xs generalizing j with
 | nil=>rfl
 | cons x r ih=>
  simp only [fstI,List.any_cons];cases h:p x with
  | true=>simp
  | false=>simp [ih]
theorem zoh {α : Type} (p : α→Bool) (xs:List α):decide (0≤idxI p xs)=xs.any p:=by
 rw [← zoj p xs 0];unfold idxI;cases fstI p xs 0 with
 | none=>rfl
 | some j=>simp
theorem zp9 (fid:FuncId) (cs:List SV) (p:Int→Bool) (xs:List Int) (σ:Sg)
  (hf:∀ x ∈ xs,ACall Tryz.prog fid ([].map AV.x ++ [iv .i64 x] ++ cs.map .x) σ (fun r σ'=>r=bv (p x)∧σ'=σ)) :
  ACall Tryz.prog 105 [sl xs,.x (.f (.func fid) [] cs)] σ (fun r σ'=>r=iv .i64 (idxI p xs)∧σ'=σ):=by
 refine zcN hTt Tryz.func105 rfl (by kernel_rfl) (res:=[.tmp 4]) rfl Tryz.ntmps105 (by simp) fun w0 K0 B=>?_
 dsimp only [entry];repeat' first|refine zd ?_|refine zc ?_|((refine regA ?_);conv=>whnf)|(refine lnA fun hln=>?_;conv=>whnf)|fail
 refine zJ (fun i:Nat=>[(8,iv .i64 i),(7,iv .i64 xs.length),(0,sl xs),(1,.x (.f (.func fid) [] cs))]) (fun _=>σ)
  (fun i=>i≤xs.length∧fstI p xs 0=fstI p (xs.drop i) i) (fun i=>xs.length - i) 0 (by simp) (Imp.slots ⟨rfl,congrArg (fun k:Nat=>some (iv .i64 k)) (List.length_map _),rfl,rfl,trivial⟩) ?_
 rintro i ⟨hi,hfo⟩;rcases Nat.lt_or_ge i xs.length with hil|hil
 ·have hc:=hf xs[i] (List.getElem_mem hil);rw [List.drop_eq_getElem_cons hil] at hfo;simp only [fstI] at hfo;generalize p xs[i]=b at hc hfo;cases b with
  | true=>
   rw [if_pos rfl] at hfo;repeat' first|refine zd ?_|refine zc ?_|((first|refine zf ?_|refine zk ?_|refine zi ?_|refine regA ?_|fail);conv=>whnf)|exact abA hb|((refine⟨_,hc,?_⟩);(rintro _ _ ⟨rfl,rfl⟩);conv=>whnf)|(refine zst rfl ?_)|(refine zso rfl (fun hb=>?_) (fun hb=>?_))|((first|refine andA ?_|with_reducible refine exA fun _=>?_|fail);conv=>whnf)|fail
   exact⟨_,rfl,by unfold idxI;rw [hfo],rfl⟩
  | false=>
   rw [if_neg (by decide)] at hfo;repeat' first|refine zd ?_|refine zc ?_|((first|refine zf ?_|refine zk ?_|refine zi ?_|refine regA ?_|fail);conv=>whnf)|exact abA hb|((refine⟨_,hc,?_⟩);(rintro _ _ ⟨rfl,rfl⟩);conv=>whnf)|(refine zss rfl ?_)|(refine zso rfl (fun hb=>?_) (fun hb=>?_))|((first|refine zsq ?_|refine andA ?_|with_reducible refine exA fun _=>?_|fail);conv=>whnf)|fail
   exact⟨i+1,⟨by omega,hfo⟩,by omega,Imp.slots ⟨rfl,rfl,rfl,rfl,trivial⟩⟩
 ·rw [List.drop_eq_nil_of_le hil] at hfo;repeat' first|refine zd ?_|refine zc ?_|((first|refine zf ?_|refine zk ?_|refine zi ?_|refine regA ?_|fail);conv=>whnf)|exact abA hb|(refine zso rfl (fun hb=>?_) (fun hb=>?_))|fail
  exact⟨_,rfl,by unfold idxI;rw [hfo];rfl,rfl⟩
theorem zdc (fid:FuncId) (cs:List SV) (p:Int→Bool) (xs:List Int) (σ:Sg)
  (hf:∀ x ∈ xs,ACall Tryz.prog fid ([].map AV.x ++ [iv .i64 x] ++ cs.map .x) σ (fun r σ'=>r=bv (p x)∧σ'=σ)) :
  ACall Tryz.prog 62 [sl xs,.x (.f (.func fid) [] cs)] σ (fun r σ'=>r=bv (xs.any p)∧σ'=σ):=by
 have hc:=zp9 fid cs p xs σ hf;rw [← zoh];refine zcN hTt Tryz.func62 rfl (by kernel_rfl) (res:=[.tmp 4]) rfl Tryz.ntmps62 (by simp) fun w0 K0 B=>?_
 dsimp only [entry];repeat' first|refine zd ?_|((first|refine zi ?_|refine regA ?_|((refine⟨_,hc,?_⟩);(rintro _ _ ⟨rfl,rfl⟩))|fail);conv=>whnf)|fail
 exact⟨_,rfl,rfl,rfl⟩
theorem znM (hi x:Int):ACall Tryz.prog 216 [iv .i64 x,.x (.b 2 0)] [(2,.box [.d (.v (.int .i64 hi))])]
  (fun r σ'=>r=bv (outB x 0 hi)∧σ'=[(2,.box [.d (.v (.int .i64 hi))])]):=by
 refine zcN hTt Tryz.func216 rfl (by kernel_rfl) (res:=[.tmp 3]) rfl Tryz.ntmps216 (by simp) fun w0 K0 B=>?_
 dsimp only [entry];repeat' first|refine zd ?_|((first|refine zi ?_|refine regA ?_|refine andA ?_|fail);conv=>whnf)|fail
 exact⟨_,rfl,rfl,rfl⟩
theorem zjl (hi:Int) (xs:List Int):FnC Tryz.prog 159 [iv .i64 hi,sl xs] (bv (xs.any fun x=>outB x 0 hi)):=by
 have hc:=zdc 216 [.b 2 0] (fun x=>outB x 0 hi) xs _ (fun x _=>znM hi x);generalize (xs.any fun x=>outB x 0 hi)=b at hc;refine hdC Tryz.func159 Tryz.ntmps159 (res:=[.tmp 4]) fun w0 K0=>?_
 repeat' first|refine zd ?_|((first|refine zi ?_|refine regA ?_|((refine⟨_,hc,?_⟩);(rintro _ _ ⟨rfl,rfl⟩))|fail);conv=>whnf)|fail
 rfl
theorem zps (v:Int) (h:zP v):FnC Tryz.prog 239 [iv .i64 v] (iv .i64 (sgnW v)):=by
 unfold zP at h;have hs:∃ b:Int,(b=0∨b=1)∧v.fdiv (2 ^ min (Int.toNat 23) IntKind.i64.bits)=b∧sgnW v=v - b * 16777216:=by
  refine⟨v / 8388608,by omega,Int.fdiv_eq_ediv_of_nonneg _ (by decide),?_⟩
  unfold sgnW;split <;> omega
 obtain⟨b,hb01,hs1,hs2⟩:=hs;have hs3:IntKind.i64.wrap (1 * 2 ^ min (Int.toNat 24) IntKind.i64.bits)=16777216:=by decide
 rw [hs2];rcases hb01 with rfl|rfl
 ·refine hdC Tryz.func239 Tryz.ntmps239 (res:=[.tmp 2]) fun w0 K0=>?_
  repeat' first|refine zd ?_|((first|refine zi ?_|refine regA ?_|refine⟨_,hs1,?_⟩|refine zsq ?_|refine andA ?_|fail);conv=>whnf)|fail
  rfl
 ·refine hdC Tryz.func239 Tryz.ntmps239 (res:=[.tmp 2]) fun w0 K0=>?_
  repeat' first|refine zd ?_|((first|refine zi ?_|refine regA ?_|refine⟨_,hs1,?_⟩|refine⟨_,hs3,?_⟩|refine zsq ?_|refine andA ?_|fail);conv=>whnf)|fail
  rfl
theorem zsh (v:Int):ze6 .and .i64 v 16777215=v % 16777216:=by
 have e:(BitVec.ofInt 64 v &&& BitVec.ofInt 64 16777215).toNat=(v % 16777216).toNat:=by
  rw [BitVec.toNat_and,BitVec.toNat_ofInt,BitVec.toNat_ofInt];have e2:((16777215:Int) % ((2 ^ 64:Nat):Int)).toNat=2 ^ 24 - 1:=by decide
  rw [e2,Nat.and_two_pow_sub_one_eq_mod];have e3:((2 ^ 64:Nat):Int)=18446744073709551616:=by decide
  rw [e3];omega
 show IntKind.i64.wrap ((BitVec.ofInt 64 v &&& BitVec.ofInt 64 16777215).toNat:Int)=_
 rw [e,Int.toNat_of_nonneg (by omega)];exact zg (by omega)
def iPV (v:Int):List PV:=[.v (.int .i64 v)]
abbrev orAV (op a b c:Int):AV:=.a [.d (.v (.int .i64 op)),.d (.v (.int .i64 a)),.d (.v (.int .i64 b)),.d (.v (.int .i64 c))]
def Stp (P:Program) (Γ:Cx) (c:Code) (Q:Exit→Fr→Sg→Prop) (fr:Fr) (σ:Sg):Prop:=AW P Γ c Q fr σ
attribute [irreducible] Stp
end Go.Proofs.YtnkhljdifljdbaaGreatDoor
namespace Go.Proofs.YtnkhljdifljdbaaGreatDoor
open Go Go.QL FoT
set_option maxHeartbeats 1600000
set_option maxRecDepth 20000
attribute [local irreducible] ACall FnC YC fine ten
theorem and15 (x:Int) (h : -9223372036854775808≤x∧x≤9223372036854775807):ze6 .and .i64 x 15=x % 16:=by
 show IntKind.i64.wrap ((BitVec.ofInt 64 x &&& BitVec.ofInt 64 15).toNat:Int)=_
 have e2:(BitVec.ofInt 64 15)=BitVec.ofNat 64 15:=by decide
 rw [e2,BitVec.toNat_and,BitVec.toNat_ofNat,BitVec.toNat_ofInt];rw [show (15 % 2 ^ 64:Nat)=2 ^ 4 - 1 by decide,Nat.and_two_pow_sub_one_eq_mod];rw [zg (by omega)];omega
theorem passing_fn (time addr:Int):ACall Tryz.prog 285 [iv .i64 time,iv .i64 addr] [] (fun r σ'=>r=.x (.f (.func 289) [] [.b 3 0,.b 2 0])∧σ'=[(3,.box [.d (.v (.int .i64 addr))]),(2,.box [.d (.v (.int .i64 time))])]):=by
 refine hdD Tryz.func285 Tryz.ntmps285 (res:=[.tmp 4]) fun w0 K0 B=>?_
 repeat' first|refine zd ?_|((first|refine zi ?_|refine regA ?_|fail);conv=>whnf)|fail
 exact⟨_,[(3,.box [.d (.v (.int .i64 addr))]),(2,.box [.d (.v (.int .i64 time))])],⟨rfl,rfl,trivial⟩,rfl,rfl,rfl,rfl⟩
abbrev frAf (time addr:Int):Fr:=[(8,.x (.f (.func 289) [] [.b 963 0,.b 962 0])),(4,.x (.b 4 0)),(0,iv .i64 time),(1,iv .i64 addr)]
abbrev sgA (asg bdy:Code) (s:LoopState) (pd:Option Code) (time addr v:Int):Sg:=
 [(930,.x (.loop s pd #[9] asg bdy 12 (frAf time addr) 931)),(931,.x .dfr),(4,.box [.d (.v (.int .i64 v))]),(963,.box [.d (.v (.int .i64 addr))]),(962,.box [.d (.v (.int .i64 time))])]
theorem passing1_fn {asg bdy:Code} {time addr:Int} {pd:Option Code} (ht : -1000000≤time∧time≤1000000000000) (ha : -1000000≤addr∧addr≤1000000)
  (hy:YC Tryz.prog 930 [iv .i64 (afterO time addr)] (sgA asg bdy .ready none time addr 0) (fun r σ'=>r=bv false∧σ'=sgA asg bdy .done pd time addr (afterO time addr))) :
  ACall Tryz.prog 289 [.x (.h 930),.x (.b 963 0),.x (.b 962 0)] (sgA asg bdy .ready none time addr 0) (fun r σ'=>r=.t []∧σ'=sgA asg bdy .done pd time addr (afterO time addr)):=by
 have h15:=and15 (addr - time - 1) (by omega);have hw:IntKind.i64.wrap (time+1+(addr - time - 1) % 16)=afterO time addr:=by unfold afterO;exact zg (by omega)
 generalize afterO time addr=v at hy hw;refine hdD Tryz.func289 Tryz.ntmps289 (res:=[]) fun w0 K0 B=>?_
 repeat' first|refine zd ?_|refine zc ?_|((first|refine regA ?_|refine⟨_,h15,?_⟩|refine⟨_,hw,?_⟩|refine zsq ?_|fail);conv=>whnf)|fail
 refine zJ (fun _:Unit=>[(5,iv .i64 v),(0,.x (.h 930)),(1,.x (.b 963 0)),(2,.x (.b 962 0))]) (fun _=>sgA asg bdy .ready none time addr 0) (fun _=>True) (fun _=>0) () trivial impA ?_
 intro _ _;repeat' first|refine zd ?_|((first|refine zk ?_|refine regA ?_|((refine⟨_,hy,?_⟩);(rintro _ _ ⟨rfl,rfl⟩))|fail);conv=>whnf)|(refine zss rfl ?_)|fail
 exact⟨_,sgA asg bdy .done pd time addr v,⟨rfl,rfl,rfl,rfl,rfl,trivial⟩,rfl,rfl,rfl,rfl⟩
theorem after_fn (time addr:Int) (ht : -1000000≤time∧time≤1000000000000) (ha : -1000000≤addr∧addr≤1000000):FnC Tryz.prog 274 [iv .i64 time,iv .i64 addr] (iv .i64 (afterO time addr)):=by
 have c1:=DS.ACall.anew (passing_fn time addr) (asc [(3,963),(2,962)]) (args':=[iv .i64 time,iv .i64 addr]) (rv':=.x (.f (.func 289) [] [.b 963 0,.b 962 0])) (nob':=[(963,.box [.d (.v (.int .i64 addr))]),(962,.box [.d (.v (.int .i64 time))])]) rfl rfl rfl rfl
  [(4,.box [.d (.v (.int .i64 0))])] (by intro p hp;simp only [List.mem_cons,List.not_mem_nil,or_false] at hp;rcases hp with rfl|rfl <;> rfl)
 refine FnC.of_ACall ?_ rfl
 refine zpe hTt [931] Tryz.func274 rfl (by kernel_rfl) (res:=[.cell 4 3]) rfl Tryz.ntmps274 (by simp) fun w0 K0 B=>?_
 dsimp only [entry];repeat' first|refine zd ?_|refine zc ?_|((first|refine regA ?_|((refine⟨_,c1,?_⟩);(rintro _ _ ⟨rfl,rfl⟩))|fail);conv=>whnf)|fail
 refine zaq (Imp.forget (fr':=frAf time addr) (σ':=[(4,.box [.d (.v (.int .i64 0))]),(963,.box [.d (.v (.int .i64 addr))]),(962,.box [.d (.v (.int .i64 time))])])
  ⟨rfl,rfl,rfl,rfl,trivial⟩ ⟨rfl,rfl,rfl,trivial⟩ rfl) ?_
 refine ziZ 930 931 rfl rfl rfl (by decide) (by simp) rfl _ (passing1_fn (pd:=some .ret) ht ha ?hy) ?hk
 case hk=>
  rintro rv σ' ⟨rfl,rfl⟩;refine⟨rfl,.done,some .ret,rfl,by decide,?_⟩
  dsimp only;repeat' first|((refine zi ?_);conv=>whnf)|fail
  exact⟨[(4,.x (.b 4 0))],[(4,.box [.d (.v (.int .i64 (afterO time addr)))])],⟨rfl,trivial⟩,⟨rfl,trivial⟩,rfl,iv .i64 (afterO time addr),[],trivial,rfl,rfl,rfl,rfl⟩
 case hy=>
  generalize afterO time addr=v;refine zoH (pend:=none) rfl rfl (by decide) rfl ?_
  intro w0 K0 B b;dsimp only [zk2];repeat' first|((refine regA ?_);conv=>whnf)|fail
  refine⟨_,rfl,?_⟩
  repeat' first|refine zd ?_|refine zc ?_|((first|refine zi ?_|refine regA ?_|fail);conv=>whnf)|fail
  refine⟨sgA ?a ?b .busy none time addr v,none,?h1,?h2,?h3,?h4⟩
  case h3=>exact rfl
  case h1=>exact⟨rfl,rfl,rfl,rfl,rfl,trivial⟩
  case h2=>rfl
  case h4=>exact⟨rfl,rfl⟩
end Go.Proofs.YtnkhljdifljdbaaGreatDoor
namespace Go.Proofs.YtnkhljdifljdbaaGreatDoor
open Go Go.QL FoT
set_option maxHeartbeats 1600000
set_option maxRecDepth 20000
attribute [local irreducible] ACall FnC YC fine ten
theorem and127 (x:Int) (h:0≤x∧x≤1000000000):ze6 .and .i64 x 127=x % 128:=by
 show IntKind.i64.wrap ((BitVec.ofInt 64 x &&& BitVec.ofInt 64 127).toNat:Int)=_
 have e2:(BitVec.ofInt 64 127)=BitVec.ofNat 64 127:=by decide
 rw [e2,BitVec.toNat_and,BitVec.toNat_ofNat,BitVec.toNat_ofInt];rw [show (127 % 2 ^ 64:Nat)=2 ^ 7 - 1 by decide,Nat.and_two_pow_sub_one_eq_mod];rw [zg (by omega)];omega
theorem unpack_fn (w:Int) (h:0≤w∧w≤1000000000):FnC Tryz.prog 235 [iv .i64 w] (.t [iv .i64 (w / 128),iv .i64 (w % 128)]):=by
 have h1:w.fdiv (2 ^ min (Int.toNat 7) IntKind.i64.bits)=w / 128:=Int.fdiv_eq_ediv_of_nonneg _ (by decide);have h2:=and127 w h;refine hdC Tryz.func235 Tryz.ntmps235 (res:=[.tmp 2,.tmp 3]) fun w0 K0=>?_
 repeat' first|refine zd ?_|((first|refine zi ?_|refine regA ?_|refine⟨_,h1,?_⟩|refine⟨_,h2,?_⟩|refine andA ?_|fail);conv=>whnf)|fail
 rfl
abbrev oAV (o:OrO):AV:=orAV o.op o.a o.b o.n
theorem decode_fn (w:Int) (h:zP w):FnC Tryz.prog 188 [iv .i64 w] (oAV (decO w)):=by
 unfold zP at h;have p1:=unpack_fn w (by omega);have p2:=unpack_fn (w / 128) (by omega);have p3:=unpack_fn (w / 128 / 128) (by omega);have e1:w / 128 / 128 / 128=w / 2097152:=by omega
 have e2:w / 128 / 128 % 128=w / 16384 % 128:=by omega
 rw [e1,e2] at p3;refine hdC Tryz.func188 Tryz.ntmps188 (res:=[.cell 2 184]) fun w0 K0=>?_
 repeat' first|refine zd ?_|((first|refine zi ?_|refine regA ?_|refine zsn (p1) ?_|refine zsn (p2) ?_|refine zsn (p3) ?_|refine andA ?_|fail);conv=>whnf)|fail
 rfl
structure OrOK (o:OrO):Prop where
 op:0≤o.op∧o.op≤7
 a:0≤o.a∧o.a≤127
 b:0≤o.b∧o.b≤127
 n:0≤o.n∧o.n≤127
theorem dec_ok {w:Int} (h:zP w):OrOK (decO w):=by
 unfold zP at h;refine⟨?_,?_,?_,?_⟩ <;> (unfold decO;dsimp only;omega)
def atO (o:OrO) (neg:Bool):Int:=if o.op=5∧neg=true then o.b else o.n
theorem when_fn (o:OrO) (ho:OrOK o) (time:Int) (ht:0≤time∧time≤10000000000) (neg:Bool):FnC Tryz.prog 238 [oAV o,iv .i64 time,bv neg] (.t [iv .i64 (atO o neg),iv .i64 (untilO o time (atO o neg))]):=by
 obtain⟨op,a,b,n⟩:=o;obtain⟨h1,h2,h3,h4⟩:=ho;dsimp only at h1 h2 h3 h4;show FnC Tryz.prog 238 [orAV op a b n,iv .i64 time,bv neg] _
 have hat:0≤atO ⟨op,a,b,n⟩ neg∧atO ⟨op,a,b,n⟩ neg≤127:=by unfold atO;split <;> assumption
 have b1:=after_le time a;have b2:=after_le time b;have b3:=after_le (afterO time a) b;have b4:=after_le (afterO (afterO time a) b+12) b;have c1:=after_fn time a (by omega) (by omega);have c2:=after_fn time b (by omega) (by omega);have c3:=after_fn (afterO time a) b (by omega) (by omega);have c4:=after_fn (afterO (afterO time a) b+12) b (by omega) (by omega);have d1:=after_fn (afterO time a) (atO ⟨op,a,b,n⟩ neg) (by omega) (by omega);have d2:=after_fn (afterO time b) (atO ⟨op,a,b,n⟩ neg) (by omega) (by omega);have d3:=after_fn (afterO (afterO time a) b) (atO ⟨op,a,b,n⟩ neg) (by omega) (by omega);have d4:=after_fn (afterO (afterO (afterO time a) b+12) b) (atO ⟨op,a,b,n⟩ neg) (by omega) (by omega);clear hat;unfold untilO atO at *;dsimp only at *;by_cases k5:op=5
 ·subst k5;cases neg with
  | true=>
   simp only [and_self,if_true,true_or] at *;refine hdC Tryz.func238 Tryz.ntmps238 (res:=[.tmp 6,.tmp 7]) fun w0 K0=>?_
   repeat' first|refine zd ?_|refine zc ?_|((first|refine zk ?_|refine zi ?_|refine regA ?_|refine zsn (c1) ?_|refine zsn (d1) ?_|fail);conv=>whnf)|(refine zst rfl ?_)|((refine andA ?_);conv=>whnf)|fail
   rfl
  | false=>
   simp only [and_false,if_false,Bool.false_eq_true,true_or,if_true] at *;refine hdC Tryz.func238 Tryz.ntmps238 (res:=[.tmp 6,.tmp 7]) fun w0 K0=>?_
   repeat' first|refine zd ?_|refine zc ?_|((first|refine zf ?_|refine zk ?_|refine zi ?_|refine regA ?_|refine zsn (c1) ?_|refine zsn (d1) ?_|fail);conv=>whnf)|(refine zst rfl ?_)|(refine zss rfl ?_)|((refine andA ?_);conv=>whnf)|fail
   rfl
 ·simp only [k5,false_and,if_false,false_or] at d1 d2 d3 d4 ⊢;by_cases k7:op=7
  ·subst k7;rw [if_pos rfl];refine hdC Tryz.func238 Tryz.ntmps238 (res:=[.tmp 6,.tmp 7]) fun w0 K0=>?_
   repeat' first|refine zd ?_|refine zc ?_|((first|refine zf ?_|refine zk ?_|refine zi ?_|refine regA ?_|refine zsn (c1) ?_|refine zsn (d1) ?_|fail);conv=>whnf)|(refine zst rfl ?_)|(refine zss rfl ?_)|((refine andA ?_);conv=>whnf)|fail
   rfl
  ·rw [if_neg k7];by_cases k6:op=6
   ·subst k6;rw [if_pos rfl];refine hdC Tryz.func238 Tryz.ntmps238 (res:=[.tmp 6,.tmp 7]) fun w0 K0=>?_
    repeat' first|refine zd ?_|refine zc ?_|((first|refine zf ?_|refine zk ?_|refine zi ?_|refine regA ?_|refine zsn (c2) ?_|refine zsn (d2) ?_|fail);conv=>whnf)|(refine zst rfl ?_)|(refine zss rfl ?_)|((refine andA ?_);conv=>whnf)|fail
    rfl
   ·rw [if_neg k6];by_cases k4:op=4
    ·subst k4;rw [if_pos rfl];refine hdC Tryz.func238 Tryz.ntmps238 (res:=[.tmp 6,.tmp 7]) fun w0 K0=>?_
     repeat' first|refine zd ?_|refine zc ?_|((first|refine zf ?_|refine zk ?_|refine zi ?_|refine regA ?_|refine drA (id:=11) 6 false [0,0,2,7,0,16,63,127,255] ?_|refine zsp (c1) ?_|refine zsn (c3) ?_|refine zsn (c4) ?_|refine zsn (d4) ?_|fail);conv=>whnf)|(refine zst rfl ?_)|(refine zss rfl ?_)|((first|refine zsq ?_|refine andA ?_|fail);conv=>whnf)|fail
     rfl
    ·rw [if_neg k4];refine hdC Tryz.func238 Tryz.ntmps238 (res:=[.tmp 6,.tmp 7]) fun w0 K0=>?_
     repeat' first|refine zd ?_|refine zc ?_|((first|refine zf ?_|refine zk ?_|refine zi ?_|refine regA ?_|refine drA (id:=11) 6 false [0,0,2,7,0,16,63,127,255] ?_|refine drA (id:=13) 6 false [0,0,2,7,0,16,63,127] ?_|fail);conv=>whnf)|exact abA hb|((first|refine zsp (c1) ?_|refine zsn (c3) ?_|refine zsn (d3) ?_|fail);conv=>whnf)|(refine zso rfl (fun hb=>?_) (fun hb=>?_))|((refine andA ?_);conv=>whnf)|fail
     rfl
end Go.Proofs.YtnkhljdifljdbaaGreatDoor
namespace Go.Proofs.YtnkhljdifljdbaaGreatDoor
open Go Go.QL FoT
set_option maxHeartbeats 1600000
set_option maxRecDepth 20000
attribute [local irreducible] ACall FnC YC fine ten
abbrev iC (n:Int):SV:=.d (.v (.int .i64 n))
abbrev mS (s:OrS) (o:OrO) (p:Nat):Sg:=
 [(26,.box [.o 900 1 128,.d (zR s.tape),iC s.taken,.o 901 p s.printed.length,iC s.time,iC s.at_,iC s.done,iC s.why,iC o.op,iC o.a,iC o.b,iC o.n]),
  (900,.chain 3 1 1 (s.store.map iPV)),(901,.chain 3 1 p (s.printed.map iPV))]
theorem mfrom_fn (s:OrS) (o:OrO) (p:Nat) (hl:s.store.length=128) (h:0≤o.a∧o.a≤127):ACall Tryz.prog 240 [.x (.b 26 0)] (mS s o p) (fun r σ'=>r=.x (.oe 900 1 o.a.toNat 0)∧σ'=mS s o p):=by
 have hm:(s.store.map iPV).length=128:=by rw [List.length_map,hl]
 refine hdD Tryz.func240 Tryz.ntmps240 (res:=[.tmp 2]) fun w0 K0 B=>?_
 repeat' first|refine zd ?_|((first|refine zi ?_|refine regA ?_|refine drA (id:=1) 10 false [0,1,3,7,15,0,32,96,224,480,1023,2047] ?_|refine andA ?_|fail);conv=>whnf)|fail
 exact⟨_,mS s o p,⟨rfl,rfl,rfl,trivial⟩,rfl,rfl,rfl,rfl⟩
theorem mto_fn (s:OrS) (o:OrO) (p:Nat) (hl:s.store.length=128) (h:0≤o.b∧o.b≤127):ACall Tryz.prog 275 [.x (.b 26 0)] (mS s o p) (fun r σ'=>r=.x (.oe 900 1 o.b.toNat 0)∧σ'=mS s o p):=by
 have hm:(s.store.map iPV).length=128:=by rw [List.length_map,hl]
 refine hdD Tryz.func275 Tryz.ntmps275 (res:=[.tmp 2]) fun w0 K0 B=>?_
 repeat' first|refine zd ?_|((first|refine zi ?_|refine regA ?_|refine drA (id:=1) 10 false [0,1,3,7,15,0,32,96,224,480,1023,2047] ?_|refine andA ?_|fail);conv=>whnf)|fail
 exact⟨_,mS s o p,⟨rfl,rfl,rfl,trivial⟩,rfl,rfl,rfl,rfl⟩
theorem rd_get {s:OrS} {a:Int} (hl:s.store.length=128) (h:0≤a∧a≤127):(s.store.map iPV)[a.toNat]?=some (iPV (rdO s a)):=by
 rw [List.getElem?_map,List.getElem?_eq_getElem (by omega)];unfold rdO;rw [List.getD_eq_getElem?_getD,List.getElem?_eq_getElem (by omega)];rfl
theorem wr_map (s:OrS) (b v:Int):(s.store.map iPV).set b.toNat (iPV v)=(wrO s b v).store.map iPV:=by
 unfold wrO;dsimp only;rw [List.map_set]
theorem word_wrap {x y:Int} (hx:zP x) (hy:zP y):IntKind.i64.wrap (x+y)=x+y∧IntKind.i64.wrap (x - y)=x - y:=by
 unfold zP at *;exact⟨zg (by omega),zg (by omega)⟩
theorem sgn_in {x:Int} (h:zP x) : -8388608≤sgnW x∧sgnW x≤8388607:=by
 unfold zP at h;unfold sgnW;split <;> omega
theorem sgn_mul {x y:Int} (hx:zP x) (hy:zP y):IntKind.i64.wrap (sgnW x * sgnW y)=sgnW x * sgnW y∧(sgnW x * sgnW y).fdiv (2 ^ min (Int.toNat 23) IntKind.i64.bits)=sgnW x * sgnW y / 8388608:=by
 have h1:=sgn_in hx;have h2:=sgn_in hy;generalize sgnW x=a at *;generalize sgnW y=b at *;refine⟨zg ?_,Int.fdiv_eq_ediv_of_nonneg _ (by decide)⟩
 have h3:a * b≤8388608 * 8388608∧-(8388608 * 8388608)≤a * b:=by
  have:=zdO (y:=b) h1.1 h1.2;have e1:(-8388608:Int) * b≤8388608 * 8388608∧-(8388608 * 8388608)≤(-8388608:Int) * b:=by omega
  have e2:(8388607:Int) * b≤8388608 * 8388608∧-(8388608 * 8388608)≤(8388607:Int) * b:=by omega
  omega
 omega
theorem mmove_fn (s:OrS) (o:OrO) (p:Nat) (hl:s.store.length=128) (h:OrOK o):ACall Tryz.prog 242 [.x (.b 26 0)] (mS s o p) (fun r σ'=>r=.t []∧σ'=mS (wrO s o.b (rdO s o.a)) o p):=by
 have h1:=mfrom_fn s o p hl h.a;have h2:=mto_fn s o p hl h.b;have g1:=rd_get hl h.a;have g2:=rd_get hl h.b;have hw:=wr_map s o.b (rdO s o.a);refine hdD Tryz.func242 Tryz.ntmps242 (res:=[]) fun w0 K0 B=>?_
 repeat' first|((first|refine regA ?_|((refine⟨_,h1,?_⟩);(rintro _ _ ⟨rfl,rfl⟩))|((refine⟨_,h2,?_⟩);(rintro _ _ ⟨rfl,rfl⟩))|with_reducible refine Exists.intro _ (And.intro (ze g1) (And.intro (And.intro (Nat.le_of_ble_eq_true rfl) rfl) ?_))|with_reducible refine Exists.intro _ (And.intro g2 (And.intro (Nat.le_of_ble_eq_true rfl) ?_))|refine andA ?_|fail);conv=>whnf)|fail
 exact⟨_,mS (wrO s o.b (rdO s o.a)) o p,⟨rfl,chE hw,rfl,trivial⟩,rfl,rfl,rfl,rfl⟩
theorem madd_fn (s:OrS) (o:OrO) (p:Nat) (hl:s.store.length=128) (h:OrOK o) (wa:zP (rdO s o.a)) (wb:zP (rdO s o.b)):ACall Tryz.prog 243 [.x (.b 26 0)] (mS s o p) (fun r σ'=>r=.t []∧σ'=mS (wrO s o.b ((rdO s o.b+rdO s o.a) % 16777216)) o p):=by
 have h1:=mfrom_fn s o p hl h.a;have h2:=mto_fn s o p hl h.b;have g1:=rd_get hl h.a;have g2:=rd_get hl h.b;have w1:=(word_wrap wb wa).1;have w2:=zsh (rdO s o.b+rdO s o.a);have hw:=wr_map s o.b ((rdO s o.b+rdO s o.a) % 16777216);refine hdD Tryz.func243 Tryz.ntmps243 (res:=[]) fun w0 K0 B=>?_
 repeat' first|((first|refine zkA hTt hMix (id:=0) 10 [0,2,6] [⟨1,false,false,[2,6],[]⟩,⟨3,false,false,[6],[4,5]⟩,⟨7,false,false,[4,5],[8,9]⟩] [0,1,0,7,15,31,0,79,207,463,1023,2047,4095,8191] (by kernel_rfl) rfl (by kernel_rfl) (by kernel_rfl) (by kernel_rfl) ?_|refine LateGo.mk ⟨_,rfl,?_⟩|((refine⟨_,h1,?_⟩);(rintro _ _ ⟨rfl,rfl⟩))|((refine⟨_,h2,?_⟩);(rintro _ _ ⟨rfl,rfl⟩))|refine⟨_,w1,?_⟩|refine⟨_,w2,?_⟩|with_reducible refine Exists.intro _ (And.intro (ze g1) (And.intro (And.intro (Nat.le_of_ble_eq_true rfl) rfl) ?_))|with_reducible refine Exists.intro _ (And.intro (ze g2) (And.intro (And.intro (Nat.le_of_ble_eq_true rfl) rfl) ?_))|with_reducible refine Exists.intro _ (And.intro g2 (And.intro (Nat.le_of_ble_eq_true rfl) ?_))|refine andA ?_|fail);conv=>whnf)|fail
 exact⟨_,mS (wrO s o.b ((rdO s o.b+rdO s o.a) % 16777216)) o p,⟨rfl,chE hw,rfl,trivial⟩,rfl,rfl,rfl,rfl⟩
theorem msub_fn (s:OrS) (o:OrO) (p:Nat) (hl:s.store.length=128) (h:OrOK o) (wa:zP (rdO s o.a)) (wb:zP (rdO s o.b)):ACall Tryz.prog 244 [.x (.b 26 0)] (mS s o p) (fun r σ'=>r=.t []∧σ'=mS (wrO s o.b ((rdO s o.b - rdO s o.a) % 16777216)) o p):=by
 have h1:=mfrom_fn s o p hl h.a;have h2:=mto_fn s o p hl h.b;have g1:=rd_get hl h.a;have g2:=rd_get hl h.b;have w1:=(word_wrap wb wa).2;have w2:=zsh (rdO s o.b - rdO s o.a);have hw:=wr_map s o.b ((rdO s o.b - rdO s o.a) % 16777216);refine hdD Tryz.func244 Tryz.ntmps244 (res:=[]) fun w0 K0 B=>?_
 repeat' first|((first|refine zkA hTt hMix (id:=0) 10 [0,2,6] [⟨1,false,false,[2,6],[]⟩,⟨3,false,false,[6],[4,5]⟩,⟨7,false,false,[4,5],[8,9]⟩] [0,1,0,7,15,31,0,79,207,463,1023,2047,4095,8191] (by kernel_rfl) rfl (by kernel_rfl) (by kernel_rfl) (by kernel_rfl) ?_|refine LateGo.mk ⟨_,rfl,?_⟩|((refine⟨_,h1,?_⟩);(rintro _ _ ⟨rfl,rfl⟩))|((refine⟨_,h2,?_⟩);(rintro _ _ ⟨rfl,rfl⟩))|refine⟨_,w1,?_⟩|refine⟨_,w2,?_⟩|with_reducible refine Exists.intro _ (And.intro (ze g1) (And.intro (And.intro (Nat.le_of_ble_eq_true rfl) rfl) ?_))|with_reducible refine Exists.intro _ (And.intro (ze g2) (And.intro (And.intro (Nat.le_of_ble_eq_true rfl) rfl) ?_))|with_reducible refine Exists.intro _ (And.intro g2 (And.intro (Nat.le_of_ble_eq_true rfl) ?_))|refine andA ?_|fail);conv=>whnf)|fail
 exact⟨_,mS (wrO s o.b ((rdO s o.b - rdO s o.a) % 16777216)) o p,⟨rfl,chE hw,rfl,trivial⟩,rfl,rfl,rfl,rfl⟩
theorem mmul_fn (s:OrS) (o:OrO) (p:Nat) (hl:s.store.length=128) (h:OrOK o) (wa:zP (rdO s o.a)) (wb:zP (rdO s o.b)):ACall Tryz.prog 245 [.x (.b 26 0)] (mS s o p) (fun r σ'=>r=.t []∧σ'=mS (wrO s o.b (sgnW (rdO s o.a) * sgnW (rdO s o.b) / 8388608 % 16777216)) o p):=by
 have h1:=mfrom_fn s o p hl h.a;have h2:=mto_fn s o p hl h.b;have g1:=rd_get hl h.a;have g2:=rd_get hl h.b;have s1:=zps _ wa;have s2:=zps _ wb;obtain⟨w1,w3⟩:=sgn_mul wa wb;have w2:=zsh (sgnW (rdO s o.a) * sgnW (rdO s o.b) / 8388608);have hw:=wr_map s o.b (sgnW (rdO s o.a) * sgnW (rdO s o.b) / 8388608 % 16777216);refine hdD Tryz.func245 Tryz.ntmps245 (res:=[]) fun w0 K0 B=>?_
 repeat' first|((first|refine regA ?_|((refine⟨_,h1,?_⟩);(rintro _ _ ⟨rfl,rfl⟩))|((refine⟨_,h2,?_⟩);(rintro _ _ ⟨rfl,rfl⟩))|refine zsn (s1) ?_|refine zsn (s2) ?_|refine⟨_,w1,?_⟩|refine⟨_,w2,?_⟩|refine⟨_,w3,?_⟩|with_reducible refine Exists.intro _ (And.intro (ze g1) (And.intro (And.intro (Nat.le_of_ble_eq_true rfl) rfl) ?_))|with_reducible refine Exists.intro _ (And.intro (ze g2) (And.intro (And.intro (Nat.le_of_ble_eq_true rfl) rfl) ?_))|with_reducible refine Exists.intro _ (And.intro g2 (And.intro (Nat.le_of_ble_eq_true rfl) ?_))|refine andA ?_|fail);conv=>whnf)|fail
 exact⟨_,mS (wrO s o.b (sgnW (rdO s o.a) * sgnW (rdO s o.b) / 8388608 % 16777216)) o p,⟨rfl,chE hw,rfl,trivial⟩,rfl,rfl,rfl,rfl⟩
theorem mread_fn (s:OrS) (o:OrO) (p:Nat) (hl:s.store.length=128) (h:OrOK o) (ht:0≤s.taken∧s.taken < s.tape.length) (htm:s.tape.length≤1000):ACall Tryz.prog 246 [.x (.b 26 0)] (mS s o p)
  (fun r σ'=>r=.t []∧σ'=mS { wrO s o.b (s.tape.getD s.taken.toNat 0) with taken:=s.taken+1 } o p):=by
 have h2:=mto_fn s o p hl h.b;have g2:=rd_get hl h.b;have hw:=wr_map s o.b (s.tape.getD s.taken.toNat 0);have gt:s.tape[s.taken.toNat]?=some (s.tape.getD s.taken.toNat 0):=by rw [List.getD_eq_getElem?_getD,List.getElem?_eq_getElem (by omega)];rfl
 generalize s.tape.getD s.taken.toNat 0=v at *;refine hdD Tryz.func246 Tryz.ntmps246 (res:=[]) fun w0 K0 B=>?_
 repeat' first|((first|refine zkA hTt hMix (id:=0) 14 [0,2,3,4,5,6,7,8,9,10,11,12,13] [⟨1,false,false,[2,3,4,5,6,7,8,9,10,11,12,13],[]⟩] [0,1,0,4,12,28,60,0,128,384,896,1920,4092,8188,16383,32767] (by kernel_rfl) rfl (by kernel_rfl) (by kernel_rfl) (by kernel_rfl) ?_|refine LateGo.mk ⟨_,rfl,?_⟩|fail);conv=>whnf)|refine zd ?_|((first|refine regA ?_|((refine⟨_,h2,?_⟩);(rintro _ _ ⟨rfl,rfl⟩))|with_reducible refine Exists.intro _ (And.intro g2 (And.intro (Nat.le_of_ble_eq_true rfl) ?_))|with_reducible refine Exists.intro _ (And.intro (ze (And.intro (by omega) (zgb gt))) ?_)|refine zsq ?_|refine andA ?_|fail);conv=>whnf)|fail
 exact⟨_,mS { wrO s o.b v with taken:=s.taken+1 } o p,⟨rfl,chE hw,rfl,trivial⟩,rfl,rfl,rfl,rfl⟩
theorem mprint_fn (s:OrS) (o:OrO) (p:Nat) (hl:s.store.length=128) (h:OrOK o) (hp:s.printed.length≤1000):ACall Tryz.prog 247 [.x (.b 26 0)] (mS s o p)
  (fun r σ'=>r=.t []∧σ'=mS { s with printed:=s.printed ++ [rdO s o.a] } o (p+1)):=by
 have h1:=mfrom_fn s o p hl h.a;have g1:=rd_get hl h.a;have hpl:(s.printed.map iPV).length=s.printed.length:=List.length_map _;have e2:(s.printed.map iPV).take s.printed.length ++ [iPV (rdO s o.a)]=(s.printed ++ [rdO s o.a]).map iPV:=by rw [List.map_append,List.take_of_length_le (by omega)];rfl
 refine hdD Tryz.func247 Tryz.ntmps247 (res:=[]) fun w0 K0 B=>?_
 repeat' first|((first|refine zkA hTt hMix (id:=0) 12 [0,1,2,3,4,5,6] [⟨7,false,false,[0,1,2,3,4,5],[8,9,10]⟩,⟨11,false,false,[0],[]⟩] [0,0,2,6,14,30,0,64,192,448,960,2046,4095,8191,16383,32767] (by kernel_rfl) rfl (by kernel_rfl) (by kernel_rfl) (by kernel_rfl) ?_|refine LateGo.mk ⟨_,rfl,?_⟩|((refine⟨_,h1,?_⟩);(rintro _ _ ⟨rfl,rfl⟩))|with_reducible refine Exists.intro _ (And.intro (ze g1) (And.intro (And.intro (Nat.le_of_ble_eq_true rfl) rfl) ?_))|refine andA ?_|fail);conv=>whnf)|((refine And.intro (by refine⟨?_,?_,?_⟩ <;> simp [zO,maxLen] <;> omega) ?_);conv=>whnf)|fail
 have e3:s.printed.length+1=(s.printed ++ [rdO s o.a]).length:=by rw [List.length_append];rfl
 exact⟨_,mS { s with printed:=s.printed ++ [rdO s o.a] } o (p+1),⟨(by show _=some (Ob.box [_,_,_,SV.o 901 (p+1) (s.printed ++ [rdO s o.a]).length,_,_,_,_,_,_,_,_]);rw [← e3];rfl),rfl,chE e2,trivial⟩,rfl,rfl,rfl,rfl⟩
end Go.Proofs.YtnkhljdifljdbaaGreatDoor
namespace Go.Proofs.YtnkhljdifljdbaaGreatDoor
open Go Go.QL FoT
set_option maxHeartbeats 3200000
set_option maxRecDepth 20000
attribute [local irreducible] ACall FnC YC fine ten
structure OKS (s:OrS):Prop where
 len:s.store.length=128
 words:∀ w ∈ s.store,zP w
 tape:s.tape.length≤200
 twords:∀ w ∈ s.tape,zP w
 taken:0≤s.taken∧s.taken≤s.tape.length
 pr:s.printed.length≤200
 pwords:∀ w ∈ s.printed,zP w
 time:0≤s.time∧s.time≤1000000000
 at_:0≤s.at_∧s.at_≤127
 done:0≤s.done∧s.done≤s.time
 why:0≤s.why∧s.why≤4
theorem OKS.rd {s:OrS} (h:OKS s) (i:Int):zP (rdO s i):=by
 unfold rdO;rw [List.getD_eq_getElem?_getD];cases hx:s.store[i.toNat]? with
 | none=>exact⟨by decide,by decide⟩
 | some w=>exact h.words w (List.mem_of_getElem? hx)
def stepF (s:OrS) (o:OrO) (A u:Int):OrS:=
 let why:=if o.op=0 then 1 else if o.op=6∧s.taken=s.tape.length then 2 else if o.op=7∧s.printed.length=200 then 3 else 0
 let why:=if why=0∧1000000000 < u then 4 else why
 if why=0 then { doO s o with at_:=A,time:=u,done:=s.done+1,why:=0 } else { s with why:=why }
theorem stepF_eq {s:OrS} (hw:s.why=0):stepO s=stepF s (decO (rdO s s.at_)) (atO (decO (rdO s s.at_)) (decide (sgnW (rdO s (decO (rdO s s.at_)).a) < 0))) (untilO (decO (rdO s s.at_)) s.time (atO (decO (rdO s s.at_)) (decide (sgnW (rdO s (decO (rdO s s.at_)).a) < 0)))):=by
 unfold stepO stepF atO;rw [hw];simp only [decide_eq_true_eq]
theorem stepnop_fn:FnC Tryz.prog 241 [] (.t []):=by
 refine hdC Tryz.func241 Tryz.ntmps241 (res:=[]) fun w0 K0=>?_
 repeat' first|((refine zf ?_);conv=>whnf)|fail
 rfl
section
variable {st tp pr X pr':List Int} {tk tk' tm at' dn op a b n A u w va:Int} {o:OrO} {p p':Nat}
theorem step_go (hop:1≤op∧op≤7) (hln:st.length=128) (hat:0≤at'∧at'≤127) (hdn:0≤dn∧dn≤1000000000) (g0:(st.map iPV)[at'.toNat]?=some (iPV w)) (g1:(st.map iPV)[a.toNat]?=some (iPV va))
  (dc:FnC Tryz.prog 188 [iv .i64 w] (orAV op a b n)) (hsg:FnC Tryz.prog 239 [iv .i64 va] (iv .i64 (sgnW va)))
  (hwh:FnC Tryz.prog 238 [orAV op a b n,iv .i64 tm,bv (decide (sgnW va < 0))] (.t [iv .i64 A,iv .i64 u])) (hu:¬ 1000000000 < u)
  (hfr:ACall Tryz.prog 240 [.x (.b 26 0)] (mS ⟨st,tp,tk,pr,tm,at',dn,0⟩ ⟨op,a,b,n⟩ p) (fun r σ'=>r=.x (.oe 900 1 a.toNat 0)∧σ'=mS ⟨st,tp,tk,pr,tm,at',dn,0⟩ ⟨op,a,b,n⟩ p))
  (h1:op=1→ACall Tryz.prog 242 [.x (.b 26 0)] (mS ⟨st,tp,tk,pr,tm,at',dn,0⟩ ⟨op,a,b,n⟩ p) (fun r σ'=>r=.t []∧σ'=mS ⟨X,tp,tk',pr',tm,at',dn,0⟩ ⟨op,a,b,n⟩ p'))
  (h2:op=2→ACall Tryz.prog 243 [.x (.b 26 0)] (mS ⟨st,tp,tk,pr,tm,at',dn,0⟩ ⟨op,a,b,n⟩ p) (fun r σ'=>r=.t []∧σ'=mS ⟨X,tp,tk',pr',tm,at',dn,0⟩ ⟨op,a,b,n⟩ p'))
  (h3:op=3→ACall Tryz.prog 244 [.x (.b 26 0)] (mS ⟨st,tp,tk,pr,tm,at',dn,0⟩ ⟨op,a,b,n⟩ p) (fun r σ'=>r=.t []∧σ'=mS ⟨X,tp,tk',pr',tm,at',dn,0⟩ ⟨op,a,b,n⟩ p'))
  (h4:op=4→ACall Tryz.prog 245 [.x (.b 26 0)] (mS ⟨st,tp,tk,pr,tm,at',dn,0⟩ ⟨op,a,b,n⟩ p) (fun r σ'=>r=.t []∧σ'=mS ⟨X,tp,tk',pr',tm,at',dn,0⟩ ⟨op,a,b,n⟩ p'))
  (h5:op=5→X=st∧tk'=tk∧pr'=pr∧p'=p)
  (h6:op=6→tk≠tp.length∧ACall Tryz.prog 246 [.x (.b 26 0)] (mS ⟨st,tp,tk,pr,tm,at',dn,0⟩ ⟨op,a,b,n⟩ p) (fun r σ'=>r=.t []∧σ'=mS ⟨X,tp,tk',pr',tm,at',dn,0⟩ ⟨op,a,b,n⟩ p'))
  (h7:op=7→pr.length≠200∧ACall Tryz.prog 247 [.x (.b 26 0)] (mS ⟨st,tp,tk,pr,tm,at',dn,0⟩ ⟨op,a,b,n⟩ p) (fun r σ'=>r=.t []∧σ'=mS ⟨X,tp,tk',pr',tm,at',dn,0⟩ ⟨op,a,b,n⟩ p')) :
  ACall Tryz.prog 194 [.x (.b 26 0)] (mS ⟨st,tp,tk,pr,tm,at',dn,0⟩ o p) (fun r σ'=>r=.t []∧σ'=mS ⟨X,tp,tk',pr',u,A,dn+1,0⟩ ⟨op,a,b,n⟩ p'):=by
 have hud:decide (1000000000 < u)=false:=decide_eq_false hu;have hdw:IntKind.i64.wrap (dn+1)=dn+1:=zg (by omega);have hnp:=stepnop_fn;dsimp only [mS] at *;clear hu;refine hdD Tryz.func194 Tryz.ntmps194 (res:=[]) fun w0 K0 B=>?_
 repeat' first|((first|refine zkA hTt hMix (id:=1) 20 [0,1,2,3,4,5,6,7,8,9] [⟨10,false,false,[0,1,2,3,4,5,6,7,8],[11,12,13,14,15,16,17,18,19]⟩] [0,1,3,7,0,16,48,112,240,0,512,1536,3584,7680,15872,32767,65535,131071,131071,262143,1048575] (by kernel_rfl) rfl (by kernel_rfl) (by kernel_rfl) (by kernel_rfl) ?_|refine LateGo.mk ⟨_,rfl,?_⟩|fail);conv=>whnf)|refine zd ?_|refine zc ?_|((first|refine zf ?_|refine regA ?_|refine drA (id:=0) 14 false [0,0,2,6,14,30,0,64,192,448,960,2046,4094,8190,16383,32767,65535] ?_|refine drA (id:=16) 11 false [0,1,3,7,15,0,32,96,224,480,992,2047] ?_|refine zsp (dc) ?_|((refine⟨_,hfr,?_⟩);(rintro _ _ ⟨rfl,rfl⟩))|with_reducible refine Exists.intro _ (And.intro (ze g0) (And.intro (And.intro (Nat.le_of_ble_eq_true rfl) rfl) ?_))|with_reducible refine Exists.intro _ (And.intro (ze g1) (And.intro (And.intro (Nat.le_of_ble_eq_true rfl) rfl) ?_))|refine zsp (hsg) ?_|refine zsp (hwh) ?_|((refine⟨_,(h1 (by assumption)),?_⟩);(rintro _ _ ⟨rfl,rfl⟩))|((refine⟨_,(h2 (by assumption)),?_⟩);(rintro _ _ ⟨rfl,rfl⟩))|((refine⟨_,(h3 (by assumption)),?_⟩);(rintro _ _ ⟨rfl,rfl⟩))|((refine⟨_,(h4 (by assumption)),?_⟩);(rintro _ _ ⟨rfl,rfl⟩))|((refine⟨_,(h6 (by assumption)).2,?_⟩);(rintro _ _ ⟨rfl,rfl⟩))|((refine⟨_,(h7 (by assumption)).2,?_⟩);(rintro _ _ ⟨rfl,rfl⟩))|refine zsn (hnp) ?_|fail);conv=>whnf)|(refine za rfl (zM hud) (fun _=>?_))|((refine⟨_,hdw,?_⟩);conv=>whnf)|exact abA hb|(refine zst rfl ?_)|(refine zso rfl (fun hb=>?_) (fun hb=>?_))|((first|refine andA ?_|with_reducible refine And.intro (ze (And.intro (by omega) (And.intro (by first|omega|(simp only [List.length_map];omega)) (by first|omega|(simp only [List.length_map];omega)|(simp only [List.length_set,List.length_map];omega))))) ?_|fail);conv=>whnf)|(refine lnA fun hln=>?_;conv=>whnf)|fail
 all_goals first
  | exact⟨_,mS ⟨X,tp,tk',pr',u,A,dn+1,0⟩ ⟨op,a,b,n⟩ p',⟨rfl,rfl,rfl,trivial⟩,rfl,rfl,rfl,rfl⟩
  | (obtain⟨rfl,rfl,rfl,rfl⟩:=h5 (by omega);exact⟨_,mS ⟨X,tp,tk',pr',u,A,dn+1,0⟩ ⟨op,a,b,n⟩ p',⟨rfl,rfl,rfl,trivial⟩,rfl,rfl,rfl,rfl⟩)
theorem step_stop {wy:Int} (hop:0≤op∧op≤7) (hln:st.length=128) (hat:0≤at'∧at'≤127) (g0:(st.map iPV)[at'.toNat]?=some (iPV w)) (g1:(st.map iPV)[a.toNat]?=some (iPV va))
  (dc:FnC Tryz.prog 188 [iv .i64 w] (orAV op a b n)) (hsg:FnC Tryz.prog 239 [iv .i64 va] (iv .i64 (sgnW va)))
  (hwh:FnC Tryz.prog 238 [orAV op a b n,iv .i64 tm,bv (decide (sgnW va < 0))] (.t [iv .i64 A,iv .i64 u]))
  (hfr:ACall Tryz.prog 240 [.x (.b 26 0)] (mS ⟨st,tp,tk,pr,tm,at',dn,0⟩ ⟨op,a,b,n⟩ p) (fun r σ'=>r=.x (.oe 900 1 a.toNat 0)∧σ'=mS ⟨st,tp,tk,pr,tm,at',dn,0⟩ ⟨op,a,b,n⟩ p))
  (q0:op=0→wy=1) (q6:op=6→tk=tp.length→wy=2) (q7:op=7→(pr.length:Int)=200→wy=3) (ql:op≠0→¬ (op=6∧tk=tp.length)→¬ (op=7∧(pr.length:Int)=200)→wy=4∧1000000000 < u) :
  ACall Tryz.prog 194 [.x (.b 26 0)] (mS ⟨st,tp,tk,pr,tm,at',dn,0⟩ o p) (fun r σ'=>r=.t []∧σ'=mS ⟨st,tp,tk,pr,tm,at',dn,wy⟩ ⟨op,a,b,n⟩ p):=by
 dsimp only [mS] at *;refine hdD Tryz.func194 Tryz.ntmps194 (res:=[]) fun w0 K0 B=>?_
 repeat' first|((first|refine zkA hTt hMix (id:=1) 20 [0,1,2,3,4,5,6,7,8,9] [⟨10,false,false,[0,1,2,3,4,5,6,7,8],[11,12,13,14,15,16,17,18,19]⟩] [0,1,3,7,0,16,48,112,240,0,512,1536,3584,7680,15872,32767,65535,131071,131071,262143,1048575] (by kernel_rfl) rfl (by kernel_rfl) (by kernel_rfl) (by kernel_rfl) ?_|refine LateGo.mk ⟨_,rfl,?_⟩|fail);conv=>whnf)|refine zd ?_|refine zc ?_|((first|refine zf ?_|refine regA ?_|refine drA (id:=0) 14 false [0,0,2,6,14,30,0,64,192,448,960,2046,4094,8190,16383,32767,65535] ?_|refine drA (id:=16) 11 false [0,1,3,7,15,0,32,96,224,480,992,2047] ?_|refine zsp (dc) ?_|((refine⟨_,hfr,?_⟩);(rintro _ _ ⟨rfl,rfl⟩))|with_reducible refine Exists.intro _ (And.intro (ze g0) (And.intro (And.intro (Nat.le_of_ble_eq_true rfl) rfl) ?_))|with_reducible refine Exists.intro _ (And.intro (ze g1) (And.intro (And.intro (Nat.le_of_ble_eq_true rfl) rfl) ?_))|refine zsp (hsg) ?_|refine zsp (hwh) ?_|fail);conv=>whnf)|(exact absurd hb (by have:=ql (by omega) (by omega) (by omega);omega))|(refine zss rfl ?_)|(refine zso rfl (fun hb=>?_) (fun hb=>?_))|((first|refine andA ?_|with_reducible refine And.intro (ze (And.intro (by omega) (And.intro (by first|omega|(simp only [List.length_map];omega)) (by first|omega|(simp only [List.length_map];omega)|(simp only [List.length_set,List.length_map];omega))))) ?_|fail);conv=>whnf)|(refine lnA fun hln=>?_;conv=>whnf)|fail
 all_goals first
  | (obtain rfl:=q0 (by assumption);exact⟨_,mS ⟨st,tp,tk,pr,tm,at',dn,1⟩ ⟨op,a,b,n⟩ p,⟨rfl,rfl,rfl,trivial⟩,rfl,rfl,rfl,rfl⟩)
  | (obtain rfl:=q6 (by assumption) (by assumption);exact⟨_,mS ⟨st,tp,tk,pr,tm,at',dn,2⟩ ⟨op,a,b,n⟩ p,⟨rfl,rfl,rfl,trivial⟩,rfl,rfl,rfl,rfl⟩)
  | (obtain rfl:=q7 (by assumption) (by assumption);exact⟨_,mS ⟨st,tp,tk,pr,tm,at',dn,3⟩ ⟨op,a,b,n⟩ p,⟨rfl,rfl,rfl,trivial⟩,rfl,rfl,rfl,rfl⟩)
  | (obtain⟨rfl,_⟩:=ql (by omega) (by omega) (by omega);exact⟨_,mS ⟨st,tp,tk,pr,tm,at',dn,4⟩ ⟨op,a,b,n⟩ p,⟨rfl,rfl,rfl,trivial⟩,rfl,rfl,rfl,rfl⟩)
end
end Go.Proofs.YtnkhljdifljdbaaGreatDoor
namespace Go.Proofs.YtnkhljdifljdbaaGreatDoor
open Go Go.QL FoT
set_option maxHeartbeats 3200000
set_option maxRecDepth 20000
attribute [local irreducible] ACall FnC YC fine ten
theorem step_fn (s:OrS) (o:OrO) (p:Nat) (hs:OKS s) (hw:s.why=0):∃ p',ACall Tryz.prog 194 [.x (.b 26 0)] (mS s o p) (fun r σ'=>r=.t []∧σ'=mS (stepO s) (decO (rdO s s.at_)) p'):=by
 rw [stepF_eq hw];have hok:=dec_ok (hs.rd s.at_);have dc:=decode_fn _ (hs.rd s.at_);have g0:=rd_get hs.len hs.at_;generalize decO (rdO s s.at_)=o' at *;have hsg:=zps _ (hs.rd o'.a);have g1:=rd_get hs.len hok.a;have hwh:=when_fn o' hok s.time (by have:=hs.time;omega) (decide (sgnW (rdO s o'.a) < 0));have hfr:=mfrom_fn s o' p hs.len hok.a;have m1:=mmove_fn s o' p hs.len hok;have m2:=madd_fn s o' p hs.len hok (hs.rd _) (hs.rd _);have m3:=msub_fn s o' p hs.len hok (hs.rd _) (hs.rd _);have m4:=mmul_fn s o' p hs.len hok (hs.rd _) (hs.rd _);have m6:=fun h=>mread_fn s o' p hs.len hok h (by have:=hs.tape;omega)
 have m7:=mprint_fn s o' p hs.len hok (by have:=hs.pr;omega);have hln:=hs.len;have hat:=hs.at_;have hdn:=hs.done;have htm:=hs.time;have htk:=hs.taken;have hop:=hok.op;clear hs hok;generalize atO o' (decide (sgnW (rdO s o'.a) < 0))=A at *;generalize untilO o' s.time A=u at *;generalize rdO s s.at_=w at *;obtain⟨st,tp,tk,pr,tm,at',dn,wy⟩:=s;obtain⟨op,a,b,n⟩:=o';dsimp only at *;subst hw;by_cases hstop:op=0∨(op=6∧tk=tp.length)∨(op=7∧(pr.length:Int)=200)∨1000000000 < u
 ·refine⟨p,?_⟩
  have e:stepF ⟨st,tp,tk,pr,tm,at',dn,0⟩ ⟨op,a,b,n⟩ A u=⟨st,tp,tk,pr,tm,at',dn,if op=0 then 1 else if op=6∧tk=tp.length then 2 else if op=7∧(pr.length:Int)=200 then 3 else 4⟩:=by
   unfold stepF;dsimp only;by_cases h0:op=0
   ·rw [if_pos h0,if_pos h0,if_neg (show ¬ ((1:Int)=0∧_) from fun h=>absurd h.1 (by decide))];rfl
   ·rw [if_neg h0,if_neg h0];by_cases h6:op=6∧tk=tp.length
    ·rw [if_pos h6,if_pos h6,if_neg (show ¬ ((2:Int)=0∧_) from fun h=>absurd h.1 (by decide))];rfl
    ·rw [if_neg h6,if_neg h6];by_cases h7:op=7∧pr.length=200
     ·rw [if_pos h7,if_pos (show op=7∧(pr.length:Int)=200 by omega),if_neg (show ¬ ((3:Int)=0∧_) from fun h=>absurd h.1 (by decide))];rfl
     ·have:1000000000 < u:=by rcases hstop with h|h|h|h <;> first|exact h|contradiction|(exact absurd h (by omega))
      rw [if_neg h7,if_neg (show ¬ (op=7∧(pr.length:Int)=200) by omega),if_pos (show (0:Int)=0∧1000000000 < u from ⟨rfl,this⟩)];rfl
  rw [e];refine step_stop hop hln hat g0 g1 dc hsg hwh hfr (fun h=>by rw [if_pos h]) (fun h k=>?_) (fun h k=>?_) (fun h k l=>?_)
  ·rw [if_neg (by omega),if_pos ⟨h,k⟩]
  ·rw [if_neg (by omega),if_neg (by omega),if_pos ⟨h,k⟩]
  ·rw [if_neg h,if_neg k,if_neg l];exact⟨rfl,by rcases hstop with q|q|q|q <;> first|exact q|contradiction⟩
 ·have hu:¬ 1000000000 < u:=fun h=>hstop (by simp [h])
  have e:stepF ⟨st,tp,tk,pr,tm,at',dn,0⟩ ⟨op,a,b,n⟩ A u={ doO ⟨st,tp,tk,pr,tm,at',dn,0⟩ ⟨op,a,b,n⟩ with at_:=A,time:=u,done:=dn+1,why:=0 }:=by
   unfold stepF;dsimp only;have h7:¬ (op=7∧pr.length=200):=fun h=>hstop (.inr (.inr (.inl ⟨h.1,by omega⟩)))
   have h6:¬ (op=6∧tk=tp.length):=fun h=>hstop (.inr (.inl h))
   have h0:¬ op=0:=fun h=>hstop (.inl h)
   rw [if_neg h0,if_neg h6,if_neg h7,if_neg (show ¬ ((0:Int)=0∧1000000000 < u) from fun h=>hu h.2)];rfl
  rw [e];have key:∃ (X pr':List Int) (tk':Int) (p':Nat),doO ⟨st,tp,tk,pr,tm,at',dn,0⟩ ⟨op,a,b,n⟩=⟨X,tp,tk',pr',tm,at',dn,0⟩∧p'=(if op=7 then p+1 else p):=by
   unfold doO wrO;dsimp only;repeat' split
   all_goals exact⟨_,_,_,_,rfl,rfl⟩
  obtain⟨X,pr',tk',p',hD,hp⟩:=key;refine⟨p',?_⟩
  rw [hD];unfold doO at hD;dsimp only at hD;refine step_go (by omega) hln hat (by omega) g0 g1 dc hsg hwh hu hfr ?_ ?_ ?_ ?_ ?_ ?_ ?_
  ·rintro rfl;rw [if_pos rfl] at hD;rw [if_neg (by decide)] at hp;rw [hp,← hD];exact m1
  ·rintro rfl;rw [if_neg (by decide),if_pos rfl] at hD;rw [if_neg (by decide)] at hp;rw [hp,← hD];exact m2
  ·rintro rfl;rw [if_neg (by decide),if_neg (by decide),if_pos rfl] at hD;rw [if_neg (by decide)] at hp;rw [hp,← hD];exact m3
  ·rintro rfl;rw [if_neg (by decide),if_neg (by decide),if_neg (by decide),if_pos rfl] at hD;rw [if_neg (by decide)] at hp;rw [hp,← hD];exact m4
  ·rintro rfl;rw [if_neg (by decide),if_neg (by decide),if_neg (by decide),if_neg (by decide),if_neg (by decide),if_neg (by decide)] at hD;rw [if_neg (by decide)] at hp;cases hD;exact⟨rfl,rfl,rfl,hp⟩
  ·rintro rfl;rw [if_neg (by decide),if_neg (by decide),if_neg (by decide),if_neg (by decide),if_pos rfl] at hD;rw [if_neg (by decide)] at hp;have ht:tk≠tp.length:=fun h=>hstop (by simp [h])
   refine⟨ht,?_⟩
   rw [hp,← hD];exact m6 (by omega)
  ·rintro rfl;rw [if_neg (by decide),if_neg (by decide),if_neg (by decide),if_neg (by decide),if_neg (by decide),if_pos rfl] at hD;rw [if_pos rfl] at hp;refine⟨fun h=>hstop (by simp [h]),?_⟩
   rw [hp,← hD];exact m7
end Go.Proofs.YtnkhljdifljdbaaGreatDoor
namespace Go.Proofs.YtnkhljdifljdbaaGreatDoor
open Go Go.QL FoT
set_option maxHeartbeats 1600000
set_option maxRecDepth 20000
attribute [local irreducible] ACall FnC YC fine ten
theorem clone_own (xs:List Int) (hm:xs.length≤1000):ACall Tryz.prog 160 [sl xs] [] (fun r σ'=>(xs=[]∧r=.x (.d (.v (.slice none 0 0)))∧σ'=[])∨(r=.x (.o 5 1 xs.length)∧σ'=[(5,.chain 3 1 1 (xs.map iPV))])):=by
 have hpl:(xs.map iPV).length=xs.length:=List.length_map _;have h0:(0:Nat)+(xs.map iPV).length=xs.length:=by omega
 refine hdD Tryz.func160 Tryz.ntmps160 (res:=[.tmp 2]) fun w0 K0 B=>?_
 repeat' first|refine zd ?_|((first|refine zf ?_|refine zi ?_|refine regA ?_|fail);conv=>whnf)|(refine fun (_:Bool) hln=>?_;conv=>whnf)|(refine zso rfl (fun hb=>?_) (fun hb=>?_))|((refine andA ?_);conv=>whnf)|((refine And.intro (by refine⟨?_,?_,?_⟩ <;> simp [zO,maxLen] <;> omega) ?_);conv=>whnf)|fail
 ·exact⟨_,[],trivial,rfl,rfl,.inl ⟨List.map_eq_nil_iff.1 (hln hb),rfl,rfl⟩⟩
 ·exact⟨_,[(5,.chain 3 1 1 (xs.map iPV))],⟨rfl,trivial⟩,rfl,rfl,.inr ⟨congrArg (fun k=>AV.x (.o 5 1 k)) h0,rfl⟩⟩
theorem outKx {tt:TT} {a:Tmp} {fr:Fr} {σ σ':Sg} {c st n:Nat} {e:TypeId} {sz:Nat} {xs:List (List PV)} (h1:lk a fr=some (.x (.o c st n))) (h2:lk c σ'=none) (h3:lk c σ=some (.chain e sz st xs)) (h4:n≤xs.length) :
  zb0 tt [.tmp a] fr σ σ'=some (.x (.d (.s sz (xs.take n)))):=by
 simp [zb0,zbY,zhp,h1,zc5,zcy,h2,zbq,h3,h4]
theorem clone_data (xs:List Int) (hm:xs.length≤1000):FnC Tryz.prog 160 [sl xs] (sl xs):=by
 have hpl:(xs.map iPV).length=xs.length:=List.length_map _;have key:ACall Tryz.prog 160 [sl xs] [] (fun r σ'=>((r=.x (.d (.v (.slice none 0 0)))∧xs=[])∨r=sl xs)∧σ'=[]):=by
  refine hdD Tryz.func160 Tryz.ntmps160 (res:=[.tmp 2]) fun w0 K0 B=>?_
  repeat' first|refine zd ?_|((first|refine zf ?_|refine zi ?_|refine regA ?_|fail);conv=>whnf)|(refine fun (_:Bool) hln=>?_;conv=>whnf)|(refine zso rfl (fun hb=>?_) (fun hb=>?_))|((refine andA ?_);conv=>whnf)|((refine And.intro (by refine⟨?_,?_,?_⟩ <;> simp [zO,maxLen] <;> omega) ?_);conv=>whnf)|fail
  ·exact⟨_,[],trivial,rfl,rfl,.inl ⟨rfl,List.map_eq_nil_iff.1 (hln hb)⟩,rfl⟩
  ·refine⟨_,[],trivial,rfl,outKx rfl rfl rfl (by show 0+(xs.map iPV).length≤([] ++ xs.map iPV).length;simp),.inr ?_,rfl⟩
   show AV.x (.d (.s 1 (([] ++ xs.map iPV).take (0+(xs.map iPV).length))))=_
   rw [List.nil_append,Nat.zero_add,List.take_length];rfl
 refine FnC.of_ACall (key.le ?_) rfl
 rintro r σ' ⟨h,rfl⟩;rcases h with ⟨rfl,rfl⟩|rfl
 ·exact⟨_,LeAV1.nil 1,rfl,rfl⟩
 ·exact⟨_,LeAV.refl _,rfl,rfl⟩
abbrev stAV (s:OrS):AV:=.a [.d (zR s.store),.d (zR s.tape),iC s.taken,.d (zR s.printed),iC s.time,iC s.at_,iC s.done,iC s.why]
structure GoodS (s:OrS):Prop extends OKS s where
 mod:(s.time - s.at_) % 16=0
theorem chk1_fn (x:Int) {σ:Sg}:ACall Tryz.prog 189 ([].map AV.x ++ [iv .i64 x] ++ [].map .x) σ (fun r σ'=>r=bv (outB x 0 16777215)∧σ'=σ):=by
 have h1:=zjl 16777215 [x];rw [List.any_cons,List.any_nil,Bool.or_false] at h1;have:FnC Tryz.prog 189 [iv .i64 x] (bv (outB x 0 16777215)):=by
  refine hdC Tryz.func189 Tryz.ntmps189 (res:=[.tmp 2]) fun w0 K0=>?_
  repeat' first|refine zd ?_|((first|refine zi ?_|refine regA ?_|refine zsn (h1) ?_|fail);conv=>whnf)|fail
  rfl
 exact this.call rfl rfl
theorem idx_words {l:List Int} (h:∀ w ∈ l,zP w) (σ:Sg):ACall Tryz.prog 105 [sl l,.x (.f (.func 189) [] [])] σ (fun r σ'=>r=iv .i64 (-1)∧σ'=σ):=by
 have:=zp9 189 [] (fun x=>outB x 0 16777215) l σ (fun x _=>chk1_fn x);have e:idxI (fun x=>outB x 0 16777215) l = -1:=by
  have hf:fstI (fun x=>outB x 0 16777215) l 0=none:=by
   have:=zoj (fun x=>outB x 0 16777215) l 0;cases hx:fstI (fun x=>outB x 0 16777215) l 0 with
   | none=>rfl
   | some j=>
    rw [hx] at this;obtain⟨w,hw,hb⟩:=List.any_eq_true.1 this.symm;rw [zQ.2 (h w hw)] at hb;cases hb
  unfold idxI;rw [hf]
 rw [e] at this;exact this
theorem oout1_ok {hi x:Int} (h:0≤x∧x≤hi):FnC Tryz.prog 159 [iv .i64 hi,sl [x]] (bv false):=by
 have:=zjl hi [x];rw [List.any_cons,List.any_nil,Bool.or_false,zQ.2 h] at this;exact this
theorem ocheck_fn (s:OrS) (h:GoodS s):FnC Tryz.prog 136 [stAV s] (.t [iv .i64 0,iv .i64 0,iv .i64 0]):=by
 have i1:=idx_words h.words;have i2:=idx_words h.twords;have i3:=idx_words h.pwords;have l1:=h.len;have l2:=h.tape;have l3:=h.pr;have o1:=oout1_ok h.taken;have o2:=oout1_ok h.time;have o3:=oout1_ok h.at_;have o4:=oout1_ok h.done;have o5:=oout1_ok h.why;have b1:=h.time;have b2:=h.at_;have hmod:=h.mod;have hr:(s.time - s.at_).tmod 16=0:=Int.tmod_eq_zero_of_dvd (Int.dvd_of_emod_eq_zero hmod);clear h hmod;obtain⟨st,tp,tk,pr,tm,at',dn,wy⟩:=s;dsimp only at *;have m1:(st.map iPV).length=128:=by rw [List.length_map,l1]
 have m2:(tp.map iPV).length=tp.length:=List.length_map _;have m3:(pr.map iPV).length=pr.length:=List.length_map _;rw [← m2] at o1;refine hdC Tryz.func136 Tryz.ntmps136 (res:=[.tmp 2,.tmp 3,.tmp 4]) fun w0 K0=>?_
 repeat' first|refine zd ?_|refine zc ?_|((first|refine zf ?_|refine regA ?_|refine pkA ?_|fail);conv=>whnf)|(refine za rfl (zM (by simp [l1];exact⟨by omega,by omega⟩)) (fun _=>?_))|(refine lnA fun hln=>?_;conv=>whnf)|fail
 refine zJ (fun i:Nat=>[(32,iv .i64 i),(31,iv .i64 3),(30,.x (.d (.s 1 [[zR st],[zR tp],[zR pr]]))),(1,.x (.b 1 0))]) (fun _=>[(1,.box [.d (zR st),.d (zR tp),iC tk,.d (zR pr),iC tm,iC at',iC dn,iC wy])]) (fun i=>i≤3) (fun i=>3 - i) 0 (Nat.zero_le _) impA ?_
 intro i hi;rcases (show i=0∨i=1∨i=2∨i=3 by omega) with rfl|rfl|rfl|rfl
 ·repeat' first|refine zd ?_|refine zc ?_|((first|refine zf ?_|refine regA ?_|with_reducible refine Exists.intro _ (And.intro (ze (And.intro (by decide) rfl)) ?_)|((refine⟨_,(i1 _),?_⟩);(rintro _ _ ⟨rfl,rfl⟩))|fail);conv=>whnf)|(refine zst rfl ?_)|(refine zss rfl ?_)|((first|refine zsq ?_|refine andA ?_|fail);conv=>whnf)|fail
  exact⟨1,by decide,by decide,impA⟩
 ·repeat' first|refine zd ?_|refine zc ?_|((first|refine zf ?_|refine regA ?_|with_reducible refine Exists.intro _ (And.intro (ze (And.intro (by decide) rfl)) ?_)|((refine⟨_,(i2 _),?_⟩);(rintro _ _ ⟨rfl,rfl⟩))|fail);conv=>whnf)|(refine zst rfl ?_)|(refine zss rfl ?_)|((first|refine zsq ?_|refine andA ?_|fail);conv=>whnf)|fail
  exact⟨2,by decide,by decide,impA⟩
 ·repeat' first|refine zd ?_|refine zc ?_|((first|refine zf ?_|refine regA ?_|with_reducible refine Exists.intro _ (And.intro (ze (And.intro (by decide) rfl)) ?_)|((refine⟨_,(i3 _),?_⟩);(rintro _ _ ⟨rfl,rfl⟩))|fail);conv=>whnf)|(refine zst rfl ?_)|(refine zss rfl ?_)|((first|refine zsq ?_|refine andA ?_|fail);conv=>whnf)|fail
  exact⟨3,by decide,by decide,impA⟩
 ·repeat' first|refine zd ?_|refine zc ?_|((first|refine zf ?_|refine zk ?_|refine zi ?_|refine regA ?_|refine pkA ?_|refine zsn (o1) ?_|refine zsp (o2) ?_|refine zsp (o3) ?_|refine zsp (o4) ?_|refine zsp (o5) ?_|refine⟨_,hr,?_⟩|fail);conv=>whnf)|(refine zss rfl ?_)|((first|refine zsq ?_|refine andA ?_|fail);conv=>whnf)|(refine lnA fun hln=>?_;conv=>whnf)|fail
  rfl
end Go.Proofs.YtnkhljdifljdbaaGreatDoor
namespace Go.Proofs.YtnkhljdifljdbaaGreatDoor
open Go Go.QL FoT
set_option maxHeartbeats 3200000
set_option maxRecDepth 20000
attribute [local irreducible] ACall FnC YC fine ten
theorem after_mod (t a:Int):(afterO t a - a) % 16=0:=by unfold afterO;omega
theorem until_mod (o:OrO) (t a:Int):(untilO o t a - a) % 16=0:=by
 unfold untilO;exact after_mod _ _
theorem sgn_word {x:Int}:zP (x % 16777216):=by unfold zP;omega
theorem OKS.wr {s:OrS} (h:OKS s) (b v:Int) (hv:zP v):OKS (wrO s b v):=by
 refine⟨by rw [wr_len];exact h.len,fun w hw=>?_,h.tape,h.twords,h.taken,h.pr,h.pwords,h.time,h.at_,h.done,h.why⟩
 rcases List.mem_or_eq_of_mem_set hw with q|rfl
 ·exact h.words w q
 ·exact hv
theorem GoodS.step {s:OrS} (h:GoodS s) (hw:s.why=0):GoodS (stepO s):=by
 have hok:=dec_ok (h.rd s.at_);rw [stepF_eq hw];generalize hd:decO (rdO s s.at_)=o at *;generalize hA:atO o (decide (sgnW (rdO s o.a) < 0))=A;have hAb:0≤A∧A≤127:=by rw [← hA];unfold atO;split;exact hok.b;exact hok.n
 have hu:=until_le o s.time A;have hum:=until_mod o s.time A;generalize untilO o s.time A=u at *;have stop:∀ wy:Int,0≤wy∧wy≤4→GoodS { s with why:=wy }:=fun wy hy=>⟨⟨h.len,h.words,h.tape,h.twords,h.taken,h.pr,h.pwords,h.time,h.at_,h.done,hy⟩,h.mod⟩
 unfold stepF;dsimp only;by_cases hgo:(o.op≠0∧¬ (o.op=6∧s.taken=s.tape.length)∧¬ (o.op=7∧s.printed.length=200))∧¬ 1000000000 < u
 ·obtain⟨⟨h0,h6,h7⟩,h1⟩:=hgo;rw [if_neg h0,if_neg h6,if_neg h7,if_neg (show ¬ ((0:Int)=0∧_) from fun q=>h1 q.2),if_pos rfl];have hD:OKS (doO s o)∧(doO s o).time=s.time∧(doO s o).done=s.done:=by
   unfold doO;split
   ·exact⟨h.wr _ _ (h.rd _),rfl,rfl⟩
   ·split
    ·exact⟨h.wr _ _ sgn_word,rfl,rfl⟩
    ·split
     ·exact⟨h.wr _ _ sgn_word,rfl,rfl⟩
     ·split
      ·exact⟨h.wr _ _ sgn_word,rfl,rfl⟩
      ·split
       ·rename_i k6;have ht:=h.taken;have hne:s.taken≠s.tape.length:=fun q=>h6 ⟨k6,q⟩
        have hv:zP (s.tape.getD s.taken.toNat 0):=by
         rw [List.getD_eq_getElem?_getD,List.getElem?_eq_getElem (by omega)];exact h.twords _ (List.getElem_mem _)
        have q:=h.wr o.b _ hv;exact⟨⟨q.len,q.words,q.tape,q.twords,⟨by show 0≤s.taken+1;omega,by show s.taken+1≤(s.tape.length:Int);omega⟩,q.pr,q.pwords,q.time,q.at_,q.done,q.why⟩,rfl,rfl⟩
       ·split
        ·rename_i k7;have hne:s.printed.length≠200:=fun q=>h7 ⟨k7,q⟩
         have hp:=h.pr;refine⟨⟨h.len,h.words,h.tape,h.twords,h.taken,by show (s.printed ++ [_]).length≤200;rw [List.length_append,List.length_singleton];omega,fun w hw=>?_,h.time,h.at_,h.done,h.why⟩,rfl,rfl⟩
         rcases List.mem_append.1 hw with q|q
         ·exact h.pwords w q
         ·rw [List.mem_singleton.1 q];exact h.rd _
        ·exact⟨h.toOKS,rfl,rfl⟩
  obtain⟨q,e1,e2⟩:=hD;have ht:=h.time;have hdn:=h.done;exact⟨⟨q.len,q.words,q.tape,q.twords,q.taken,q.pr,q.pwords,⟨by show 0≤u;omega,by show u≤_;omega⟩,hAb,⟨by show 0≤s.done+1;omega,by show s.done+1≤u;omega⟩,(show (0:Int)≤0∧(0:Int)≤4 by decide)⟩,hum⟩
 ·generalize hy:(if o.op=0 then (1:Int) else if o.op=6∧s.taken=s.tape.length then 2 else if o.op=7∧s.printed.length=200 then 3 else 0)=y;have hyb:0≤y∧y≤4:=by
   rw [← hy];split
   ·decide
   ·split
    ·decide
    ·split <;> decide
  generalize hz:(if y=0∧1000000000 < u then (4:Int) else y)=z;have hzb:(0≤z∧z≤4)∧z≠0:=by
   rw [← hz];split
   ·decide
   ·rename_i q;refine⟨hyb,fun hy0=>hgo ⟨⟨fun k=>?_,fun k=>?_,fun k=>?_⟩,fun k=>q ⟨hy0,k⟩⟩⟩
    ·rw [if_pos k] at hy;omega
    ·rw [if_neg (by omega),if_pos k] at hy;omega
    ·rw [if_neg (by omega),if_neg (by omega),if_pos k] at hy;omega
  rw [if_neg hzb.2];exact stop z hzb.1
theorem GoodS.run:∀ (n:Nat) {s:OrS},GoodS s→GoodS (runO n s)
 | 0,_,h=>h
 | n+1,s,h=>by
  rw [runO];split
  ·rename_i hw;exact GoodS.run n (h.step hw)
  ·exact h
abbrev stpAV (a op x b n t u:Int):AV:=.a [iC a,iC op,iC x,iC b,iC n,iC t,iC u]
theorem tell_fn (a op x b n t u:Int):FnC Tryz.prog 140 [stpAV a op x b n t u] (.t []):=by
 refine hdC Tryz.func140 Tryz.ntmps140 (res:=[]) fun w0 K0=>?_
 repeat' first|((refine regA ?_);conv=>whnf)|fail
 rfl
theorem mrun_fn (s:OrS) (o:OrO) (p:Nat) (hs:GoodS s) (most:Nat) (hm:most≤5000) :
  ACall Tryz.prog 139 [.x (.b 26 0),iv .i64 most,.x (.f (.func 140) [] [])] (mS s o p) (fun r σ'=>∃ x:OrO × Nat,r=.t []∧σ'=mS (runO most s) x.1 x.2):=by
 refine hdD Tryz.func139 Tryz.ntmps139 (res:=[]) fun w0 K0 B=>?_
 repeat' first|refine zd ?_|refine zc ?_|refine zA ?_|((first|refine zB ?_|refine regA ?_|fail);conv=>whnf)|fail
 refine zJ (fun x:Nat × OrS × OrO × Nat=>[(8,iv .i64 x.1),(7,iv .i64 most),(0,.x (.b 26 0)),(2,.x (.f (.func 140) [] []))]) (fun x=>mS x.2.1 x.2.2.1 x.2.2.2)
  (fun x=>x.1≤most∧GoodS x.2.1∧runO (most - x.1) x.2.1=runO most s) (fun x=>most - x.1) (0,s,o,p) ⟨Nat.zero_le _,hs,rfl⟩ impA ?_
 rintro⟨i,s',o',p'⟩ ⟨hi,hs',hr⟩;dsimp only at hi hs' hr ⊢;rcases Nat.lt_or_ge i most with hil|hil
 ·rw [show most - i=(most - (i+1))+1 by omega,runO] at hr;by_cases hw:s'.why=0
  ·rw [if_pos hw] at hr;obtain⟨p2,hst⟩:=step_fn s' o' p' hs'.toOKS hw;have hs2:=hs'.step hw;generalize stepO s'=s2 at hst hr hs2;generalize decO (rdO s' s'.at_)=o2 at hst;have hwf:(s'.why != 0)=false:=by rw [hw];rfl
   repeat' first|refine zd ?_|refine zc ?_|((first|refine zf ?_|refine zk ?_|refine regA ?_|refine drA (id:=3) 12 true [0,1,3,7,15,0,32,96,224,480,1023,0,4095] ?_|refine drM (id:=6) 10 [4,5,6,7,8] false [0,1,3,7,0,16,48,112,240,15,527,2047,4095] ?_|refine LateGo.mk ⟨.x .j,rfl,?_⟩|fail);conv=>whnf)|(refine za rfl (zM hwf) (fun _=>?_))|((first|refine frA (hst) [] ?_|refine zsn ((tell_fn _ _ _ _ _ _ _)) ?_|fail);conv=>whnf)|exact abA hb|(refine zso rfl (fun hb=>?_) (fun hb=>?_))|((first|refine zsq ?_|refine andA ?_|fail);conv=>whnf)|fail
   all_goals exact⟨(i+1,s2,o2,p2),⟨hil,hs2,hr⟩,by show most - (i+1) < most - i;omega,impA⟩
  ·rw [if_neg hw] at hr;have hwt:(s'.why != 0)=true:=by simpa using hw
   repeat' first|refine zd ?_|refine zc ?_|((first|refine zf ?_|refine zk ?_|refine regA ?_|fail);conv=>whnf)|(refine za rfl (fun _=>?_) (zaf hwt))|exact abA hb|(refine zso rfl (fun hb=>?_) (fun hb=>?_))|((refine andA ?_);conv=>whnf)|fail
   exact⟨_,mS s' o' p',⟨rfl,rfl,rfl,trivial⟩,rfl,rfl,⟨(o',p'),rfl,by rw [← hr]⟩⟩
 ·rw [show most - i=0 by omega] at hr;repeat' first|refine zd ?_|refine zc ?_|((first|refine zf ?_|refine zk ?_|refine regA ?_|fail);conv=>whnf)|exact abA hb|(refine zso rfl (fun hb=>?_) (fun hb=>?_))|fail
  exact⟨_,mS s' o' p',⟨rfl,rfl,rfl,trivial⟩,rfl,rfl,⟨(o',p'),rfl,by rw [← hr];rfl⟩⟩
end Go.Proofs.YtnkhljdifljdbaaGreatDoor
namespace Go.QL
open Go Go.RowKit
def FzSV (c sz st:Nat) (xs:List (List PV)) (s s':SV):Prop:=s=s'∨∃ n,s=.o c st n∧n≤xs.length∧s'=.d (.s sz (xs.take n))
def zjP (c sz st:Nat) (xs:List (List PV)):List SV→List SV→Prop
 | [],[]=>True
 | s::r,s'::r'=>FzSV c sz st xs s s'∧zjP c sz st xs r r'
 | _,_=>False
def FzOb (c sz st:Nat) (xs:List (List PV)) (o o':Ob):Prop:=o=o'∨∃ cs cs',o=.box cs∧o'=.box cs'∧zjP c sz st xs cs cs'
def FzS (c sz st:Nat) (xs:List (List PV)) (σ:Sg):Sg→Prop
 | []=>True
 | (i,o')::r=>(∃ o,lk i σ=some o∧FzOb c sz st xs o o')∧FzS c sz st xs σ r
theorem zg6 {c sz st:Nat} {xs:List (List PV)} {σ:Sg}:∀ {σ':Sg},FzS c sz st xs σ σ'→∀ t v',lk t σ'=some v'→∃ v,lk t σ=some v∧FzOb c sz st xs v v'
 | [],_,t,v,h=>by cases h
 | (s,x)::r,hs,t,v,h=>by
  rw [zr] at h;by_cases e:s=t
  ·subst e;rw [if_pos rfl] at h;cases h;exact hs.1
  ·rw [if_neg e] at h;exact zg6 hs.2 t v h
theorem zgy {c sz st:Nat} {xs:List (List PV)}:∀ {cs cs':List SV},zjP c sz st xs cs cs'→cs.length=cs'.length∧∀ (i:Nat) (s':SV),cs'[i]?=some s'→∃ s,cs[i]?=some s∧FzSV c sz st xs s s'
 | [],[],_=>⟨rfl,fun i s h=>by simp at h⟩
 | s::r,s'::r',h=>by
  obtain⟨h1,h2⟩:=zgy h.2;refine⟨by simp [h1],fun i x hx=>?_⟩
  cases i with
  | zero=>cases hx;exact⟨s,rfl,h.1⟩
  | succ i=>exact h2 i x hx
 | [],_::_,h=>h.elim
 | _::_,[],h=>h.elim
section
variable {P:Program} {Γ:Cx} {fr fr':Fr} {σ σ':Sg} {g:Gh} {a:Act} {w:World} {Q:Exit→Fr→Sg→Prop}
theorem Imp.freezeB {fr':Fr} {σ':Sg} (c:Nat) {ce sz st:Nat} {xs:List (List PV)} (hc:lk c σ=some (.chain ce sz st xs)) (hf:FzF c sz st xs fr fr') (hs:FzS c sz st xs σ σ') (hn:lk c σ'=none)
  (hr:(rsFr σ' fr' && rsSg σ' σ')=true) (hB:zbC Γ.ids σ'=true:=by rfl) (hD:ziL Γ.dfs σ σ'=true:=by rfl):Imp Γ fr σ fr' σ':=by
 intro g a w hrel;simp only [Bool.and_eq_true] at hr;let K':Nat→Nat→Prop:=fun b o=>g.K b o∨(blk (g.μ c)=some b∧b < w.heap.size)
 let g':Gh:=⟨K',g.μ⟩
 have hext:Ext g.K w K' w:=⟨fun _ _ h=>.inl h,fun _ _ _=>rfl⟩;have hbox:∀ i cs,lk i σ=some (.box cs)→(lk i σ').isSome→∃ cs',lk i σ'=some (.box cs'):=by
  intro i cs hi hi';obtain⟨o',ho'⟩:=Option.isSome_iff_exists.1 hi';obtain⟨o,ho,hnl⟩:=zg6 hs i o' ho';rw [hi] at ho;cases ho;rcases hnl with rfl|⟨cs1,cs',h1,h2,_⟩
  ·exact⟨cs,ho'⟩
  ·simp_all
 have hch:∀ i e0 sz0 st xs,lk i σ=some (.chain e0 sz0 st xs)→(lk i σ').isSome→lk i σ'=some (.chain e0 sz0 st xs):=by
  intro i e0 sz0 st xs hi hi';obtain⟨o',ho'⟩:=Option.isSome_iff_exists.1 hi';obtain⟨o,ho,hnl⟩:=zg6 hs i o' ho';rw [hi] at ho;cases ho;rcases hnl with rfl|⟨cs1,cs',h1,_⟩
  ·exact ho'
  ·cases h1
 have hoth:∀ i o,lk i σ=some (.x o)→(lk i σ').isSome→lk i σ'=some (.x o):=by
  intro i o hi hi';obtain⟨o',ho'⟩:=Option.isSome_iff_exists.1 hi';obtain⟨o1,ho,hnl⟩:=zg6 hs i o' ho';rw [hi] at ho;cases ho;rcases hnl with rfl|⟨cs1,cs',h1,_⟩
  ·exact ho'
  ·cases h1
 have sr1:∀ s v,rs1 σ' s=true→SR σ g w s v→SR σ' g' w s v:=by
  intro s v hrs hv;have up:∀ i,(lk i σ).isSome→(lk i σ').isSome=true→(lk i σ').isSome∧g'.μ i=g.μ i:=fun i hi hi'=>by
   exact⟨hi',rfl⟩
  cases hv with
  | d x v h=>exact .d x v (h.mono hext)
  | old c0 st n e0 sz0 st' xs v hl hlt h1=>
   have hs0:(lk c0 σ).isSome:=by rw [hl];rfl
   obtain⟨h2,h3⟩:=up c0 hs0 hrs;exact .old c0 st n e0 sz0 st' xs v (hch _ _ _ _ _ hl h2) hlt h1
  | o c0 st n e0 sz0 xs a cap hl hn hμ=>
   have hs0:(lk c0 σ).isSome:=by rw [hl];rfl
   obtain⟨h2,h3⟩:=up c0 hs0 hrs;exact .o c0 st n e0 sz0 xs a cap (hch _ _ _ _ _ hl h2) hn (by rw [h3,hμ])
  | b id off cs k hl hμ=>
   have hs0:(lk id σ).isSome:=by rw [hl];rfl
   obtain⟨h2,h3⟩:=up id hs0 hrs;obtain⟨cs',hcs'⟩:=hbox _ _ hl h2;exact .b id off cs' k (hcs') (by rw [h3,hμ])
  | se e off k l vs h1 h2 h3=>exact .se e off k l vs (fun j hj=>.inl (h1 j hj)) h2 (fun j x hj=>(h3 j x hj).mono hext)
  | oeold c0 st i off e0 sz0 st' xs v hl hlt h1=>
   have hs0:(lk c0 σ).isSome:=by rw [hl];rfl
   obtain⟨h2,h3⟩:=up c0 hs0 hrs;exact .oeold c0 st i off e0 sz0 st' xs v (hch _ _ _ _ _ hl h2) hlt h1
  | osold c0 st i off e0 sz0 st' xs v hl hlt h1=>
   have hs0:(lk c0 σ).isSome:=by rw [hl];rfl
   obtain⟨h2,h3⟩:=up c0 hs0 hrs;exact .osold c0 st i off e0 sz0 st' xs v (hch _ _ _ _ _ hl h2) hlt h1
  | oe c0 st i off e0 sz0 xs k cap hl hμ=>
   have hs0:(lk c0 σ).isSome:=by rw [hl];rfl
   obtain⟨h2,h3⟩:=up c0 hs0 hrs;exact .oe c0 st i off e0 sz0 xs k cap (hch _ _ _ _ _ hl h2) (by rw [h3,hμ])
  | os c0 st i off e0 sz0 xs k cap hl hμ hn=>
   have hs0:(lk c0 σ).isSome:=by rw [hl];rfl
   obtain⟨h2,h3⟩:=up c0 hs0 hrs;exact .os c0 st i off e0 sz0 xs k cap (hch _ _ _ _ _ hl h2) (by rw [h3,hμ]) hn
  | f=>cases hrs
  | j v h1=>exact .j v h1
  | h id o k hl hμ=>
   have hs0:(lk id σ).isSome:=by rw [hl];rfl
   obtain⟨h2,h3⟩:=up id hs0 hrs;exact .h id o k (hoth _ _ hl h2) (by rw [h3,hμ])
  | sb id off n cap cs k hl hμ hn hcc=>
   have hs0:(lk id σ).isSome:=by rw [hl];rfl
   obtain⟨h2,h3⟩:=up id hs0 hrs;obtain⟨cs',hcs'⟩:=hbox _ _ hl h2;exact .sb id off n cap cs' k (hcs') (by rw [h3,hμ]) hn hcc
 have sr:∀ s v,rsSV σ' s=true→SR σ g w s v→SR σ' g' w s v:=by
  intro s v hrs hv;cases s with
  | f fn a b=>
   simp only [rsSV,Bool.and_eq_true,List.all_eq_true] at hrs;cases hv with
   | f _ _ _ v1 v2 h1 h2 r1 r2=>
    exact .f fn a b v1 v2 h1 h2 (fun i s v hi hv=>sr1 _ _ (hrs.1 s (List.mem_of_getElem? hi)) (r1 i s v hi hv)) (fun i s v hi hv=>sr1 _ _ (hrs.2 s (List.mem_of_getElem? hi)) (r2 i s v hi hv))
  | d x=>exact sr1 _ _ hrs hv
  | o c st n=>exact sr1 _ _ hrs hv
  | b id off=>exact sr1 _ _ hrs hv
  | se e off=>exact sr1 _ _ hrs hv
  | oe c st i off=>exact sr1 _ _ hrs hv
  | os c st i off=>exact sr1 _ _ hrs hv
  | j=>exact sr1 _ _ hrs hv
  | h id=>exact sr1 _ _ hrs hv
  | sb id off n cap=>exact sr1 _ _ hrs hv
 have srfz:∀ n v,n≤xs.length→SR σ g w (.o c st n) v→SR σ' g' w (.d (.s sz (xs.take n))) v:=fun n v hn hv=>
  Imp.freeze.freeze_one (a:={ a with tmps:=#[v] }) (t:=0) (σ':=σ') hrel.hp hc hn hv
 have vr1:∀ x v,zec σ' x=true→VR1 σ g w x v→VR1 σ' g' w x v:=by
  intro x v hrs hv;cases x with
  | x s=>exact sr _ _ hrs hv
  | a cs=>
   obtain⟨vs,rfl,hl,hr⟩:=hv;simp only [zec,List.all_eq_true] at hrs;exact⟨vs,rfl,hl,fun i s u hi hu=>sr _ _ (hrs s (List.mem_of_getElem? hi)) (hr i s u hi hu)⟩
  | _=>exact hv.elim
 have vr2:∀ x v,zeR σ' x=true→VR2 σ g w x v→VR2 σ' g' w x v:=by
  intro x v hrs hv;cases x with
  | t xs=>
   obtain⟨vs,rfl,hl,hr⟩:=hv;simp only [zeR,List.all_eq_true] at hrs;exact⟨vs,rfl,hl,fun i s u hi hu=>vr1 _ _ (hrs s (List.mem_of_getElem? hi)) (hr i s u hi hu)⟩
  | x s=>exact vr1 (.x s) _ hrs hv
  | a cs=>exact vr1 (.a cs) _ hrs hv
  | g _ _=>exact hv.elim
 have vr:∀ x v,rsAV σ' x=true→VR σ g w x v→VR σ' g' w x v:=by
  intro x v hrs hv;cases x with
  | g c0 y=>exact⟨fun hc0=>vr2 _ _ hrs (hv.1 hc0),hv.2⟩
  | x s=>exact vr2 (.x s) _ hrs hv
  | a cs=>exact vr2 (.a cs) _ hrs hv
  | t xs=>exact vr2 (.t xs) _ hrs hv
 have upI:∀ i,(lk i σ).isSome→i ∈ Γ.ids→(lk i σ').isSome∧g'.μ i=g.μ i:=fun i hi hi'=>⟨zbJ hB hi',rfl⟩
 have srI:∀ s v,SR σ g w s v→InI Γ.ids s→SR σ' g' w s v:=by
  intro s v hv;induction hv with
  | d x v h=>exact fun _=>.d x v (h.mono hext)
  | old c0 st n e0 sz0 st' xs v hl hlt h1=>
   intro h;cases h with
   | o _ _ _ h=>
    have hs0:(lk c0 σ).isSome:=by rw [hl];rfl
    obtain⟨h2,h3⟩:=upI c0 hs0 h;exact .old c0 st n e0 sz0 st' xs v (hch _ _ _ _ _ hl h2) hlt h1
  | o c0 st n e0 sz0 xs a cap hl hn hμ=>
   intro h;cases h with
   | o _ _ _ h=>
    have hs0:(lk c0 σ).isSome:=by rw [hl];rfl
    obtain⟨h2,h3⟩:=upI c0 hs0 h;exact .o c0 st n e0 sz0 xs a cap (hch _ _ _ _ _ hl h2) hn (by rw [h3,hμ])
  | b id off cs k hl hμ=>
   intro h;cases h with
   | b _ _ h=>
    have hs0:(lk id σ).isSome:=by rw [hl];rfl
    obtain⟨h2,h3⟩:=upI id hs0 h;obtain⟨cs',hcs'⟩:=hbox _ _ hl h2;exact .b id off cs' k (hcs') (by rw [h3,hμ])
  | se e off k l vs h1 h2 h3=>exact fun _=>.se e off k l vs (fun j hj=>.inl (h1 j hj)) h2 (fun j x hj=>(h3 j x hj).mono hext)
  | oeold c0 st i off e0 sz0 st' xs v hl hlt h1=>
   intro h;cases h with
   | oe _ _ _ _ h=>
    have hs0:(lk c0 σ).isSome:=by rw [hl];rfl
    obtain⟨h2,h3⟩:=upI c0 hs0 h;exact .oeold c0 st i off e0 sz0 st' xs v (hch _ _ _ _ _ hl h2) hlt h1
  | osold c0 st i off e0 sz0 st' xs v hl hlt h1=>
   intro h;cases h with
   | os _ _ _ _ h=>
    have hs0:(lk c0 σ).isSome:=by rw [hl];rfl
    obtain⟨h2,h3⟩:=upI c0 hs0 h;exact .osold c0 st i off e0 sz0 st' xs v (hch _ _ _ _ _ hl h2) hlt h1
  | oe c0 st i off e0 sz0 xs k cap hl hμ=>
   intro h;cases h with
   | oe _ _ _ _ h=>
    have hs0:(lk c0 σ).isSome:=by rw [hl];rfl
    obtain⟨h2,h3⟩:=upI c0 hs0 h;exact .oe c0 st i off e0 sz0 xs k cap (hch _ _ _ _ _ hl h2) (by rw [h3,hμ])
  | os c0 st i off e0 sz0 xs k cap hl hμ hn=>
   intro h;cases h with
   | os _ _ _ _ h=>
    have hs0:(lk c0 σ).isSome:=by rw [hl];rfl
    obtain⟨h2,h3⟩:=upI c0 hs0 h;exact .os c0 st i off e0 sz0 xs k cap (hch _ _ _ _ _ hl h2) (by rw [h3,hμ]) hn
  | f fn a b v1 v2 h1 h2 _ _ ih1 ih2=>
   intro h;cases h with
   | f _ _ _ k1 k2=>exact .f fn a b v1 v2 h1 h2 (fun i s v hi hv=>ih1 i s v hi hv (k1 s (List.mem_of_getElem? hi))) (fun i s v hi hv=>ih2 i s v hi hv (k2 s (List.mem_of_getElem? hi)))
  | j v h1=>exact fun _=>.j v h1
  | h id o k hl hμ=>
   intro h;cases h with
   | h _ h=>
    have hs0:(lk id σ).isSome:=by rw [hl];rfl
    obtain⟨h2,h3⟩:=upI id hs0 h;exact .h id o k (hoth _ _ hl h2) (by rw [h3,hμ])
  | sb id off n cap cs k hl hμ hn hcc=>
   intro h;cases h with
   | sb _ _ _ _ h=>
    have hs0:(lk id σ).isSome:=by rw [hl];rfl
    obtain⟨h2,h3⟩:=upI id hs0 h;obtain⟨cs',hcs'⟩:=hbox _ _ hl h2;exact .sb id off n cap cs' k (hcs') (by rw [h3,hμ]) hn hcc
 have ins:∀ i,(lk i σ').isSome→(lk i σ).isSome:=fun i hi=>by
  obtain⟨o',ho'⟩:=Option.isSome_iff_exists.1 hi;obtain⟨o,ho,_⟩:=zg6 hs i o' ho';rw [ho];rfl
 have hap:∀ i,(lk i σ').isSome→∀ b,blk (g.μ i)=some b→blk (g.μ c)≠some b:=by
  intro i hi b hb hb';have:=hrel.hp.inj i c b (ins i hi) (by rw [hc];rfl) hb hb';simp_all
 have hK:∀ id ob b,lk id σ'=some ob→blk (g.μ id)=some b→(∀ o,¬ g.K b o)→∀ o,¬ K' b o:=
  fun id ob b hid hb hk o h=>h.elim (hk o) (fun h=>hap id (by rw [hid];rfl) b hb h.1)
 refine⟨g',⟨⟨hrel.hp.kept,hrel.hp.flt,hrel.hp.ext.trans hext,?_,?_,?_,fun i b hi hb=>hrel.hp.own i b (ins i hi) hb,fun i j b hi hj=>hrel.hp.inj i j b (ins i hi) (ins j hj)⟩,?_,hrel.size,
  hrel.defers.map (fun i d hi hl hμ=>⟨hoth _ _ hl (zfE hD hi hl ▸ rfl),hμ⟩),fun s v hb=>⟨srI _ _ (hrel.base s v hb).1 (hrel.base s v hb).2,(hrel.base s v hb).2⟩⟩⟩
 ·intro b o hb hk;rcases hk with hk|⟨hk,_⟩
  ·exact hrel.hp.old b o hb hk
  ·exact absurd hb (hrel.hp.own c b (by rw [hc];rfl) hk)
 ·intro b o hk;rcases hk with hk|⟨_,hk⟩
  ·exact hrel.hp.val b o hk
  ·exact hk
 ·intro id ob hid;obtain⟨o,ho,hnl⟩:=zg6 hs id ob hid;have hO:=hrel.hp.obs id o ho;cases ob with
  | x o1=>
   have:o=.x o1:=by
    rcases hnl with h|⟨cs1,cs',_,h2,_⟩
    ·exact h
    ·cases h2
   subst this;have hrb:=za2 hr.2 _ _ hid;obtain⟨b,k1,k2,k3,k4⟩:=hO;refine⟨b,k1,k2,?_,hK _ _ b hid (by rw [k1];rfl) k4⟩
   cases o1 with
   | map kt kvs=>obtain⟨es,h1,h2,h3,h4⟩:=k3;exact⟨es,h1,h2,fun i k x hi=>let ⟨e,a,c,d,f⟩:=h3 i k x hi;⟨e,a,c,d,vr1 _ _ (rsMap hrb h4.2.2 i k x hi) f⟩,h4⟩
   | mapIter m since seen last=>
    cases m with
    | some m=>obtain⟨mb,h1,h2⟩:=k3;exact⟨mb,h1,sr1 (.h m) _ hrb h2⟩
    | none=>exact k3
   | strIter s pos=>exact k3
   | loop st pend params assign body nt fr dfr=>
    simp only [rsOb,rsO2,Bool.and_eq_true] at hrb;obtain⟨f,tmps,d,h1,h2,h3,h4⟩:=k3;exact⟨f,tmps,d,h1,h2,fun t v ht=>⟨(h3 t v ht).1,vr _ _ (zaO hrb.1 t v ht) (h3 t v ht).2⟩,sr1 (.h dfr) _ hrb.2 h4⟩
   | dfr=>exact k3
  | chain e0 sz0 st0 xs0=>
   have:o=.chain e0 sz0 st0 xs0:=by
    rcases hnl with h|⟨cs1,cs',_,h2,_⟩
    ·exact h
    ·cases h2
   subst this;obtain⟨vs,h1,h2,h3,h4,h5⟩:=hO;exact⟨vs,h1,h2,h3,fun i x hi j p hp=>let ⟨v,q,r⟩:=h4 i x hi j p hp;⟨v,q,r.mono hext⟩,fun b hb=>hK _ _ b hid hb (h5 b hb)⟩
  | box cs'=>
   have hrb:=za2 hr.2 _ _ hid;simp only [rsOb,List.all_eq_true] at hrb;rcases hnl with h|⟨cs,cs1,h1,h2,h3⟩
   ·subst h;obtain⟨b,vs,T,k1,k2,k3,k4,k5,k6⟩:=hO;exact⟨b,vs,T,k1,k2,k3,k4,fun i s hi=>let ⟨v,p,q⟩:=k5 i s hi;⟨v,p,sr _ _ (hrb s (List.mem_of_getElem? hi)) q⟩,hK _ _ b hid (by rw [k1];rfl) k6⟩
   ·subst h1;cases h2;obtain⟨b,vs,T,k1,k2,k3,k4,k5,k6⟩:=hO;obtain⟨hl,hg⟩:=zgy h3;refine⟨b,vs,T,k1,k2,k3,by rw [k4,hl],fun i s hi=>?_,hK _ _ b hid (by rw [k1];rfl) k6⟩
    obtain⟨s0,hs0,hnl0⟩:=hg i s hi;obtain⟨v,p,q⟩:=k5 i s0 hs0;refine⟨v,p,?_⟩
    rcases hnl0 with rfl|⟨n,rfl,hn1,rfl⟩
    ·grind
    ·exact srfz _ _ hn1 q
 ·intro t v' ht;obtain⟨v,hv,hnl⟩:=zm7 hf t v' ht;obtain⟨hlt,hvr⟩:=hrel.fr t v hv;refine⟨hlt,?_⟩
  rcases hnl with rfl|⟨n,rfl,hn1,rfl⟩
  ·exact vr _ _ (zaO hr.1 t v ht) hvr
  ·exact srfz _ _ hn1 hvr
end
end Go.QL
namespace Go.Proofs.YtnkhljdifljdbaaGreatDoor
open Go Go.QL FoT
set_option maxHeartbeats 3200000
set_option maxRecDepth 20000
attribute [local irreducible] ACall FnC YC fine ten
abbrev nilPV:PV:=.v (.slice none 0 0)
abbrev mO (s:OrS) (pr:SV) (rest:Sg):Sg:=
 (35,.box [.o 900 1 128,.d (zR s.tape),iC s.taken,pr,iC s.time,iC s.at_,iC s.done,iC s.why,iC 0,iC 0,iC 0,iC 0])::(900,.chain 3 1 1 (s.store.map iPV))::rest
theorem open_fn (s:OrS) (hs:GoodS s) (most:Int) (hm:0≤most∧most≤5000) :
  ACall Tryz.prog 138 [stAV s,iv .i64 most] [] (fun r σ'=>r=.t [.x (.b 35 0),iv .i64 0]∧((s.printed=[]∧σ'=mO s (.d nilPV) [])∨σ'=mO s (.o 901 1 s.printed.length) [(901,.chain 3 1 1 (s.printed.map iPV))])):=by
 have ck:=ocheck_fn s hs;have o1:=oout1_ok hm;have c1:ACall Tryz.prog 160 [sl s.store] [] (fun r σ'=>r=.x (.o 5 1 128)∧σ'=[(5,.chain 3 1 1 (s.store.map iPV))]):=by
  refine (clone_own s.store (by rw [hs.len];decide)).mono ?_
  rintro r σ' (⟨h,_⟩|⟨h1,h2⟩)
  ·have:=hs.len;rw [h] at this;cases this
  ·rw [hs.len] at h1;exact⟨h1,h2⟩
 have c2:=clone_data s.tape (by have:=hs.tape;omega);have c3:=clone_own s.printed (by have:=hs.pr;omega);clear hs;obtain⟨st,tp,tk,pr,tm,at',dn,wy⟩:=s;dsimp only at *;refine hdD Tryz.func138 Tryz.ntmps138 (res:=[.tmp 4,.tmp 5]) fun w0 K0 B=>?_
 repeat' first|((first|refine zkA hTt hMix (id:=6) 10 [0,1,3,4,6,7] [⟨2,false,false,[3,4,6,7],[9]⟩,⟨5,false,false,[6,7,9],[]⟩,⟨8,false,false,[9],[]⟩] [0,1,3,0,8,31,0,64,255,223,1023,2047,4095,8191,16383] (by kernel_rfl) rfl (by kernel_rfl) (by kernel_rfl) (by kernel_rfl) ?_|refine LateGo.mk ⟨_,rfl,?_⟩|fail);conv=>whnf)|refine zd ?_|((first|refine zf ?_|refine zi ?_|refine regA ?_|refine zsn (ck) ?_|refine zsn (o1) ?_|refine frA (c1) [(5,900)] ?_|refine zsn (c2) ?_|fail);conv=>whnf)|((refine⟨_,c3.frame (asc [(5,901)]) trivial rfl (by rintro _ _ (⟨_,rfl,rfl⟩|⟨rfl,rfl⟩) <;> rfl),?_⟩);(rintro _ _ ⟨_,_,(⟨hx,rfl,rfl⟩|⟨rfl,rfl⟩),rfl,rfl⟩) <;> conv=>whnf)|(refine zss rfl ?_)|((refine andA ?_);conv=>whnf)|fail
 all_goals first
  | exact⟨_,mO ⟨st,tp,tk,pr,tm,at',dn,wy⟩ (.d nilPV) [],⟨rfl,rfl,trivial⟩,rfl,rfl,rfl,.inl ⟨hx,rfl⟩⟩
  | exact⟨_,mO ⟨st,tp,tk,pr,tm,at',dn,wy⟩ (.o 901 1 pr.length) [(901,.chain 3 1 1 (pr.map iPV))],⟨rfl,rfl,rfl,trivial⟩,rfl,rfl,rfl,.inr rfl⟩
theorem Stp.at4 {P:Program} {Γ:Cx} {y:Code} {ops:Array Oper} {b:Bool} {Q:Exit→Fr→Sg→Prop} {fr:Fr} {σ:Sg} (h:Stp P Γ (.seq (.region 4 ops b) y) Q fr σ):AW P Γ (.seq (.region 4 ops b) y) Q fr σ:=by unfold Stp at h;exact h
theorem Stp.at5 {P:Program} {Γ:Cx} {y:Code} {ops:Array Oper} {b:Bool} {Q:Exit→Fr→Sg→Prop} {fr:Fr} {σ:Sg} (h:Stp P Γ (.seq (.region 5 ops b) y) Q fr σ):AW P Γ (.seq (.region 5 ops b) y) Q fr σ:=by unfold Stp at h;exact h
theorem run_end {Γ:Cx} {c:Code} {Q:Exit→Fr→Sg→Prop} {fr:Fr} {σ:Sg} {S:OrS} {xo:OrO} {xp:Nat} (hg:GoodS S) (hi:Γ.ids=[]) (hd:Γ.dfs=[])
  (h:Imp Γ fr σ [(6,.x (.b 26 0)),(4,.x (.b 4 0))] (mS S xo xp ++ [(4,.box [.d nilPV,.d nilPV,iC 0,.d nilPV,iC 0,iC 0,iC 0,iC 0])]))
  (hk:AW Tryz.prog Γ c Q [(6,.x (.b 26 0)),(4,.x (.b 4 0))] [(26,.box [.d (zR S.store),.d (zR S.tape),iC S.taken,.d (zR S.printed),iC S.time,iC S.at_,iC S.done,iC S.why,iC xo.op,iC xo.a,iC xo.b,iC xo.n]),(4,.box [.d nilPV,.d nilPV,iC 0,.d nilPV,iC 0,iC 0,iC 0,iC 0])]):AW Tryz.prog Γ c Q fr σ:=by
 refine zaq h ?_
 have m1:128≤(S.store.map iPV).length:=by rw [List.length_map,hg.len];exact Nat.le_refl _
 have m2:S.printed.length≤(S.printed.map iPV).length:=by rw [List.length_map];exact Nat.le_refl _
 have a1:zR S.store=.s 1 ((S.store.map iPV).take 128):=by rw [List.take_of_length_le (by rw [List.length_map,hg.len];exact Nat.le_refl _)];rfl
 have a2:zR S.printed=.s 1 ((S.printed.map iPV).take S.printed.length):=by rw [List.take_of_length_le (by rw [List.length_map];exact Nat.le_refl _)];rfl
 refine zaq (Imp.freezeB 900 (fr':=[(6,.x (.b 26 0)),(4,.x (.b 4 0))]) (σ':=[(26,.box [.d (zR S.store),.d (zR S.tape),iC S.taken,.o 901 xp S.printed.length,iC S.time,iC S.at_,iC S.done,iC S.why,iC xo.op,iC xo.a,iC xo.b,iC xo.n]),(901,.chain 3 1 xp (S.printed.map iPV)),(4,.box [.d nilPV,.d nilPV,iC 0,.d nilPV,iC 0,iC 0,iC 0,iC 0])]) rfl
  ⟨⟨_,rfl,.inl rfl⟩,⟨_,rfl,.inl rfl⟩,trivial⟩ ⟨⟨_,rfl,.inr ⟨_,_,rfl,rfl,⟨.inr ⟨_,rfl,m1,congrArg SV.d a1⟩,.inl rfl,.inl rfl,.inl rfl,.inl rfl,.inl rfl,.inl rfl,.inl rfl,.inl rfl,.inl rfl,.inl rfl,.inl rfl,trivial⟩⟩⟩,⟨_,rfl,.inl rfl⟩,⟨_,rfl,.inl rfl⟩,trivial⟩ rfl rfl (by rw [hi];rfl) (by rw [hd];rfl)) ?_
 refine zaq (Imp.freezeB 901 (fr':=[(6,.x (.b 26 0)),(4,.x (.b 4 0))]) (σ':=[(26,.box [.d (zR S.store),.d (zR S.tape),iC S.taken,.d (zR S.printed),iC S.time,iC S.at_,iC S.done,iC S.why,iC xo.op,iC xo.a,iC xo.b,iC xo.n]),(4,.box [.d nilPV,.d nilPV,iC 0,.d nilPV,iC 0,iC 0,iC 0,iC 0])]) rfl
  ⟨⟨_,rfl,.inl rfl⟩,⟨_,rfl,.inl rfl⟩,trivial⟩ ⟨⟨_,rfl,.inr ⟨_,_,rfl,rfl,⟨.inl rfl,.inl rfl,.inl rfl,.inr ⟨_,rfl,m2,congrArg SV.d a2⟩,.inl rfl,.inl rfl,.inl rfl,.inl rfl,.inl rfl,.inl rfl,.inl rfl,.inl rfl,trivial⟩⟩⟩,⟨_,rfl,.inl rfl⟩,trivial⟩ rfl rfl (by rw [hi];rfl) (by rw [hd];rfl)) ?_
 exact hk
theorem orun_fn (s:OrS) (hs:GoodS s) (most:Nat) (hm:most≤5000):FnC Tryz.prog 84 [stAV s,iv .i64 most] (.t [stAV (runO most s),iv .i64 0]):=by
 have hop:=open_fn s hs most (by omega);have hr:=mrun_fn s ⟨0,0,0,0⟩ 0 hs most hm;have hr1:=mrun_fn s ⟨0,0,0,0⟩ 1 hs most hm;have hg:=hs.run most;generalize runO most s=S at *;clear hs;obtain⟨st,tp,tk,pr,tm,at',dn,wy⟩:=s;dsimp only at hop;refine FnC.of_ACall ?_ rfl
 refine hdD Tryz.func84 Tryz.ntmps84 (res:=[.cell 4 190,.tmp 5]) fun w0 K0 B=>?_
 repeat' first|(with_reducible refine Stp.at4 ?_)|refine zd ?_|((first|refine zf ?_|refine regA ?_|fail);conv=>whnf)|((refine⟨_,hop.frame (asc [(35,26)]) trivial rfl (by rintro _ _ ⟨rfl,(⟨_,rfl⟩|rfl)⟩ <;> rfl),?_⟩);(rintro _ _ ⟨_,_,⟨rfl,(⟨hx,rfl⟩|rfl)⟩,rfl,rfl⟩) <;> conv=>whnf)|(refine zss rfl ?_)|fail
 case' inl=>
  subst hx;unfold Stp;refine zaq (fr':=[(6,.x (.b 26 0)),(1,iv .i64 most),(4,.x (.b 4 0))]) (σ':=[(26,.box [.o 900 1 128,.d (zR tp),iC tk,.d nilPV,iC tm,iC at',iC dn,iC wy,iC 0,iC 0,iC 0,iC 0]),(900,.chain 3 1 1 (st.map iPV)),(4,.box [.d nilPV,.d nilPV,iC 0,.d nilPV,iC 0,iC 0,iC 0,iC 0])]) impA ?_
  refine zaq (Imp.nil 901 3 1 (fr':=[(6,.x (.b 26 0)),(1,iv .i64 most),(4,.x (.b 4 0))]) (σ':=[(26,.box [.o 900 1 128,.d (zR tp),iC tk,.o 901 0 0,iC tm,iC at',iC dn,iC wy,iC 0,iC 0,iC 0,iC 0]),(900,.chain 3 1 1 (st.map iPV)),(4,.box [.d nilPV,.d nilPV,iC 0,.d nilPV,iC 0,iC 0,iC 0,iC 0])]) rfl ?_ ?_ rfl rfl) ?_
  ·exact⟨⟨_,rfl,.inl rfl⟩,⟨_,rfl,.inl rfl⟩,⟨_,rfl,.inl rfl⟩,trivial⟩
  ·exact⟨⟨_,rfl,.inr ⟨_,_,rfl,rfl,.inl rfl,.inl rfl,.inl rfl,.inr ⟨rfl,rfl⟩,.inl rfl,.inl rfl,.inl rfl,.inl rfl,.inl rfl,.inl rfl,.inl rfl,.inl rfl,trivial⟩⟩,⟨_,rfl,.inl rfl⟩,⟨_,rfl,.inl rfl⟩,trivial⟩
  clear hr1
 case' inr=>
  unfold Stp;clear hr;have hr:=hr1;clear hr1
 all_goals
  repeat' first|(with_reducible refine Stp.at5 ?_)|refine zd ?_|((first|refine regA ?_|((refine⟨_,hr.frame (asc []) (by repeat (first|exact trivial|refine⟨rfl,?_⟩)) rfl (by rintro _ _ ⟨_,rfl,rfl⟩;rfl),?_⟩);(rintro _ _ ⟨_,_,⟨⟨xo,xp⟩,rfl,rfl⟩,rfl,rfl⟩))|fail);conv=>whnf)|fail
  unfold Stp;refine run_end hg rfl rfl impA ?_
  repeat' first|refine zd ?_|((first|refine zi ?_|refine regA ?_|refine andA ?_|fail);conv=>whnf)|fail
  exact⟨_,[],trivial,rfl,rfl,rfl,rfl⟩
end Go.Proofs.YtnkhljdifljdbaaGreatDoor
namespace Go.Proofs
open Go.Shelf
def Tryz.laysM171_ren:Go.Shelf.Ren:=⟨fun|129=>253|171=>55|243=>95|246=>153|283=>206|284=>207|285=>208|286=>209|317=>252|318=>254|319=>255|320=>256|337=>278|338=>279|n=>n,fun|0=>0|2=>2|3=>3|4=>4|5=>5|9=>9|20=>20|37=>28|46=>350|51=>386|53=>356|171=>355|173=>359|212=>385|213=>387|232=>424|233=>425|n=>n,fun|17=>1|18=>6|19=>7|n=>n⟩
theorem Tryz.laysM171:Go.Proofs.LaysM.n171 Tryz.prog Tryz.laysM171_ren:={
 mixed:=by kernel_rfl
 f129:=Tryz.func253.trans (congrArg some (by kernel_rfl))
 f171:=Tryz.func55.trans (congrArg some (by kernel_rfl))
 f243:=Tryz.func95.trans (congrArg some (by kernel_rfl))
 f246:=Tryz.func153.trans (congrArg some (by kernel_rfl))
 f283:=Tryz.func206.trans (congrArg some (by kernel_rfl))
 f284:=Tryz.func207.trans (congrArg some (by kernel_rfl))
 f285:=Tryz.func208.trans (congrArg some (by kernel_rfl))
 f286:=Tryz.func209.trans (congrArg some (by kernel_rfl))
 f317:=Tryz.func252.trans (congrArg some (by kernel_rfl))
 f318:=Tryz.func254.trans (congrArg some (by kernel_rfl))
 f319:=Tryz.func255.trans (congrArg some (by kernel_rfl))
 f320:=Tryz.func256.trans (congrArg some (by kernel_rfl))
 f337:=Tryz.func278.trans (congrArg some (by kernel_rfl))
 f338:=Tryz.func279.trans (congrArg some (by kernel_rfl))
 t0:=Tryz.underlying0
 a0:=Tryz.isAgg0
 z0:=Tryz.sizeOf0
 v0:=Tryz.zeroValue0
 t2:=Tryz.underlying2
 a2:=Tryz.isAgg2
 z2:=Tryz.sizeOf2
 v2:=Tryz.zeroValue2
 t3:=Tryz.underlying3
 a3:=Tryz.isAgg3
 z3:=Tryz.sizeOf3
 v3:=Tryz.zeroValue3
 t4:=Tryz.underlying4
 a4:=Tryz.isAgg4
 z4:=Tryz.sizeOf4
 v4:=Tryz.zeroValue4
 t5:=Tryz.underlying5
 a5:=Tryz.isAgg5
 z5:=Tryz.sizeOf5
 v5:=Tryz.zeroValue5
 t9:=Tryz.underlying9
 a9:=Tryz.isAgg9
 z9:=Tryz.sizeOf9
 v9:=Tryz.zeroValue9
 t20:=Tryz.underlying20
 a20:=Tryz.isAgg20
 z20:=Tryz.sizeOf20
 v20:=Tryz.zeroValue20
 t37:=Tryz.underlying28
 a37:=Tryz.isAgg28
 z37:=Tryz.sizeOf28
 v37:=Tryz.zeroValue28
 t46:=Tryz.underlying350
 a46:=Tryz.isAgg350
 z46:=Tryz.sizeOf350
 v46:=Tryz.zeroValue350
 t51:=Tryz.underlying386
 a51:=Tryz.isAgg386
 z51:=Tryz.sizeOf386
 v51:=Tryz.zeroValue386
 t53:=Tryz.underlying356
 a53:=Tryz.isAgg356
 z53:=Tryz.sizeOf356
 v53:=Tryz.zeroValue356
 t171:=Tryz.underlying355
 a171:=Tryz.isAgg355
 z171:=Tryz.sizeOf355
 v171:=Tryz.zeroValue355
 t173:=Tryz.underlying359
 a173:=Tryz.isAgg359
 z173:=Tryz.sizeOf359
 v173:=Tryz.zeroValue359
 t212:=Tryz.underlying385
 a212:=Tryz.isAgg385
 z212:=Tryz.sizeOf385
 v212:=Tryz.zeroValue385
 t213:=Tryz.underlying387
 a213:=Tryz.isAgg387
 z213:=Tryz.sizeOf387
 t232:=Tryz.underlying424
 a232:=Tryz.isAgg424
 z232:=Tryz.sizeOf424
 v232:=Tryz.zeroValue424
 t233:=Tryz.underlying425
 a233:=Tryz.isAgg425
 z233:=Tryz.sizeOf425
 v233:=Tryz.zeroValue425
 g17:=by kernel_rfl
 g18:=by kernel_rfl
 g19:=by kernel_rfl
 i0:=by kernel_rfl
 i2:=by kernel_rfl
 i3:=by kernel_rfl
 i4:=by kernel_rfl
 i5:=by kernel_rfl
 i9:=by kernel_rfl
 i20:=by kernel_rfl
 i37:=by kernel_rfl
 i46:=by kernel_rfl
 i51:=by kernel_rfl
 i53:=by kernel_rfl
 i171:=by kernel_rfl
 i173:=by kernel_rfl
 i212:=by kernel_rfl
 i232:=by kernel_rfl
 i233:=by kernel_rfl
 m17:=by kernel_rfl
 m18:=by kernel_rfl
 m19:=by kernel_rfl }
def Tryz.laysC172_ren:Go.Shelf.Ren:=⟨fun|129=>253|171=>55|172=>121|205=>264|243=>95|244=>176|245=>177|246=>153|247=>225|279=>226|280=>227|281=>228|282=>229|283=>206|284=>207|285=>208|286=>209|287=>262|316=>263|317=>252|318=>254|319=>255|320=>256|321=>281|322=>282|337=>278|338=>279|n=>n,fun|0=>0|2=>2|3=>3|4=>4|5=>5|9=>9|20=>20|21=>21|37=>28|46=>350|51=>386|53=>356|75=>101|76=>102|80=>105|85=>366|127=>129|143=>417|145=>419|167=>365|168=>368|171=>355|173=>359|175=>399|210=>402|212=>385|213=>387|232=>424|233=>425|n=>n,fun|15=>4|16=>5|17=>1|18=>6|19=>7|n=>n⟩
theorem Tryz.laysC172:Go.Proofs.LaysC.n172 Tryz.prog Tryz.laysC172_ren:={
 mixed:=by kernel_rfl
 f129:=Tryz.func253.trans (congrArg some (by kernel_rfl))
 f171:=Tryz.func55.trans (congrArg some (by kernel_rfl))
 f172:=Tryz.func121.trans (congrArg some (by kernel_rfl))
 f205:=Tryz.func264.trans (congrArg some (by kernel_rfl))
 f243:=Tryz.func95.trans (congrArg some (by kernel_rfl))
 f244:=Tryz.func176.trans (congrArg some (by kernel_rfl))
 f245:=Tryz.func177.trans (congrArg some (by kernel_rfl))
 f246:=Tryz.func153.trans (congrArg some (by kernel_rfl))
 f247:=Tryz.func225.trans (congrArg some (by kernel_rfl))
 f279:=Tryz.func226.trans (congrArg some (by kernel_rfl))
 f280:=Tryz.func227.trans (congrArg some (by kernel_rfl))
 f281:=Tryz.func228.trans (congrArg some (by kernel_rfl))
 f282:=Tryz.func229.trans (congrArg some (by kernel_rfl))
 f283:=Tryz.func206.trans (congrArg some (by kernel_rfl))
 f284:=Tryz.func207.trans (congrArg some (by kernel_rfl))
 f285:=Tryz.func208.trans (congrArg some (by kernel_rfl))
 f286:=Tryz.func209.trans (congrArg some (by kernel_rfl))
 f287:=Tryz.func262.trans (congrArg some (by kernel_rfl))
 f316:=Tryz.func263.trans (congrArg some (by kernel_rfl))
 f317:=Tryz.func252.trans (congrArg some (by kernel_rfl))
 f318:=Tryz.func254.trans (congrArg some (by kernel_rfl))
 f319:=Tryz.func255.trans (congrArg some (by kernel_rfl))
 f320:=Tryz.func256.trans (congrArg some (by kernel_rfl))
 f321:=Tryz.func281.trans (congrArg some (by kernel_rfl))
 f322:=Tryz.func282.trans (congrArg some (by kernel_rfl))
 f337:=Tryz.func278.trans (congrArg some (by kernel_rfl))
 f338:=Tryz.func279.trans (congrArg some (by kernel_rfl))
 t0:=Tryz.underlying0
 a0:=Tryz.isAgg0
 z0:=Tryz.sizeOf0
 v0:=Tryz.zeroValue0
 t2:=Tryz.underlying2
 a2:=Tryz.isAgg2
 z2:=Tryz.sizeOf2
 v2:=Tryz.zeroValue2
 t3:=Tryz.underlying3
 a3:=Tryz.isAgg3
 z3:=Tryz.sizeOf3
 v3:=Tryz.zeroValue3
 t4:=Tryz.underlying4
 a4:=Tryz.isAgg4
 z4:=Tryz.sizeOf4
 v4:=Tryz.zeroValue4
 t5:=Tryz.underlying5
 a5:=Tryz.isAgg5
 z5:=Tryz.sizeOf5
 v5:=Tryz.zeroValue5
 t9:=Tryz.underlying9
 a9:=Tryz.isAgg9
 z9:=Tryz.sizeOf9
 v9:=Tryz.zeroValue9
 t20:=Tryz.underlying20
 a20:=Tryz.isAgg20
 z20:=Tryz.sizeOf20
 v20:=Tryz.zeroValue20
 t21:=Tryz.underlying21
 a21:=Tryz.isAgg21
 z21:=Tryz.sizeOf21
 v21:=Tryz.zeroValue21
 t37:=Tryz.underlying28
 a37:=Tryz.isAgg28
 z37:=Tryz.sizeOf28
 v37:=Tryz.zeroValue28
 t46:=Tryz.underlying350
 a46:=Tryz.isAgg350
 z46:=Tryz.sizeOf350
 v46:=Tryz.zeroValue350
 t51:=Tryz.underlying386
 a51:=Tryz.isAgg386
 z51:=Tryz.sizeOf386
 v51:=Tryz.zeroValue386
 t53:=Tryz.underlying356
 a53:=Tryz.isAgg356
 z53:=Tryz.sizeOf356
 v53:=Tryz.zeroValue356
 t75:=Tryz.underlying101
 a75:=Tryz.isAgg101
 z75:=Tryz.sizeOf101
 v75:=Tryz.zeroValue101
 t76:=Tryz.underlying102
 a76:=Tryz.isAgg102
 z76:=Tryz.sizeOf102
 v76:=Tryz.zeroValue102
 t85:=Tryz.underlying366
 a85:=Tryz.isAgg366
 z85:=Tryz.sizeOf366
 v85:=Tryz.zeroValue366
 t127:=Tryz.underlying129
 a127:=Tryz.isAgg129
 z127:=Tryz.sizeOf129
 v127:=Tryz.zeroValue129
 t143:=Tryz.underlying417
 a143:=Tryz.isAgg417
 z143:=Tryz.sizeOf417
 v143:=Tryz.zeroValue417
 t145:=Tryz.underlying419
 a145:=Tryz.isAgg419
 z145:=Tryz.sizeOf419
 v145:=Tryz.zeroValue419
 t167:=Tryz.underlying365
 a167:=Tryz.isAgg365
 z167:=Tryz.sizeOf365
 v167:=Tryz.zeroValue365
 t168:=Tryz.underlying368
 a168:=Tryz.isAgg368
 z168:=Tryz.sizeOf368
 v168:=Tryz.zeroValue368
 t171:=Tryz.underlying355
 a171:=Tryz.isAgg355
 z171:=Tryz.sizeOf355
 v171:=Tryz.zeroValue355
 t173:=Tryz.underlying359
 a173:=Tryz.isAgg359
 z173:=Tryz.sizeOf359
 v173:=Tryz.zeroValue359
 t175:=Tryz.underlying399
 a175:=Tryz.isAgg399
 z175:=Tryz.sizeOf399
 v175:=Tryz.zeroValue399
 t210:=Tryz.underlying402
 a210:=Tryz.isAgg402
 z210:=Tryz.sizeOf402
 v210:=Tryz.zeroValue402
 t212:=Tryz.underlying385
 a212:=Tryz.isAgg385
 z212:=Tryz.sizeOf385
 v212:=Tryz.zeroValue385
 t213:=Tryz.underlying387
 a213:=Tryz.isAgg387
 z213:=Tryz.sizeOf387
 t232:=Tryz.underlying424
 a232:=Tryz.isAgg424
 z232:=Tryz.sizeOf424
 v232:=Tryz.zeroValue424
 t233:=Tryz.underlying425
 a233:=Tryz.isAgg425
 z233:=Tryz.sizeOf425
 v233:=Tryz.zeroValue425
 g15:=by kernel_rfl
 g16:=by kernel_rfl
 g17:=by kernel_rfl
 g18:=by kernel_rfl
 g19:=by kernel_rfl
 t80:=Tryz.underlying105
 a80:=Tryz.isAgg105
 z80:=Tryz.sizeOf105
 v80:=Tryz.zeroValue105
 i0:=by kernel_rfl
 i2:=by kernel_rfl
 i3:=by kernel_rfl
 i4:=by kernel_rfl
 i5:=by kernel_rfl
 i9:=by kernel_rfl
 i20:=by kernel_rfl
 i21:=by kernel_rfl
 i37:=by kernel_rfl
 i46:=by kernel_rfl
 i51:=by kernel_rfl
 i53:=by kernel_rfl
 i75:=by kernel_rfl
 i76:=by kernel_rfl
 i80:=by kernel_rfl
 i85:=by kernel_rfl
 i127:=by kernel_rfl
 i143:=by kernel_rfl
 i145:=by kernel_rfl
 i167:=by kernel_rfl
 i168:=by kernel_rfl
 i171:=by kernel_rfl
 i173:=by kernel_rfl
 i175:=by kernel_rfl
 i210:=by kernel_rfl
 i212:=by kernel_rfl
 i232:=by kernel_rfl
 i233:=by kernel_rfl
 m15:=by kernel_rfl
 m16:=by kernel_rfl
 m17:=by kernel_rfl
 m18:=by kernel_rfl
 m19:=by kernel_rfl
 c0:=by kernel_rfl
 c2:=by kernel_rfl
 c3:=by kernel_rfl
 c4:=by kernel_rfl
 c5:=by kernel_rfl
 c9:=by kernel_rfl
 c20:=by kernel_rfl
 c21:=by kernel_rfl
 c37:=by kernel_rfl
 c46:=by kernel_rfl
 c51:=by kernel_rfl
 c53:=by kernel_rfl
 c75:=by kernel_rfl
 c76:=by kernel_rfl
 c80:=by kernel_rfl
 c85:=by kernel_rfl
 c127:=by kernel_rfl
 c143:=by kernel_rfl
 c145:=by kernel_rfl
 c167:=by kernel_rfl
 c168:=by kernel_rfl
 c171:=by kernel_rfl
 c173:=by kernel_rfl
 c175:=by kernel_rfl
 c210:=by kernel_rfl
 c212:=by kernel_rfl
 c213:=by kernel_rfl
 c232:=by kernel_rfl
 c233:=by kernel_rfl }
def Tryz.lays146_ren:Go.Shelf.Ren:=⟨fun|138=>98|143=>99|146=>33|195=>155|197=>156|217=>212|218=>157|219=>158|221=>57|224=>214|225=>213|260=>211|266=>257|267=>215|268=>97|314=>258|n=>n,fun|0=>0|3=>3|4=>4|5=>5|9=>9|21=>21|31=>37|46=>350|51=>386|105=>297|119=>389|138=>391|139=>392|146=>393|n=>n,fun|1=>0|3=>2|4=>3|n=>n⟩
theorem Tryz.lays146:Go.Proofs.Lays.n146 Tryz.prog Tryz.lays146_ren:={
 mixed:=by kernel_rfl
 f138:=Tryz.func98.trans (congrArg some (by kernel_rfl))
 f143:=Tryz.func99.trans (congrArg some (by kernel_rfl))
 f146:=Tryz.func33.trans (congrArg some (by kernel_rfl))
 f195:=Tryz.func155.trans (congrArg some (by kernel_rfl))
 f197:=Tryz.func156.trans (congrArg some (by kernel_rfl))
 f217:=Tryz.func212.trans (congrArg some (by kernel_rfl))
 f218:=Tryz.func157.trans (congrArg some (by kernel_rfl))
 f219:=Tryz.func158.trans (congrArg some (by kernel_rfl))
 f221:=Tryz.func57.trans (congrArg some (by kernel_rfl))
 f224:=Tryz.func214.trans (congrArg some (by kernel_rfl))
 f225:=Tryz.func213.trans (congrArg some (by kernel_rfl))
 f260:=Tryz.func211.trans (congrArg some (by kernel_rfl))
 f266:=Tryz.func257.trans (congrArg some (by kernel_rfl))
 f267:=Tryz.func215.trans (congrArg some (by kernel_rfl))
 f268:=Tryz.func97.trans (congrArg some (by kernel_rfl))
 f314:=Tryz.func258.trans (congrArg some (by kernel_rfl))
 t0:=Tryz.underlying0
 a0:=Tryz.isAgg0
 z0:=Tryz.sizeOf0
 v0:=Tryz.zeroValue0
 t3:=Tryz.underlying3
 a3:=Tryz.isAgg3
 z3:=Tryz.sizeOf3
 v3:=Tryz.zeroValue3
 t4:=Tryz.underlying4
 a4:=Tryz.isAgg4
 z4:=Tryz.sizeOf4
 v4:=Tryz.zeroValue4
 t5:=Tryz.underlying5
 a5:=Tryz.isAgg5
 z5:=Tryz.sizeOf5
 v5:=Tryz.zeroValue5
 t9:=Tryz.underlying9
 a9:=Tryz.isAgg9
 z9:=Tryz.sizeOf9
 v9:=Tryz.zeroValue9
 t21:=Tryz.underlying21
 a21:=Tryz.isAgg21
 z21:=Tryz.sizeOf21
 v21:=Tryz.zeroValue21
 t31:=Tryz.underlying37
 a31:=Tryz.isAgg37
 z31:=Tryz.sizeOf37
 v31:=Tryz.zeroValue37
 t46:=Tryz.underlying350
 a46:=Tryz.isAgg350
 z46:=Tryz.sizeOf350
 v46:=Tryz.zeroValue350
 t51:=Tryz.underlying386
 a51:=Tryz.isAgg386
 z51:=Tryz.sizeOf386
 v51:=Tryz.zeroValue386
 t105:=Tryz.underlying297
 a105:=Tryz.isAgg297
 z105:=Tryz.sizeOf297
 v105:=Tryz.zeroValue297
 t119:=Tryz.underlying389
 a119:=Tryz.isAgg389
 z119:=Tryz.sizeOf389
 t138:=Tryz.underlying391
 a138:=Tryz.isAgg391
 z138:=Tryz.sizeOf391
 v138:=Tryz.zeroValue391
 t139:=Tryz.underlying392
 a139:=Tryz.isAgg392
 z139:=Tryz.sizeOf392
 v139:=Tryz.zeroValue392
 t146:=Tryz.underlying393
 a146:=Tryz.isAgg393
 z146:=Tryz.sizeOf393
 v146:=Tryz.zeroValue393
 g1:=by kernel_rfl
 g3:=by kernel_rfl
 g4:=by kernel_rfl }
def Tryz.lays103_ren:Go.Shelf.Ren:=⟨fun|103=>280|206=>291|210=>287|n=>n,fun|3=>3|4=>4|9=>9|24=>302|n=>n,fun|n=>n⟩
theorem Tryz.lays103:Go.Proofs.Lays.n103 Tryz.prog Tryz.lays103_ren:={
 mixed:=by kernel_rfl
 f103:=Tryz.func280.trans (congrArg some (by kernel_rfl))
 f206:=Tryz.func291.trans (congrArg some (by kernel_rfl))
 f210:=Tryz.func287.trans (congrArg some (by kernel_rfl))
 t3:=Tryz.underlying3
 a3:=Tryz.isAgg3
 z3:=Tryz.sizeOf3
 v3:=Tryz.zeroValue3
 t4:=Tryz.underlying4
 a4:=Tryz.isAgg4
 z4:=Tryz.sizeOf4
 v4:=Tryz.zeroValue4
 t9:=Tryz.underlying9
 a9:=Tryz.isAgg9
 z9:=Tryz.sizeOf9
 v9:=Tryz.zeroValue9
 t24:=Tryz.underlying302
 a24:=Tryz.isAgg302
 z24:=Tryz.sizeOf302
 v24:=Tryz.zeroValue302 }
def Tryz.lays156_ren:Go.Shelf.Ren:=⟨fun|156=>56|165=>96|166=>26|169=>28|240=>50|241=>154|276=>89|277=>210|n=>n,fun|0=>0|3=>3|4=>4|5=>5|9=>9|20=>20|31=>37|37=>28|70=>96|72=>98|75=>101|76=>102|80=>105|127=>129|164=>206|n=>n,fun|n=>n⟩
theorem Tryz.lays156:Go.Proofs.Lays.n156 Tryz.prog Tryz.lays156_ren:={
 mixed:=by kernel_rfl
 f156:=Tryz.func56.trans (congrArg some (by kernel_rfl))
 f165:=Tryz.func96.trans (congrArg some (by kernel_rfl))
 f166:=Tryz.func26.trans (congrArg some (by kernel_rfl))
 f169:=Tryz.func28.trans (congrArg some (by kernel_rfl))
 f240:=Tryz.func50.trans (congrArg some (by kernel_rfl))
 f241:=Tryz.func154.trans (congrArg some (by kernel_rfl))
 f276:=Tryz.func89.trans (congrArg some (by kernel_rfl))
 f277:=Tryz.func210.trans (congrArg some (by kernel_rfl))
 t0:=Tryz.underlying0
 a0:=Tryz.isAgg0
 z0:=Tryz.sizeOf0
 v0:=Tryz.zeroValue0
 t3:=Tryz.underlying3
 a3:=Tryz.isAgg3
 z3:=Tryz.sizeOf3
 v3:=Tryz.zeroValue3
 t4:=Tryz.underlying4
 a4:=Tryz.isAgg4
 z4:=Tryz.sizeOf4
 v4:=Tryz.zeroValue4
 t9:=Tryz.underlying9
 a9:=Tryz.isAgg9
 z9:=Tryz.sizeOf9
 v9:=Tryz.zeroValue9
 t20:=Tryz.underlying20
 a20:=Tryz.isAgg20
 z20:=Tryz.sizeOf20
 v20:=Tryz.zeroValue20
 t31:=Tryz.underlying37
 a31:=Tryz.isAgg37
 z31:=Tryz.sizeOf37
 v31:=Tryz.zeroValue37
 t37:=Tryz.underlying28
 a37:=Tryz.isAgg28
 z37:=Tryz.sizeOf28
 v37:=Tryz.zeroValue28
 t70:=Tryz.underlying96
 a70:=Tryz.isAgg96
 z70:=Tryz.sizeOf96
 v70:=Tryz.zeroValue96
 t72:=Tryz.underlying98
 a72:=Tryz.isAgg98
 z72:=Tryz.sizeOf98
 v72:=Tryz.zeroValue98
 t75:=Tryz.underlying101
 a75:=Tryz.isAgg101
 z75:=Tryz.sizeOf101
 v75:=Tryz.zeroValue101
 t76:=Tryz.underlying102
 a76:=Tryz.isAgg102
 z76:=Tryz.sizeOf102
 v76:=Tryz.zeroValue102
 t127:=Tryz.underlying129
 a127:=Tryz.isAgg129
 z127:=Tryz.sizeOf129
 v127:=Tryz.zeroValue129
 t164:=Tryz.underlying206
 a164:=Tryz.isAgg206
 z164:=Tryz.sizeOf206
 v164:=Tryz.zeroValue206 }
theorem Tryz.bx156:Builder.Extra Tryz.prog Tryz.lays156_ren:={
 sizeBuilder:=by kernel_rfl
 liesBuilder:=by kernel_rfl
 t5:=Tryz.underlying5
 a5:=Tryz.isAgg5
 z5:=Tryz.sizeOf5
 v5:=Tryz.zeroValue5
 infoByte:=by kernel_rfl
 cellsByte:=by kernel_rfl
 sizeByte:=by kernel_rfl
 neB5:=by decide }
def Tryz.lays166_ren:Go.Shelf.Ren:=⟨fun|166=>26|240=>50|276=>89|n=>n,fun|0=>0|3=>3|4=>4|5=>5|9=>9|20=>20|37=>28|70=>96|72=>98|75=>101|80=>105|164=>206|n=>n,fun|n=>n⟩
theorem Tryz.lays166:Go.Proofs.Lays.n166 Tryz.prog Tryz.lays166_ren:={
 mixed:=by kernel_rfl
 f166:=Tryz.func26.trans (congrArg some (by kernel_rfl))
 f240:=Tryz.func50.trans (congrArg some (by kernel_rfl))
 f276:=Tryz.func89.trans (congrArg some (by kernel_rfl))
 t0:=Tryz.underlying0
 a0:=Tryz.isAgg0
 z0:=Tryz.sizeOf0
 v0:=Tryz.zeroValue0
 t3:=Tryz.underlying3
 a3:=Tryz.isAgg3
 z3:=Tryz.sizeOf3
 v3:=Tryz.zeroValue3
 t4:=Tryz.underlying4
 a4:=Tryz.isAgg4
 z4:=Tryz.sizeOf4
 v4:=Tryz.zeroValue4
 t9:=Tryz.underlying9
 a9:=Tryz.isAgg9
 z9:=Tryz.sizeOf9
 v9:=Tryz.zeroValue9
 t20:=Tryz.underlying20
 a20:=Tryz.isAgg20
 z20:=Tryz.sizeOf20
 v20:=Tryz.zeroValue20
 t37:=Tryz.underlying28
 a37:=Tryz.isAgg28
 z37:=Tryz.sizeOf28
 v37:=Tryz.zeroValue28
 t70:=Tryz.underlying96
 a70:=Tryz.isAgg96
 z70:=Tryz.sizeOf96
 v70:=Tryz.zeroValue96
 t72:=Tryz.underlying98
 a72:=Tryz.isAgg98
 z72:=Tryz.sizeOf98
 v72:=Tryz.zeroValue98
 t75:=Tryz.underlying101
 a75:=Tryz.isAgg101
 z75:=Tryz.sizeOf101
 v75:=Tryz.zeroValue101
 t164:=Tryz.underlying206
 a164:=Tryz.isAgg206
 z164:=Tryz.sizeOf206
 v164:=Tryz.zeroValue206 }
theorem Tryz.bx166:Builder.Extra Tryz.prog Tryz.lays166_ren:={
 sizeBuilder:=by kernel_rfl
 liesBuilder:=by kernel_rfl
 t5:=Tryz.underlying5
 a5:=Tryz.isAgg5
 z5:=Tryz.sizeOf5
 v5:=Tryz.zeroValue5
 infoByte:=by kernel_rfl
 cellsByte:=by kernel_rfl
 sizeByte:=by kernel_rfl
 neB5:=by decide }
def Tryz.lays169_ren:Go.Shelf.Ren:=⟨fun|169=>28|n=>n,fun|0=>0|3=>3|5=>5|9=>9|37=>28|70=>96|72=>98|127=>129|n=>n,fun|n=>n⟩
theorem Tryz.lays169:Go.Proofs.Lays.n169 Tryz.prog Tryz.lays169_ren:={
 mixed:=by kernel_rfl
 f169:=Tryz.func28.trans (congrArg some (by kernel_rfl))
 t0:=Tryz.underlying0
 a0:=Tryz.isAgg0
 z0:=Tryz.sizeOf0
 v0:=Tryz.zeroValue0
 t3:=Tryz.underlying3
 a3:=Tryz.isAgg3
 z3:=Tryz.sizeOf3
 v3:=Tryz.zeroValue3
 t9:=Tryz.underlying9
 a9:=Tryz.isAgg9
 z9:=Tryz.sizeOf9
 v9:=Tryz.zeroValue9
 t37:=Tryz.underlying28
 a37:=Tryz.isAgg28
 z37:=Tryz.sizeOf28
 v37:=Tryz.zeroValue28
 t70:=Tryz.underlying96
 a70:=Tryz.isAgg96
 z70:=Tryz.sizeOf96
 v70:=Tryz.zeroValue96
 t72:=Tryz.underlying98
 a72:=Tryz.isAgg98
 z72:=Tryz.sizeOf98
 v72:=Tryz.zeroValue98
 t127:=Tryz.underlying129
 a127:=Tryz.isAgg129
 z127:=Tryz.sizeOf129
 v127:=Tryz.zeroValue129 }
theorem Tryz.bx169:Builder.Extra Tryz.prog Tryz.lays169_ren:={
 sizeBuilder:=by kernel_rfl
 liesBuilder:=by kernel_rfl
 t5:=Tryz.underlying5
 a5:=Tryz.isAgg5
 z5:=Tryz.sizeOf5
 v5:=Tryz.zeroValue5
 infoByte:=by kernel_rfl
 cellsByte:=by kernel_rfl
 sizeByte:=by kernel_rfl
 neB5:=by decide }
end Go.Proofs
namespace Go.Proofs.YtnkhljdifljdbaaGreatDoor
open Go Go.QL Go.RowKit FoT
set_option maxHeartbeats 1600000
set_option maxRecDepth 20000
attribute [local irreducible] ACall FnC YC
theorem zod (n:Int) (h0 : -9223372036854775808≤n) (h1:n≤9223372036854775807):FnC Tryz.prog 55 [iv .i64 n] (sv ⟨(Lib.itoa n).toArray⟩):=by
 unfold FnC;refine⟨⟨_,Tryz.func55,rfl,rfl⟩,fun K w vs hL hK hs hv=>?_⟩
 obtain⟨v,rfl⟩:∃ v,vs = #[v]:=by
  match vs,hs with
  | ⟨[v]⟩,_=>exact⟨v,rfl⟩
 have h2:=hv 0 (iv .i64 n) v rfl rfl;have hvi:v=.int .i64 n:=by
  cases h2 with
  | d _ _ h=>cases h;rfl
 subst hvi;refine Calls.mono (show Calls Tryz.prog 55 #[.int .i64 n] w _ from Any.strconv_Itoa Tryz.laysM171 n h0 h1 w (hL.tab (by decide +kernel) (by kernel_rfl:_=some 1))) ?_
 rintro e w' ⟨rfl,k,os,rfl⟩;have hb:=Lib.below_grow w.heap.size w (Nat.le_refl _) k os;refine⟨_,K,rfl,hb,⟨fun _ _ h=>h,fun b o hk=>?_⟩,fun _ _ _ h=>h,fun b o hk=>Nat.lt_of_lt_of_le (hK b o hk) hb.size,zL _ rfl⟩
 exact hb.cell (hK b o hk)
theorem tupE {σ:Sg} {g:Gh} {w:World} {a b:Value} {p:PV} (ha:a.oneCell'=true) (hb:PR g.K w p b):VR2 σ g w (.t [.x (.d (.v a)),.x (.d p)]) (.tuple #[a,b]):=by
 refine⟨#[a,b],rfl,rfl,fun i x v hi hv=>?_⟩
 match i with
 | 0=>cases hi;cases hv;exact zL (σ:=σ) (g:=g) (w:=w) _ ha
 | 1=>cases hi;cases hv;exact .d _ _ hb
 | i+2=>simp at hi
def atoiE (s:ByteArray):AV:=
 match Lib.atoiAll s.data.toList with
 | .ok v=>.t [iv .i64 v,.x (.d (.v .nilIface))]
 | .range=>.t [iv .i64 (Lib.atoiSat s.data.toList),.x (.d .e)]
 | _=>.t [iv .i64 0,.x (.d .e)]
theorem atoi_e (s:ByteArray) (hs:s.size≤281474976710656) {σ:Sg}:ACall Tryz.prog 121 [sv s] σ (fun r σ'=>r=atoiE s∧σ'=σ):=by
 unfold ACall;refine⟨⟨_,Tryz.func121,rfl,rfl⟩,fun w0 K0 g w vs hL hhp hs' hv=>?_⟩
 obtain⟨v,rfl⟩:∃ v,vs = #[v]:=by
  match vs,hs' with
  | ⟨[v]⟩,_=>exact⟨v,rfl⟩
 have h2:=zm (hv 0 (sv s) v rfl rfl);subst h2;have hLw:=hL.mono hhp.ext;have fin:∀ (w':World) (a b:Value) (p:PV) (ha:a.oneCell'=true) (hb:∀ K w,PR K w p b),Below w.heap.size w w'→atoiE s=.t [.x (.d (.v a)),.x (.d p)] →
   ∃ v g' σ' r,Ending.returned (.tuple #[a,b])=.returned v∧Did w0 K0 σ g w σ' g' w'∧VR2 σ' g' w' r v∧r=atoiE s∧σ'=σ:=by
  intro w' a b p ha hb hbl hR;refine⟨_,⟨g.K,g.μ⟩,σ,_,rfl,hhp.grow hbl ⟨fun _ _ h=>h,fun b o hk=>hbl.cell (hhp.val b o hk)⟩ (fun _ _ _ h=>h) (fun b o hk=>Nat.lt_of_lt_of_le (hhp.val b o hk) hbl.size),tupE ha (hb _ _),hR.symm,rfl⟩
 cases h:Lib.atoiAll s.data.toList with
 | ok v=>
  refine (show Calls Tryz.prog 121 #[.string s] w _ from Any.strconv_Atoi_ok Tryz.laysC172 s (by omega) v h w).mono ?_
  rintro e w' ⟨rfl,hw⟩;have hbl:Below w.heap.size w w':=by
   rcases hw with rfl|⟨t,rfl⟩
   ·exact Below.refl _ _
   ·exact Lib.bytesWorld_below w _ t
  exact fin w' _ _ (.v .nilIface) rfl (fun _ _=>.v _ rfl) hbl (by unfold atoiE;rw [h])
 | range=>
  obtain⟨tp,p,hvar⟩:=hLw.err (nm:= "strconv.ErrRange") (by decide +kernel) (by kernel_rfl:_=some 5);refine (show Calls Tryz.prog 121 #[.string s] w _ from Any.strconv_Atoi_range_var Tryz.laysC172 s hs h tp p w hvar).mono ?_
  rintro e w' ⟨N,rfl,_,_,hbl⟩;exact fin w' _ _ .e rfl (fun _ _=>.e _ _) hbl (by unfold atoiE;rw [h])
 | _=>
  obtain⟨tp,p,hvar⟩:=hLw.err (nm:= "strconv.ErrSyntax") (by decide +kernel) (by kernel_rfl:_=some 4);refine (show Calls Tryz.prog 121 #[.string s] w _ from Any.strconv_Atoi_syntax_var Tryz.laysC172 s hs h tp p w hvar).mono ?_
  rintro e w' ⟨N,rfl,_,_,hbl⟩;exact fin w' _ _ .e rfl (fun _ _=>.e _ _) hbl (by unfold atoiE;rw [h])
theorem zql (s p:ByteArray):FnC Tryz.prog 280 [sv s,sv p] (.t [sv ⟨(Lib.trimPrefix s.data.toList p.data.toList).toArray⟩,bv (Lib.hasPrefix s.data.toList p.data.toList)]):=by
 unfold FnC;refine⟨⟨_,Tryz.func280,rfl,rfl⟩,fun K w vs hL hK hs' hv=>?_⟩
 obtain⟨u,v,rfl⟩:∃ u v,vs = #[u,v]:=by
  match vs,hs' with
  | ⟨[u,v]⟩,_=>exact⟨u,v,rfl⟩
 have h2:=zm (hv 0 (sv s) u rfl rfl);have h3:=zm (hv 1 (sv p) v rfl rfl);subst h2;subst h3;refine Calls.mono (show Calls Tryz.prog 280 #[.string s,.string p] w _ from Any.strings_CutPrefix Tryz.lays103 s p w) ?_
 rintro e w' ⟨rfl,rfl⟩;exact⟨_,K,rfl,Below.refl _ _,Ext.refl _ _,fun _ _ _ h=>h,hK,tupE rfl (.v _ rfl)⟩
abbrev strsPV (l:List ByteArray):List (List PV):=l.map fun p=>[.v (.string p)]
theorem split_fn (s sep:ByteArray) (hs:s.size < 4294967281) (h1:1≤sep.size):FnC Tryz.prog 33 [sv s,sv sep] (.x (.d (.s 1 (strsPV (Lib.splitB sep 0 (Lib.countB s sep) s))))):=by
 unfold FnC;refine⟨⟨_,Tryz.func33,rfl,rfl⟩,fun K w vs hL hK hs' hv=>?_⟩
 obtain⟨u,v,rfl⟩:∃ u v,vs = #[u,v]:=by
  match vs,hs' with
  | ⟨[u,v]⟩,_=>exact⟨u,v,rfl⟩
 have h2:=zm (hv 0 (sv s) u rfl rfl);have h3:=zm (hv 1 (sv sep) v rfl rfl);subst h2;subst h3;obtain⟨m,hm⟩:=hL.len (nm:= "internal/bytealg.MaxLen") (by decide +kernel) (by kernel_rfl:_=some 0);refine Calls.mono (show Calls Tryz.prog 33 #[.string s,.string sep] w _ from Any.strings_Split Tryz.lays146 (by kernel_rfl) s sep m w hs hm h1) ?_
 rintro e w' ⟨rfl,rfl⟩;have hle:=Lib.countB_le sep h1 s.size s (Nat.le_refl _);have hlen:=Lib.splitB_all sep h1 0 _ s rfl;generalize hps:Lib.splitB sep 0 (Lib.countB s sep) s=ps at hlen;have hbl:Below w.heap.size w (w.alloc (.cells (ps.map Value.string).toArray 9)):=(Below.refl _ w).alloc (Nat.le_refl _) _;refine⟨_,fun b o=>K b o∨b=w.heap.size,rfl,hbl,⟨fun _ _ h=>.inl h,fun b o hk=>hbl.cell (hK b o hk)⟩,fun b o hlt hk=>hk.elim id fun e=>absurd e (Nat.ne_of_lt hlt),fun b o hk=>?_,?_⟩
 ·rcases hk with hk|rfl
  ·exact Nat.lt_of_lt_of_le (hK b o hk) hbl.size
  ·simp
 ·refine .d _ _ ?_
  have hpr:=PR.s (K:=fun b o=>K b o∨b=w.heap.size) (w:=w.alloc (.cells (ps.map Value.string).toArray 9)) 1 (strsPV ps) (some ⟨w.heap.size,0,none⟩) (Lib.countB s sep+1) w.heap.size 0 (fun i _=>.string (ps.getD i ByteArray.empty))
   (by simp [strsPV,hlen]) (by unfold maxLen;omega) (by intro e he;simp [strsPV] at he;obtain⟨a,_,rfl⟩:=he;rfl) (fun _=>rfl) (fun i e _ j _=>.inr rfl)
   (fun i e he j hj=>by
    simp only [strsPV,List.getElem?_map,Option.map_eq_some_iff] at he;obtain⟨p,hp,rfl⟩:=he;simp at hj;subst hj;rw [World.cell?_alloc_at _ _ _ _ rfl];simp [hp])
   (fun i e he j x hx=>by
    simp only [strsPV,List.getElem?_map,Option.map_eq_some_iff] at he;obtain⟨p,hp,rfl⟩:=he;cases j with
    | zero=>cases hx;simp [List.getD,hp];exact .v _ rfl
    | succ j=>simp at hx)
  rw [show (strsPV ps).length=Lib.countB s sep+1 by simp [strsPV,hlen]] at hpr;exact hpr
theorem join_fn (l:List ByteArray) (sep:ByteArray) (h0:l≠[]) (hl:l.length≤140737488355328) (hj:(Lib.join (l.map (·.data.toList)) sep.data.toList).length≤140737488355328) :
  FnC Tryz.prog 56 [.x (.d (.s 1 (strsPV l))),sv sep] (sv ⟨(Lib.join (l.map (·.data.toList)) sep.data.toList).toArray⟩):=by
 unfold FnC;refine⟨⟨_,Tryz.func56,rfl,rfl⟩,fun K w vs hL hK hs' hv=>?_⟩
 obtain⟨u,v,rfl⟩:∃ u v,vs = #[u,v]:=by
  match vs,hs' with
  | ⟨[u,v]⟩,_=>exact⟨u,v,rfl⟩
 have h2:=hv 0 _ u rfl rfl;have h3:=zm (hv 1 (sv sep) v rfl rfl);subst h3;cases h2 with
 | d _ _ hp=>
  generalize hx:strsPV l=xs at hp;cases hp with
  | s _ _ a cap b off vs hcap hmax hsz ha hKc hc hr=>
   subst hx;have hne:strsPV l≠[]:=by simpa using h0
   obtain rfl:=ha hne;have hcells:∀ (j:Nat) x,l[j]?=some x→w.cell? ⟨b,off+j,none⟩=some (.string x):=fun j x hj=>by
    have he:(strsPV l)[j]?=some [.v (.string x)]:=by simp [strsPV,hj]
    have h4:=hc j _ he 0 (by simp);have h5:=hr j _ he 0 _ rfl;generalize vs j 0=q at h4 h5;cases h5;simpa using h4
   have hb:b < w.heap.size:=by
    obtain⟨x,r,rfl⟩:∃ x r,l=x::r:=by cases l with|nil=>exact absurd rfl h0|cons x r=>exact⟨x,r,rfl⟩
    exact hK b _ (hKc 0 [.v (.string x)] rfl 0 (by simp))
   have hlen:(strsPV l).length=l.length:=by simp [strsPV]
   rw [hlen] at hcap ⊢;refine Calls.mono (show Calls Tryz.prog 56 #[.slice (some ⟨b,off,none⟩) l.length cap,.string sep] w _ from Any.strings_Join Tryz.lays156 Tryz.bx156 b off cap l sep w hcells hb hl hcap hj) ?_
   rintro e w' ⟨rfl,hb⟩;refine⟨_,K,rfl,hb,⟨fun _ _ h=>h,fun b o hk=>?_⟩,fun _ _ _ h=>h,fun b o hk=>Nat.lt_of_lt_of_le (hK b o hk) hb.size,zL _ rfl⟩
   exact hb.cell (hK b o hk)
end Go.Proofs.YtnkhljdifljdbaaGreatDoor
namespace Go.QL
open Go Go.RowKit
section
variable {P:Program} {Γ:Cx} {fr:Fr} {σ:Sg} {Q:Exit→Fr→Sg→Prop}
def Rnd (P:Program) (Γ:Cx) (c:Code) (Q:Exit→Fr→Sg→Prop):Nat→Fr→Sg→Prop
 | 0,_,_=>False
 | m+1,fr,σ=>AW P Γ c (Exit.thn (Rnd P Γ c Q m) Q) fr σ
theorem Rnd.mk {c:Code} {m:Nat} (h:AW P Γ c (Exit.thn (Rnd P Γ c Q m) Q) fr σ):Rnd P Γ c Q (m+1) fr σ:=h
theorem AW_rounds {c:Code} (m:Nat) (h:Rnd P Γ c Q m fr σ):AW P Γ (.loop c) Q fr σ:=by
 refine AW.mk fun hL g a w hr=>wpIn_loop_rounds m ?_
 induction m generalizing fr σ g a w with
 | zero=>exact h.elim
 | succ m ih=>
  refine wpIn_mono (AW.use h hL hr) ?_
  rintro e a' w' ⟨fr1,σ1,g1,r1,hq⟩;cases e with
  | normal=>exact ih hq g1 a' w' r1
  | _=>exact⟨fr1,σ1,g1,r1,hq⟩
end
attribute [irreducible] Rnd
end Go.QL
namespace Go.QL
open Go Go.RowKit
def gB (gd:Option Bool) (b:Bool):Bool:=match gd with|some false=>true|_=>b
theorem gB_ok {gd:Option Bool} {p:Prop} [Decidable p] (h:gB gd (decide p)=true):Gd gd p:=by
 match gd,h with
 | none,h=>exact (of_decide_eq_true h:p)
 | some true,h=>exact fun _=>(of_decide_eq_true h:p)
 | some false,_=>exact fun e=>by cases e
theorem gB_ok' {gd:Option Bool} {p:Prop} {b:Bool} (h:gB gd b=true) (hb:b=true→p):Gd gd p:=by
 match gd,h with
 | none,h=>exact hb h
 | some true,h=>exact fun _=>hb h
 | some false,_=>exact fun e=>by cases e
def bInt (gd:Option Bool) (op:BinOp) (k1 k2:IntKind) (a b:Int) (k:AV→Bool):Bool:=
 match op with
 | .shl=>gB gd (decide (0≤b)) && k (iv k1 (k1.wrap (a * 2 ^ (min b.toNat k1.bits))))
 | .shr=>gB gd (decide (0≤b)) && k (iv k1 (a.fdiv (2 ^ (min b.toNat k1.bits))))
 | .add=>decide (k1=k2) && k (iv k1 (k1.wrap (a+b)))
 | .sub=>decide (k1=k2) && k (iv k1 (k1.wrap (a - b)))
 | .mul=>decide (k1=k2) && k (iv k1 (k1.wrap (a * b)))
 | .quo=>decide (k1=k2) && (gB gd (decide (b≠0)) && k (iv k1 (k1.wrap (a.tdiv b))))
 | .rem=>decide (k1=k2) && (gB gd (decide (b≠0)) && k (iv k1 (a.tmod b)))
 | .and|.or|.xor|.andNot=>decide (k1=k2) && k (iv k1 (ze6 op k1 a b))
 | .eql=>decide (k1=k2) && k (bv (a == b))
 | .neq=>decide (k1=k2) && k (bv (a != b))
 | .lss=>decide (k1=k2) && k (bv (decide (a < b)))
 | .leq=>decide (k1=k2) && k (bv (decide (a≤b)))
 | .gtr=>decide (k1=k2) && k (bv (decide (b < a)))
 | .geq=>decide (k1=k2) && k (bv (decide (b≤a)))
section
variable {tt:TT} {gd:Option Bool} {σ:Sg} {kb:AV→Bool} {k:AV→Prop} {kb2:AV→Sg→Bool} {k2:AV→Sg→Prop} {kb3:Sg→Bool} {k3:Sg→Prop}
theorem bInt_ok {op:BinOp} {i1 i2:IntKind} {a b:Int} (hk:∀ v,kb v=true→k v) (h:bInt gd op i1 i2 a b kb=true):kInt op i1 i2 a b (Gd gd) k:=by
 unfold bInt at h;unfold kInt;cases op <;> simp only [Bool.and_eq_true,decide_eq_true_eq] at h ⊢;all_goals first
  | (rw [if_pos h.1];exact hk _ h.2)
  | (rw [if_pos h.1];exact⟨_,rfl,hk _ h.2⟩)
  | (rw [if_pos h.1];exact⟨gB_ok h.2.1,_,rfl,hk _ h.2.2⟩)
  | exact⟨gB_ok h.1,_,rfl,hk _ h.2⟩
def baEq (a b:ByteArray):Bool:=a.data.toList == b.data.toList
theorem baEq_is (a b:ByteArray):(a.toList == b.toList)=baEq a b:=by
 unfold baEq;rw [ByteArray.toList_eq,ByteArray.toList_eq]
def bStr (gd:Option Bool) (op:BinOp) (a b:ByteArray) (k:AV→Bool):Bool:=
 match op with
 | .add=>gB gd (decide (a.size+b.size≤maxLen)) && k (sv (a ++ b))
 | .eql=>k (bv (baEq a b))
 | .neq=>k (bv (!(baEq a b)))
 | .lss=>k (bv (Op.bytesLess a.data.toList b.data.toList))
 | _=>false
theorem bStr_ok {op:BinOp} {a b:ByteArray} (hk:∀ v,kb v=true→k v) (h:bStr gd op a b kb=true):kStr op a b (Gd gd) k:=by
 unfold bStr at h;unfold kStr;cases op <;> simp only [Bool.and_eq_true,baEq_is,ByteArray.toList_eq] at h ⊢;all_goals first
  | exact⟨gB_ok h.1,hk _ h.2⟩
  | exact hk _ h
  | (exact absurd h (by decide))
def eqVb:Value→Value→Bool
 | .int _ a,.int _ b=>a == b
 | .bool a,.bool b=>a == b
 | .string a,.string b=>baEq a b
 | _,_=>false
theorem eqV_b (a b:Value):eqV a b=eqVb a b:=by
 cases a <;> cases b <;> simp only [eqV,eqVb,baEq_is]
def eqLb:List Value→List Value→Bool
 | [],[]=>true
 | a::r,b::s=>eqVb a b && eqLb r s
 | _,_=>false
theorem eqL_b:∀ (a b:List Value),eqL a b=eqLb a b
 | [],[]=>rfl
 | a::r,b::s=>by rw [eqL,eqLb,eqV_b,eqL_b r s]
 | [],_::_=>rfl
 | _::_,[]=>rfl
def eqKb:Value→Value→Bool
 | .agg xs,.agg ys=>eqLb xs.toList ys.toList
 | a,b=>eqVb a b
theorem eqK_b (a b:Value):zhG a b=eqKb a b:=by
 cases a <;> cases b <;> simp only [zhG,eqKb,eqV_b,eqL_b]
def bBin (tt:TT) (gd:Option Bool) (op:BinOp) (xT:TypeId) (x y:AV) (k:AV→Bool):Bool:=
 match x,y with
 | .x (.d (.v (.int k1 a))),.x (.d (.v (.int k2 b)))=>bInt gd op k1 k2 a b k
 | .x (.d (.v (.string a))),.x (.d (.v (.string b)))=>bStr gd op a b k
 | .x (.d (.v (.bool a))),.x (.d (.v (.bool b)))=>
  match tt xT with
  | some ⟨.bool,_,_,_⟩=>(match op with|.eql=>k (bv (a == b))|.neq=>k (bv (!(a == b)))|_=>false)
  | _=>false
 | .a xs,.a ys=>
  match tt xT,ze9 xs,ze9 ys with
  | some ⟨.st _ (k1::ks),_,_,_⟩,some us,some vs=>(zaR (k1::ks) us && zaR (k1::ks) vs) && (match op with|.eql=>k (bv (eqLb us vs))|.neq=>k (bv (!(eqLb us vs)))|_=>false)
  | some ⟨.ar n e,_,_,_⟩,some us,some vs=>
   (match tt e with
   | some ⟨.int kk,1,_,_⟩=>(zaR (List.replicate n (.int kk)) us && zaR (List.replicate n (.int kk)) vs) && (match op with|.eql=>k (bv (eqLb us vs))|.neq=>k (bv (!(eqLb us vs)))|_=>false)
   | _=>false)
  | _,_,_=>false
 | _,_=>false
theorem bBin_ok {op:BinOp} {xT:TypeId} {x y:AV} (hk:∀ v,kb v=true→k v) (h:bBin tt gd op xT x y kb=true):kBin tt op xT x y (Gd gd) k:=by
 unfold bBin at h;unfold kBin;split at h
 ·exact bInt_ok hk h
 ·exact bStr_ok hk h
 ·split at h
  ·rename_i heq;simp only [heq];cases op <;> simp only at h ⊢ <;> first|exact hk _ h|cases h
  ·cases h
 ·split at h
  ·rename_i h1 h2 h3;simp only [h1,h2,h3,Bool.and_eq_true,eqL_b] at h ⊢;rw [if_pos h.1];have h:=h.2;cases op <;> simp only at h ⊢ <;> first|exact hk _ h|cases h
  ·rename_i h1 h2 h3;simp only [h1,h2,h3,eqL_b] at h ⊢;split at h
   ·rename_i h4;simp only [h4,Bool.and_eq_true] at h ⊢;rw [if_pos h.1];have h:=h.2;cases op <;> simp only at h ⊢ <;> first|exact hk _ h|cases h
   ·cases h
  ·cases h
 ·cases h
def bUn (op:UnOp) (x:AV) (k:AV→Bool):Bool:=
 match op,x with
 | .neg,.x (.d (.v (.int k1 a)))=>k (iv k1 (k1.wrap (0 - a)))
 | .not,.x (.d (.v (.bool b)))=>k (bv (!b))
 | .xor,.x (.d (.v (.int k1 a)))=>k (iv k1 (ze6 .xor k1 (if k1.signed then -1 else k1.max) a))
 | _,_=>false
theorem bUn_ok {op:UnOp} {x:AV} (hk:∀ v,kb v=true→k v) (h:bUn op x kb=true):kUn op x k:=by
 unfold bUn at h;unfold kUn;split at h
 ·exact⟨_,rfl,hk _ h⟩
 ·exact hk _ h
 ·exact⟨_,rfl,hk _ h⟩
 ·cases h
def bConv (tt:TT) (dst:TypeId) (x:AV) (k:AV→Bool):Bool:=
 match x with
 | .x (.d (.v (.int _ a)))=>
  match tt dst with
  | some ⟨.int k2,_,_,_⟩=>k (iv k2 (k2.wrap a))
  | _=>false
 | .x (.d (.v (.string a)))=>
  match tt dst with
  | some ⟨.str,_,_,_⟩=>k (sv a)
  | _=>false
 | _=>false
theorem bConv_ok {dst:TypeId} {x:AV} (hk:∀ v,kb v=true→k v) (h:bConv tt dst x kb=true):zn8 tt dst x k:=by
 unfold bConv at h;unfold zn8;split at h
 ·split at h
  ·rename_i heq;simp only [heq];exact⟨_,rfl,hk _ h⟩
  ·cases h
 ·split at h
  ·rename_i heq;simp only [heq];exact hk _ h
  ·cases h
 ·cases h
def bLoad (tt:TT) (σ:Sg) (T:TypeId) (x:AV) (k:AV→Bool):Bool:=
 match x,tt T with
 | .x s,some ti=>
  match cellsQ σ s ti.size with
  | some cs=>bif ti.d.agg then k (.a cs) else (match cs with|[c]=>k (.x c)|_=>false)
  | none=>false
 | _,_=>false
theorem bLoad_ok {T:TypeId} {x:AV} (hk:∀ v,kb v=true→k v) (h:bLoad tt σ T x kb=true):zmj tt σ T x k:=by
 unfold bLoad at h;simp only [cellsQ_eq] at h;unfold zmj;split at h
 ·rename_i ti heq;simp only [heq];split at h
  ·rename_i cs hc;simp only [hc];cases hb:ti.d.agg with
   | true=>rw [hb] at h;exact hk _ h
   | false=>
    rw [hb] at h;simp only [cond_false] at h ⊢;split at h
    ·exact hk _ h
    ·cases h
  ·cases h
 ·cases h
def bFieldAddr (tt:TT) (T:TypeId) (x:AV) (f:Nat) (k:AV→Bool):Bool:=
 match tt T with
 | some ⟨.st fs _,_,_,_⟩=>
  match fs[f]? with
  | some (o,ft)=>
   match tt ft with
   | some fi=>!(Nat.beq fi.size 0) &&
    (match x with
    | .x (.b id off)=>k (.x (.b id (off+o)))
    | .x (.se e off)=>k (.x (.se e (off+o)))
    | .x (.oe c st i off)=>k (.x (.oe c st i (off+o)))
    | _=>false)
   | none=>false
  | none=>false
 | _=>false
theorem bFieldAddr_ok {T:TypeId} {x:AV} {f:Nat} (hk:∀ v,kb v=true→k v) (h:bFieldAddr tt T x f kb=true):zeY tt T x f k:=by
 unfold bFieldAddr at h;unfold zeY;split at h
 ·rename_i h1;simp only [h1];split at h
  ·rename_i h2;simp only [h2];split at h
   ·rename_i fi h3;simp only [h3];rw [Bool.and_eq_true] at h;rw [if_neg (by intro e;rw [e] at h;exact absurd h.1 (by decide))];have h:=h.2;split at h
    ·exact hk _ h
    ·exact hk _ h
    ·exact hk _ h
    ·cases h
   ·cases h
  ·cases h
 ·cases h
def bIndexAddr (tt:TT) (σ:Sg) (gd:Option Bool) (T:TypeId) (x i:AV) (k:AV→Bool):Bool:=
 match tt T,x,i with
 | some ⟨.sl e,_,_,_⟩,.x (.d (.s sz xs)),.x (.d (.v (.int _ n)))=>
  match tt e with
  | some ei=>Nat.beq ei.size sz && (match getL xs n.toNat with
   | some el=>gB gd (decide (0≤n)) && k (.x (.se el 0))
   | none=>false)
  | none=>false
 | some ⟨.sl e,_,_,_⟩,.x (.o c st m),.x (.d (.v (.int _ n)))=>
  match tt e,lk c σ with
  | some ei,some (.chain _ sz st' xs)=>(Nat.beq ei.size sz && Nat.beq st' st) && (gB gd (decide (0≤n∧n < m∧m≤lenL xs)) && k (.x (.oe c st n.toNat 0)))
  | _,_=>false
 | some ⟨.ar len e,_,_,_⟩,.x (.b id off),.x (.d (.v (.int _ n)))=>
  match tt e with
  | some ei=>gB gd (decide (0≤n∧n < len)) && k (.x (.b id (off+n.toNat * ei.size)))
  | none=>false
 | some ⟨.ar len e,_,_,_⟩,.x (.se el off),.x (.d (.v (.int _ n)))=>
  match tt e with
  | some ei=>gB gd (decide (0≤n∧n < len)) && k (.x (.se el (off+n.toNat * ei.size)))
  | none=>false
 | some ⟨.ar len e,_,_,_⟩,.x (.oe c st j off),.x (.d (.v (.int _ n)))=>
  match tt e,lk c σ with
  | some ei,some (.chain _ _ st' _)=>Nat.beq st' st && (gB gd (decide (0≤n∧n < len)) && k (.x (.oe c st j (off+n.toNat * ei.size))))
  | _,_=>false
 | some ⟨.sl e,_,_,_⟩,.x (.os c st lo m),.x (.d (.v (.int _ n)))=>
  match tt e,lk c σ with
  | some ei,some (.chain _ sz st' _)=>(Nat.beq ei.size sz && Nat.beq st' st) && (gB gd (decide (0≤n∧n < (m - lo:Nat))) && k (.x (.oe c st (lo+n.toNat) 0)))
  | _,_=>false
 | some ⟨.sl e,_,_,_⟩,.x (.sb id off m _),.x (.d (.v (.int _ n)))=>
  match tt e with
  | some ei=>gB gd (decide (0≤n∧n < m)) && k (.x (.b id (off+n.toNat * ei.size)))
  | none=>false
 | _,_,_=>false
theorem bIndexAddr_ok {T:TypeId} {x i:AV} (hk:∀ v,kb v=true→k v) (h:bIndexAddr tt σ gd T x i kb=true):zeX tt σ T x i (Gd gd) k:=by
 unfold bIndexAddr at h;simp only [getL_eq,lenL_eq] at h;unfold zeX;split at h
 ·rename_i h1;simp only [h1];split at h
  ·rename_i h2;simp only [h2,Bool.and_eq_true] at h ⊢;refine⟨Nat.eq_of_beq_eq_true h.1,?_⟩
   have h:=h.2;split at h
   ·rename_i el h3;rw [Bool.and_eq_true] at h;exact⟨el,gB_ok' h.1 (fun q=>⟨of_decide_eq_true q,h3⟩),hk _ h.2⟩
   ·cases h
  ·cases h
 ·rename_i h1;simp only [h1];split at h
  ·rename_i h2 h3;simp only [h2,h3,Bool.and_eq_true] at h ⊢;exact⟨⟨Nat.eq_of_beq_eq_true h.1.1,Nat.eq_of_beq_eq_true h.1.2⟩,gB_ok h.2.1,hk _ h.2.2⟩
  ·cases h
 ·rename_i h1;simp only [h1];split at h
  ·rename_i h2;simp only [h2,Bool.and_eq_true] at h ⊢;exact⟨gB_ok h.1,hk _ h.2⟩
  ·cases h
 ·rename_i h1;simp only [h1];split at h
  ·rename_i h2;simp only [h2,Bool.and_eq_true] at h ⊢;exact⟨gB_ok h.1,hk _ h.2⟩
  ·cases h
 ·rename_i h1;simp only [h1];split at h
  ·rename_i h2 h3;simp only [h2,h3,Bool.and_eq_true] at h ⊢;exact⟨Nat.eq_of_beq_eq_true h.1,gB_ok h.2.1,hk _ h.2.2⟩
  ·cases h
 ·rename_i h1;simp only [h1];split at h
  ·rename_i h2 h3;simp only [h2,h3,Bool.and_eq_true] at h ⊢;exact⟨⟨Nat.eq_of_beq_eq_true h.1.1,Nat.eq_of_beq_eq_true h.1.2⟩,gB_ok h.2.1,hk _ h.2.2⟩
  ·cases h
 ·rename_i h1;simp only [h1];split at h
  ·rename_i h2;simp only [h2,Bool.and_eq_true] at h ⊢;exact⟨gB_ok h.1,hk _ h.2⟩
  ·cases h
 ·cases h
def bLoadOe (tt:TT) (σ:Sg) (gd:Option Bool) (T:TypeId) (c st i off:Nat) (k:AV→Bool):Bool:=
 match tt T,lk c σ with
 | some ti,some (.chain _ sz st' xs)=>
  Nat.beq st' st && (match getL xs i with
  | some el=>(Nat.ble (off+ti.size) (lenL el) && Nat.beq (lenL el) sz) &&
   (bif ti.d.agg then k (.a ((takL ti.size (drpL off el)).map .d)) else (match takL ti.size (drpL off el) with|[p]=>k (.x (.d p))|_=>false))
  | none=>false)
 | _,_=>false
theorem bLoadOe_ok {T:TypeId} {c st i off:Nat} (hk:∀ v,kb v=true→k v) (h:bLoadOe tt σ gd T c st i off kb=true):zjB tt σ T c st i off (Gd gd) k:=by
 unfold bLoadOe at h;simp only [getL_eq,takL_eq,drpL_eq,lenL_eq] at h;unfold zjB;split at h
 ·rename_i ti _ sz st' xs h1 h2;simp only [h1,h2,Bool.and_eq_true] at h ⊢;refine⟨Nat.eq_of_beq_eq_true h.1,?_⟩
  have h:=h.2;split at h
  ·rename_i el h3;simp only [Bool.and_eq_true] at h;refine⟨el,gB_ok' (b:=true) (by unfold gB;split <;> rfl) (fun _=>h3),⟨Nat.le_of_ble_eq_true h.1.1,Nat.eq_of_beq_eq_true h.1.2⟩,?_⟩
   have h:=h.2;cases hb:ti.d.agg with
   | true=>rw [hb] at h;exact hk _ h
   | false=>
    rw [hb] at h;simp only [cond_false] at h ⊢;split at h
    ·rename_i h4;simp only [h4];exact hk _ h
    ·cases h
  ·cases h
 ·cases h
def bLen (tt:TT) (σ:Sg) (T:TypeId) (x:AV) (k:AV→Bool):Bool:=
 match tt T,x with
 | some ⟨.sl _,_,_,_⟩,.x (.d (.s _ xs))=>k (iv .i64 (lenL xs))
 | some ⟨.sl _,_,_,_⟩,.x (.d (.v (.slice none 0 0)))=>k (iv .i64 0)
 | some ⟨.sl _,_,_,_⟩,.x (.o c st n)=>(match lk c σ with|some (.chain _ _ st' xs)=>Nat.beq st' st && k (iv .i64 n)|_=>false)
 | some ⟨.sl _,_,_,_⟩,.x (.sb _ _ n _)=>k (iv .i64 n)
 | some ⟨.sl _,_,_,_⟩,.x (.os c st lo n)=>(match lk c σ with|some (.chain _ _ st' _)=>Nat.beq st' st && k (iv .i64 (n - lo:Nat))|_=>false)
 | some ⟨.str,_,_,_⟩,.x (.d (.v (.string s)))=>k (iv .i64 s.size)
 | some ⟨.ar n _,_,_,_⟩,_=>k (iv .i64 n)
 | some ⟨.mp _ _,_,_,_⟩,.x (.h id)=>(match lk id σ with|some (.x (.map _ kvs))=>k (iv .i64 kvs.length)|_=>false)
 | _,_=>false
theorem bLen_ok {T:TypeId} {x:AV} {u:Bool} (hk:∀ v,kb v=true→k v) (h:bLen tt σ T x kb=true):kLen tt σ T x u k:=by
 unfold bLen at h;simp only [lenL_eq] at h;unfold kLen;split at h
 ·rename_i h1;simp only [h1];cases u <;> simp only [cond_true,cond_false] <;> first|exact hk _ h|exact fun _=>hk _ h
 ·rename_i h1;simp only [h1];exact hk _ h
 ·rename_i h1;simp only [h1];split at h
  ·rename_i h2;simp only [h2,Bool.and_eq_true] at h ⊢;refine⟨Nat.eq_of_beq_eq_true h.1,?_⟩
   cases u <;> simp only [cond_true,cond_false] <;> first|exact hk _ h.2|exact fun _=>hk _ h.2
  ·cases h
 ·rename_i h1;simp only [h1];exact hk _ h
 ·rename_i h1;simp only [h1];split at h
  ·rename_i h2;simp only [h2,Bool.and_eq_true] at h ⊢;exact⟨Nat.eq_of_beq_eq_true h.1,hk _ h.2⟩
  ·cases h
 ·rename_i h1;simp only [h1];exact hk _ h
 ·rename_i h1;simp only [h1];exact hk _ h
 ·rename_i h1;simp only [h1];split at h
  ·rename_i h2;simp only [h2];exact hk _ h
  ·cases h
 ·cases h
def bIndex (tt:TT) (gd:Option Bool) (T:TypeId) (x i:AV) (k:AV→Bool):Bool:=
 match tt T,x,i with
 | some ⟨.str,_,_,_⟩,.x (.d (.v (.string s))),.x (.d (.v (.int _ n)))=>(match s.data.toList[n.toNat]? with
  | some b=>gB gd (decide (0≤n)) && k (iv .u8 b.toNat)
  | none=>false)
 | some ⟨.ar len e,_,_,_⟩,.a cs,.x (.d (.v (.int _ n)))=>
  match tt e with
  | some ei=>(!ei.d.agg && Nat.beq ei.size 1 && Nat.beq cs.length len) && (match cs[n.toNat]? with|some s=>gB gd (decide (0≤n)) && k (.x s)|none=>false)
  | none=>false
 | _,_,_=>false
theorem bIndex_ok {T:TypeId} {x i:AV} (hk:∀ v,kb v=true→k v) (h:bIndex tt gd T x i kb=true):zmn tt T x i (Gd gd) k:=by
 unfold bIndex at h;unfold zmn;split at h
 ·rename_i h1;simp only [h1];split at h
  ·rename_i b h2;rw [Bool.and_eq_true] at h;exact⟨b,gB_ok' h.1 (fun q=>⟨of_decide_eq_true q,h2⟩),hk _ h.2⟩
  ·cases h
 ·rename_i h1;simp only [h1];split at h
  ·rename_i h2;simp only [h2,Bool.and_eq_true,Bool.not_eq_true'] at h ⊢;refine⟨⟨h.1.1.1,Nat.eq_of_beq_eq_true h.1.1.2,Nat.eq_of_beq_eq_true h.1.2⟩,?_⟩
   have h:=h.2;split at h
   ·rename_i s h3;rw [Bool.and_eq_true] at h;exact⟨s,gB_ok' h.1 (fun q=>⟨of_decide_eq_true q,h3⟩),hk _ h.2⟩
   ·cases h
  ·cases h
 ·cases h
def bExtract (x:AV) (n:Nat) (k:AV→Bool):Bool:=
 match x with
 | .t xs=>(match xs[n]? with|some (.x s)=>k (.x s)|some (.a cs)=>k (.a cs)|_=>false)
 | _=>false
theorem bExtract_ok {x:AV} {n:Nat} (hk:∀ v,kb v=true→k v) (h:bExtract x n kb=true):zhC x n k:=by
 unfold bExtract at h;unfold zhC;split at h
 ·split at h
  ·rename_i h1;simp only [h1];exact hk _ h
  ·rename_i h1;simp only [h1];exact hk _ h
  ·cases h
 ·cases h
def bField (tt:TT) (T:TypeId) (x:AV) (f:Nat) (k:AV→Bool):Bool:=
 match tt T,x with
 | some ⟨.st fs _,_,_,_⟩,.a cs=>
  match fs[f]? with
  | some (o,ft)=>
   match tt ft with
   | some fi=>bif fi.d.agg then (Nat.ble (o+fi.size) cs.length && k (.a ((cs.drop o).take fi.size))) else (match cs[o]? with|some s=>k (.x s)|none=>false)
   | none=>false
  | none=>false
 | _,_=>false
theorem bField_ok {T:TypeId} {x:AV} {f:Nat} (hk:∀ v,kb v=true→k v) (h:bField tt T x f kb=true):zmp tt T x f k:=by
 unfold bField at h;unfold zmp;split at h
 ·rename_i h1;simp only [h1];split at h
  ·rename_i h2;simp only [h2];split at h
   ·rename_i fi h3;simp only [h3];cases hb:fi.d.agg with
    | true=>
     rw [hb] at h;simp only [cond_true,Bool.and_eq_true] at h ⊢;exact⟨Nat.le_of_ble_eq_true h.1,hk _ h.2⟩
    | false=>
     rw [hb] at h;simp only [cond_false] at h ⊢;split at h
     ·rename_i h4;simp only [h4];exact hk _ h
     ·cases h
   ·cases h
  ·cases h
 ·cases h
def bSlice (tt:TT) (σ:Sg) (gd:Option Bool) (T:TypeId) (x:AV) (lo hi:Option AV) (k:AV→Bool):Bool:=
 match tt T,x with
 | some ⟨.sl e,_,_,_⟩,.x (.d (.s sz xs))=>
  (match tt e,zfj lo 0,zfj hi (lenL xs) with
  | some ei,some l,some h=>Nat.beq ei.size sz && (gB gd (decide (0≤l∧l≤h∧h≤lenL xs)) && k (.x (.d (.s sz (drpL l.toNat (takL h.toNat xs))))))
  | _,_,_=>false)
 | some ⟨.sl e,_,_,_⟩,.x (.o c st n)=>
  (match tt e,lk c σ,zfj lo 0,zfj hi n with
  | some _,some (.chain _ _ st' _),some 0,some h=>Nat.beq st' st && (gB gd (decide (0≤h∧h≤n)) && k (.x (.o c st h.toNat)))
  | some ei,some (.chain _ sz st' xs),some (.ofNat (l+1)),some h=>(Nat.beq st' st && Nat.beq ei.size sz && Nat.ble n xs.length) && (gB gd (decide ((l:Int)+1≤h∧h≤n)) && k (bif Nat.ble h.toNat (l+1) then .x (.d (.s 0 [])) else .x (.os c st (l+1) h.toNat)))
  | _,_,_,_=>false)
 | some ⟨.sl e,_,_,_⟩,.x (.d (.v (.slice none 0 0)))=>
  (match tt e,zfj lo 0,zfj hi 0 with
  | some _,some l,some h=>gB gd (decide (0≤l∧l≤h∧h≤0)) && k (.x (.d (.v (.slice none 0 0))))
  | _,_,_=>false)
 | some ⟨.ar n e,_,_,_⟩,.x (.b id off)=>
  (match tt e,zfj lo 0,zfj hi n with
  | some ei,some l,some h=>Nat.ble n 1000000 && (gB gd (decide (0≤l∧l < n∧l≤h∧h≤n)) && k (.x (.sb id (off+l.toNat * ei.size) (h.toNat - l.toNat) (n - l.toNat))))
  | _,_,_=>false)
 | some ⟨.str,_,_,_⟩,.x (.d (.v (.string s)))=>
  (match zfj lo 0,zfj hi s.size with
  | some l,some h=>gB gd (decide (0≤l∧l≤h∧h≤s.size)) && k (sv (s.extract l.toNat h.toNat))
  | _,_=>false)
 | _,_=>false
theorem bSlice_ok {T:TypeId} {x:AV} {lo hi:Option AV} (hk:∀ v,kb v=true→k v) (h:bSlice tt σ gd T x lo hi kb=true):zme tt σ T x lo hi (Gd gd) k:=by
 unfold bSlice at h;simp only [lenL_eq,takL_eq,drpL_eq] at h;unfold zme;split at h
 ·rename_i h1;simp only [h1];split at h
  ·rename_i h2 h3 h4;simp only [h2,h3,h4,Bool.and_eq_true] at h ⊢;exact⟨Nat.eq_of_beq_eq_true h.1,gB_ok h.2.1,hk _ h.2.2⟩
  ·cases h
 ·rename_i h1;simp only [h1];split at h
  ·rename_i h2 h3 h4 h5;simp only [h2,h3,h4,h5,Bool.and_eq_true] at h ⊢;exact⟨Nat.eq_of_beq_eq_true h.1,gB_ok h.2.1,hk _ h.2.2⟩
  ·rename_i h2 h3 h4 h5;simp only [h2,h3,h4,h5,Bool.and_eq_true] at h ⊢;exact⟨⟨Nat.eq_of_beq_eq_true h.1.1.1,Nat.eq_of_beq_eq_true h.1.1.2,Nat.le_of_ble_eq_true h.1.2⟩,gB_ok h.2.1,hk _ h.2.2⟩
  ·cases h
 ·rename_i h1;simp only [h1];split at h
  ·rename_i h2 h3 h4;simp only [h2,h3,h4,Bool.and_eq_true] at h ⊢;exact⟨gB_ok h.1,hk _ h.2⟩
  ·cases h
 ·rename_i h1;simp only [h1];split at h
  ·rename_i h2 h3 h4;simp only [h2,h3,h4,Bool.and_eq_true] at h ⊢;rw [h.1];exact⟨gB_ok h.2.1,hk _ h.2.2⟩
  ·cases h
 ·rename_i h1;simp only [h1];split at h
  ·rename_i h2 h3;simp only [h2,h3,Bool.and_eq_true] at h ⊢;exact⟨gB_ok h.1,hk _ h.2⟩
  ·cases h
 ·cases h
def bSlice3 (tt:TT) (gd:Option Bool) (T:TypeId) (x:AV) (lo hi mx:Option AV) (k:AV→Bool):Bool:=
 match tt T,x with
 | some ⟨.sl e,_,_,_⟩,.x (.d (.s sz xs))=>
  (match tt e,lo,hi,mx with
  | some ei,none,some (.x (.d (.v (.int _ h)))),some (.x (.d (.v (.int _ m))))=>(Nat.beq ei.size sz && decide (m=h)) && (gB gd (decide (0≤h∧h≤xs.length)) && k (.x (.d (.c sz (xs.take h.toNat)))))
  | some ei,some (.x (.d (.v (.int _ l)))),some (.x (.d (.v (.int _ h)))),some (.x (.d (.v (.int _ m))))=>(Nat.beq ei.size sz && decide (m=h)) && (gB gd (decide (0≤l∧l≤h∧h≤xs.length)) && k (.x (.d (.s sz ((xs.take h.toNat).drop l.toNat)))))
  | _,_,_,_=>false)
 | some ⟨.sl e,_,_,_⟩,.x (.d (.v (.slice none 0 0)))=>
  (match tt e,lo,hi,mx with
  | some _,none,some (.x (.d (.v (.int _ h)))),some (.x (.d (.v (.int _ m))))=>decide (m=h) && (gB gd (decide (0≤h∧h≤0)) && k (.x (.d (.v (.slice none 0 0)))))
  | _,_,_,_=>false)
 | _,_=>false
theorem bSlice3_ok {T:TypeId} {x:AV} {lo hi mx:Option AV} (hk:∀ v,kb v=true→k v) (h:bSlice3 tt gd T x lo hi mx kb=true):zjw tt T x lo hi mx (Gd gd) k:=by
 unfold bSlice3 at h;unfold zjw;split at h
 ·rename_i h1;simp only [h1];split at h
  ·rename_i h2;simp only [h2,Bool.and_eq_true,decide_eq_true_eq] at h ⊢;exact⟨⟨Nat.eq_of_beq_eq_true h.1.1,h.1.2⟩,gB_ok h.2.1,hk _ h.2.2⟩
  ·rename_i h2;simp only [h2,Bool.and_eq_true,decide_eq_true_eq] at h ⊢;exact⟨⟨Nat.eq_of_beq_eq_true h.1.1,h.1.2⟩,gB_ok h.2.1,hk _ h.2.2⟩
  ·cases h
 ·rename_i h1;simp only [h1];split at h
  ·rename_i h2;simp only [h2,Bool.and_eq_true,decide_eq_true_eq] at h ⊢;exact⟨h.1,gB_ok h.2.1,hk _ h.2.2⟩
  ·cases h
 ·cases h
def bBuild (tt:TT) (T:TypeId) (parts:List (Nat × AV)) (k:AV→Bool):Bool:=
 match tt T,zbZ parts with
 | some ti,some ps=>
  (match ti.d with
  | .st fs _=>
   (match zb8 tt fs with
   | some pl=>(match zgB (fun i=>pl[i]?) (zbS ti) ps with|some cs=>k (.a cs)|none=>false)
   | none=>false)
  | .ar _ e=>
   (match tt e with
   | some ei=>(match zgB (fun i=>some (i * ei.size,ei.size)) (zbS ti) ps with|some cs=>k (.a cs)|none=>false)
   | none=>false)
  | _=>false)
 | _,_=>false
theorem bBuild_ok {T:TypeId} {parts:List (Nat × AV)} (hk:∀ v,kb v=true→k v) (h:bBuild tt T parts kb=true):zmw tt T parts k:=by
 unfold bBuild at h;unfold zmw;split at h
 ·rename_i h1 h2;simp only [h1,h2];split at h
  ·rename_i h3;simp only [h3];split at h
   ·rename_i h4;simp only [h4];split at h
    ·rename_i h5;simp only [h5];exact hk _ h
    ·cases h
   ·cases h
  ·rename_i h3;simp only [h3];split at h
   ·rename_i h4;simp only [h4];split at h
    ·rename_i h5;simp only [h5];exact hk _ h
    ·cases h
   ·cases h
  ·cases h
 ·cases h
end
end Go.QL
namespace Go.QL
open Go Go.RowKit
section
variable {tt:TT} {gd:Option Bool} {fr:Fr} {σ:Sg} {kb:AV→Bool} {k:AV→Prop} {kb2:AV→Sg→Bool} {k2:AV→Sg→Prop} {kb3:Sg→Bool} {k3:Sg→Prop}
def bMM (mx:Bool) (vs:List AV) (k:AV→Bool):Bool:=
 match vs with
 | .x (.d (.v (.int k1 a)))::r=>(match mmL mx a r with|some m=>k (iv k1 m)|none=>false)
 | _=>false
theorem bMM_ok {mx:Bool} {vs:List AV} (hk:∀ v,kb v=true→k v) (h:bMM mx vs kb=true):kMM mx vs k:=by
 unfold bMM at h;unfold kMM;split at h
 ·split at h
  ·rename_i h1;simp only [h1];exact hk _ h
  ·cases h
 ·cases h
def bytesOf:List (List PV)→Option (List UInt8)
 | []=>some []
 | [.v (.int .u8 n)]::r=>if 0≤n∧n≤255 then (match bytesOf r with|some l=>some (UInt8.ofNat n.toNat::l)|none=>none) else none
 | _::_=>none
theorem bytesOf_ok:∀ {xs:List (List PV)} {l:List UInt8},bytesOf xs=some l→xs=l.map fun c=>[.v (.int .u8 c.toNat)]
 | [],l,h=>by cases h;rfl
 | [.v (.int .u8 n)]::r,l,h=>by
  unfold bytesOf at h;split at h
  ·rename_i hn;split at h
   ·rename_i q hq;cases h;rw [List.map_cons,← bytesOf_ok hq];have:((UInt8.ofNat n.toNat).toNat:Int)=n:=by rw [UInt8.toNat_ofNat'];omega
    rw [this]
   ·cases h
  ·cases h
def bConvB (x:AV) (k:AV→Bool):Bool:=
 match x with
 | .x (.d (.c 1 xs))=>(match bytesOf xs with|some (c::l)=>k (sv ⟨(c::l).toArray⟩)|_=>false)
 | .x (.d (.s 1 xs))=>(match bytesOf xs with|some (c::l)=>k (sv ⟨(c::l).toArray⟩)|_=>false)
 | _=>false
theorem bConvB_ok {x:AV} (hk:∀ v,kb v=true→k v) (h:bConvB x kb=true):zo3 x k:=by
 unfold bConvB at h;split at h
 ·split at h
  ·rename_i c l h1;exact⟨c::l,by simp,.inl (by rw [bytesOf_ok h1]),hk _ h⟩
  ·cases h
 ·split at h
  ·rename_i c l h1;exact⟨c::l,by simp,.inr (by rw [bytesOf_ok h1]),hk _ h⟩
  ·cases h
 ·cases h
def bnq (op:BinOp) (p:Bool) (k:AV→Bool):Bool:=
 match op with
 | .eql=>k (bv false) && (!p || k (bv true))
 | .neq=>k (bv true) && (!p || k (bv false))
 | _=>false
theorem bnq_ok {op:BinOp} {p:Prop} {b:Bool} (hb:p→b=true) (hk:∀ v,kb v=true→k v) (h:bnq op b kb=true):nq op p k:=by
 unfold bnq at h;unfold nq;split at h
 ·intro c hc;simp only [Bool.and_eq_true,Bool.or_eq_true,Bool.not_eq_true'] at h;cases c with
  | false=>exact hk _ h.1
  | true=>exact hk _ (h.2.resolve_left (by rw [hb (hc rfl)];decide))
 ·intro c hc;simp only [Bool.and_eq_true,Bool.or_eq_true,Bool.not_eq_true'] at h;cases c with
  | true=>exact hk _ h.1
  | false=>exact hk _ (h.2.resolve_left (by rw [hb (hc rfl)];decide))
 ·cases h
def bNilq (tt:TT) (σ:Sg) (op:BinOp) (T:TypeId) (x:AV) (k:AV→Bool):Bool:=
  match tt T with
  | some ⟨.sl _,_,_,_⟩=>
   (match x with
   | .x (.d (.s _ xs))=>bnq op xs.isEmpty k
   | .x (.o c st n)=>(match lk c σ with
    | some (.chain _ _ st' _)=>Nat.beq st' st && bnq op (Nat.beq n 0) k
    | _=>false)
   | .x (.d (.v (.slice none 0 0)))=>bnq op true k
   | _=>false)
  | _=>false
theorem bNilq_ok {op:BinOp} {T:TypeId} {x:AV} (hk:∀ v,kb v=true→k v) (h:bNilq tt σ op T x kb=true):zp1 tt σ op T x true k:=by
 unfold bNilq at h;unfold zp1;simp only;split at h
 ·rename_i h1;simp only [h1];split at h
  ·exact bnq_ok (fun e=>by rw [e];rfl) hk h
  ·split at h
   ·rename_i h2;simp only [h2,Bool.and_eq_true] at h ⊢;exact⟨Nat.eq_of_beq_eq_true h.1,bnq_ok (fun e=>by rw [e];rfl) hk h.2⟩
   ·cases h
  ·exact bnq_ok (fun _=>rfl) hk h
  ·cases h
 ·cases h
def bNilI (op:BinOp) (u:AV) (k:AV→Bool):Bool:=
 match op,u with
 | .eql,.x (.d (.v (.iface _ _)))=>k (bv false)
 | .neq,.x (.d (.v (.iface _ _)))=>k (bv true)
 | .eql,.x (.d (.v .nilIface))=>k (bv true)
 | .neq,.x (.d (.v .nilIface))=>k (bv false)
 | .eql,.x (.d .e)=>k (bv false)
 | .neq,.x (.d .e)=>k (bv true)
 | _,_=>false
theorem bNilI_ok {op:BinOp} {u:AV} (hk:∀ v,kb v=true→k v) (h:bNilI op u kb=true):zgg op u k:=by
 unfold bNilI at h;unfold zgg;split at h <;> first|exact hk _ h|cases h
def bPick (fr:Fr) (gd:Option Bool) (c a b:Operand) (k:AV→Bool):Bool:=
 match ev fr c,ev fr a,ev fr b with
 | some (cc,.x (.d (.v (.bool x)))),some (ca,.x (.d (.v (.bool y)))),some (cb,.x (.d (.v (.bool z))))=>
  ((match cc with|none=>true|some c'=>gB gd c') &&
  (match ca with|none=>true|some c'=>gB gd (!x || c'))) &&
  ((match cb with|none=>true|some c'=>gB gd (x || c')) &&
  k (bv (bif x then y else z)))
 | _,_,_=>false
theorem bPick_ok {c a b:Operand} (hk:∀ v,kb v=true→k v) (h:bPick fr gd c a b kb=true):zp0 fr gd c a b k:=by
 unfold bPick at h;unfold zp0;split at h
 ·rename_i cc x ca y cb z h1 h2 h3;simp only [h1,h2,h3,Bool.and_eq_true] at h ⊢;refine⟨?_,?_,?_,hk _ h.2.2⟩
  ·cases cc with
   | none=>trivial
   | some c'=>exact gB_ok' h.1.1 id
  ·cases ca with
   | none=>trivial
   | some c'=>exact gB_ok' h.1.2 (fun q e=>by rw [e] at q;simpa using q)
  ·cases cb with
   | none=>trivial
   | some c'=>exact gB_ok' h.2.1 (fun q e=>by rw [e] at q;simpa using q)
 ·cases h
def findK (key:Value):List (Value × AV)→Option AV
 | []=>none
 | (u,x)::r=>bif eqKb u key then some x else findK key r
theorem findK_some {kt:KT} {key:Value} (hk:kt.fits key=true):∀ {kvs:List (Value × AV)} {x:AV},kvs.all (fun p=>kt.fits p.1)=true→findK key kvs=some x→∃ i:Nat,kvs[i]?=some (key,x)
 | [],x,_,h=>by cases h
 | (u,y)::r,x,ha,h=>by
  simp only [List.all_cons,Bool.and_eq_true] at ha;unfold findK at h;cases hb:eqKb u key with
  | true=>
   rw [hb] at h;cases h;rw [← eqK_b,zey ha.1 hk] at hb;subst hb;exact⟨0,rfl⟩
  | false=>
   rw [hb] at h;obtain⟨i,hi⟩:=findK_some hk ha.2 h;exact⟨i+1,by simpa using hi⟩
theorem findK_none {kt:KT} {key:Value} (hk:kt.fits key=true):∀ {kvs:List (Value × AV)},kvs.all (fun p=>kt.fits p.1)=true→findK key kvs=none→∀ (i:Nat) (y:AV),kvs[i]?≠some (key,y)
 | [],_,_,i,y,h=>by simp at h
 | (u,z)::r,ha,h,i,y,hi=>by
  simp only [List.all_cons,Bool.and_eq_true] at ha;unfold findK at h;cases hb:eqKb u key with
  | true=>rw [hb] at h;cases h
  | false=>
   rw [hb] at h;cases i with
   | zero=>
    simp at hi;rw [hi.1,← eqK_b,(zey hk hk).2 rfl] at hb;cases hb
   | succ i=>exact findK_none hk ha.2 h i y (by simpa using hi)
deriving instance DecidableEq for LK
instance:DecidableEq KT:=fun a b=>match a,b with
 | .one x,.one y=>if h:x=y then isTrue (by rw [h]) else isFalse (fun e=>h (by cases e;rfl))
 | .st x,.st y=>if h:x=y then isTrue (by rw [h]) else isFalse (fun e=>h (by cases e;rfl))
 | .oone x,.oone y=>if h:x=y then isTrue (by rw [h]) else isFalse (fun e=>h (by cases e;rfl))
 | .ost x,.ost y=>if h:x=y then isTrue (by rw [h]) else isFalse (fun e=>h (by cases e;rfl))
 | .one _,.st _=>isFalse (fun e=>by cases e)
 | .one _,.oone _=>isFalse (fun e=>by cases e)
 | .one _,.ost _=>isFalse (fun e=>by cases e)
 | .st _,.one _=>isFalse (fun e=>by cases e)
 | .st _,.oone _=>isFalse (fun e=>by cases e)
 | .st _,.ost _=>isFalse (fun e=>by cases e)
 | .oone _,.one _=>isFalse (fun e=>by cases e)
 | .oone _,.st _=>isFalse (fun e=>by cases e)
 | .oone _,.ost _=>isFalse (fun e=>by cases e)
 | .ost _,.one _=>isFalse (fun e=>by cases e)
 | .ost _,.st _=>isFalse (fun e=>by cases e)
 | .ost _,.oone _=>isFalse (fun e=>by cases e)
def bLookup (tt:TT) (σ:Sg) (T:TypeId) (u key:AV) (ok:Bool) (k:AV→Bool):Bool:=
 match tt T,keyV key with
 | some ⟨.mp kT eT,_,_,_⟩,some kv=>
  (match tt eT,ktOf tt kT with
  | some ei,some kt=>
   (match zk7 ei with
   | some z=>
    (match u with
    | .x (.h id)=>(match lk id σ with
     | some (.x (.map kt' kvs))=>(decide (kt'.base=kt) && kt.fits kv && kvs.all (fun p=>kt.fits p.1)) &&
      (match findK kv kvs with
      | some x=>ziC x && (bif ok then k (.t [x,bv true]) else k x)
      | none=>ziC z && (bif ok then k (.t [z,bv false]) else k z))
     | _=>false)
    | .x (.d (.v (.map none)))=>kt.fits kv && (bif ok then k (.t [z,bv false]) else k z)
    | _=>false)
   | none=>false)
  | _,_=>false)
 | _,_=>false
theorem bLookup_ok {T:TypeId} {u key:AV} {ok:Bool} (hk:∀ v,kb v=true→k v) (h:bLookup tt σ T u key ok kb=true):zjA tt σ T u key ok k:=by
 unfold bLookup at h;unfold zjA;have hb:∀ a b:AV,(bif ok then kb a else kb b)=true→(bif ok then k a else k b):=by intro a b;cases ok <;> exact hk _
 split at h
 ·rename_i h1 h2;simp only [h1,h2];split at h
  ·rename_i h3 h4;simp only [h3,h4];split at h
   ·rename_i h5;simp only [h5];split at h
    ·split at h
     ·rename_i h6;simp only [h6,Bool.and_eq_true,decide_eq_true_eq] at h ⊢;refine⟨h.1.1.1,h.1.1.2,?_⟩
      have hf:=h.1;have h:=h.2;split at h
      ·rename_i x h7;rw [Bool.and_eq_true] at h;exact⟨x,true,.inl ⟨rfl,findK_some hf.1.2 hf.2 h7⟩,h.1,hb _ _ h.2⟩
      ·rename_i h7;rw [Bool.and_eq_true] at h;exact⟨_,false,.inr ⟨rfl,rfl,findK_none hf.1.2 hf.2 h7⟩,h.1,hb _ _ h.2⟩
     ·cases h
    ·simp only [Bool.and_eq_true] at h ⊢;exact⟨h.1,hb _ _ h.2⟩
    ·cases h
   ·cases h
  ·cases h
 ·cases h
def setK (key:Value) (x:AV):List (Value × AV)→List (Value × AV)
 | []=>[(key,x)]
 | (u,y)::r=>bif eqKb u key then (key,x)::r else (u,y)::setK key x r
theorem setK_is {kt:KT} {key:Value} {x:AV} (hk:kt.fits key=true):∀ {kvs:List (Value × AV)},kvs.all (fun p=>kt.fits p.1)=true→zk5 kvs key x (setK key x kvs)
 | [],_=>.inr ⟨fun i y h=>by simp at h,rfl⟩
 | (u,z)::r,ha=>by
  simp only [List.all_cons,Bool.and_eq_true] at ha;unfold setK;cases hb:eqKb u key with
  | true=>
   rw [← eqK_b,zey ha.1 hk] at hb;subst hb;exact .inl ⟨0,z,rfl,rfl⟩
  | false=>
   simp only [cond_false];have hne:u≠key:=by rintro rfl;rw [← eqK_b,(zey hk hk).2 rfl] at hb;cases hb
   rcases setK_is hk ha.2 with ⟨i,y,h1,h2⟩|⟨h1,h2⟩
   ·exact .inl ⟨i+1,y,by simpa using h1,by rw [h2];rfl⟩
   ·refine .inr ⟨fun i y hi=>?_,by rw [h2];rfl⟩
    cases i with
    | zero=>simp at hi;exact hne hi.1
    | succ i=>exact h1 i y (by simpa using hi)
def bMapUpdate (tt:TT) (σ:Sg) (T:TypeId) (u key x:AV) (k:Sg→Bool):Bool:=
 match tt T,keyV key with
 | some ⟨.mp kT _,_,_,_⟩,some kv=>
  (match ktOf tt kT with
  | some kt=>
   (match u with
   | .x (.h id)=>(match lk id σ with
    | some (.x (.map kt' kvs))=>(decide (kt'.base=kt) && kt.fits kv && kvs.all (fun p=>kt.fits p.1)) && (kt'.holds x && k (zat id (.x (.map kt' (setK kv x kvs))) σ))
    | _=>false)
   | _=>false)
  | none=>false)
 | _,_=>false
theorem bMapUpdate_ok {T:TypeId} {u key x:AV} (hk:∀ s,kb3 s=true→k3 s) (h:bMapUpdate tt σ T u key x kb3=true):zdr tt σ T u key x k3:=by
 unfold bMapUpdate at h;unfold zdr;split at h
 ·rename_i h1 h2;simp only [h1,h2];split at h
  ·rename_i h3;simp only [h3];split at h
   ·split at h
    ·rename_i h6;simp only [h6,Bool.and_eq_true,decide_eq_true_eq] at h ⊢;exact⟨h.1.1.1,h.1.1.2,h.2.1,_,setK_is h.1.1.2 h.1.2,hk _ h.2.2⟩
    ·cases h
   ·cases h
  ·cases h
 ·cases h
def posK (key:Value):List (Value × AV)→Option (Nat × AV)
 | []=>none
 | (u,y)::r=>bif eqKb u key then some (0,y) else (match posK key r with|some (i,x)=>some (i+1,x)|none=>none)
theorem posK_some {kt:KT} {key:Value} (hk:kt.fits key=true):∀ {kvs:List (Value × AV)} {i:Nat} {x:AV},kvs.all (fun p=>kt.fits p.1)=true→posK key kvs=some (i,x)→kvs[i]?=some (key,x)
 | (u,z)::r,i,x,ha,h=>by
  simp only [List.all_cons,Bool.and_eq_true] at ha;unfold posK at h;cases hb:eqKb u key with
  | true=>
   rw [hb] at h;cases h;rw [← eqK_b,zey ha.1 hk] at hb;subst hb;rfl
  | false=>
   rw [hb] at h;simp only [cond_false] at h;split at h
   ·rename_i j y hj;cases h;have:=posK_some hk ha.2 hj;simpa using this
   ·cases h
theorem posK_none {kt:KT} {key:Value} (hk:kt.fits key=true):∀ {kvs:List (Value × AV)},kvs.all (fun p=>kt.fits p.1)=true→posK key kvs=none→∀ (i:Nat) (y:AV),kvs[i]?≠some (key,y)
 | [],_,_,i,y,h=>by simp at h
 | (u,z)::r,ha,h,i,y,hi=>by
  simp only [List.all_cons,Bool.and_eq_true] at ha;unfold posK at h;cases hb:eqKb u key with
  | true=>rw [hb] at h;cases h
  | false=>
   rw [hb] at h;simp only [cond_false] at h;cases i with
   | zero=>
    cases hi;rw [← eqK_b,(zey hk hk).2 rfl] at hb;cases hb
   | succ i=>
    split at h
    ·cases h
    ·rename_i hj;exact posK_none hk ha.2 hj i y (by simpa using hi)
def bSlot (tt:TT) (σ:Sg) (T:TypeId) (u key:AV) (k:AV→Sg→Bool):Bool:=
 match tt T,keyV key with
 | some ⟨.mp kT eT,_,_,_⟩,some kv=>
  (match tt eT,ktOf tt kT with
  | some ei,some kt=>
   (match zk7 ei with
   | some z=>
    (match u with
    | .x (.h id)=>(match lk id σ with
     | some (.x (.map kt' kvs))=>(decide (kt'.base=kt) && kt.fits kv && kvs.all (fun p=>kt.fits p.1) && zkZ z) &&
      (match posK kv kvs with
      | some (i,x)=>ziC x && k (.t [x,iv .i64 i]) (zat id (.x (.map kt' kvs)) σ)
      | none=>k (.t [z,iv .i64 kvs.length]) (zat id (.x (.map kt' (kvs ++ [(kv,z)]))) σ))
     | _=>false)
    | _=>false)
   | none=>false)
  | _,_=>false)
 | _,_=>false
theorem bSlot_ok {T:TypeId} {u key:AV} (hk:∀ v s,kb2 v s=true→k2 v s) (h:bSlot tt σ T u key kb2=true):kSlot tt σ T u key k2:=by
 unfold bSlot at h;unfold kSlot;split at h
 ·rename_i h1 h2;simp only [h1,h2];split at h
  ·rename_i h3 h4;simp only [h3,h4];split at h
   ·rename_i h5;simp only [h5];split at h
    ·split at h
     ·rename_i h6;simp only [h6,Bool.and_eq_true,decide_eq_true_eq] at h ⊢;refine⟨h.1.1.1.1,h.1.1.1.2,h.1.2,?_⟩
      have hf:=h.1.1;have h:=h.2;split at h
      ·rename_i i x h7;rw [Bool.and_eq_true] at h;exact .inl ⟨i,x,posK_some hf.1.2 hf.2 h7,h.1,hk _ _ h.2⟩
      ·rename_i h7;exact .inr ⟨posK_none hf.1.2 hf.2 h7,hk _ _ h⟩
     ·cases h
    ·cases h
   ·cases h
  ·cases h
 ·cases h
def bSlotSet (σ:Sg) (u idx x:AV) (k:Sg→Bool):Bool:=
 match u,idx with
 | .x (.h id),.x (.d (.v (.int .i64 (.ofNat i))))=>(match lk id σ with
  | some (.x (.map kt kvs))=>ownAV x && (match kvs[i]? with|some (key,_)=>k (zat id (.x (.map (kt.put x) (kvs.set i (key,x)))) σ)|none=>false)
  | _=>false)
 | _,_=>false
theorem bSlotSet_ok {u idx x:AV} (hk:∀ s,kb3 s=true→k3 s) (h:bSlotSet σ u idx x kb3=true):kSlotSet σ u idx x k3:=by
 unfold bSlotSet at h;unfold kSlotSet;split at h
 ·split at h
  ·rename_i h6;simp only [h6];rw [Bool.and_eq_true] at h;refine⟨h.1,?_⟩
   have h:=h.2;split at h
   ·rename_i key y h7;exact⟨key,y,h7,hk _ h⟩
   ·cases h
  ·cases h
 ·cases h
def bClear (tt:TT) (σ:Sg) (T:TypeId) (x:AV) (k:Sg→Bool):Bool:=
 match tt T,x with
 | some ⟨.sl e,_,_,_⟩,.x (.os c st lo n)=>
  (match tt e,lk c σ with
  | some ei,some (.chain e' sz st' xs)=>(Nat.beq st' st && Nat.beq ei.size sz && Nat.blt 0 sz) && k (zat c (.chain e' sz st' (seg xs lo (List.replicate (n - lo) (ei.zero.map .v)))) σ)
  | _,_=>false)
 | some ⟨.sl _,_,_,_⟩,.x (.d (.s _ []))=>k σ
 | _,_=>false
theorem bClear_ok {T:TypeId} {x:AV} (hk:∀ s,kb3 s=true→k3 s) (h:bClear tt σ T x kb3=true):kClear tt σ T x k3:=by
 unfold bClear at h;unfold kClear;split at h
 ·rename_i h1;simp only [h1];split at h
  ·rename_i h2 h3;simp only [h2,h3,Bool.and_eq_true] at h ⊢;exact⟨⟨Nat.eq_of_beq_eq_true h.1.1.1,Nat.eq_of_beq_eq_true h.1.1.2,Nat.le_of_ble_eq_true h.1.2⟩,hk _ h.2⟩
  ·cases h
 ·rename_i h1;simp only [h1];exact hk _ h
 ·cases h
def bMakeMap (tt:TT) (σ:Sg) (id:Nat) (T:TypeId) (k:AV→Sg→Bool):Bool:=
 match tt T with
 | some ⟨.mp kT _,_,_,_⟩=>(match ktOf tt kT with
  | some kt=>k (.x (.h id)) ((id,.x (.map kt [])) :: σ)
  | none=>false)
 | _=>false
theorem bMakeMap_ok {id:Nat} {T:TypeId} (hk:∀ v s,kb2 v s=true→k2 v s) (h:bMakeMap tt σ id T kb2=true):zhz tt σ id T none k2:=by
 unfold bMakeMap at h;unfold zhz;split at h
 ·rename_i h1;simp only [h1];split at h
  ·rename_i h2;simp only [h2];exact hk _ _ h
  ·cases h
 ·cases h
def bRange (tt:TT) (σ:Sg) (id:Nat) (T:TypeId) (u:AV) (k:AV→Sg→Bool):Bool:=
 match tt T,u with
 | some ⟨.mp _ _,_,_,_⟩,.x (.h m)=>(match lk m σ with
  | some (.x (.map _ kvs))=>k (.x (.h id)) ((id,.x (.mapIter (some m) kvs.length [] kvs.length)) :: σ)
  | _=>false)
 | some ⟨.mp _ _,_,_,_⟩,.x (.d (.v (.map none)))=>k (.x (.h id)) ((id,.x (.mapIter none 0 [] 0)) :: σ)
 | some ⟨.str,_,_,_⟩,.x (.d (.v (.string s)))=>k (.x (.h id)) ((id,.x (.strIter s 0)) :: σ)
 | _,_=>false
theorem bRange_ok {id:Nat} {T:TypeId} {u:AV} (hk:∀ v s,kb2 v s=true→k2 v s) (h:bRange tt σ id T u kb2=true):zmg tt σ id T u k2:=by
 unfold bRange at h;unfold zmg;split at h
 ·rename_i h1;simp only [h1];split at h
  ·rename_i h2;simp only [h2];exact hk _ _ h
  ·cases h
 ·rename_i h1;simp only [h1];exact hk _ _ h
 ·rename_i h1;simp only [h1];exact hk _ _ h
 ·cases h
def bNext (σ:Sg) (u:AV) (isS:Bool) (k:AV→Sg→Bool):Bool:=
 match u with
 | .x (.h it)=>(match lk it σ,isS with
  | some (.x (.mapIter none _ _ _)),false=>k (.t [bv false]) σ
  | some (.x (.mapIter (some m) since seen last)),false=>(match lk m σ with
   | some (.x (.map _ kvs))=>(Nat.beq since kvs.length && Nat.beq last kvs.length) &&
     (((List.range kvs.length).all fun i=>seen.any (Nat.beq i) || (match kvs[i]? with|some (key,x)=>k (.t [bv true,vAV key,x]) (zat it (.x (.mapIter (some m) since (seen ++ [i]) last)) σ)|none=>true)) &&
     (!((List.range kvs.length).all fun i=>seen.any (Nat.beq i)) || k (.t [bv false]) σ))
   | _=>false)
  | some (.x (.strIter s pos)),true=>
    bif Nat.blt pos s.size then (match Utf8.decode s pos with|(c,n)=>k (.t [bv true,iv .i64 pos,iv .i32 c]) (zat it (.x (.strIter s (pos+n))) σ)) else k (.t [bv false]) σ
  | _,_=>false)
 | _=>false
theorem bNext_ok {u:AV} {isS:Bool} (hk:∀ v s,kb2 v s=true→k2 v s) (h:bNext σ u isS kb2=true):zp3 σ u isS k2:=by
 unfold bNext at h;unfold zp3;split at h
 ·split at h
  ·rename_i h1;simp only [h1];exact hk _ _ h
  ·rename_i m since seen last h1;simp only [h1];split at h
   ·rename_i kvs h2;simp only [h2,Bool.and_eq_true,Bool.or_eq_true,Bool.not_eq_true'] at h ⊢;refine⟨Nat.eq_of_beq_eq_true h.1.1,Nat.eq_of_beq_eq_true h.1.2,fun i key x hi hs=>?_,fun ha=>?_⟩
    ·have hlt:i < kvs.length:=(List.getElem?_eq_some_iff.1 hi).1;have:=List.all_eq_true.1 h.2.1 i (List.mem_range.2 hlt);rw [Bool.or_eq_true] at this;rcases this with q|q
     ·obtain⟨j,hj,e⟩:=List.any_eq_true.1 q;exact absurd (Nat.eq_of_beq_eq_true e ▸ hj) hs
     ·rw [hi] at q;exact hk _ _ q
    ·refine hk _ _ (h.2.2.resolve_left ?_)
     rw [Bool.not_eq_false,List.all_eq_true];intro i hi;exact List.any_eq_true.2 ⟨i,ha i (List.mem_range.1 hi),by simp⟩
   ·cases h
  ·rename_i s pos h1;simp only [h1];cases hb:Nat.blt pos s.size with
   | true=>
    rw [hb] at h;simp only [cond_true] at h;exact⟨fun _=>⟨_,_,rfl,hk _ _ h⟩,fun hn=>absurd (Nat.le_of_ble_eq_true hb) hn⟩
   | false=>
    rw [hb] at h;exact⟨fun hn=>(by rw [show Nat.blt pos s.size=true from Nat.ble_eq_true_of_le hn] at hb;cases hb),fun _=>hk _ _ h⟩
  ·cases h
 ·cases h
def bEntry (σ:Sg) (u:AV) (k:AV→Bool):Bool:=
 match u with
 | .x (.h it)=>(match lk it σ with
  | some (.x (.mapIter (some m) _ seen last))=>(match lk m σ with
   | some (.x (.map _ kvs))=>Nat.beq last kvs.length && (match seen.getLast? with
    | some i=>(match kvs[i]? with|some (key,x)=>k (.t [vAV key,x])|none=>false)
    | none=>false)
   | _=>false)
  | _=>false)
 | _=>false
theorem bEntry_ok {u:AV} (hk:∀ v,kb v=true→k v) (h:bEntry σ u kb=true):zmr σ u k:=by
 unfold bEntry at h;unfold zmr;split at h
 ·split at h
  ·rename_i h1;simp only [h1];split at h
   ·rename_i h2;simp only [h2,Bool.and_eq_true] at h ⊢;refine⟨Nat.eq_of_beq_eq_true h.1,?_⟩
    have h:=h.2;split at h
    ·rename_i i h3;split at h
     ·rename_i key x h4;exact⟨i,key,x,h3,h4,hk _ h⟩
     ·cases h
    ·cases h
   ·cases h
  ·cases h
 ·cases h
def bAlloc (tt:TT) (σ:Sg) (id:Nat) (T:TypeId) (k:AV→Sg→Bool):Bool:=
 match tt T with
 | some ti=>k (.x (.b id 0)) ((id,.box (ti.zero.map fun z=>.d (.v z))) :: σ)
 | none=>false
theorem bAlloc_ok {id:Nat} {T:TypeId} (hk:∀ v s,kb2 v s=true→k2 v s) (h:bAlloc tt σ id T kb2=true):zgi tt σ id T k2:=by
 unfold bAlloc at h;unfold zgi;split at h
 ·rename_i h1;simp only [h1];exact hk _ _ h
 ·cases h
def bBox (σ:Sg) (id:Nat) (x:AV) (k:AV→Sg→Bool):Bool:=
 match zdh x with
 | some cs=>k (.x (.b id 0)) ((id,.box cs) :: σ)
 | none=>false
theorem bBox_ok {id:Nat} {x:AV} (hk:∀ v s,kb2 v s=true→k2 v s) (h:bBox σ id x kb2=true):kBox σ id x k2:=by
 unfold bBox at h;unfold kBox;split at h
 ·rename_i h1;simp only [h1];exact hk _ _ h
 ·cases h
def bStoreB (tt:TT) (σ:Sg) (T:TypeId) (id off:Nat) (x:AV) (k:Sg→Bool):Bool:=
 match tt T,lk id σ,zdh x with
 | some ti,some (.box cs),some ss=>(Nat.beq (lenL ss) ti.size && Nat.ble (off+lenL ss) (lenL cs)) && k (zat id (.box (segL cs off ss)) σ)
 | _,_,_=>false
theorem bStoreB_ok {T:TypeId} {id off:Nat} {x:AV} (hk:∀ s,kb3 s=true→k3 s) (h:bStoreB tt σ T id off x kb3=true):zjv tt σ T id off x k3:=by
 unfold bStoreB at h;simp only [lenL_eq,segL_eq] at h;unfold zjv;split at h
 ·rename_i h1 h2 h3;simp only [h1,h2,h3,Bool.and_eq_true] at h ⊢;rw [if_pos ⟨Nat.eq_of_beq_eq_true h.1.1,Nat.le_of_ble_eq_true h.1.2⟩];exact hk _ h.2
 ·cases h
def bStoreOe (tt:TT) (σ:Sg) (T:TypeId) (c st i off:Nat) (x:AV) (k:Sg→Bool):Bool:=
 match tt T,lk c σ,zdh x with
 | some ti,some (.chain e sz st' xs),some ss=>
  (match zhQ ss with
  | some ps=>(Nat.beq st' st && Nat.beq (lenL ps) ti.size) && (match getL xs i with
   | some el=>Nat.ble (off+lenL ps) (lenL el) && k (zat c (.chain e sz st' (setL i (segL el off ps) xs)) σ)
   | none=>false)
  | none=>false)
 | _,_,_=>false
theorem bStoreOe_ok {T:TypeId} {c st i off:Nat} {x:AV} (hk:∀ s,kb3 s=true→k3 s) (h:bStoreOe tt σ T c st i off x kb3=true):zhy tt σ T c st i off x k3:=by
 unfold bStoreOe at h;simp only [getL_eq,lenL_eq,setL_eq,segL_eq] at h;unfold zhy;split at h
 ·rename_i h1 h2 h3;simp only [h1,h2,h3];split at h
  ·rename_i h4;simp only [h4,Bool.and_eq_true] at h ⊢;refine⟨⟨Nat.eq_of_beq_eq_true h.1.1,Nat.eq_of_beq_eq_true h.1.2⟩,?_⟩
   have h:=h.2;split at h
   ·rename_i el h5;rw [Bool.and_eq_true] at h;exact⟨el,h5,Nat.le_of_ble_eq_true h.1,hk _ h.2⟩
   ·cases h
  ·cases h
 ·cases h
def bBuildSlice (tt:TT) (σ:Sg) (id:Nat) (T:TypeId) (len:Nat) (parts:List (Nat × AV)) (k:AV→Sg→Bool):Bool:=
 match tt T,zbZ parts with
 | some ⟨.sl e,_,_,_⟩,some ps=>
  (match tt e with
  | some ei=>
   (Nat.blt 0 ei.size && Nat.ble (len * ei.size) 16777216) &&
    (match zgB (fun i=>some (i * ei.size,ei.size)) (List.replicate len (zbS ei)).flatten ps with
    | some cs=>(match zhQ cs with
     | some l=>k (.x (.o id 0 len)) ((id,.chain e ei.size 0 (zO ei.size len l)) :: σ)
     | none=>Nat.blt 0 len && k (.x (.sb id 0 len len)) ((id,.box cs) :: σ))
    | none=>false)
  | none=>false)
 | _,_=>false
theorem bBuildSlice_ok {id:Nat} {T:TypeId} {len:Nat} {parts:List (Nat × AV)} (hk:∀ v s,kb2 v s=true→k2 v s) (h:bBuildSlice tt σ id T len parts kb2=true):zaQ tt σ id T len parts k2:=by
 unfold bBuildSlice at h;unfold zaQ;split at h
 ·rename_i h1 h2;simp only [h1,h2];split at h
  ·rename_i h3;simp only [h3,Bool.and_eq_true] at h ⊢;rw [if_pos ⟨Nat.le_of_ble_eq_true h.1.1,Nat.le_of_ble_eq_true h.1.2⟩];have h:=h.2;split at h
   ·rename_i h4;simp only [h4];split at h
    ·rename_i h5;simp only [h5];exact hk _ _ h
    ·rename_i h5;simp only [h5];rw [Bool.and_eq_true] at h;exact⟨Nat.le_of_ble_eq_true h.1,hk _ _ h.2⟩
   ·cases h
  ·cases h
 ·cases h
def bBuildData (tt:TT) (T:TypeId) (len:Nat) (parts:List (Nat × AV)) (k:AV→Bool):Bool:=
 match tt T,zbZ parts with
 | some ⟨.sl e,_,_,_⟩,some ps=>
  (match tt e with
  | some ei=>
   (Nat.blt 0 ei.size && Nat.ble (len * ei.size) 16777216) &&
    (match zgB (fun i=>some (i * ei.size,ei.size)) (List.replicate len (zbS ei)).flatten ps with
    | some cs=>(match zhQ cs with
     | some l=>k (.x (.d (.s ei.size (zO ei.size len l))))
     | none=>false)
    | none=>false)
  | none=>false)
 | _,_=>false
theorem bBuildData_ok {T:TypeId} {len:Nat} {parts:List (Nat × AV)} (hk:∀ v,kb v=true→k v) (h:bBuildData tt T len parts kb=true):zds tt T len parts k:=by
 unfold bBuildData at h;unfold zds;split at h
 ·rename_i h1 h2;simp only [h1,h2];split at h
  ·rename_i h3;simp only [h3,Bool.and_eq_true] at h ⊢;rw [if_pos ⟨Nat.le_of_ble_eq_true h.1.1,Nat.le_of_ble_eq_true h.1.2⟩];have h:=h.2;split at h
   ·rename_i h4;simp only [h4];split at h
    ·rename_i h5;simp only [h5];exact hk _ h
    ·cases h
   ·cases h
  ·cases h
 ·cases h
def bMake (tt:TT) (σ:Sg) (id:Nat) (T:TypeId) (l c:AV) (k:AV→Sg→Bool):Bool:=
 match tt T,l,c with
 | some ⟨.sl e,_,_,_⟩,.x (.d (.v (.int .i64 n))),.x (.d (.v (.int .i64 m)))=>
  (match tt e with
  | some ⟨.sl e',sz,bt,zr⟩=>(Nat.blt 0 sz && decide (0≤n∧n=m∧(bt:Int) * m≤281474976710656∧m≤9223372036854775807)) &&
    k (.x (.sb id 0 n.toNat n.toNat)) ((id,.box ((List.replicate n.toNat (zr.map fun z=>SV.d (.v z))).flatten)) :: σ)
  | some ei=>(Nat.blt 0 ei.size && decide (0≤n∧n≤m∧(ei.bytes:Int) * m≤281474976710656∧m≤9223372036854775807)) &&
    k (.x (.o id 0 n.toNat)) ((id,.chain e ei.size 0 (List.replicate n.toNat (ei.zero.map .v))) :: σ)
  | none=>false)
 | _,_,_=>false
theorem bMake_ok {id:Nat} {T:TypeId} {l c:AV} (hk:∀ v s,kb2 v s=true→k2 v s) (h:bMake tt σ id T l c kb2=true):zjz tt σ id T l c k2:=by
 unfold bMake at h;split at h
 ·rename_i e _ _ _ n m h1;split at h
  ·rename_i h2;simp only [Bool.and_eq_true,decide_eq_true_eq] at h;unfold zjz;simp only [h1,h2];refine .inr ?_
   unfold zfy;simp only [h1,h2];exact⟨Nat.le_of_ble_eq_true h.1.1,h.1.2,hk _ _ h.2⟩
  ·rename_i ei h2 hx;simp only [Bool.and_eq_true,decide_eq_true_eq] at h;have key:zbg tt σ id T (.x (.d (.v (.int .i64 n)))) (.x (.d (.v (.int .i64 m)))) k2:=by
    unfold zbg;simp only [h1,hx];exact⟨Nat.le_of_ble_eq_true h.1.1,h.1.2,hk _ _ h.2⟩
   unfold zjz;simp only [h1,hx];split
   ·exact .inl key
   ·exact key
  ·cases h
 ·cases h
def bAppend (tt:TT) (σ:Sg) (T:TypeId) (dst src:AV) (k:AV→Sg→Bool):Bool:=
 match tt T with
 | some ⟨.sl e,_,_,_⟩=>
  (match tt e with
  | some ei=>
   (match zby σ ei.size src with
   | some ys=>
    Nat.blt 0 ei.size &&
    (match dst with
    | .x (.d (.v (.slice none 0 0)))=>decide (ys.length≤maxLen∧ys.length * ei.bytes≤140737488355328) && k (.x (.o (zaZ σ) 0 ys.length)) ((zaZ σ,.chain e ei.size 0 ys) :: σ)
    | .x (.o c st n)=>
     (match lk c σ with
     | some (.chain e' sz st' xs)=>(Nat.beq e' e && Nat.beq sz ei.size && Nat.beq st' st) && (decide (n≤lenL xs∧n+lenL ys≤maxLen∧(n+lenL ys) * ei.bytes≤140737488355328) &&
       k (.x (.o c (st+1) (n+lenL ys))) (zat c (.chain e ei.size (st+1) (takA n xs ys)) σ))
     | _=>false)
    | .x (.d (.c sz xs))=>(Nat.beq sz ei.size && Nat.blt 0 ys.length) && (decide (xs.length+ys.length≤maxLen∧(xs.length+ys.length) * ei.bytes≤140737488355328) && k (.x (.d (.s sz (xs ++ ys)))) σ)
    | _=>false)
   | none=>false)
  | none=>false)
 | _=>false
theorem srcK_of {sz:Nat} {src:AV} {ys:List (List PV)} {p:List (List PV)→Prop} (h:zby σ sz src=some ys) (hp:p ys):srcK σ sz src p:=by
 unfold srcK;split
 ·rename_i c st n;unfold zby at h;simp only at h;split at h
  ·rename_i h1;split at h
   ·rename_i h2;cases h;exact⟨h2,hp⟩
   ·cases h
  ·cases h
 ·rw [h];exact hp
theorem bAppend_ok {T:TypeId} {dst src:AV} (hk:∀ v s,kb2 v s=true→k2 v s) (h:bAppend tt σ T dst src kb2=true):zjE tt σ T dst src k2:=by
 unfold bAppend at h;simp only [lenL_eq,takA_eq] at h;unfold zjE;split at h
 ·rename_i h1;simp only [h1];split at h
  ·rename_i h2;simp only [h2];split at h
   ·rename_i ys h3;refine srcK_of h3 ?_
    rw [Bool.and_eq_true] at h;refine⟨Nat.le_of_ble_eq_true h.1,?_⟩
    have h:=h.2;split at h
    ·simp only [Bool.and_eq_true,decide_eq_true_eq] at h;exact⟨h.1,hk _ _ h.2⟩
    ·split at h
     ·rename_i h4;simp only [h4,Bool.and_eq_true,decide_eq_true_eq] at h ⊢;exact⟨⟨Nat.eq_of_beq_eq_true h.1.1.1,Nat.eq_of_beq_eq_true h.1.1.2,Nat.eq_of_beq_eq_true h.1.2⟩,h.2.1,hk _ _ h.2.2⟩
     ·cases h
    ·simp only [Bool.and_eq_true,decide_eq_true_eq] at h;exact⟨⟨Nat.eq_of_beq_eq_true h.1.1,Nat.le_of_ble_eq_true h.1.2⟩,h.2.1,hk _ _ h.2.2⟩
    ·cases h
   ·cases h
  ·cases h
 ·cases h
def bAppendZ (tt:TT) (σ:Sg) (T T':TypeId) (dst src:AV) (k:AV→Sg→Bool):Bool:=
 match tt T,tt T',dst,src with
 | some ⟨.sl e,_,_,_⟩,some ⟨.int _,_,_,_⟩,.x (.o c st n),.x (.d (.v (.int _ m)))=>
  (match tt e,lk c σ with
  | some ei,some (.chain e' sz st' xs)=>(Nat.blt 0 ei.size && Nat.beq e' e && Nat.beq sz ei.size && Nat.beq st' st) && (decide (n≤xs.length∧0≤m∧n+m.toNat≤maxLen∧(n+m.toNat) * ei.bytes≤140737488355328) &&
    k (.x (.o c (st+1) (n+m.toNat))) (zat c (.chain e ei.size (st+1) (xs.take n ++ List.replicate m.toNat (ei.zero.map .v))) σ))
  | _,_=>false)
 | _,_,_,_=>false
theorem bAppendZ_ok {T T':TypeId} {dst src:AV} (hk:∀ v s,kb2 v s=true→k2 v s) (h:bAppendZ tt σ T T' dst src kb2=true):ztt tt σ T T' dst src k2:=by
 unfold bAppendZ at h;unfold ztt;split at h
 ·rename_i h1 h2;simp only [h1,h2];split at h
  ·rename_i h3 h4;simp only [h3,h4,Bool.and_eq_true,decide_eq_true_eq] at h ⊢;exact⟨⟨Nat.le_of_ble_eq_true h.1.1.1.1,Nat.eq_of_beq_eq_true h.1.1.1.2,Nat.eq_of_beq_eq_true h.1.1.2,Nat.eq_of_beq_eq_true h.1.2⟩,h.2.1,hk _ _ h.2.2⟩
  ·cases h
 ·cases h
def bCopy (tt:TT) (σ:Sg) (T:TypeId) (dst src:AV) (k:AV→Sg→Bool):Bool:=
 match tt T with
 | some ⟨.sl e,_,_,_⟩=>
  (match tt e,zby σ 1 src with
  | some ei,some ys=>
   Nat.beq ei.size 1 &&
   (match dst with
   | .x (.o c st n)=>
    (match lk c σ with
    | some (.chain e' sz st' xs)=>(Nat.beq sz 1 && Nat.beq st' st) && (Nat.ble n xs.length &&
      k (iv .i64 (min ys.length n:Nat)) (zat c (.chain e' sz st' (ys.take n ++ xs.drop (min ys.length n))) σ))
    | _=>false)
   | .x (.sb id off n _)=>
    (match lk id σ with
    | some (.box cs)=>Nat.ble (off+n) cs.length && k (iv .i64 (min ys.length n:Nat)) (zat id (.box (seg cs off ((ys.take n).flatten.map .d))) σ)
    | _=>false)
   | _=>false)
  | _,_=>false)
 | _=>false
theorem bCopy_ok {T:TypeId} {dst src:AV} (hk:∀ v s,kb2 v s=true→k2 v s) (h:bCopy tt σ T dst src kb2=true):zp5 tt σ T dst src k2:=by
 unfold bCopy at h;unfold zp5;split at h
 ·rename_i h1;simp only [h1];split at h
  ·rename_i h2 h3;simp only [h2,h3,Bool.and_eq_true] at h ⊢;refine⟨Nat.eq_of_beq_eq_true h.1,?_⟩
   have h:=h.2;split at h
   ·split at h
    ·rename_i h4;simp only [h4,Bool.and_eq_true] at h ⊢;exact⟨⟨Nat.eq_of_beq_eq_true h.1.1,Nat.eq_of_beq_eq_true h.1.2⟩,Nat.le_of_ble_eq_true h.2.1,hk _ _ h.2.2⟩
    ·cases h
   ·split at h
    ·rename_i h4;simp only [h4,Bool.and_eq_true] at h ⊢;exact⟨Nat.le_of_ble_eq_true h.1,hk _ _ h.2⟩
    ·cases h
   ·cases h
  ·cases h
 ·cases h
def bConvS (tt:TT) (dst:TypeId) (x:AV) (k:AV→Bool):Bool:=
 match x,tt dst with
 | .x (.d (.v (.string s))),some ⟨.sl e,_,_,_⟩=>(match tt e with
  | some ⟨.int .u8,_,_,_⟩=>Nat.ble s.size maxLen && k (.x (.d (.s 1 (s.data.toList.map fun c=>[.v (.int .u8 c.toNat)]))))
  | _=>false)
 | _,_=>false
theorem bConvS_ok {dst:TypeId} {x:AV} (hk:∀ v,kb v=true→k v) (h:bConvS tt dst x kb=true):zmt tt dst x k:=by
 unfold bConvS at h;unfold zmt;split at h
 ·rename_i h1;simp only [h1];split at h
  ·rename_i h2;simp only [h2,Bool.and_eq_true] at h ⊢;exact⟨Nat.le_of_ble_eq_true h.1,hk _ h.2⟩
  ·cases h
 ·cases h
end
end Go.QL
namespace Go.QL
open Go Go.RowKit
section
variable {tt:TT} {gd:Option Bool} {fr:Fr} {σ:Sg} {kb:AV→Bool} {k:AV→Prop} {kb2:AV→Sg→Bool} {k2:AV→Sg→Prop} {kb3:Sg→Bool} {k3:Sg→Prop}
def bev1 (fr:Fr) (gd:Option Bool) (x:Operand) (k:AV→Bool):Bool:=
 match ev fr x with
 | some (none,v)=>k v
 | some (some c,v)=>gB gd c && k v
 | none=>false
theorem bev1_ok {x:Operand} (hk:∀ v,kb v=true→k v) (h:bev1 fr gd x kb=true):ev1 fr gd x k:=by
 unfold bev1 at h;unfold ev1;split at h
 ·rename_i h1;simp only [h1];exact hk _ h
 ·rename_i h1;simp only [h1,Bool.and_eq_true] at h ⊢;exact⟨gB_ok' h.1 id,hk _ h.2⟩
 ·cases h
def bevL (fr:Fr) (gd:Option Bool):List Operand→(List AV→Bool)→Bool
 | [],k=>k []
 | x::r,k=>bev1 fr gd x fun v=>bevL fr gd r fun vs=>k (v::vs)
theorem bevL_ok:∀ {l:List Operand} {kb:List AV→Bool} {k:List AV→Prop},(∀ v,kb v=true→k v)→bevL fr gd l kb=true→evL fr gd l k
 | [],kb,k,hk,h=>hk _ h
 | x::r,kb,k,hk,h=>bev1_ok (fun v hv=>bevL_ok (fun vs hvs=>hk _ hvs) hv) h
def bevO (fr:Fr) (gd:Option Bool):Option Operand→(Option AV→Bool)→Bool
 | none,k=>k none
 | some x,k=>bev1 fr gd x fun v=>k (some v)
theorem bevO_ok {o:Option Operand} {kb:Option AV→Bool} {k:Option AV→Prop} (hk:∀ v,kb v=true→k v) (h:bevO fr gd o kb=true):evO fr gd o k:=by
 cases o with
 | none=>exact hk _ h
 | some x=>exact bev1_ok (fun v hv=>hk _ hv) h
def bStepP (tt:TT) (bd:Bool) (fr:Fr) (σ:Sg) (gd:Option Bool) (o:Op) (k:AV→Bool):Bool:=
 match o with
 | .move x|.assign x=>bev1 fr gd x k
 | .pick c a b=>bPick fr gd c a b k
 | .binOp op xT x (.const (.slice none 0 0)) _=>(match gd with|none=>bd|some _=>false) && bev1 fr gd x fun u=>bNilq tt σ op xT u k
 | .binOp op xT x (.const .nilIface) _=>(match tt xT with|some ⟨.ifc,_,_,_⟩=>bev1 fr gd x fun u=>bNilI op u k|_=>false)
 | .binOp op xT x y _=>bev1 fr gd x fun u=>bev1 fr gd y fun v=>bBin tt gd op xT u v k
 | .unOp op _ x=>bev1 fr gd x fun u=>bUn op u k
 | .convert src dst x=>(match tt src with
  | some ⟨.int _,_,_,_⟩=>bev1 fr gd x fun u=>bConv tt dst u k
  | some ⟨.str,_,_,_⟩=>bev1 fr gd x fun u=>bConv tt dst u k
  | some ⟨.sl e,_,_,_⟩=>(match tt e,tt dst with
   | some ⟨.int .u8,_,_,_⟩,some ⟨.str,_,_,_⟩=>bev1 fr gd x fun u=>bConvB u k
   | _,_=>false)
  | _=>false)
 | .load T x=>bev1 fr gd x fun u=>(match u with
  | .x (.oe c st i off)=>bLoadOe tt σ gd T c st i off k
  | u=>bLoad tt σ T u k)
 | .fieldAddr T x f=>bev1 fr gd x fun u=>(match u with
  | .x (.oe c st _ _)=>(match lk c σ with|some (.chain _ _ st' _)=>Nat.beq st' st|_=>false)
  | _=>true) && bFieldAddr tt T u f k
 | .field T x f=>bev1 fr gd x fun u=>bField tt T u f k
 | .indexAddr T x i=>bev1 fr gd x fun u=>bev1 fr gd i fun v=>bIndexAddr tt σ gd T u v k
 | .index T x i=>bev1 fr gd x fun u=>bev1 fr gd i fun v=>bIndex tt gd T u v k
 | .slice T x lo hi none=>bev1 fr gd x fun u=>bevO fr gd lo fun l=>bevO fr gd hi fun h=>bSlice tt σ gd T u l h k
 | .slice T x lo hi (some mx)=>bev1 fr gd x fun u=>bevO fr gd lo fun l=>bevO fr gd hi fun h=>bevO fr gd (some mx) fun m=>bSlice3 tt gd T u l h m k
 | .extract x n=>bev1 fr gd x fun u=>bExtract u n k
 | .nilCheck x=>bev1 fr gd x fun u=>(match u with
  | .x (.b id off)=>k (.x (.b id off))
  | .x (.se e off)=>k (.x (.se e off))
  | .x (.oe c st i off)=>(match lk c σ with
   | some (.chain _ _ st' _)=>Nat.beq st' st && k (.x (.oe c st i off))
   | _=>false)
  | _=>false)
 | .build T parts=>bevL fr gd (parts.toList.map (·.2)) fun vs=>bBuild tt T ((parts.toList.map (·.1)).zip vs) k
 | .makeFunc fn first captured=>bevL fr gd first.toList fun vs=>bevL fr gd captured.toList fun us=>(match stepP.scalars vs,stepP.scalars us with
  | some ss,some ts=>k (.x (.f fn ss ts))
  | none,some []=>(match zkw vs with|some l=>k (.x (.d (.v (.func fn l.toArray #[]))))|none=>false)
  | _,_=>false)
 | .call ⟨.builtin .max,args,_⟩=>bevL fr gd args.toList fun vs=>bMM true vs k
 | .call ⟨.builtin .min,args,_⟩=>bevL fr gd args.toList fun vs=>bMM false vs k
 | .lookup T x i ok=>bev1 fr gd x fun u=>bev1 fr gd i fun v=>bLookup tt σ T u v ok k
 | .entry x=>bev1 fr gd x fun u=>bEntry σ u k
 | .call ⟨.builtin .len,args,ts⟩=>(match args.toList,ts.toList with
  | [x],[T]=>bev1 fr gd x fun u=>bLen tt σ T u k
  | _,_=>false)
 | _=>false
theorem bStepP_ok {bd:Bool} {o:Op} (hk:∀ v,kb v=true→k v) (h:bStepP tt bd fr σ gd o kb=true):stepP tt bd fr σ gd o k:=by
 unfold bStepP at h;unfold stepP;split at h
 ·exact bev1_ok hk h
 ·exact bev1_ok hk h
 ·exact bPick_ok hk h
 ·rw [Bool.and_eq_true] at h;obtain⟨rfl,rfl⟩:gd=none∧bd=true:=by
   have h:=h.1;cases gd with
   | none=>exact⟨rfl,h⟩
   | some c=>cases h
  exact bev1_ok (fun v hv=>bNilq_ok hk hv) h.2
 ·split at h
  ·rename_i h1;simp only [h1];exact bev1_ok (fun v hv=>bNilI_ok hk hv) h
  ·cases h
 ·rename_i n1 n2;split
  all_goals first
   | (rename_i heq;cases heq;exact absurd rfl n1)
   | (rename_i heq;cases heq;exact absurd rfl n2)
   | (rename_i heq;cases heq;exact bev1_ok (fun v hv=>bev1_ok (fun u hu=>bBin_ok hk hu) hv) h)
   | (rename_i heq _;cases heq;exact bev1_ok (fun v hv=>bev1_ok (fun u hu=>bBin_ok hk hu) hv) h)
   | (rename_i heq _ _;cases heq;exact bev1_ok (fun v hv=>bev1_ok (fun u hu=>bBin_ok hk hu) hv) h)
   | (simp_all;done)
   | (simp_all;rename_i q;exact q _ _ _ _ _ rfl rfl rfl rfl rfl)
 ·exact bev1_ok (fun v hv=>bUn_ok hk hv) h
 ·split at h
  ·rename_i h1;simp only [h1];exact bev1_ok (fun v hv=>bConv_ok hk hv) h
  ·rename_i h1;simp only [h1];exact bev1_ok (fun v hv=>bConv_ok hk hv) h
  ·rename_i h1;simp only [h1];split at h
   ·rename_i h2 h3;simp only [h2,h3];exact bev1_ok (fun v hv=>bConvB_ok hk hv) h
   ·cases h
  ·cases h
 ·refine bev1_ok (fun v hv=>?_) h
  split at hv
  ·exact bLoadOe_ok hk hv
  ·rename_i hne;split
   ·exact absurd rfl (hne _ _ _ _)
   ·exact bLoad_ok hk hv
 ·refine bev1_ok (fun v hv=>?_) h
  rw [Bool.and_eq_true] at hv;refine⟨?_,bFieldAddr_ok hk hv.2⟩
  have hv:=hv.1;split at hv
  ·split at hv
   ·rename_i h1;unfold live;simp only [h1];exact Nat.eq_of_beq_eq_true hv
   ·cases hv
  ·unfold live;split
   ·rename_i h1;exact absurd rfl (h1 _ _ _ _)
   ·trivial
 ·exact bev1_ok (fun v hv=>bField_ok hk hv) h
 ·exact bev1_ok (fun v hv=>bev1_ok (fun u hu=>bIndexAddr_ok hk hu) hv) h
 ·exact bev1_ok (fun v hv=>bev1_ok (fun u hu=>bIndex_ok hk hu) hv) h
 ·exact bev1_ok (fun v hv=>bevO_ok (fun l hl=>bevO_ok (fun u hu=>bSlice_ok hk hu) hl) hv) h
 ·exact bev1_ok (fun v hv=>bevO_ok (fun l hl=>bevO_ok (fun u hu=>bevO_ok (fun m hm=>bSlice3_ok hk hm) hu) hl) hv) h
 ·exact bev1_ok (fun v hv=>bExtract_ok hk hv) h
 ·refine bev1_ok (fun v hv=>?_) h
  split at hv
  ·exact hk _ hv
  ·exact hk _ hv
  ·split at hv
   ·rename_i h1;simp only [h1,Bool.and_eq_true] at hv ⊢;exact⟨Nat.eq_of_beq_eq_true hv.1,hk _ hv.2⟩
   ·cases hv
  ·cases hv
 ·exact bevL_ok (fun v hv=>bBuild_ok hk hv) h
 ·refine bevL_ok (fun v hv=>bevL_ok (fun u hu=>?_) hv) h
  split at hu
  ·rename_i h1 h2;simp only [h1,h2];exact hk _ hu
  ·rename_i h1 h2;simp only [h1,h2];split at hu
   ·rename_i h3;simp only [h3];exact hk _ hu
   ·cases hu
  ·cases hu
 ·exact bevL_ok (fun v hv=>bMM_ok hk hv) h
 ·exact bevL_ok (fun v hv=>bMM_ok hk hv) h
 ·exact bev1_ok (fun v hv=>bev1_ok (fun u hu=>bLookup_ok hk hu) hv) h
 ·exact bev1_ok (fun v hv=>bEntry_ok hk hv) h
 ·split at h
  ·rename_i h1 h2;simp only [h1,h2];exact bev1_ok (fun v hv=>bLen_ok hk hv) h
  ·cases h
 ·cases h
def bId (σ:Sg) (d:Option Tmp):Nat:=
 match d with
 | some d=>(match lk d σ with|none=>d|some _=>zaZ σ)
 | none=>zaZ σ
theorem bId_ok {d:Option Tmp} {p:Nat→Prop} (h:p (bId σ d)):zhE σ d p:=by
 unfold bId at h;unfold zhE;cases d with
 | none=>exact h
 | some d=>
  simp only at h ⊢;cases hl:lk d σ with
  | none=>rw [hl] at h;exact h
  | some _=>rw [hl] at h;exact h
def bStepM (tt:TT) (fr:Fr) (σ:Sg) (id:Nat) (o:Op) (k:Option AV→Sg→Bool):Bool:=
 match o with
 | .alloc T=>bAlloc tt σ id T fun v σ'=>k (some v) σ'
 | .box _ x=>bev1 fr none x fun u=>bBox σ id u fun v σ'=>k (some v) σ'
 | .store T p x=>bev1 fr none p fun q=>bev1 fr none x fun u=>(match q with
  | .x (.b ib off)=>bStoreB tt σ T ib off u fun σ'=>k none σ'
  | .x (.oe c st i off)=>bStoreOe tt σ T c st i off u fun σ'=>k none σ'
  | _=>false)
 | .makeMap T none=>bMakeMap tt σ id T fun v σ'=>k (some v) σ'
 | .mapUpdate T m i x=>bev1 fr none m fun u=>bev1 fr none i fun v=>bev1 fr none x fun y=>bMapUpdate tt σ T u v y fun σ'=>k none σ'
 | .insert T m i x=>bev1 fr none m fun u=>bev1 fr none i fun v=>bev1 fr none x fun y=>bMapUpdate tt σ T u v (fnD y) fun σ'=>k none σ'
 | .range T x=>bev1 fr none x fun u=>bRange tt σ id T u fun v σ'=>k (some v) σ'
 | .mapEntry T m i=>bev1 fr none m fun u=>bev1 fr none i fun v=>bSlot tt σ T u v fun r σ'=>k (some r) σ'
 | .entryStore _ m i x=>bev1 fr none m fun u=>bev1 fr none i fun v=>bev1 fr none x fun y=>bSlotSet σ u v y fun σ'=>k none σ'
 | .buildSlice T n parts=>bevL fr none (parts.toList.map (·.2)) fun vs=>bBuildSlice tt σ id T n ((parts.toList.map (·.1)).zip vs) fun v σ'=>k (some v) σ'
 | .makeSlice T l c=>bev1 fr none l fun u=>bev1 fr none c fun v=>bMake tt σ id T u v fun r σ'=>k (some r) σ'
 | .call ⟨.builtin .append,args,ts⟩=>(match args.toList,ts.toList with
  | [x,y],[T,T']=>bev1 fr none x fun u=>bev1 fr none y fun v=>bif Nat.beq T T' then bAppend tt σ T u v fun r σ'=>k (some r) σ' else bAppendZ tt σ T T' u v fun r σ'=>k (some r) σ'
  | _,_=>false)
 | .call ⟨.builtin .clear,args,ts⟩=>(match args.toList,ts.toList with
  | [x],[T]=>bev1 fr none x fun u=>bClear tt σ T u fun σ'=>k (some (.t [])) σ'
  | _,_=>false)
 | .call ⟨.builtin .copy,args,ts⟩=>(match args.toList,ts.toList with
  | [x,y],[T,_]=>bev1 fr none x fun u=>bev1 fr none y fun v=>bCopy tt σ T u v fun r σ'=>k (some r) σ'
  | _,_=>false)
 | _=>false
theorem bStepM_ok {id:Nat} {o:Op} {kb:Option AV→Sg→Bool} {k:Option AV→Sg→Prop} (hk:∀ v s,kb v s=true→k v s) (h:bStepM tt fr σ id o kb=true):stepM tt fr σ id o k:=by
 unfold bStepM at h;unfold stepM;split at h
 ·exact bAlloc_ok (fun v s hs=>hk _ _ hs) h
 ·exact bev1_ok (fun u hu=>bBox_ok (fun v s hs=>hk _ _ hs) hu) h
 ·refine bev1_ok (fun q hq=>bev1_ok (fun u hu=>?_) hq) h
  split at hu
  ·exact bStoreB_ok (fun s hs=>hk _ _ hs) hu
  ·exact bStoreOe_ok (fun s hs=>hk _ _ hs) hu
  ·cases hu
 ·exact bMakeMap_ok (fun v s hs=>hk _ _ hs) h
 ·exact bev1_ok (fun u hu=>bev1_ok (fun v hv=>bev1_ok (fun y hy=>bMapUpdate_ok (fun s hs=>hk _ _ hs) hy) hv) hu) h
 ·exact bev1_ok (fun u hu=>bev1_ok (fun v hv=>bev1_ok (fun y hy=>bMapUpdate_ok (fun s hs=>hk _ _ hs) hy) hv) hu) h
 ·exact bev1_ok (fun u hu=>bRange_ok (fun v s hs=>hk _ _ hs) hu) h
 ·exact bev1_ok (fun u hu=>bev1_ok (fun v hv=>bSlot_ok (fun v s hs=>hk _ _ hs) hv) hu) h
 ·exact bev1_ok (fun u hu=>bev1_ok (fun v hv=>bev1_ok (fun y hy=>bSlotSet_ok (fun s hs=>hk _ _ hs) hy) hv) hu) h
 ·exact bevL_ok (fun vs hvs=>bBuildSlice_ok (fun v s hs=>hk _ _ hs) hvs) h
 ·exact bev1_ok (fun u hu=>bev1_ok (fun v hv=>bMake_ok (fun v s hs=>hk _ _ hs) hv) hu) h
 ·split at h
  ·rename_i x y T T' h1 h2;simp only [h1,h2];refine bev1_ok (fun u hu=>bev1_ok (fun v hv=>?_) hu) h
   cases hb:Nat.beq T T' with
   | true=>
    rw [hb] at hv;rw [if_pos (Nat.eq_of_beq_eq_true hb)];exact bAppend_ok (fun v s hs=>hk _ _ hs) hv
   | false=>
    rw [hb] at hv;rw [if_neg (by intro e;rw [e] at hb;simp at hb)];exact bAppendZ_ok (fun v s hs=>hk _ _ hs) hv
  ·cases h
 ·split at h
  ·rename_i h1 h2;simp only [h1,h2];exact bev1_ok (fun u hu=>bClear_ok (fun s hs=>hk _ _ hs) hu) h
  ·cases h
 ·split at h
  ·rename_i h1 h2;simp only [h1,h2];exact bev1_ok (fun u hu=>bev1_ok (fun v hv=>bCopy_ok (fun v s hs=>hk _ _ hs) hv) hu) h
  ·cases h
 ·cases h
end
end Go.QL
namespace Go.QL
open Go Go.RowKit
abbrev CallH:=FuncId→List AV→Sg→(AV→Sg→Bool)→Bool
abbrev YcH:=Nat→List AV→Sg→(AV→Sg→Bool)→Bool
def CallOK (P:Program) (call:CallH):Prop:=∀ f args σ kb,call f args σ kb=true→ACall P f args σ fun r σ'=>kb r σ'=true
def YcOK (P:Program) (yc:YcH):Prop:=∀ id args σ kb,yc id args σ kb=true→YC P id args σ fun r σ'=>kb r σ'=true
def hasO:SV→Bool
 | .o ..=>true
 | _=>false
def avHasO:AV→Bool
 | .x s=>hasO s
 | .a cs=>cs.any hasO
 | _=>false
def frzSV (σ:Sg):SV→Option (SV × Sg)
 | .o c st n=>match lk c σ with
  | some (.chain e sz st' xs)=>bif Nat.beq st' st && Nat.ble n (lenL xs) then some (.d (.s sz (takL n xs)),zat c (.chain e sz (st+1) []) σ) else none
  | _=>none
 | s=>some (s,σ)
def frzL (σ:Sg):List SV→Option (List SV × Sg)
 | []=>some ([],σ)
 | s::r=>match frzSV σ s with
  | some (s',σ1)=>(match frzL σ1 r with|some (r',σ2)=>some (s'::r',σ2)|none=>none)
  | none=>none
def frzAV (σ:Sg):AV→Option (AV × Sg)
 | .x s=>match frzSV σ s with|some (s',σ')=>some (.x s',σ')|none=>none
 | .a cs=>match frzL σ cs with|some (cs',σ')=>some (.a cs',σ')|none=>none
 | v=>some (v,σ)
section
variable {P:Program} {Γ:Cx} {w0:World} {K0:Bs} {σ σ':Sg} {g:Gh} {w:World}
theorem Did.trans' {g1 g2:Gh} {w1 w2:World} {σ1 σ2:Sg} (h1:Did w0 K0 σ g w σ1 g1 w1) (h2:Did w0 K0 σ1 g1 w1 σ2 g2 w2):Did w0 K0 σ g w σ2 g2 w2:=
 ⟨h2.hp,fun s v hs=>h2.keep _ _ (h1.keep _ _ hs)⟩
theorem frzSV_ok {s s':SV} (h:frzSV σ s=some (s',σ')) {v:Value} (hp:Hp w0 K0 σ g w) (hv:SR σ g w s v):∃ g',Did w0 K0 σ g w σ' g' w∧SR σ' g' w s' v:=by
 unfold frzSV at h;simp only [lenL_eq,takL_eq] at h;split at h
 ·split at h
  ·rename_i c st n _ e sz st' xs hl;cases hb:(Nat.beq st' st && Nat.ble n xs.length) with
   | true=>
    rw [hb] at h;cases h;rw [Bool.and_eq_true] at hb;obtain rfl:=Nat.eq_of_beq_eq_true hb.1;exact zgX hp hl (Nat.le_of_ble_eq_true hb.2) hv
   | false=>rw [hb] at h;cases h
  ·cases h
 ·cases h;exact⟨g,.refl hp,hv⟩
theorem frzL_ok:∀ {cs cs':List SV} {σ σ':Sg} {g:Gh},frzL σ cs=some (cs',σ')→∀ {vs:List Value},vs.length=cs.length→Hp w0 K0 σ g w→(∀ (i:Nat) (s:SV) (u:Value),cs[i]?=some s→vs[i]?=some u→SR σ g w s u) →
  ∃ g',Did w0 K0 σ g w σ' g' w∧cs'.length=cs.length∧∀ (i:Nat) (s:SV) (u:Value),cs'[i]?=some s→vs[i]?=some u→SR σ' g' w s u
 | [],cs',σ,σ',g,h,vs,hl,hp,hv=>by cases h;exact⟨g,.refl hp,rfl,fun i s u hs=>by simp at hs⟩
 | s::r,cs',σ,σ',g,h,vs,hl,hp,hv=>by
  unfold frzL at h;split at h
  ·rename_i s' σ1 h1;split at h
   ·rename_i r' σ2 h2;cases h;match vs,hl with
    | u::us,hl=>
     obtain⟨g1,d1,v1⟩:=frzSV_ok h1 hp (hv 0 s u rfl rfl);obtain⟨g2,d2,l2,v2⟩:=frzL_ok h2 (by simpa using hl) d1.hp (vs:=us) (fun i x y hx hy=>d1.keep _ _ (hv (i+1) x y (by simpa using hx) (by simpa using hy)));refine⟨g2,d1.trans' d2,by simp [l2],fun i x y hx hy=>?_⟩
     cases i with
     | zero=>cases hx;cases hy;exact d2.keep _ _ v1
     | succ i=>exact v2 i x y (by simpa using hx) (by simpa using hy)
   ·cases h
  ·cases h
theorem frzAV_ok {x x':AV} (h:frzAV σ x=some (x',σ')) {v:Value} (hp:Hp w0 K0 σ g w) (hv:VR2 σ g w x v):∃ g',Did w0 K0 σ g w σ' g' w∧VR2 σ' g' w x' v:=by
 unfold frzAV at h;split at h
 ·split at h
  ·rename_i h1;cases h;exact frzSV_ok h1 hp hv
  ·cases h
 ·split at h
  ·rename_i cs cs' σ1 h1;cases h;obtain⟨vs,rfl,hs,hr⟩:=hv;obtain⟨g',d,l,hr'⟩:=frzL_ok (vs:=vs.toList) h1 (by simpa using hs) hp (fun i s u hs' hu=>hr i s u hs' (by simpa using hu));exact⟨g',d,vs,rfl,by rw [hs,l],fun i s u hs' hu=>hr' i s u hs' (by simpa using hu)⟩
  ·cases h
 ·cases h;exact⟨g,.refl hp,hv⟩
def frzSlot (fr:Fr) (σ:Sg) (t:Nat):Option (Fr × Sg):=
 match lk t fr with
 | some (.g ..)=>some (fr,σ)
 | some v=>bif avHasO v then (match frzAV σ v with|some (v',σ')=>some ((t,v')::fr,σ')|none=>none) else some (fr,σ)
 | none=>some (fr,σ)
theorem frzSlot_ok {fr fr':Fr} {t:Nat} (h:frzSlot fr σ t=some (fr',σ')) {a:Act} (hr:Rel Γ fr σ g a w):∃ g',Rel Γ fr' σ' g' a w:=by
 unfold frzSlot at h;split at h
 ·cases h;exact⟨g,hr⟩
 ·rename_i v hng hl;cases hb:avHasO v with
  | true=>
   rw [hb] at h;simp only [cond_true] at h;split at h
   ·rename_i v' σ1 h1;cases h;have ht:=hr.fr t v hl;have hv:VR2 σ g w v (a.tmps.getD t undef):=by
     have:=ht.2;unfold VR at this;split at this
     ·rename_i c x;exact absurd rfl (hng c x)
     ·exact this
    obtain⟨g',d,hv'⟩:=frzAV_ok h1 hr.hp hv;have hr':=hr.did d;refine⟨g',hr'.hp,fun s x hs=>?_,hr'.size,hr'.defers,hr'.base⟩
    rw [zr] at hs;by_cases e:t=s
    ·subst e;rw [if_pos rfl] at hs;cases hs;exact⟨ht.1,zZ hv'⟩
    ·rw [if_neg e] at hs;exact hr'.fr s x hs
   ·cases h
  | false=>rw [hb] at h;cases h;exact⟨g,hr⟩
 ·cases h;exact⟨g,hr⟩
def frzOps (fr:Fr) (σ:Sg):List Operand→Option (Fr × Sg)
 | []=>some (fr,σ)
 | .tmp t::r=>match frzSlot fr σ t with|some (fr',σ')=>frzOps fr' σ' r|none=>none
 | _::r=>frzOps fr σ r
theorem frzOps_ok:∀ {l:List Operand} {fr fr':Fr} {σ σ':Sg} {g:Gh},frzOps fr σ l=some (fr',σ')→∀ {a:Act},Rel Γ fr σ g a w→∃ g',Rel Γ fr' σ' g' a w
 | [],fr,fr',σ,σ',g,h,a,hr=>by cases h;exact⟨g,hr⟩
 | .tmp t::r,fr,fr',σ,σ',g,h,a,hr=>by
  unfold frzOps at h;split at h
  ·rename_i h1;obtain⟨g1,r1⟩:=frzSlot_ok h1 hr;exact frzOps_ok h r1
  ·cases h
 | .const _::r,fr,fr',σ,σ',g,h,a,hr=>frzOps_ok (l:=r) (by unfold frzOps at h;exact h) hr
 | .global _::r,fr,fr',σ,σ',g,h,a,hr=>frzOps_ok (l:=r) (by unfold frzOps at h;exact h) hr
 | .func _::r,fr,fr',σ,σ',g,h,a,hr=>frzOps_ok (l:=r) (by unfold frzOps at h;exact h) hr
end
def wantD (fz:FuncId→Bool) (fr:Fr) (o:Op):List Operand:=
 match o with
 | .buildSlice _ _ parts=>parts.toList.map (·.2)
 | .mapUpdate _ _ _ x|.insert _ _ _ x=>[x]
 | .store _ (.tmp p) x=>(match lk p fr with|some (.x (.oe ..))=>[x]|_=>[])
 | .slice _ _ (some (.tmp _)) none none=>[]
 | .slice _ x (some lo) _ none=>(match ev fr lo with|some (_,.x (.d (.v (.int _ 0))))=>[]|_=>[x])
 | .slice _ x _ _ (some _)=>[x]
 | .call ⟨.value (.func f),args,_⟩=>bif fz f then args.toList else []
 | _=>[]
section
variable {tt:TT} {nt:Nat} {gd:Option Bool} {fr:Fr} {σ:Sg} {call:CallH} {yc:YcH}
def bPut (nt:Nat) (dst:Option Tmp) (v:AV) (fr:Fr) (k:Fr→Bool):Bool:=
 match dst with
 | none=>k fr
 | some d=>Nat.blt d nt && k ((d,v)::fr)
theorem bPut_ok {dst:Option Tmp} {v:AV} {kb:Fr→Bool} {k:Fr→Prop} (hk:∀ f,kb f=true→k f) (h:bPut nt dst v fr kb=true):zba nt dst none v fr k:=by
 unfold bPut at h;unfold zba;cases dst with
 | none=>exact hk _ h
 | some d=>
  rw [Bool.and_eq_true] at h;simp only [h.1,cond_true];exact hk _ h.2
def bOp1 (call:CallH) (yc:YcH) (tt:TT) (nt:Nat) (all:List Oper) (op:Op) (dst:Option Tmp) (fr:Fr) (σ:Sg) (k:Fr→Sg→Bool):Bool:=
 match op with
 | .call ⟨.value f,args,_⟩=>bev1 fr none f fun fv=>bevL fr none args.toList fun vs=>
  (match fv with
  | .x (.f (.func fid) first captured)=>call fid (first.map .x ++ vs ++ captured.map .x) σ fun rv σ'=>bPut nt dst rv fr fun fr'=>k fr' σ'
  | .x (.d (.v (.func (.func fid) a b)))=>(cOK a.toList && b.isEmpty) && call fid (a.toList.map cAV ++ vs) σ fun rv σ'=>bPut nt dst rv fr fun fr'=>k fr' σ'
  | .x (.h id)=>yc id vs σ fun rv σ'=>bPut nt dst rv fr fun fr'=>k fr' σ'
  | _=>false)
 | .next it isS=>bev1 fr none it fun u=>bNext σ u isS fun v σ'=>bPut nt dst v fr fun fr'=>k fr' σ'
 | .buildSlice T n parts=>
  bif zid all dst n then bStepM tt fr σ (bId σ dst) (.buildSlice T n parts) fun av σ'=>(match av with
    | some v=>bPut nt dst v fr fun fr'=>k fr' σ'
    | none=>(match dst with|none=>k fr σ'|some _=>false))
  else bevL fr none (parts.toList.map (·.2)) fun vs=>bBuildData tt T n ((parts.toList.map (·.1)).zip vs) fun v=>bPut nt dst v fr fun fr'=>k fr' σ
 | .convert src dT x=>
  bif isSB tt src dT then bev1 fr none x fun u=>bConvS tt dT u fun v=>bPut nt dst v fr fun fr'=>k fr' σ
  else bStepP tt true fr σ none (.convert src dT x) fun v=>bPut nt dst v fr fun fr'=>k fr' σ
 | op=>
  bif isM op then bStepM tt fr σ (bId σ dst) op fun av σ'=>(match av with
    | some v=>bPut nt dst v fr fun fr'=>k fr' σ'
    | none=>(match dst with|none=>k fr σ'|some _=>false))
  else bStepP tt true fr σ none op fun v=>bPut nt dst v fr fun fr'=>k fr' σ
theorem bOp1_ok {P:Program} (hc:CallOK P call) (hy:YcOK P yc) {all:List Oper} {o:Oper} (hg:o.guard=none) {kb:Fr→Sg→Bool} {k:Fr→Sg→Prop} (hk:∀ f s,kb f s=true→k f s)
  (h:bOp1 call yc tt nt all o.op o.dst fr σ kb=true):zah P tt nt all k [o] fr σ:=by
 have hM : ∀ op : Op, (bStepM tt fr σ (bId σ o.dst) op fun av σ' => (match av with
    | some v=>bPut nt o.dst v fr fun fr'=>kb fr' σ'
    | none=>(match o.dst with|none=>kb fr σ'|some _=>false)))=true→zhE σ o.dst fun id=>stepM tt fr σ id op fun av σ'=>(match av with
     | some v=>zba nt o.dst none v fr fun fr'=>zah P tt nt all k [] fr' σ'
     | none=>(match o.dst with|none=>zah P tt nt all k [] fr σ'|some _=>False)):=by
  intro op hop;refine bId_ok (bStepM_ok (fun av s hs=>?_) hop)
  cases av with
  | some v=>exact bPut_ok (fun f hf=>hk _ _ hf) hs
  | none=>
   simp only at hs ⊢;split at hs
   ·exact hk _ _ hs
   ·cases hs
 simp only [zah];rw [hg];show (match o.op with|_=>_)
 unfold bOp1 at h;split at h <;> rename_i hop <;> simp only [hop]
 ·refine bev1_ok (fun fv hfv=>bevL_ok (fun vs hvs=>?_) hfv) h
  split at hvs
  ·exact⟨_,hc _ _ _ _ hvs,fun rv σ' hr=>bPut_ok (fun f hf=>hk _ _ hf) hr⟩
  ·rw [Bool.and_eq_true] at hvs;exact⟨hvs.1,_,hc _ _ _ _ hvs.2,fun rv σ' hr=>bPut_ok (fun f hf=>hk _ _ hf) hr⟩
  ·exact⟨_,hy _ _ _ _ hvs,fun rv σ' hr=>bPut_ok (fun f hf=>hk _ _ hf) hr⟩
  ·cases hvs
 ·exact bev1_ok (fun u hu=>bNext_ok (fun v s hs=>bPut_ok (fun f hf=>hk _ _ hf) hs) hu) h
 ·rename_i T n parts;cases ho:zid all o.dst n with
  | true=>
   rw [ho] at h;exact hM _ h
  | false=>
   rw [ho] at h;exact bevL_ok (fun vs hvs=>bBuildData_ok (fun v hv=>bPut_ok (fun f hf=>hk _ _ hf) hv) hvs) h
 ·rename_i src dT x;cases hs:isSB tt src dT with
  | true=>
   rw [hs] at h;exact bev1_ok (fun u hu=>bConvS_ok (fun v hv=>bPut_ok (fun f hf=>hk _ _ hf) hv) hu) h
  | false=>
   rw [hs] at h;simp only [cond_false] at h;exact bStepP_ok (k:=fun v=>zba nt o.dst none v fr fun fr'=>k fr' σ) (fun v hv=>bPut_ok (fun f hf=>hk _ _ hf) hv) h
 ·unfold zix;dsimp only;cases hm:isM o.op with
  | true=>
   rw [hm] at h;exact hM _ h
  | false=>
   rw [hm] at h;simp only [cond_false] at h ⊢;exact bStepP_ok (k:=fun v=>zba nt o.dst none v fr fun fr'=>k fr' σ) (fun v hv=>bPut_ok (fun f hf=>hk _ _ hf) hv) h
end
abbrev PH:=FuncId→List AV→Sg→(AV→Sg→Bool)→(Value→Sg→Bool)→Bool
def PCallOK (P:Program) (call:PH):Prop:=∀ f args σ kb kp,call f args σ kb kp=true→PCall P f args σ (fun r σ'=>kb r σ'=true) fun v σ'=>kp v σ'=true
structure CallX where
 pc:PH
 cc:Nat→Bool
 fc:Nat→Bool
 mm:FuncId→List AV→Option AV
 fz:FuncId→Bool
def CallX.a (c:CallX):CallH:=fun f args σ kb=>c.pc f args σ kb fun _ _=>false
structure CXOK (P:Program) (c:CallX):Prop where
 pc:PCallOK P c.pc
 cc:∀ T,c.cc T=true→zhH P T
 fc:∀ T,c.fc T=true→∃ ps rs v,P.underlying T=some (.func ps rs v)
 mm:∀ f args r,c.mm f args=some r→∀ σ,ACall P f args σ fun r' σ'=>r'=r∧σ'=σ
theorem CXOK.a {P:Program} {c:CallX} (h:CXOK P c):CallOK P c.a:=fun f args σ kb hk=>
 ((h.pc f args σ kb _ hk).mono (fun _ _ h=>h) (fun _ _ h=>by cases h)).toA
def bNilF (op:BinOp) (u:AV) (k:AV→Bool):Bool:=
 match op,u with
 | .eql,.x (.f _ _ _)=>k (bv false)
 | .neq,.x (.f _ _ _)=>k (bv true)
 | .eql,.x (.d (.v .nilFunc))=>k (bv true)
 | .neq,.x (.d (.v .nilFunc))=>k (bv false)
 | _,_=>false
theorem bNilF_ok {op:BinOp} {u:AV} {kb:AV→Bool} {k:AV→Prop} (hk:∀ v,kb v=true→k v) (h:bNilF op u kb=true):zp2 op u k:=by
 unfold bNilF at h;unfold zp2;split at h <;> first|exact hk _ h|cases h
def bOpP (call:CallX) (yc:YcH) (tt:TT) (nt:Nat) (all:List Oper) (kp:Value→Fr→Sg→Bool) (op:Op) (dst:Option Tmp) (fr:Fr) (σ:Sg) (k:Fr→Sg→Bool):Bool:=
 match op with
 | .panic x=>bev1 fr none x fun u=>(match u with|.x (.d (.v (.iface T v)))=>kp (.iface T v) fr σ|_=>false)
 | .makeInterface T x=>call.cc T && bev1 fr none x fun u=>(match u with|.x (.d (.v v))=>bPut nt dst (.x (.d (.v (.iface T v)))) fr fun fr'=>k fr' σ|_=>false)
 | .typeAssert x _ T false=>call.cc T && bev1 fr none x fun u=>(match u with|.x (.d (.v (.iface S v)))=>(Nat.beq S T && v.oneCell') && bPut nt dst (.x (.d (.v v))) fr fun fr'=>k fr' σ|_=>false)
 | .typeAssert x _ T true=>call.cc T && bev1 fr none x fun u=>(match u with
   | .x (.d (.v (.iface S v)))=>bif Nat.beq S T then v.oneCell' && bPut nt dst (.t [.x (.d (.v v)),bv true]) fr fun fr'=>k fr' σ
     else (match tt T with|some ti=>(match zk7 ti with|some z=>bPut nt dst (.t [z,bv false]) fr fun fr'=>k fr' σ|none=>false)|none=>false)
   | _=>false)
 | .binOp op xT x (.const .nilFunc) _=>call.fc xT && bev1 fr none x fun u=>bNilF op u fun v=>bPut nt dst v fr fun fr'=>k fr' σ
 | .call ⟨.value f,args,ts⟩=>bev1 fr none f fun fv=>(match fnF fv with
   | .x (.f (.func fid) first captured)=>bevL fr none args.toList fun vs=>call.pc fid (first.map .x ++ vs ++ captured.map .x) σ (fun rv σ'=>bPut nt dst rv fr fun fr'=>k fr' σ') fun v σ'=>kp v fr σ'
   | _=>bOp1 call.a yc tt nt all (.call ⟨.value f,args,ts⟩) dst fr σ k)
 | op=>bOp1 call.a yc tt nt all op dst fr σ k
section
variable {P:Program} {Γ:Cx} {tt:TT} {call:CallX} {yc:YcH}
theorem bev1_split {fr:Fr} {gd:Option Bool} {x:Operand} {kb:AV→Bool} (h:bev1 fr gd x kb=true):∃ v,kb v=true∧∀ k:AV→Prop,k v→ev1 fr gd x k:=by
 unfold bev1 at h;split at h
 ·rename_i v h1;exact⟨v,h,fun k hk=>by unfold ev1;simp only [h1];exact hk⟩
 ·rename_i c v h1;rw [Bool.and_eq_true] at h;exact⟨v,h.2,fun k hk=>by unfold ev1;simp only [h1];exact⟨gB_ok' h.1 id,hk⟩⟩
 ·cases h
theorem bOpP_ok (htt:tt.ok P) (hL:Laid P Γ.K0.K Γ.w0) (hc:CXOK P call) (hy:YcOK P yc) {all:List Oper} {o:Oper} (hg:o.guard=none) {kpb:Value→Fr→Sg→Bool} {kb:Fr→Sg→Bool} {E:Exit→Act→World→Prop} {K:Act→World→Prop}
  (hE:∀ v fr σ g a w,Rel Γ fr σ g a w→kpb v fr σ=true→E (.panic [{ v:=v,recovered:=false }]) a w) (hk:∀ fr σ g a w,Rel Γ fr σ g a w→kb fr σ=true→K a w) {fr:Fr} {σ:Sg}
  (h:bOpP call yc tt Γ.nt all kpb o.op o.dst fr σ kb=true) (g:Gh) (a:Act) (w:World) (hr:Rel Γ fr σ g a w):wpLk Γ.ro P all.toArray E K [o] a w:=by
 have zrZ:bOp1 call.a yc tt Γ.nt all o.op o.dst fr σ kb=true→wpLk Γ.ro P all.toArray E K [o] a w:=fun h=>
  zaJ (Γ:=Γ) htt hL (Qx:=E) (K:=K) (k:=fun fr σ=>kb fr σ=true) hk [o] fr σ (bOp1_ok hc.a hy hg (fun _ _ h=>h) h) g a w hr
 have viaP:opP P tt Γ.nt all (fun v fr σ=>kpb v fr σ=true) o fr σ (fun fr σ=>kb fr σ=true)→wpLk Γ.ro P all.toArray E K [o] a w:=fun h=>
  zlT htt hL hE [] (fun fr σ g a w hr h=>hk fr σ g a w hr h) o fr σ h g a w hr
 unfold bOpP at h;split at h <;> rename_i hop
 ·refine viaP ?_
  unfold opP;simp only [hg,hop];refine bev1_ok (fun u hu=>?_) h
  split at hu
  ·exact hu
  ·cases hu
 ·refine viaP ?_
  unfold opP;simp only [hg,hop];rw [Bool.and_eq_true] at h;refine⟨hc.cc _ h.1,bev1_ok (fun u hu=>?_) h.2⟩
  split at hu
  ·exact bPut_ok (fun _ h=>h) hu
  ·cases hu
 ·refine viaP ?_
  unfold opP;simp only [hg,hop];rw [Bool.and_eq_true] at h;refine⟨hc.cc _ h.1,bev1_ok (fun u hu=>?_) h.2⟩
  split at hu
  ·rw [Bool.and_eq_true,Bool.and_eq_true] at hu;exact⟨Nat.eq_of_beq_eq_true hu.1.1,hu.1.2,bPut_ok (fun _ h=>h) hu.2⟩
  ·cases hu
 ·rename_i T;refine viaP ?_
  unfold opP;simp only [hg,hop];rw [Bool.and_eq_true] at h;refine⟨hc.cc _ h.1,bev1_ok (fun u hu=>?_) h.2⟩
  split at hu
  ·rename_i S v;cases hb:Nat.beq S T with
   | true=>
    rw [hb] at hu;simp only [cond_true,Bool.and_eq_true] at hu;exact⟨fun _=>⟨hu.1,bPut_ok (fun _ h=>h) hu.2⟩,fun hne=>absurd (Nat.eq_of_beq_eq_true hb) hne⟩
   | false=>
    rw [hb] at hu;simp only [cond_false] at hu;refine⟨fun e=>by rw [e,Nat.beq_refl] at hb;(try cases hb),fun _=>?_⟩
    split at hu
    ·rename_i ti hti;simp only [hti];split at hu
     ·rename_i z hz;simp only [hz];exact bPut_ok (fun _ h=>h) hu
     ·cases hu
    ·cases hu
  ·cases hu
 ·refine viaP ?_
  unfold opP;simp only [hg,hop];rw [Bool.and_eq_true] at h;exact⟨hc.fc _ h.1,bev1_ok (fun u hu=>bNilF_ok (fun v hv=>bPut_ok (fun _ h=>h) hv) hu) h.2⟩
 ·rename_i f args ts;obtain⟨fv,hfv,hev⟩:∃ fv,(match fnF fv with
   | .x (.f (.func fid) first captured)=>bevL fr none args.toList fun vs=>call.pc fid (first.map .x ++ vs ++ captured.map .x) σ (fun rv σ'=>bPut Γ.nt o.dst rv fr fun fr'=>kb fr' σ') fun v σ'=>kpb v fr σ'
   | _=>bOp1 call.a yc tt Γ.nt all (.call ⟨.value f,args,ts⟩) o.dst fr σ kb)=true∧∀ k:AV→Prop,k fv→ev1 fr none f k:=by
   exact bev1_split h
  split at hfv
  ·rename_i hfF;refine viaP ?_
   unfold opP;simp only [hg,hop];refine hev _ (bevL_ok (fun vs hvs=>?_) hfv)
   simp only [hfF];exact⟨_,_,hc.pc _ _ _ _ _ hvs,fun rv σ' hr=>bPut_ok (fun _ h=>h) hr,fun v σ' hr=>hr⟩
  ·exact zrZ (by rw [hop];exact hfv)
 ·exact zrZ h
end
end Go.QL
namespace Go.QL
open Go Go.RowKit
def guardV (all:List Oper) (fr:Fr) (gd:Option (Nat × Bool)):Option (Option Bool):=
 match gd with
 | none=>some none
 | some (j,want)=>
  match (getL all j).bind (·.dst) with
  | none=>none
  | some dj=>
   match lk dj fr with
   | some (.x (.d (.v (.bool b))))=>(match want with|true=>some (some b)|false=>some (some (!b)))
   | some (.g c (.x (.d (.v (.bool b)))))=>(match want with|true=>some (some (c && b))|false=>some (some (c && !b)))
   | _=>none
theorem guardV_ok {all:List Oper} {fr:Fr} {gd:Option (Nat × Bool)} {c:Option Bool} (h:guardV all fr gd=some c):zix all fr gd (fun c'=>c'=c):=by
 unfold guardV at h;simp only [getL_eq] at h;unfold zix;split at h
 ·cases h;rfl
 ·split at h
  ·cases h
  ·rename_i h1;simp only [h1];split at h
   ·rename_i h2;simp only [h2];split at h <;> (cases h;rfl)
   ·rename_i h2;simp only [h2];split at h <;> (cases h;rfl)
   ·cases h
def allFor0 (all:List Oper) (o:Oper):List Oper:=
 match o.op,o.dst with
 | .buildSlice ..,some d=>bif all.any (fun x=>match x.op with|.store _ _ (.tmp t)=>Nat.beq t d|.call ⟨.value _,args,_⟩=>args.toList.any (fun y=>match y with|.tmp t=>Nat.beq t d|_=>false)|_=>false) then [{ o with op:=.assign (.tmp d) }] else all
 | _,_=>all
def isPtr:SV→Bool
 | .b .. | .sb .. | .oe .. | .h ..=>true
 | _=>false
def allFor (fr:Fr) (all:List Oper) (o:Oper):List Oper:=
 match o.op,o.dst with
 | .buildSlice _ _ ⟨(_,.tmp p)::_⟩,some d=>(match lk p fr with
  | some (.x s)=>bif isPtr s then [{ o with op:=.assign (.tmp d) }] else allFor0 all o
  | _=>allFor0 all o)
 | _,_=>allFor0 all o
def fMv (nt:Nat) (dst:Option Tmp) (fr:Fr) (σ:Sg) (x:Operand) (k:Fr→Sg→Bool):Bool:=bev1 fr none x fun v=>bPut nt dst v fr fun fr'=>k fr' σ
def fLd (tt:TT) (nt:Nat) (dst:Option Tmp) (fr:Fr) (σ:Sg) (T:TypeId) (x:Operand) (k:Fr→Sg→Bool):Bool:=bev1 fr none x fun u=>(match u with
  | .x (.oe c st i off)=>bLoadOe tt σ none T c st i off fun v=>bPut nt dst v fr fun fr'=>k fr' σ
  | u=>bLoad tt σ T u fun v=>bPut nt dst v fr fun fr'=>k fr' σ)
def fBn (tt:TT) (nt:Nat) (dst:Option Tmp) (fr:Fr) (σ:Sg) (op:BinOp) (T:TypeId) (x y:Operand) (k:Fr→Sg→Bool):Bool:=
 bev1 fr none x fun u=>bev1 fr none y fun v=>bBin tt none op T u v fun v=>bPut nt dst v fr fun fr'=>k fr' σ
def fFa (tt:TT) (nt:Nat) (dst:Option Tmp) (fr:Fr) (σ:Sg) (T:TypeId) (x:Operand) (f:Nat) (k:Fr→Sg→Bool):Bool:=bev1 fr none x fun u=>(match u with
  | .x (.oe c st _ _)=>(match lk c σ with|some (.chain _ _ st' _)=>Nat.beq st' st|_=>false)
  | _=>true) && bFieldAddr tt T u f fun v=>bPut nt dst v fr fun fr'=>k fr' σ
def fEx (nt:Nat) (dst:Option Tmp) (fr:Fr) (σ:Sg) (x:Operand) (n:Nat) (k:Fr→Sg→Bool):Bool:=bev1 fr none x fun u=>bExtract u n fun v=>bPut nt dst v fr fun fr'=>k fr' σ
def fIx (tt:TT) (nt:Nat) (dst:Option Tmp) (fr:Fr) (σ:Sg) (T:TypeId) (x i:Operand) (k:Fr→Sg→Bool):Bool:=bev1 fr none x fun u=>bev1 fr none i fun v=>bIndexAddr tt σ none T u v fun v=>bPut nt dst v fr fun fr'=>k fr' σ
def slowQ (call:CallX) (yc:YcH) (tt:TT) (nt:Nat) (all:List Oper) (o:Oper) (kp:Value→Fr→Sg→Bool) (fr:Fr) (σ:Sg) (k:Fr→Sg→Bool):Bool:=
 match frzOps fr σ (wantD call.fz fr o.op) with
 | some (fr1,σ1)=>bOpP call yc tt nt (allFor fr1 all o) kp o.op o.dst fr1 σ1 k
 | none=>false
def fastQ (tt:TT) (nt:Nat) (dst:Option Tmp) (fr:Fr) (σ:Sg) (k:Fr→Sg→Bool) (slow:Unit→Bool):Op→Bool
 | .move x=>fMv nt dst fr σ x k
 | .assign x=>fMv nt dst fr σ x k
 | .load T x=>fLd tt nt dst fr σ T x k
 | .fieldAddr T x f=>fFa tt nt dst fr σ T x f k
 | .indexAddr T x i=>fIx tt nt dst fr σ T x i k
 | .extract x n=>fEx nt dst fr σ x n k
 | .binOp op T x (.tmp y) _=>fBn tt nt dst fr σ op T x (.tmp y) k
 | .binOp op T x (.const (.int c n)) _=>fBn tt nt dst fr σ op T x (.const (.int c n)) k
 | _=>slow ()
def bOpQ (call:CallX) (yc:YcH) (tt:TT) (nt:Nat) (all:List Oper) (o:Oper) (kp:Value→Fr→Sg→Bool) (fr:Fr) (σ:Sg) (k:Fr→Sg→Bool):Bool:=
 fastQ tt nt o.dst fr σ k (fun _=>slowQ call yc tt nt all o kp fr σ k) o.op
theorem bOpQ_eq {call:CallX} {yc:YcH} {tt:TT} {nt:Nat} {all:List Oper} {o:Oper} {kp:Value→Fr→Sg→Bool} {fr:Fr} {σ:Sg} {k:Fr→Sg→Bool} :
  bOpQ call yc tt nt all o kp fr σ k=slowQ call yc tt nt all o kp fr σ k:=by
 obtain⟨dst,op,T,pos,after,guard⟩:=o;unfold bOpQ;dsimp only;unfold fastQ;split <;> rfl
def bOps (call:CallX) (yc:YcH) (tt:TT) (nt:Nat) (kp:Value→Fr→Sg→Bool) (all:List Oper) (l:List Oper):Fr→Sg→(Fr→Sg→Bool)→Bool:=
 lrec (fun fr σ k=>k fr σ) (fun o _ ih fr σ k=>match guardV all fr o.guard with
  | none=>false
  | some (some false)=>(match o.dst with|none=>ih fr σ k|some d=>Nat.blt d nt && ih ((d,.g false (bv false))::fr) σ k)
  | some _=>bOpQ call yc tt nt all o kp fr σ fun fr' σ'=>ih fr' σ' k) l
theorem bOps_cons {call:CallX} {yc:YcH} {tt:TT} {nt:Nat} {kp:Value→Fr→Sg→Bool} {all:List Oper} {o:Oper} {r:List Oper} {fr:Fr} {σ:Sg} {k:Fr→Sg→Bool} :
  bOps call yc tt nt kp all (o::r) fr σ k=(match guardV all fr o.guard with
  | none=>false
  | some (some false)=>(match o.dst with|none=>bOps call yc tt nt kp all r fr σ k|some d=>Nat.blt d nt && bOps call yc tt nt kp all r ((d,.g false (bv false))::fr) σ k)
  | some _=>bOpQ call yc tt nt all o kp fr σ fun fr' σ'=>bOps call yc tt nt kp all r fr' σ' k):=rfl
section
variable {P:Program} {Γ:Cx} {tt:TT} {call:CallX} {yc:YcH}
theorem bOps_ok (htt:tt.ok P) (hL:Laid P Γ.K0.K Γ.w0) (hc:CXOK P call) (hy:YcOK P yc) {kp:Value→Fr→Sg→Bool} {all:List Oper} {Qx:Exit→Act→World→Prop} {K:Act→World→Prop}
  (hE:∀ v fr σ g a w,Rel Γ fr σ g a w→kp v fr σ=true→Qx (.panic [{ v:=v,recovered:=false }]) a w) :
  ∀ (rest:List Oper) (fr:Fr) (σ:Sg) (kb:Fr→Sg→Bool),(∀ fr σ g a w,Rel Γ fr σ g a w→kb fr σ=true→K a w)→bOps call yc tt Γ.nt kp all rest fr σ kb=true →
  ∀ (g:Gh) (a:Act) (w:World),Rel Γ fr σ g a w→wpLk Γ.ro P all.toArray Qx K rest a w
 | [],fr,σ,kb,hk,h,g,a,w,hr=>hk _ _ _ _ _ hr h
 | o::r,fr,σ,kb,hk,h,g,a,w,hr=>by
  have ih:=fun fr σ=>bOps_ok htt hL hc hy (all:=all) (Qx:=Qx) (K:=K) hE r fr σ kb hk
  rw [bOps_cons] at h;simp only [bOpQ_eq,slowQ] at h;have wanted:∀ (fr1:Fr) (σ1:Sg),Region.wanted o (yielded all.toArray a.tmps)=true→frzOps fr σ (wantD call.fz fr o.op)=some (fr1,σ1)→bOpP call yc tt Γ.nt (allFor fr1 all o) kp o.op o.dst fr1 σ1 (fun fr' σ'=>bOps call yc tt Γ.nt kp all r fr' σ' kb)=true →
    wpLk Γ.ro P all.toArray Qx K (o::r) a w:=by
   intro fr1 σ1 hw hf hb;obtain⟨g1,r1⟩:=frzOps_ok hf hr;have h2:=bOpP_ok (P:=P) (Γ:=Γ) htt hL hc hy (o:={ o with guard:=none }) (E:=Qx) (K:=wpLk Γ.ro P all.toArray Qx K r) rfl hE (fun fr' σ' g' a' w' hr' hq=>ih fr' σ' hq g' a' w' hr') hb g1 a w r1;unfold wpLk at h2;rw [if_pos (show Region.wanted { o with guard:=none } (yielded (allFor fr1 all o).toArray a.tmps)=true from rfl)] at h2;unfold wpLk;rw [if_pos hw];exact⟨fun _ _=>trivial,h2.2⟩
  split at h
  ·cases h
  ·rename_i hg;obtain⟨c,rfl,hgd⟩:=zgl (guardV_ok hg);obtain⟨hwant,_⟩:=hgd Γ σ g a w hr o rfl;have hw:Region.wanted o (yielded all.toArray a.tmps)=false:=by
    cases hq:Region.wanted o (yielded all.toArray a.tmps) with
    | false=>rfl
    | true=>rcases hwant.1 hq with e|e <;> cases e
   unfold wpLk;rw [hw];simp only [Bool.false_eq_true,if_false];split at h
   ·rename_i hd;rw [hd];exact ih fr σ h g a w hr
   ·rename_i d hd;rw [Bool.and_eq_true] at h;have hlt:d < Γ.nt:=Nat.le_of_ble_eq_true h.1;rw [hd];exact ih _ σ h.2 g _ w (hr.put hlt (x:=.g false (bv false)) (v:=undef) ⟨(fun e=>by cases e),fun _=>rfl⟩)
  ·rename_i c hne hg;obtain⟨c',rfl,hgd⟩:=zgl (guardV_ok hg);obtain⟨hwant,hcase⟩:=hgd Γ σ g a w hr o rfl;have hw:Region.wanted o (yielded all.toArray a.tmps)=true:=by
    refine hwant.2 (hcase.resolve_left ?_)
    intro e;subst e;exact hne rfl
   split at h
   ·rename_i h1;exact wanted _ _ hw h1 h
   ·cases h
theorem AW_bOps (htt:tt.ok P) (hc:CXOK P call) (hy:YcOK P yc) {id:Nat} {ops:List Oper} {fr:Fr} {σ:Sg} {kp:Value→Fr→Sg→Bool} {kb:Fr→Sg→Bool} {Q:Exit→Fr→Sg→Prop}
  (hp:∀ v fr σ,kp v fr σ=true→Q (.panic [{ v:=v,recovered:=false }]) fr σ) (hk:∀ fr σ,kb fr σ=true→Q .normal fr σ)
  (h:bOps call yc tt Γ.nt kp ops ops fr σ kb=true):AW P Γ (.region id ops.toArray false) Q fr σ:=
 AW.mk fun hL g a w hr=>wpIn_region_lit (bOps_ok htt hL hc hy (Qx:=Lift Γ Q) (K:=Lift Γ Q .normal) (fun v fr σ g _ _ hr hq=>⟨fr,σ,g,hr,hp _ _ _ hq⟩) ops fr σ kb (fun fr σ g _ _ hr hq=>⟨fr,σ,g,hr,hk _ _ hq⟩) h g a w hr)
end
end Go.QL
namespace Go.QL
open Go Go.RowKit
def eqFn:Fn→Fn→Bool
 | .func a,.func b=>Nat.beq a b
 | _,_=>false
theorem eqFn_ok {a b:Fn} (h:eqFn a b=true):a=b:=by
 unfold eqFn at h;split at h
 ·rw [Nat.eq_of_beq_eq_true h]
 ·cases h
def eqVal0:Value→Value→Bool
 | .int k a,.int l b=>decide (k=l) && a == b
 | .bool a,.bool b=>a == b
 | .string a,.string b=>baEq a b
 | .slice none 0 0,.slice none 0 0=>true
 | .pointer none,.pointer none=>true
 | .nilIface,.nilIface=>true
 | .nilFunc,.nilFunc=>true
 | .map none,.map none=>true
 | _,_=>false
theorem eqVal0_ok {a b:Value} (h:eqVal0 a b=true):a=b:=by
 unfold eqVal0 at h;split at h
 ·rw [Bool.and_eq_true] at h;rw [of_decide_eq_true h.1,eq_of_beq h.2]
 ·rw [eq_of_beq h]
 ·unfold baEq at h;rename_i a b;have h1:a.data.toList=b.data.toList:=eq_of_beq h;have h2:a.data=b.data:=Array.toList_inj.1 h1;have h3:a=b:=by cases a;cases b;cases h2;rfl
  rw [h3]
 ·rfl
 ·rfl
 ·rfl
 ·rfl
 ·rfl
 ·cases h
def eqLst {α : Type} (e : α→α→Bool):List α→List α→Bool
 | [],[]=>true
 | a::r,b::s=>e a b && eqLst e r s
 | _,_=>false
theorem eqLst_ok {α : Type} {e : α→α→Bool} (he:∀ a b,e a b=true→a=b):∀ {a b:List α},eqLst e a b=true→a=b
 | [],[],_=>rfl
 | a::r,b::s,h=>by
  simp only [eqLst,Bool.and_eq_true] at h;rw [he _ _ h.1,eqLst_ok he h.2]
 | [],_::_,h=>by simp [eqLst] at h
 | _::_,[],h=>by simp [eqLst] at h
def eqVal1:Value→Value→Bool
 | .agg a,.agg b=>eqLst eqVal0 a.toList b.toList
 | .iface T a,.iface S b=>Nat.beq T S && eqVal0 a b
 | a,b=>eqVal0 a b
theorem eqVal1_ok {a b:Value} (h:eqVal1 a b=true):a=b:=by
 unfold eqVal1 at h;split at h
 ·rw [Array.toList_inj.1 (eqLst_ok (fun _ _=>eqVal0_ok) h)]
 ·rw [Bool.and_eq_true] at h;rw [Nat.eq_of_beq_eq_true h.1,eqVal0_ok h.2]
 ·exact eqVal0_ok h
def eqVal:Value→Value→Bool
 | .func f a b,.func g c d=>eqFn f g && eqLst eqVal1 a.toList c.toList && eqLst eqVal1 b.toList d.toList
 | a,b=>eqVal1 a b
theorem eqVal_ok {a b:Value} (h:eqVal a b=true):a=b:=by
 unfold eqVal at h;split at h
 ·simp only [Bool.and_eq_true] at h;rw [eqFn_ok h.1.1,Array.toList_inj.1 (eqLst_ok (fun _ _=>eqVal1_ok) h.1.2),Array.toList_inj.1 (eqLst_ok (fun _ _=>eqVal1_ok) h.2)]
 ·exact eqVal1_ok h
mutual
def eqPV:PV→PV→Bool
 | .v a,.v b=>eqVal a b
 | .s n xs,.s m ys=>Nat.beq n m && eqPVLL xs ys
 | .c n xs,.c m ys=>Nat.beq n m && eqPVLL xs ys
 | .e,.e=>true
 | _,_=>false
def eqPVL:List PV→List PV→Bool
 | [],[]=>true
 | a::r,b::s=>eqPV a b && eqPVL r s
 | _,_=>false
def eqPVLL:List (List PV)→List (List PV)→Bool
 | [],[]=>true
 | a::r,b::s=>eqPVL a b && eqPVLL r s
 | _,_=>false
end
mutual
theorem eqPV_ok:∀ {a b:PV},eqPV a b=true→a=b
 | .v a,.v b,h=>by rw [eqVal_ok (a:=a) (b:=b) (by simpa [eqPV] using h)]
 | .s n xs,.s m ys,h=>by
  simp only [eqPV,Bool.and_eq_true] at h;rw [Nat.eq_of_beq_eq_true h.1,eqPVLL_ok h.2]
 | .c n xs,.c m ys,h=>by
  simp only [eqPV,Bool.and_eq_true] at h;rw [Nat.eq_of_beq_eq_true h.1,eqPVLL_ok h.2]
 | .e,.e,_=>rfl
 | .e,.v _,h=>by simp [eqPV] at h
 | .e,.s ..,h=>by simp [eqPV] at h
 | .e,.c ..,h=>by simp [eqPV] at h
 | .v _,.e,h=>by simp [eqPV] at h
 | .s ..,.e,h=>by simp [eqPV] at h
 | .c ..,.e,h=>by simp [eqPV] at h
 | .v _,.s ..,h=>by simp [eqPV] at h
 | .v _,.c ..,h=>by simp [eqPV] at h
 | .s ..,.v _,h=>by simp [eqPV] at h
 | .s ..,.c ..,h=>by simp [eqPV] at h
 | .c ..,.v _,h=>by simp [eqPV] at h
 | .c ..,.s ..,h=>by simp [eqPV] at h
theorem eqPVL_ok:∀ {a b:List PV},eqPVL a b=true→a=b
 | [],[],_=>rfl
 | a::r,b::s,h=>by
  simp only [eqPVL,Bool.and_eq_true] at h;rw [eqPV_ok h.1,eqPVL_ok h.2]
 | [],_::_,h=>by simp [eqPVL] at h
 | _::_,[],h=>by simp [eqPVL] at h
theorem eqPVLL_ok:∀ {a b:List (List PV)},eqPVLL a b=true→a=b
 | [],[],_=>rfl
 | a::r,b::s,h=>by
  simp only [eqPVLL,Bool.and_eq_true] at h;rw [eqPVL_ok h.1,eqPVLL_ok h.2]
 | [],_::_,h=>by simp [eqPVLL] at h
 | _::_,[],h=>by simp [eqPVLL] at h
end
def ieq:Int→Int→Bool
 | .ofNat a,.ofNat b=>Nat.beq a b
 | .negSucc a,.negSucc b=>Nat.beq a b
 | _,_=>false
theorem ieq_ok {a b:Int} (h:ieq a b=true):a=b:=by
 unfold ieq at h;split at h
 ·rw [Nat.eq_of_beq_eq_true h]
 ·rw [Nat.eq_of_beq_eq_true h]
 ·cases h
def eqRow (a b:List PV):Bool:=match a,b with
 | [.v (.int .i64 x)],[.v (.int .i64 y)]=>ieq x y
 | a,b=>eqPVL a b
theorem eqRow_ok {a b:List PV} (h:eqRow a b=true):a=b:=by
 unfold eqRow at h;split at h
 ·rw [ieq_ok h]
 ·exact eqPVL_ok h
def eqRows (xs ys:List (List PV)):Bool:=lrec (β:=List (List PV)→Bool) (fun ys=>List.casesOn (motive:=fun _=>Bool) ys true fun _ _=>false) (fun x _ ih ys=>List.casesOn (motive:=fun _=>Bool) ys false fun y s=>eqRow x y && ih s) xs ys
theorem eqRows_ok:∀ {xs ys:List (List PV)},eqRows xs ys=true→xs=ys
 | [],[],_=>rfl
 | x::r,y::s,h=>by
  have h:(eqRow x y && eqRows r s)=true:=h;rw [Bool.and_eq_true] at h;rw [eqRow_ok h.1,eqRows_ok h.2]
 | [],_::_,h=>by cases h
 | _::_,[],h=>by cases h
def eqPVf:PV→PV→Bool
 | .s n xs,.s m ys=>Nat.beq n m && eqRows xs ys
 | a,b=>eqPV a b
theorem eqPVf_ok {a b:PV} (h:eqPVf a b=true):a=b:=by
 unfold eqPVf at h;split at h
 ·rw [Bool.and_eq_true] at h;rw [Nat.eq_of_beq_eq_true h.1,eqRows_ok h.2]
 ·exact eqPV_ok h
mutual
def eqSV:SV→SV→Bool
 | .d a,.d b=>eqPVf a b
 | .o c st n,.o c' st' n'=>Nat.beq c c' && Nat.beq st st' && Nat.beq n n'
 | .b i o,.b i' o'=>Nat.beq i i' && Nat.beq o o'
 | .se e o,.se e' o'=>eqPVL e e' && Nat.beq o o'
 | .oe c st i o,.oe c' st' i' o'=>Nat.beq c c' && Nat.beq st st' && Nat.beq i i' && Nat.beq o o'
 | .f fn a b,.f fn' a' b'=>eqFn fn fn' && eqSVL a a' && eqSVL b b'
 | .h i,.h j=>Nat.beq i j
 | .sb i o n c,.sb i' o' n' c'=>Nat.beq i i' && Nat.beq o o' && Nat.beq n n' && Nat.beq c c'
 | .os i o n c,.os i' o' n' c'=>Nat.beq i i' && Nat.beq o o' && Nat.beq n n' && Nat.beq c c'
 | _,_=>false
def eqSVL:List SV→List SV→Bool
 | [],[]=>true
 | a::r,b::s=>eqSVL r s && eqSV a b
 | _,_=>false
end
mutual
theorem eqSV_ok {a b:SV} (h:eqSV a b=true):a=b:=by
 cases a <;> cases b <;> simp only [eqSV,Bool.and_eq_true,Bool.false_eq_true] at h
 ·rw [eqPVf_ok h]
 ·rw [Nat.eq_of_beq_eq_true h.1.1,Nat.eq_of_beq_eq_true h.1.2,Nat.eq_of_beq_eq_true h.2]
 ·rw [Nat.eq_of_beq_eq_true h.1,Nat.eq_of_beq_eq_true h.2]
 ·rw [eqPVL_ok h.1,Nat.eq_of_beq_eq_true h.2]
 ·rw [Nat.eq_of_beq_eq_true h.1.1.1,Nat.eq_of_beq_eq_true h.1.1.2,Nat.eq_of_beq_eq_true h.1.2,Nat.eq_of_beq_eq_true h.2]
 ·rw [eqFn_ok h.1.1,eqSVL_ok h.1.2,eqSVL_ok h.2]
 ·rw [Nat.eq_of_beq_eq_true h]
 ·rw [Nat.eq_of_beq_eq_true h.1.1.1,Nat.eq_of_beq_eq_true h.1.1.2,Nat.eq_of_beq_eq_true h.1.2,Nat.eq_of_beq_eq_true h.2]
 ·rw [Nat.eq_of_beq_eq_true h.1.1.1,Nat.eq_of_beq_eq_true h.1.1.2,Nat.eq_of_beq_eq_true h.1.2,Nat.eq_of_beq_eq_true h.2]
theorem eqSVL_ok {a b:List SV} (h:eqSVL a b=true):a=b:=by
 match a,b with
 | [],[]=>rfl
 | x::r,y::s=>
  simp only [eqSVL,Bool.and_eq_true] at h;rw [eqSV_ok h.2,eqSVL_ok h.1]
 | [],_::_=>simp [eqSVL] at h
 | _::_,[]=>simp [eqSVL] at h
end
def eqAV1:AV→AV→Bool
 | .x a,.x b=>eqSV a b
 | .a a,.a b=>eqSVL a b
 | _,_=>false
theorem eqAV1_ok {a b:AV} (h:eqAV1 a b=true):a=b:=by
 unfold eqAV1 at h;split at h
 ·rw [eqSV_ok h]
 ·rw [eqSVL_ok h]
 ·cases h
def eqAVL:List AV→List AV→Bool
 | [],[]=>true
 | a::r,b::s=>eqAV1 a b && eqAVL r s
 | _,_=>false
theorem eqAVL_ok:∀ {a b:List AV},eqAVL a b=true→a=b
 | [],[],_=>rfl
 | a::r,b::s,h=>by
  simp only [eqAVL,Bool.and_eq_true] at h;rw [eqAV1_ok h.1,eqAVL_ok h.2]
 | [],_::_,h=>by simp [eqAVL] at h
 | _::_,[],h=>by simp [eqAVL] at h
def eqAV:AV→AV→Bool
 | .t a,.t b=>eqAVL a b
 | .g c a,.g d b=>(c == d) && eqAV1 a b
 | a,b=>eqAV1 a b
theorem eqAV_ok {a b:AV} (h:eqAV a b=true):a=b:=by
 unfold eqAV at h;split at h
 ·rw [eqAVL_ok h]
 ·rw [Bool.and_eq_true] at h;rw [eq_of_beq h.1,eqAV1_ok h.2]
 ·exact eqAV1_ok h
end Go.QL
namespace Go.QL
open Go Go.RowKit
def bGuardK (all:List Oper) (fr:Fr) (gd:Option (Nat × Bool)) (k:Option Bool→Bool):Bool:=
 match guardV all fr gd with
 | some c=>k c
 | none=>false
theorem bGuardK_ok {all:List Oper} {fr:Fr} {gd:Option (Nat × Bool)} {kb:Option Bool→Bool} {k:Option Bool→Prop} (hk:∀ c,kb c=true→k c) (h:bGuardK all fr gd kb=true):zix all fr gd k:=by
 unfold bGuardK at h;split at h
 ·rename_i c hc;have h1:=guardV_ok hc;have h2:=hk _ h;unfold zix at h1 ⊢;split
  ·simp only at h1;rw [h1];exact h2
  ·split
   ·rename_i h3;simp only [h3] at h1
   ·rename_i h3;simp only [h3] at h1;split
    ·rename_i h4;simp only [h4] at h1;split <;> (simp only at h1;rw [h1];exact h2)
    ·rename_i h4;simp only [h4] at h1;split <;> (simp only at h1;rw [h1];exact h2)
    ·rename_i h4 h5;exfalso;split at h1
     ·exact h4 _ (by assumption)
     ·exact h5 _ _ (by assumption)
     ·exact h1
 ·cases h
def bPutE (nt:Nat) (dst:Option Tmp) (gd:Option Bool) (v:AV) (k:AV→Bool):Bool:=
 match dst with
 | none=>(match gd with|none=>k v|some c=>k (.g c v))
 | some d=>Nat.blt d nt && (match gd with|none=>k v|some c=>k (.g c v))
section
variable {P:Program} {Γ:Cx} {tt:TT} {nt:Nat} {fr:Fr} {σ:Sg} {call:CallH} {yc:YcH}
theorem bPutE_ok {dst:Option Tmp} {gd:Option Bool} {v:AV} {kb:AV→Bool} {k:AV→Prop} (hk:∀ v,kb v=true→k v) (h:bPutE nt dst gd v kb=true):putE nt dst gd v k:=by
 unfold bPutE at h;unfold putE;cases dst with
 | none=>cases gd <;> exact hk _ h
 | some d=>
  rw [Bool.and_eq_true] at h;simp only [h.1,cond_true];cases gd <;> exact hk _ h.2
end
end Go.QL
namespace Go.QL
open Go Go.RowKit
def bLate (d:Option Tmp) (fr2:Fr) (k:AV→Bool):Bool:=
 match d with
 | none=>k (.x .j)
 | some t=>match lk t fr2 with|some v=>k v|none=>false
theorem bLate_ok {d:Option Tmp} {fr2:Fr} {k:AV→Bool} (h:bLate d fr2 k=true):∃ v,(∀ t,d=some t→lk t fr2=some v)∧k v=true:=by
 unfold bLate at h;split at h
 ·exact⟨_,fun t ht=>by (cases ht),h⟩
 ·split at h
  ·rename_i hl;exact⟨_,fun t ht=>by cases ht;exact hl,h⟩
  ·cases h
def bFz (on:Bool) (σ:Sg) (v:AV) (k:AV→Sg→Bool):Bool:=
 bif on then (match v with
  | .x (.o c st n)=>(match lk c σ with
   | some (.chain e sz st' xs)=>bif Nat.beq st' st && Nat.ble n (lenL xs) then k (.x (.d (.s sz (takL n xs)))) (zat c (.chain e sz (st+1) []) σ) else false
   | _=>false)
  | .x (.d (.s sz xs))=>k (.x (.d (.s sz xs))) σ
  | _=>false)
 else k v σ
theorem bFz_ok {on:Bool} {σ:Sg} {v:AV} {kb:AV→Sg→Bool} {k:AV→Sg→Prop} (hk:∀ v s,kb v s=true→k v s) (h:bFz on σ v kb=true):FzGo on σ v k:=by
 unfold bFz at h;simp only [lenL_eq,takL_eq] at h;unfold FzGo;cases on with
 | false=>exact hk _ _ h
 | true=>
  simp only [cond_true] at h ⊢;split at h
  ·split at h
   ·rename_i hl;simp only [hl];rename_i c st n _ e sz st' xs;cases hb:(Nat.beq st' st && Nat.ble n xs.length) with
    | false=>rw [hb] at h;cases h
    | true=>
     rw [hb] at h;rw [Bool.and_eq_true] at hb;exact⟨⟨Nat.eq_of_beq_eq_true hb.1,Nat.le_of_ble_eq_true hb.2⟩,hk _ _ h⟩
   ·cases h
  ·exact hk _ _ h
  ·cases h
end Go.QL
end
