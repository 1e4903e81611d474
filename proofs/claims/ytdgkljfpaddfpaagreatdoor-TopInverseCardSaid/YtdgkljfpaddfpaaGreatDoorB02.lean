/- The logic of walks, and what the functions of the program return: part 2. No condition. -/
import Derived.Test.YtdgkljfpaddfpaaGreatDoorB01
import Derived.Test.YtdgkljfpaddfpaaGreatDoorProg
import Derived.KernelRfl
import Derived.Lib.ItoaNum
import Derived.Lib.SlicesS
import Derived.RecoverIn
set_option linter.all false
namespace Go.QL
open Go Go.RowKit
section
variable {P:Program} {Γ:Cx} {w0:World} {K0:Bs} {fr:Fr} {σ σ':Sg} {g:Gh} {a:Act} {w:World}
theorem zlp (hs:Sup σ' σ) (hr:rsSg σ' σ'=true):∀ (is:List Nat) (ds:List Deferred) (w:World),is.Nodup→is.length=ds.length→Hp w0 K0 σ' g w →
  (∀ i ∈ is,lk i σ'=none) →
  (∀ (k i:Nat) (x:Deferred),is[k]?=some i→ds[k]?=some x→∃ d,g.μ i=.pointer (some ⟨d,0,none⟩)∧x=⟨.collected d,#[]⟩∧w.heap[d]?=some (.deferred (some []))∧(∀ o,¬ g.K d o)∧¬ K0.F d∧(∀ id,(lk id σ').isSome→blk (g.μ id)≠some d)) →
  (∀ (i j:Nat),i ∈ is→j ∈ is→∀ b,blk (g.μ i)=some b→blk (g.μ j)=some b→i=j) →
  ∃ w1,Hp w0 K0 σ' g w1∧(∀ s v,SR σ' g w s v→SR σ' g w1 s v)∧w1.heap.size=w.heap.size ∧
   ∀ (F:Fence) (n:Nat) (fn:Func) (tmps:Array Value) (R:Ending→World→Prop),LeavesInM F n P fn tmps R [] .returning w1→LeavesInM F n P fn tmps R ds .returning w
 | [],ds,w,_,hl,hp,_,_,_=>by
  cases ds with
  | nil=>exact⟨w,hp,fun _ _ h=>h,rfl,fun _ _ _ _ _ h=>h⟩
  | cons _ _=>cases hl
 | i::is,ds,w,hnd,hl,hp,hno,hx,hinj=>by
  cases ds with
  | nil=>cases hl
  | cons x ds=>
   rw [List.nodup_cons] at hnd;obtain⟨d,hμ,rfl,hheap,hK,hF,hother⟩:=hx 0 i x rfl rfl;have hbi:blk (g.μ i)=some d:=by rw [hμ];rfl
   let w1:=putO w d (.deferred none)
   have hext:Ext g.K w g.K w1:=⟨fun _ _ h=>h,fun b o hk=>World.cell?_of_block (w:=w) (a:=⟨b,o,none⟩) (zan (fun e=>hK o (e ▸ hk)))⟩;have hkeep:∀ s v,SR σ' g w s v→SR σ' g w1 s v:=fun s v h=>
    SR.keep (σ:=σ') (σ':=σ') (g:=g) (g':=g) (w:=w) (w':=w1) (Compat.refl σ' g) hext h
   have hp1:Hp w0 K0 σ' g w1:=by
    refine⟨?_,hp.flt,hp.ext.trans hext,hp.old,fun b o hk=>by have:=hp.val b o hk;simpa [w1] using this,fun id obj hid=>?_,hp.own,hp.inj⟩
    ·exact hp.kept.trans ⟨rfl,rfl,rfl,by simp [w1],fun k hk=>zan (fun e=>hF (e ▸ hk))⟩
    ·exact (hp.obs id obj hid).keep hkeep hext rfl (fun b hb=>zan (fun e=>hother id (by rw [hid];rfl) (e ▸ hb))) (fun b hb o=>hp.notK hid hb o)
   have ih:=zlp hs hr is ds w1 hnd.2 (by simpa using hl) hp1 (fun j hj=>hno j (List.mem_cons_of_mem _ hj)) (fun k j y hj hy=>?_) (fun j k hj hk=>hinj j k (List.mem_cons_of_mem _ hj) (List.mem_cons_of_mem _ hk))
   ·obtain⟨w2,q1,q2,q3,q4⟩:=ih;refine⟨w2,q1,fun s v h=>q2 s v (hkeep s v h),by rw [q3];simp [w1],fun F n fn tmps R h=>?_⟩
    refine⟨by simp,.inl ⟨d,w1,rfl,run_takeDeferred hheap,q4 F n fn tmps R h⟩⟩
   ·obtain⟨d',p1,p2,p3,p4,p5,p6⟩:=hx (k+1) j y hj hy;refine⟨d',p1,p2,?_,p4,p5,p6⟩
    have hjm:j ∈ is:=List.mem_of_getElem? hj;have hne:d'≠d:=fun e=>by
     have:=hinj j i (List.mem_cons_of_mem _ hjm) (by simp) d (by rw [p1,e];rfl) hbi;subst this;exact hnd.1 hjm
    show (putO w d (.deferred none)).heap[d']?=_
    rw [zan hne];exact p3
def zk6 (tt:TT) (res:List ResultVar) (ids dfs:List Nat) (R:AV→Sg→Prop):Exit→Fr→Sg→Prop
 | .normal,fr,σ|.ret,fr,σ=>∃ fr1 σ1,SubF fr fr1∧SubS σ σ1∧(rsFr σ1 fr1 && rsSg σ1 σ1 && dfs.all (fun i=>!(lk i σ1).isSome))=true ∧
   ∃ r σ',SubS σ1 σ'∧(rsSg σ' σ' && zbC ids σ' && zbC ids σ1)=true∧zb0 tt res fr1 σ1 σ'=some r∧R r σ'
 | _,_,_=>False
theorem zdC {fn:Func} {tmps:Array Value} {R:Ending→World→Prop} {v:Value} (hr:(results fn tmps).run P w=.ok v w) (hR:R (.returned v) w):LeavesInM (FX none) 0 P fn tmps R [] .returning w:=
 ⟨v,hr,hR⟩
theorem zpe {tt:TT} (htt:tt.ok P) {f:FuncId} {fn:Func} {c:Code} {args:List AV} {σ:Sg} {R:AV→Sg→Prop} {res:List ResultVar} (dfs:List Nat) (hf:P.funcs[f]?=some fn) (hb:fn.body=some c)
  (hname:(fn.name == "runtime.NumGoroutine")=false) (hres:fn.results=res.toArray) {nt:Nat} (hnt:fn.ntmps=nt) (hle:args.length≤nt)
  (h:∀ w0 K0 B,AW P ⟨w0,K0,nt,B,σ.map (·.1),none,dfs,[]⟩ c (zk6 tt res (σ.map (·.1)) dfs R) (entry 0 args) σ):ACall P f args σ R:=by
 refine⟨⟨fn,hf,by rw [hb];rfl,hname⟩,fun w0 K0 g w vs hL hp hs hv=>?_⟩
 refine callsIn_wide.1 (callsIn_of_wp_marks (F:=Fence.wide) (n:=0) hf hb trivial ?_)
 have hrel:Rel ⟨w0,K0,nt,SR σ g w,σ.map (·.1),none,dfs,[]⟩ (entry 0 args) σ g ⟨vs ++ Array.replicate (fn.ntmps - vs.size) undef,[]⟩ w:=by
  refine⟨hp,fun t x ht=>?_,by simp;omega,DRb.empty,fun s v hb=>⟨hb,SR.inI hb⟩⟩
  obtain⟨_,hx⟩:=zbm args 0 t x ht;rw [Nat.sub_zero] at hx;have hlt:t < args.length:=(List.getElem?_eq_some_iff.1 hx).1;refine⟨by show t < nt;omega,?_⟩
  have hvt:vs[t]?=some (vs[t]'(by omega)):=Array.getElem?_eq_getElem (by omega);have e:(vs ++ Array.replicate (fn.ntmps - vs.size) undef).getD t undef=vs[t]'(by omega):=by
   rw [Array.getD_eq_getD_getElem?,Array.getElem?_append_left (by omega),hvt];rfl
  show VR _ _ _ _ ((vs ++ Array.replicate (fn.ntmps - vs.size) undef).getD t undef)
  rw [e];exact zZ (hv t x _ hx hvt)
 refine wpIn_mono (show c.wpIn (FX none) 0 P _ _ w from (h w0 K0 _).use hL hrel) ?_
 intro e a' w' ⟨fr,τ,g',hr,hq⟩;have fin:zk6 tt res (σ.map (·.1)) dfs R .ret fr τ →
   LeavesInM Fence.wide 0 P fn a'.tmps (fun e w'=>∃ v g' σ' r,e=.returned v∧Did w0 K0 σ g w σ' g' w'∧VR2 σ' g' w' r v∧R r σ') a'.defers .returning w':=by
  rintro⟨fr1,σ1,hsf,hss,hc,r,σ',hsub,hc2,ho,hR⟩;simp only [Bool.and_eq_true,List.all_eq_true,Bool.not_eq_true'] at hc hc2;obtain⟨⟨hcf,hcs⟩,hno⟩:=hc;have hsf:=ze8 hsf;have hss:=za9 hss;have hp1:=hr.hp.weaken hss hcs;obtain⟨ms,hms,is,q1,q2,q3⟩:=hr.defers;obtain rfl:ms=a'.defers:=by simpa using hms.symm
  have hnone:∀ i ∈ is,lk i σ1=none:=fun i hi=>by
   obtain⟨k,hk,he⟩:=List.getElem_of_mem hi;have:=(q3 k i (a'.defers[k]'(by omega)) (by rw [List.getElem?_eq_getElem hk,he]) (List.getElem?_eq_getElem (by omega))).1;have:=hno i this;cases hl:lk i σ1 with
   | none=>rfl
   | some _=>rw [hl] at this;cases this
  have hdfr:∀ i ∈ is,lk i τ = some (.x .dfr):=fun i hi=>by
   obtain⟨k,hk,he⟩:=List.getElem_of_mem hi;exact (q3 k i (a'.defers[k]'(by omega)) (by rw [List.getElem?_eq_getElem hk,he]) (List.getElem?_eq_getElem (by omega))).2.1
  obtain⟨w1,s1,s2,s3,s4⟩:=zlp (P:=P) (w0:=w0) (K0:=K0) (g:=g') hss hcs is a'.defers w' q1 q2 hp1 hnone (fun k i x hi hx=>by
   obtain⟨b1,b2,d,b3,b4⟩:=q3 k i x hi hx;have hbi:blk (g'.μ i)=some d:=by rw [b3];rfl
   obtain⟨b',h1,h2,h3,h4⟩:=hr.hp.obs i _ b2;rw [b3] at h1;cases h1;refine⟨d,b3,b4,h3,h4,hr.hp.own i d (by rw [b2];rfl) hbi,fun id hid hb=>?_⟩
   obtain⟨ob,hob⟩:=Option.isSome_iff_exists.1 hid;have:=hr.hp.inj id i d (by rw [hss _ _ hob];rfl) (by rw [b2];rfl) hb hbi;subst this;rw [hnone id (List.mem_of_getElem? hi)] at hob;cases hob)
   (fun i j hi hj b hb1 hb2=>hr.hp.inj i j b (by rw [hdfr i hi];rfl) (by rw [hdfr j hj];rfl) hb1 hb2)
  refine s4 Fence.wide 0 fn a'.tmps _ ?_
  have hrel1:Rel ⟨w0,K0,nt,SR σ g w,σ.map (·.1),none,[],[]⟩ fr1 σ1 g' { a' with defers:=[] } w1:=by
   refine⟨s1,fun t v ht=>⟨(hr.fr t v (hsf t v ht)).1,?_⟩,hr.size,DRb.empty,fun s v hb=>⟨s2 _ _ (zai hss hc2.2 (hr.base s v hb).1 (hr.base s v hb).2),(hr.base s v hb).2⟩⟩
   exact (zeQ hss (zaO hcf t v ht) (hr.fr t v (hsf t v ht)).2).keep s2
  have hsup:=za9 hsub;obtain⟨v,hrun,hvr⟩:=zbQ htt hrel1 hsup hres ho;refine zdC hrun ?_
  exact⟨v,_,σ',r,rfl,⟨hrel1.hp.atEnd hsup hc2.1.1,fun s u hs=>zak (zai hsup hc2.1.2 (hrel1.base s u hs).1 (hrel1.base s u hs).2)⟩,hvr,hR⟩
 cases e with
 | normal=>exact fin hq
 | ret=>exact fin hq
 | _=>exact hq.elim
end
end Go.QL
namespace Go.QL
open Go Go.RowKit
theorem znd {F:Fence} {n:Nat} {P:Program} {o:Oper} {a:Act} {w:World} {K:Act→World→Prop} {Q:Exit→Act→World→Prop}
  (hh:o.wpIn F n P a w K Q):o.wpIn F n P a w (fun a' w'=>K a' w'∧∃ v,a'.tmps=(a.put o.dst v).tmps) Q:=by
 unfold Oper.wpIn at *;refine⟨hh.1,?_⟩
 have hh:=hh.2;generalize (o.semAt F.round a.eval).run P w=r at *;cases r with
 | ok x w'=>
  cases x <;> simp only [Oper.uponIn] at hh ⊢ <;>
   first
    | exact⟨hh,_,rfl⟩
    | exact⟨hh,undef,by unfold Act.put;cases o.dst <;> rfl⟩
    | exact⟨hh.1,CallsIn.mono hh.2 (fun e w'' he=>by cases e <;> first|exact⟨he,_,rfl⟩|exact he)⟩
    | exact⟨hh.1,RowsIn.mono hh.2 (fun _ _ he=>⟨he,_,rfl⟩)⟩
    | exact⟨hh.1,RoundIn.mono hh.2 (fun e w'' he=>by cases e <;> first|exact⟨he,_,rfl⟩|exact he)⟩
 | halt x w'=>cases x <;> simp only [Oper.uponIn] at hh ⊢ <;> exact hh
theorem zgC {F:Fence} {n:Nat} {P:Program} {ops:Array Oper} {i:Nat} {o:Oper} (ho:ops[i]?=some o) {a:Act} {w:World} {K:Act→World→Prop} {Q:Exit→Act→World→Prop}
  (hh:wpOpIn F n P ops Q i K a w):wpOpIn F n P ops Q i (fun a' w'=>K a' w'∧∃ v,a'.tmps=(a.put o.dst v).tmps) a w:=by
 unfold wpOpIn at *;simp only [ho] at hh ⊢;split
 ·rename_i hw;simp only [hw,if_true] at hh;exact znd hh
 ·rename_i hw;simp only [hw] at hh;exact⟨hh.1,hh.2,undef,rfl⟩
def zcj:List Nat→Fr→Fr
 | _,[]=>[]
 | ds,(t,v)::r=>bif ds.any (Nat.beq t) then zcj ds r else (t,v)::zcj ds r
theorem ze2 {ds:List Nat}:∀ {fr:Fr} {t:Nat} {v:AV},lk t (zcj ds fr)=some v→t ∉ ds∧lk t fr=some v
 | [],t,v,h=>by cases h
 | (s,x)::r,t,v,h=>by
  unfold zcj at h;cases hb:ds.any (Nat.beq s) with
  | true=>
   rw [hb] at h;have h:=ze2 (fr:=r) h;refine⟨h.1,?_⟩
   rw [zr,if_neg]
   ·exact h.2
   ·intro e;subst e;rw [List.any_eq_true] at hb;obtain⟨d,hd,e⟩:=hb;have:=Nat.eq_of_beq_eq_true e;subst this;exact h.1 hd
  | false=>
   rw [hb] at h;simp only [cond_false] at h;rw [zr] at h ⊢;by_cases e:s=t
   ·rw [if_pos e] at h ⊢;refine⟨fun hd=>?_,h⟩
    subst e;have:ds.any (Nat.beq s)=true:=List.any_eq_true.2 ⟨s,hd,by simp⟩;rw [this] at hb;cases hb
   ·rw [if_neg e] at h ⊢;exact ze2 h
def zcx (ops:List Oper):List Nat→List Nat
 | []=>[]
 | l::r=>match (ops[l]?).bind (·.dst) with
  | some d=>d::zcx ops r
  | none=>zcx ops r
def zj8 (ops:List Oper) (ms:List Nat) (m:Nat) (dm:Option Nat):List Nat→Bool
 | []=>true
 | l::r=>(match ops[l]? with
  | some o=>Nat.blt l m && noOb o.op && (looks ops o).all (fun t=>(match dm with|some d=>!Nat.beq d t|none=>true) &&
    (List.range m).all fun k=>match (ops[k]?).bind (·.dst) with|some d=>!Nat.beq d t || Nat.testBit (ms.getD l 0) k|none=>true)
  | none=>false) && zj8 ops ms m dm r
def zfQ (P:Program) (tt:TT) (nt:Nat) (ops:List Oper) (fr:Fr) (σ:Sg) (k:Prop):List Nat→Prop
 | []=>k
 | l::r=>match ops[l]? with
  | some o=>opDr P tt ops false (selF fr (looks ops o)) σ 0 o fun gd v nob=>nob=none∧putE nt o.dst gd v fun x=>(match o.dst with|some d=>lk d fr=some x|none=>True)∧zfQ P tt nt ops fr σ k r
  | none=>False
section
variable {P:Program} {Γ:Cx} {fr:Fr} {σ:Sg} {Q:Exit→Fr→Sg→Prop}
theorem zlj {F F':Fr} (h:Sup F' F) (d:Option Tmp) (v:AV):Sup (zbl d v F') (zbl d v F):=by
 cases d with
 | none=>exact h
 | some d=>
  intro t x hl;show lk t ((d,v)::F)=some x
  have hl:lk t ((d,v)::F')=some x:=hl;rw [zr] at hl ⊢;by_cases e:d=t
  ·rw [if_pos e] at hl ⊢;exact hl
  ·rw [if_neg e] at hl ⊢;exact h t x hl
theorem zfP {tt:TT} (htt:tt.ok P) (hL:Laid P Γ.K0.K Γ.w0) {ops:List Oper} {fr:Fr} {σ:Sg} {k:Prop}:∀ {ls:List Nat},zfQ P tt Γ.nt ops fr σ k ls →
  k∧∀ l ∈ ls,∃ o x,ops[l]?=some o∧SemE P Γ ops false (selF fr (looks ops o)) σ l o x none∧∀ d,o.dst=some d→lk d fr=some x∧d < Γ.nt
 | [],h=>⟨h,fun l hl=>by cases hl⟩
 | l::r,h=>by
  unfold zfQ at h;cases ho:ops[l]? with
  | none=>rw [ho] at h;exact h.elim
  | some o=>
   rw [ho] at h;simp only at h;obtain⟨gd,x,nob,⟨hn,hk⟩,_,hsem⟩:=zdM (Γ:=Γ) htt hL h l;subst hn;obtain⟨⟨hx,hr⟩,hd⟩:=zdJ hk;obtain⟨h1,h2⟩:=zfP htt hL hr;refine⟨h1,fun l' hl'=>?_⟩
   rcases List.mem_cons.1 hl' with rfl|hl'
   ·refine⟨o,zeI gd x,ho,hsem,fun d hd'=>⟨?_,hd d hd'⟩⟩
    rw [hd'] at hx;exact hx
   ·exact h2 l' hl'
theorem zih {ops:List Oper} {ms:List Nat} {m:Nat} {dm:Option Nat}:∀ {ls:List Nat},zj8 ops ms m dm ls=true→∀ l ∈ ls,l < m∧∃ o,ops[l]?=some o∧noOb o.op=true ∧
  ∀ t ∈ looks ops o,dm≠some t∧∀ (k:Nat) (o':Oper),k < m→ops[k]?=some o'→o'.dst=some t→(ms.getD l 0).testBit k=true
 | [],_,l,hl=>by cases hl
 | l0::r,h,l,hl=>by
  unfold zj8 at h;rw [Bool.and_eq_true] at h;rcases List.mem_cons.1 hl with rfl|hl
  ·cases ho:ops[l]? with
   | none=>rw [ho] at h;cases h.1
   | some o=>
    rw [ho] at h;simp only [Bool.and_eq_true,List.all_eq_true] at h;obtain⟨⟨⟨h1,h2⟩,h3⟩,_⟩:=h;refine⟨Nat.le_of_ble_eq_true h1,o,rfl,h2,fun t ht=>⟨fun e=>?_,fun k o' hk ho' hd=>?_⟩⟩
    ·have:=(h3 t ht).1;rw [e] at this;simp at this
    ·have:=(h3 t ht).2 k (List.mem_range.2 hk);rw [ho'] at this;simp only [Option.bind_some,hd] at this;rw [Bool.or_eq_true] at this;rcases this with h|h
     ·simp at h
     ·exact h
  ·exact zih h.2 l hl
theorem zgU {ops:List Oper} {d:Nat}:∀ {ls:List Nat},d ∈ zcx ops ls↔∃ l ∈ ls,∃ o,ops[l]?=some o∧o.dst=some d
 | []=>by simp [zcx]
 | l::r=>by
  unfold zcx;have ih:=zgU (ops:=ops) (d:=d) (ls:=r);cases ho:ops[l]? with
  | none=>
   simp only [Option.bind_none,ih,List.mem_cons];constructor
   ·rintro⟨l',h,h'⟩;exact⟨l',.inr h,h'⟩
   ·rintro⟨l',rfl|h,o,h',h''⟩
    ·rw [ho] at h';cases h'
    ·exact⟨l',h,o,h',h''⟩
  | some o=>
   cases hd:o.dst with
   | none=>
    simp only [Option.bind_some,hd,ih,List.mem_cons];constructor
    ·rintro⟨l',h,h'⟩;exact⟨l',.inr h,h'⟩
    ·rintro⟨l',rfl|h,o',h',h''⟩
     ·rw [ho] at h';cases h';rw [hd] at h'';cases h''
     ·exact⟨l',h,o',h',h''⟩
   | some d'=>
    simp only [Option.bind_some,hd,ih,List.mem_cons];constructor
    ·rintro (rfl|⟨l',h,h'⟩)
     ·exact⟨l,.inl rfl,o,ho,hd⟩
     ·exact⟨l',.inr h,h'⟩
    ·rintro⟨l',rfl|h,o',h',h''⟩
     ·rw [ho] at h';cases h';rw [hd] at h'';cases h'';exact .inl rfl
     ·exact .inr ⟨l',h,o',h',h''⟩
structure LateGo (d:Option Tmp) (fr2 F:Fr) (K:AV→Prop):Prop where
 ex:∃ v,fr2=zbl d v F∧K v
theorem zW {tt:TT} (htt:tt.ok P) (hmix:P.follows .mixedOrders=true) (m:Nat) (ls:List Nat) (ob:Bool) (ms:List Nat) {id:Nat} {ops:List Oper} (om:Oper) (hms:zbe ms (m+1) ops 0=true) (hlen:Nat.ble (m+1) ops.length=true)
  (hds:zc2 (ops.take (m+1)) []=true) (hrd:zcn ops ms (ops.take m) (ops.take m) 0=true)
  (hom:ops[m]?=some om) (hmm:((List.range m).all fun b=>Nat.testBit (ms.getD m 0) b || ls.any (Nat.beq b))=true) (hls:zj8 ops ms m om.dst ls=true)
  (h:vcDr P tt Γ.nt ops ob ms fr σ (fun fr' σ'=>zah P tt Γ.nt ops (fun fr2 σ2=>LateGo om.dst fr2 (zcj (zcx ops ls) fr') fun v=>
   zfQ P tt Γ.nt ops fr' σ2 (zah P tt Γ.nt ops (Q .normal) (ops.drop (m+1)) (zbl om.dst v fr') σ2) ls) [om] (zcj (zcx ops ls) fr') σ') (ops.take m) [] 0 fr σ):AW P Γ (.region id ops.toArray true) Q fr σ:=by
 refine AW.mk fun hLd g a w hr=>?_
 have hm:=MaskOK.of hms;have hls:=zih hls;have hlen':m+1≤ops.length:=Nat.le_of_ble_eq_true hlen;have hlen:m≤ops.length:=by omega
 have hmbit:∀ b,b < m→b ∉ ls→(ms.getD m 0).testBit b=true:=by
  intro b hb hbl;rw [List.all_eq_true] at hmm;have:=hmm b (List.mem_range.2 hb);rw [Bool.or_eq_true] at this;rcases this with h|h
  ·exact h
  ·rw [List.any_eq_true] at h;obtain⟨x,hx,e⟩:=h;have:=Nat.eq_of_beq_eq_true e;subst this;exact absurd hx hbl
 have htake:(ops.take m).length=m:=by simp;omega
 obtain⟨es,hkL,hg,hlt,hcov⟩:=zdH (Γ:=Γ) htt hLd (ops.take m) [] 0 h (fun j o hj=>by
   rw [List.getElem?_take] at hj;by_cases hjm:j < m
   ·rw [if_pos hjm] at hj;simpa using hj
   ·rw [if_neg hjm] at hj;cases hj) (fun e he=>by simp at he) (fun j hj=>by omega)
   ⟨fun e he=>by simp at he,fun e he=>by simp at he,fun e he=>by simp at he,fun e he=>by simp at he,fun e he=>by simp at he⟩
 rw [htake] at hlt hcov;simp only [Nat.zero_add] at hlt hcov;obtain⟨_,hd1'⟩:=zb1 hds;have hd1:∀ (i j:Nat) (o o':Oper) (d:Nat),(ops.take m)[i]?=some o→(ops.take m)[j]?=some o'→o.dst=some d→o'.dst=some d→i=j:=by
  intro i j o o' d hi hj;rw [List.getElem?_take] at hi hj;by_cases c1:i < m
  ·rw [if_pos c1] at hi;by_cases c2:j < m
   ·rw [if_pos c2] at hj;exact hd1' i j o o' d (by rw [List.getElem?_take,if_pos (by omega)];exact hi) (by rw [List.getElem?_take,if_pos (by omega)];exact hj)
   ·rw [if_neg c2] at hj;cases hj
  ·rw [if_neg c1] at hi;cases hi
 have hrd:=fun j o h=>zaV (zbR hrd j o h)
 simp only [Nat.zero_add] at hrd;have hop:∀ e ∈ es,∃ o,(ops.take m)[e.i]?=some o∧e.d=o.dst:=fun e he=>by
  obtain⟨o,D,h1,h2,_⟩:=hg.sem e he;exact⟨o,by rw [List.getElem?_take,if_pos (hlt e he)];exact h1,h2⟩
 have hfF:∀ p ∈ frs es,∀ q ∈ frs es,p.1=q.1→p=q:=by
  intro p hp q hq hpq;obtain⟨e,he,h1,h2⟩:=zY.1 hp;obtain⟨e',he',h1',h2'⟩:=zY.1 hq;obtain⟨o,ho,hd⟩:=hop e he;obtain⟨o',ho',hd'⟩:=hop e' he';have:=hd1 e.i e'.i o o' p.1 ho ho' (by rw [← hd,h1]) (by rw [← hd',h1',hpq]);have:=hg.idx e he e' he' this;subst this;obtain⟨p1,p2⟩:=p;obtain⟨q1,q2⟩:=q;simp only at *;subst hpq;subst h2;subst h2';rfl
 have hfO:∀ p ∈ obs es,∀ q ∈ obs es,p.1=q.1→p=q:=by
  intro p hp q hq hpq;obtain⟨e,he,h1⟩:=zF.1 hp;obtain⟨e',he',h1'⟩:=zF.1 hq;have:=hg.ids e he e' he' p q h1 h1' hpq;subst this;rw [h1] at h1';cases h1';rfl
 have hfO0:∀ p ∈ obs es,lk p.1 σ=none:=by
  intro p hp;obtain⟨e,he,h1⟩:=zF.1 hp;exact (hg.id0 e he p h1).1
 have supO:∀ D E:List En,(∀ e ∈ D,e ∈ E)→(∀ e ∈ E,e ∈ es)→Sup (obs D ++ σ) (obs E ++ σ):=fun D E h1 h2=>
  zeM hfO hfO0 (fun p hp=>by obtain⟨e,he,h'⟩:=zF.1 hp;exact zF.2 ⟨e,h1 e he,h'⟩) (fun p hp=>by obtain⟨e,he,h'⟩:=zF.1 hp;exact zF.2 ⟨e,h2 e he,h'⟩)
 let InvA:(Nat→Prop)→Act→World→Prop:=fun L a w=>∃ (E:List En) (g:Gh),(∀ e ∈ E,e ∈ es)∧(∀ j,L j↔∃ e ∈ E,e.i=j)∧(∀ k,L k→∀ b,(ms.getD k 0).testBit b=true→L b)∧Rel Γ (frs E ++ fr) (obs E ++ σ) g a w
 let InvB:(Nat→Prop)→Act→World→Prop:=fun L a w=>∃ j,m+1≤j∧j≤ops.length∧(∀ b,L b↔b < j)∧wpLs Γ.ro P ops.toArray (Lift Γ Q) (ops.drop j) a w
 let InvC:(Nat→Prop)→Act→World→Prop:=fun L a w=>∃ (E:List En) (g:Gh) (v:AV) (σ2:Sg),(∀ e ∈ E,e ∈ es)∧(∀ j,L j↔(∃ e ∈ E,e.i=j)∨j=m)∧(∀ e ∈ es,e.i ∉ ls→e ∈ E)∧Rel Γ (zbl om.dst v (frs E ++ fr)) σ2 g a w ∧
  zfQ P tt Γ.nt ops (frs es ++ fr) σ2 (zah P tt Γ.nt ops (Q .normal) (ops.drop (m+1)) (zbl om.dst v (frs es ++ fr)) σ2) ls
 have hdm:∀ e ∈ es,∀ d,e.d=some d→om.dst≠some d:=by
  intro e he d hd hdm;obtain⟨o,ho,hd'⟩:=hop e he;rw [List.getElem?_take,if_pos (hlt e he)] at ho;have:=hd1' e.i m o om d (by rw [List.getElem?_take,if_pos (by have:=hlt e he;omega)];exact ho) (by rw [List.getElem?_take,if_pos (by omega)];exact hom) (by rw [← hd',hd]) hdm;have:=hlt e he;omega
 have convC:∀ L a w,InvC L a w→(∀ b,b < m→L b)→InvB L a w:=by
  intro L a w ⟨E,g,v,σ2,h1,h2,_,h3,h4⟩ hall;refine⟨m+1,Nat.le_refl _,hlen',fun b=>⟨fun hb=>?_,fun hb=>?_⟩,?_⟩
  ·rcases (h2 b).1 hb with ⟨e,he,hi⟩|rfl
   ·have:=hlt e (h1 e he);omega
   ·omega
  ·by_cases e:b=m
   ·exact (h2 b).2 (.inr e)
   ·exact hall b (by omega)
  ·have hsub:∀ e ∈ es,e ∈ E:=by
    intro e he;rcases (h2 e.i).1 (hall e.i (hlt e he)) with ⟨e',he',hi⟩|hi
    ·have:=hg.idx e' (h1 e' he') e he hi;subst this;exact he'
    ·have:=hlt e he;omega
   exact zcc htt hLd (fun _ _ h=>h) (ops.drop (m+1)) _ _ (zfP (Γ:=Γ) htt hLd h4).1 g a w (h3.subF (zlj (zb4 (fun p hp q hq=>hfF p ((zq h1) p hp) q ((zq h1) q hq)) (fun p=>⟨zq hsub p,zq h1 p⟩)) _ _))
 refine wpIn_region_any hmix ?_
 refine zbU hm (fun L a w=>InvA L a w∨InvB L a w∨InvC L a w) ?_ ?_ _ _ _ _ (by simp) ?_ ?_ ?_
 ·-- a step
  intro L a w hinv i hi hL hbits;have hi':i < ops.length:=by simpa using hi
  have stepB:InvB L a w→wpOpIn (FX Γ.ro) 0 P ops.toArray (Lift Γ Q) i (fun a w=>InvA (fun j=>L j∨j=i) a w∨InvB (fun j=>L j∨j=i) a w∨InvC (fun j=>L j∨j=i) a w) a w:=by
   intro ⟨j,hj1,hj2,hj3,hj4⟩;have hji:j≤i:=by
    rcases Nat.lt_or_ge i j with h'|h'
    ·exact absurd ((hj3 i).2 h') hL
    ·exact h'
   have hij:i=j:=by
    rcases Nat.lt_or_ge j i with h'|h'
    ·have:=hm.tail i _ (Array.getElem?_eq_getElem (by simpa using hi')) (by omega) j h';have:=(hj3 j).1 (hbits j this);omega
    ·omega
   subst hij;rw [List.drop_eq_getElem_cons hi'] at hj4;have hoi:ops.toArray[i]?=some ops[i]:=by simp [hi']
   have hnew:∀ a w,wpLs Γ.ro P ops.toArray (Lift Γ Q) (ops.drop (i+1)) a w→InvA (fun j=>L j∨j=i) a w∨InvB (fun j=>L j∨j=i) a w∨InvC (fun j=>L j∨j=i) a w:=by
    intro a w hw;refine .inr (.inl ⟨i+1,by omega,by omega,fun b=>?_,hw⟩)
    show (L b∨b=i)↔b < i+1
    rw [hj3 b];omega
   unfold wpOpIn;simp only [hoi];unfold wpLs wpLk at hj4;split
   ·rename_i hwant;rw [if_pos hwant] at hj4;exact Oper.wpIn_mono hnew hj4
   ·rename_i hwant;rw [if_neg hwant] at hj4;exact⟨fun _ _=>trivial,hnew _ _ hj4⟩
  rcases hinv with hA|hB|hC
  ·rcases Nat.lt_or_ge i m with him|him
   ·obtain⟨E,g,h1,h2,hcl,h3⟩:=hA;obtain⟨en,hen,heni⟩:=hcov i him;obtain⟨o,D,a1,a2,a3,a4,a6,a5⟩:=hg.sem en hen;rw [heni] at a1 a4 a5 a6;have hDE:∀ e ∈ D,e ∈ E:=by
     intro e he;obtain⟨he1,he2⟩:=a4 e he;obtain⟨e',he',hi'⟩:=(h2 e.i).1 (hbits e.i he2);have:=hg.idx e' (h1 e' he') e he1 hi';subst this;exact he'
    have hsup:Sup (selF (frs D ++ fr) (looks ops o)) (frs E ++ fr):=by
     intro t v hl;obtain⟨ht,hl⟩:=zbF hl;rcases zdB hl with hl|⟨hn,hl⟩
     ·exact zas (fun p hp q hq=>hfF p (zq h1 p hp) q (zq h1 q hq)) (zq hDE _ hl)
     ·rw [zU]
      ·exact hl
      ·intro p hp hpt;obtain⟨e,he,h1',h2'⟩:=zY.1 hp;obtain⟨oe,hoe,hde⟩:=hop e (h1 e he);have hLe:L e.i:=(h2 e.i).2 ⟨e,he,rfl⟩;rcases hrd i o (by rw [List.getElem?_take,if_pos him];exact a1) e.i oe t hoe (by rw [← hde,h1',hpt]) ht with hk|hk|hk
       ·exact hL (hk ▸ hLe)
       ·have hlt':e.i < i:=hm.lt i o (by simpa using a1) e.i hk;exact hn p (zY.2 ⟨e,a6 e (h1 e he) hk hlt',h1',h2'⟩) hpt
       ·exact hL (hcl e.i hLe i hk)
    refine a5 _ (frs E ++ fr) (obs E ++ σ) g a w hsup (supO D E hDE h1) ?_ ?_ h3 _ ?_ (by simpa using a1)
    ·intro hob;have hn:∀ X:List En,(∀ e ∈ X,e ∈ es)→obs X=[]:=by
      intro X hX;cases hx:obs X with
      | nil=>rfl
      | cons p r=>
       obtain⟨e,he,hp⟩:=zF.1 (show p ∈ obs X by rw [hx];exact List.mem_cons_self);have:=(hg.id0 e (hX e he) p hp).2;rw [hob] at this;cases this
     rw [hn E h1,hn D (fun e he=>h1 e (hDE e he))]
    ·intro p hp;rw [zU]
     ·exact (hg.id0 en hen p hp).1
     ·intro q hq he;obtain⟨e',he',hq'⟩:=zF.1 hq;have:=hg.ids e' (h1 e' he') en hen q p hq' hp he;subst this;exact hL ((h2 i).2 ⟨e',he',heni⟩)
    ·intro v g' w' hr' hv;left
     refine⟨en::E,g',fun e he=>?_,fun j=>?_,fun k hk b hb=>?_,?_⟩
     ·rcases List.mem_cons.1 he with rfl|he
      ·exact hen
      ·exact h1 e he
     ·show (L j∨j=i)↔_
      rw [h2 j];constructor
      ·rintro (⟨e,he,h'⟩|rfl)
       ·exact⟨e,List.mem_cons_of_mem _ he,h'⟩
       ·exact⟨en,List.mem_cons_self,heni⟩
      ·rintro⟨e,he,h'⟩;rcases List.mem_cons.1 he with rfl|he
       ·exact .inr (h'.symm.trans heni)
       ·exact .inl ⟨e,he,h'⟩
     ·rcases hk with hk|rfl
      ·exact .inl (hcl k hk b hb)
      ·exact .inl (hbits b hb)
     ·rw [← zbO,← zcL];rw [a2];cases hdd:o.dst with
      | none=>exact hr'
      | some d=>exact hr'.put (a3 d hdd) hv
   ·rcases Nat.lt_or_ge m i with hmi|hmi
    ·have hall:∀ b,b < i→L b:=fun b hb=>hbits b (hm.tail i _ (Array.getElem?_eq_getElem (by simpa using hi')) hmi b hb)
     obtain⟨E,g,h1,h2,_,h3⟩:=hA;obtain⟨e,he,hi2⟩:=(h2 m).1 (hall m hmi);have:=hlt e (h1 e he);omega
    ·have him:i=m:=by omega
     subst him;obtain⟨E,g,h1,h2,_,h3⟩:=hA;have hin:∀ e ∈ es,e.i ∉ ls→e ∈ E:=by
      intro e he hne;obtain⟨e',he',hi2⟩:=(h2 e.i).1 (hbits e.i (hmbit e.i (hlt e he) hne));have:=hg.idx e' (h1 e' he') e he hi2;subst this;exact he'
     have hsupF:Sup (zcj (zcx ops ls) (frs es ++ fr)) (frs E ++ fr):=by
      intro t v hl;obtain⟨hne,hl⟩:=ze2 hl;rcases zdB hl with hl|⟨hn,hl⟩
      ·obtain⟨e,he,hd,hx⟩:=zY.1 hl;have hel:e.i ∉ ls:=by
        intro hel;obtain⟨o,ho,hd'⟩:=hop e he;rw [List.getElem?_take,if_pos (hlt e he)] at ho;exact hne (zgU.2 ⟨e.i,hel,o,ho,by rw [← hd',hd]⟩)
       exact zas (fun p hp q hq=>hfF p (zq h1 p hp) q (zq h1 q hq)) (zY.2 ⟨e,hin e he hel,hd,hx⟩)
      ·rw [zU fun p hp=>hn p (zq h1 p hp)];exact hl
     have hobs:∀ p,p ∈ obs es→p ∈ obs E:=by
      intro p hp;obtain⟨e,he,hp⟩:=zF.1 hp;refine zF.2 ⟨e,hin e he fun hel=>?_,hp⟩
      obtain⟨o,ho,hn⟩:=hg.obk e he p hp;obtain⟨_,o',ho',hn',_⟩:=hls e.i hel;rw [ho'] at ho;cases ho;rw [hn'] at hn;cases hn
     have hs1:Sup (obs E ++ σ) (obs es ++ σ):=supO E es h1 (fun e he=>he);have hs2:Sup (obs es ++ σ) (obs E ++ σ):=zeM (fun p hp q hq=>hfO p (by obtain⟨e,he,h'⟩:=zF.1 hp;exact zF.2 ⟨e,h1 e he,h'⟩) q (by obtain⟨e,he,h'⟩:=zF.1 hq;exact zF.2 ⟨e,h1 e he,h'⟩)) (fun p hp=>hfO0 p (by obtain⟨e,he,h'⟩:=zF.1 hp;exact zF.2 ⟨e,h1 e he,h'⟩)) hobs (fun p hp=>hp);have hr':Rel Γ (zcj (zcx ops ls) (frs es ++ fr)) (obs es ++ σ) g a w:=h3.same hsupF hs1 hs2;let Γ':Cx:=⟨Γ.w0,Γ.K0,Γ.nt,SR (obs es ++ σ) g w,(obs es ++ σ).map (·.1),Γ.ro,Γ.dfs,Γ.bs⟩
     have hr2:Rel Γ' (zcj (zcx ops ls) (frs es ++ fr)) (obs es ++ σ) g a w:=⟨hr'.hp,hr'.fr,hr'.size,hr'.defers,fun s v hb=>⟨hb,SR.inI hb⟩⟩;have hw:=zaJ (Γ:=Γ') htt hLd (Qx:=Lift Γ Q) (K:=fun a w=>∃ g2 fr2 σ2,Rel Γ' fr2 σ2 g2 a w∧∃ v,fr2=zbl om.dst v (zcj (zcx ops ls) (frs es ++ fr)) ∧
      zfQ P tt Γ.nt ops (frs es ++ fr) σ2 (zah P tt Γ.nt ops (Q .normal) (ops.drop (i+1)) (zbl om.dst v (frs es ++ fr)) σ2) ls) (fun fr2 σ2 g2 a2 w2 hr2 hk2=>⟨g2,fr2,σ2,hr2,hk2.ex⟩) [om] _ _ hkL g a w hr2
     have hoi:ops.toArray[i]?=some om:=by simpa using hom
     have hw2:wpOpIn (FX Γ.ro) 0 P ops.toArray (Lift Γ Q) i (fun a w=>∃ g2 fr2 σ2,Rel Γ' fr2 σ2 g2 a w∧∃ v,fr2=zbl om.dst v (zcj (zcx ops ls) (frs es ++ fr)) ∧
      zfQ P tt Γ.nt ops (frs es ++ fr) σ2 (zah P tt Γ.nt ops (Q .normal) (ops.drop (i+1)) (zbl om.dst v (frs es ++ fr)) σ2) ls) a w:=by
      unfold wpOpIn;simp only [hoi];unfold wpLk at hw;split
      ·rename_i hwant;rw [if_pos hwant] at hw;exact hw
      ·rename_i hwant;rw [if_neg hwant] at hw;exact⟨fun _ _=>trivial,hw⟩
     refine wpOpIn_mono ?_ (zgC hoi hw2)
     rintro a2 w2 ⟨⟨g2,fr2,σ2,hr2,v,rfl,hk2⟩,v',htm⟩;refine .inr (.inr ⟨E,g2,v,σ2,h1,fun j=>?_,hin,?_,hk2⟩)
     ·show (L j∨j=i)↔_
      rw [h2 j]
     ·have keep:∀ s u,SR (obs E ++ σ) g w s u→SR σ2 g2 w2 s u:=fun s u hsu=>(hr2.base s u (hsu.sup hs1)).1
      refine⟨hr2.hp,fun t x ht=>?_,hr2.size,hr2.defers,fun s u hb=>⟨keep s u (h3.base s u hb).1,(h3.base s u hb).2⟩⟩
      by_cases hdt:om.dst=some t
      ·have:lk t (zbl om.dst v (zcj (zcx ops ls) (frs es ++ fr)))=some x:=by
        rw [hdt] at ht ⊢;have ht:lk t ((t,v)::(frs E ++ fr))=some x:=ht;show lk t ((t,v)::_)=some x
        rw [zr,if_pos rfl] at ht ⊢;exact ht
       exact hr2.fr t x this
      ·have ht:lk t (frs E ++ fr)=some x:=by
        cases hd:om.dst with
        | none=>rw [hd] at ht;exact ht
        | some d=>
         rw [hd] at ht;have ht:lk t ((d,v)::(frs E ++ fr))=some x:=ht;rw [zr,if_neg (fun e=>hdt (by rw [hd,e]))] at ht;exact ht
       have h4:=h3.fr t x ht;refine⟨h4.1,?_⟩
       have e:a2.tmps.getD t undef=a.tmps.getD t undef:=by
        rw [htm];cases hd:om.dst with
        | none=>rfl
        | some d=>
         have:¬ d=t:=fun e=>hdt (by rw [hd,e])
         simp [Act.put,this]
       rw [e];exact h4.2.keep keep
  ·exact stepB hB
  ·rcases Nat.lt_or_ge i m with him|him
   ·obtain⟨E,g,v,σ2,h1,h2,hin,h3,h4⟩:=hC;obtain⟨en,hen,heni⟩:=hcov i him;have hil:i ∈ ls:=by
     by_cases c:i ∈ ls
     ·exact c
     ·exact absurd ((h2 i).2 (.inl ⟨en,hin en hen (by rw [heni];exact c),heni⟩)) hL
    obtain⟨o,x,ho,hsem,hdx⟩:=(zfP (Γ:=Γ) htt hLd h4).2 i hil;obtain⟨_,o',ho',_,hlook⟩:=hls i hil;rw [ho] at ho';cases ho';have hend:en.d=o.dst:=by
     obtain⟨o',ho',hd⟩:=hop en hen;rw [heni,List.getElem?_take,if_pos him,ho] at ho';cases ho';exact hd
    have hsup:Sup (selF (frs es ++ fr) (looks ops o)) (zbl om.dst v (frs E ++ fr)):=by
     intro t y hl;obtain⟨ht,hl⟩:=zbF hl;obtain⟨hdt,hwr⟩:=hlook t ht;have hgo:lk t (frs E ++ fr)=some y:=by
      rcases zdB hl with hl|⟨hn,hl⟩
      ·obtain⟨e,he,hd,hx⟩:=zY.1 hl;obtain⟨oe,hoe,hde⟩:=hop e he;rw [List.getElem?_take,if_pos (hlt e he)] at hoe;have hbt:=hbits e.i (hwr e.i oe (hlt e he) hoe (by rw [← hde,hd]));rcases (h2 e.i).1 hbt with ⟨e',he',hi2⟩|hi2
       ·have:=hg.idx e' (h1 e' he') e he hi2;subst this;exact zas (fun p hp q hq=>hfF p (zq h1 p hp) q (zq h1 q hq)) (zY.2 ⟨e',he',hd,hx⟩)
       ·have:=hlt e he;omega
      ·rw [zU fun p hp=>hn p (zq h1 p hp)];exact hl
     cases hd:om.dst with
     | none=>exact hgo
     | some d=>
      show lk t ((d,v)::(frs E ++ fr))=some y
      rw [zr,if_neg (fun e=>hdt (by rw [hd,e]))];exact hgo
    refine hsem _ _ σ2 g a w hsup (fun _ _ h=>h) (fun _=>rfl) (fun p hp=>by cases hp) h3 _ (fun v' g' w' hr' hv=>.inr (.inr ⟨en::E,g',v,σ2,fun e he=>?_,fun j=>?_,fun e he hne=>List.mem_cons_of_mem _ (hin e he hne),?_,h4⟩)) (by simpa using ho)
    ·rcases List.mem_cons.1 he with rfl|he
     ·exact hen
     ·exact h1 e he
    ·show (L j∨j=i)↔_
     rw [h2 j];constructor
     ·rintro ((⟨e,he,h'⟩|h')|rfl)
      ·exact .inl ⟨e,List.mem_cons_of_mem _ he,h'⟩
      ·exact .inr h'
      ·exact .inl ⟨en,List.mem_cons_self,heni⟩
     ·rintro (⟨e,he,h'⟩|h')
      ·rcases List.mem_cons.1 he with rfl|he
       ·exact .inr (h'.symm.trans heni)
       ·exact .inl (.inl ⟨e,he,h'⟩)
      ·exact .inl (.inr h')
    ·have hr':Rel Γ (zbl om.dst v (frs E ++ fr)) σ2 g' a w':=hr';have hE':∀ e ∈ en::E,e ∈ es:=fun e he=>by
      rcases List.mem_cons.1 he with rfl|he
      ·exact hen
      ·exact h1 e he
     cases hdd:o.dst with
     | none=>
      have:frs (en::E)=frs E:=by simp only [frs,hend,hdd]
      rw [this];exact hr'
     | some d=>
      obtain⟨hx,hdn⟩:=hdx d hdd;have hxe:x=en.x:=by
       have:=zas (l0:=fr) hfF (zY.2 ⟨en,hen,by rw [hend,hdd],rfl⟩:(d,en.x) ∈ frs es);rw [hx] at this;cases this;rfl
      have hne:=hdm en hen d (by rw [hend,hdd]);refine (hr'.put hdn hv).subF ?_
      have:frs (en::E)=(d,x)::frs E:=by simp only [frs,hend,hdd,hxe]
      rw [this];intro t y hl;cases hd:om.dst with
      | none=>rw [hd] at hl;exact hl
      | some d2=>
       rw [hd] at hl;have hl:lk t ((d2,v)::(d,x)::(frs E ++ fr))=some y:=hl;show lk t ((d,x)::(d2,v)::(frs E ++ fr))=some y
       rw [zr,zr] at hl ⊢;have hdd2:¬ d2=d:=fun e=>hne (by rw [hd,e])
       by_cases c1:d2=t
       ·rw [if_pos c1] at hl;rw [if_neg (fun e=>hdd2 (c1.trans e.symm)),if_pos c1];exact hl
       ·rw [if_neg c1] at hl;by_cases c2:d=t
        ·rw [if_pos c2] at hl ⊢;exact hl
        ·rw [if_neg c2] at hl;rw [if_neg c2,if_neg c1];exact hl
   ·have him:m < i:=by
     obtain⟨E,g,v,σ2,h1,h2,_⟩:=hC;have:i≠m:=fun e=>hL ((h2 i).2 (.inr e))
     omega
    have hall:∀ b,b < i→L b:=fun b hb=>hbits b (hm.tail i _ (Array.getElem?_eq_getElem (by simpa using hi')) him b hb)
    exact stepB (convC L a w hC fun b hb=>hall b (by omega))
 ·-- the end
  intro L a w hinv hall;have hB:InvB L a w:=by
   rcases hinv with hA|hB|hC
   ·obtain⟨E,g,h1,h2,_,h3⟩:=hA;obtain⟨e,he,hi2⟩:=(h2 m).1 (hall m (by simp;omega));have:=hlt e (h1 e he);omega
   ·exact hB
   ·exact convC L a w hC fun b hb=>hall b (by simp;omega)
  obtain⟨j,hj1,hj2,hj3,hj4⟩:=hB;have:j=ops.length:=by
   rcases Nat.lt_or_ge j ops.length with h'|h'
   ·have:=(hj3 j).1 (hall j (by simpa using h'));omega
   ·omega
  subst this;rw [List.drop_length] at hj4;exact hj4
 ·intro i hi;have:(Array.replicate ops.length false)[i]?.getD false=false:=by
   rw [Array.getElem?_replicate];split <;> rfl
  simp [this] at hi
 ·unfold unl;refine Nat.le_trans (List.length_filter_le _ _) (by simp)
 ·left
  refine⟨[],g,fun e he=>by simp at he,fun j=>?_,fun k hk=>?_,hr.drawn _⟩
  rotate_left
  ·have:(Array.replicate ops.length false)[k]?.getD false=false:=by
    rw [Array.getElem?_replicate];split <;> rfl
   simp [this] at hk
  have:(Array.replicate ops.length false)[j]?.getD false=false:=by
   rw [Array.getElem?_replicate];split <;> rfl
  simp [this]
end
end Go.QL
namespace Go.QL
open Go Go.RowKit
section
variable {P:Program} {Γ:Cx} {fr:Fr} {σ:Sg} {Q:Exit→Fr→Sg→Prop}
theorem zB {l:Nat} (h:Q .normal fr σ):AW P Γ (.label l) Q fr σ:=AW.mk fun hL g a w hr=>wpIn_label ⟨fr,σ,g,hr,h⟩
def Exit.noGo (Q:Exit→Fr→Sg→Prop):Exit→Fr→Sg→Prop
 | .goto _,_,_=>False
 | e,fr,σ=>Q e fr σ
section
variable {b:Frame} {a:Act} {k:List Item} {cs:List Frame} {w:World}
theorem zjc {c:Code}:step P (lone (b.atR a (.code (.scope c)::k)) cs w)=.next (lone (b.atR a (.code c::.inScope c::k)) cs w):=
 step_lone_go (by simp [stepG,stepG.exec,Frame.atR])
theorem zhj {c:Code}:step P (lone (b.atR a (.inScope c::k)) cs w)=.next (lone (b.atR a k) cs w):=
 step_lone_go (by simp [stepG,stepG.exec,Frame.atR])
end
theorem zA {c:Code} (h:AW P Γ c (Exit.noGo Q) fr σ):AW P Γ (.scope c) Q fr σ:=by
 refine AW.mk fun hL g a w hr b k cs hro hb hrm=>?_
 obtain⟨e,a₁,w₁,⟨fr1,σ1,g1,r1,hq⟩,harr⟩:=h.use hL hr b (.inScope c::k) cs hro hb hrm;have s0:StepsIn (Machine.fenced P (FX Γ.ro)) P (lone (b.atR a (.code (.scope c)::k)) cs w) (lone (b.atR a (.code c::.inScope c::k)) cs w):=.one (fenced_calm hb hrm rfl) zjc;cases e with
 | normal=>exact⟨.normal,a₁,w₁,⟨fr1,σ1,g1,r1,hq⟩,StepsIn.trans s0 (StepsIn.trans harr (.one (fenced_calm hb hrm rfl) zhj))⟩
 | exit id=>
  refine⟨.exit id,a₁,w₁,⟨fr1,σ1,g1,r1,hq⟩,fun k' hk=>StepsIn.trans s0 (harr.1 k' hk),fun hr' hk=>?_⟩
  obtain⟨k₁,h1,h2⟩:=harr.2 hr' hk;exact⟨k₁,h1,StepsIn.trans s0 h2⟩
 | goto l=>exact hq.elim
 | ret=>exact⟨.ret,a₁,w₁,⟨fr1,σ1,g1,r1,hq⟩,fun hr'=>let ⟨t,ht⟩:=harr.1 hr';⟨t,StepsIn.trans s0 ht⟩,fun hr'=>let ⟨t,ht⟩:=harr.2 hr';⟨t,StepsIn.trans s0 ht⟩⟩
 | panic ch=>obtain⟨t,ht⟩:=harr;exact⟨.panic ch,a₁,w₁,⟨fr1,σ1,g1,r1,hq⟩,t,StepsIn.trans s0 ht⟩
 | outgrown=>exact⟨.outgrown,a₁,w₁,⟨fr1,σ1,g1,r1,hq⟩,ArrivesIn.of_steps (e:=.outgrown) (b:=b) (k:=k) (cs:=cs) (a:=a₁) (w:=w₁) s0 harr⟩
theorem FnC.of_ACall {f:FuncId} {args:List AV} {r:AV} (h:ACall P f args [] (fun r' σ'=>r'=r∧σ'=[])) (hr:zf6 r=true):FnC P f args r:=by
 refine⟨h.1,fun K w vs hL hK hs hv=>?_⟩
 have hp:Hp w ⟨K,(· < w.heap.size)⟩ [] ⟨K,fun _=>undef⟩ w:=
  ⟨.refl _ _,fun _ h=>h,.refl _ _,fun _ _ _ h=>h,hK,(fun id ob hid=>by cases hid),(fun id b hi=>by cases hi),(fun i j b hi=>by cases hi)⟩
 refine (h.2 w _ _ w vs hL hp hs hv).mono ?_
 rintro e w' ⟨v,g',σ',r',he,hd,hvr,rfl,rfl⟩;exact⟨v,g'.K,he,hd.hp.kept.below,hd.hp.ext,hd.hp.old,hd.hp.val,zcY (g:=g') (g':=⟨g'.K,fun _=>undef⟩) hr (Ext.refl g'.K w') hvr⟩
end
end Go.QL
namespace Go.Proofs.YtdgkljfpaddfpaaGreatDoor
open Go Go.QL
def tab:List (Nat × TI):=[
 (1,⟨.other,1,8,[.nilFunc]⟩),
 (2,⟨.int .i64,1,8,[.int .i64 0]⟩),
 (3,⟨.int .i64,1,8,[.int .i64 0]⟩),
 (4,⟨.bool,1,1,[.bool false]⟩),
 (5,⟨.int .u8,1,1,[.int .u8 0]⟩),
 (6,⟨.int .u8,1,1,[.int .u8 0]⟩),
 (7,⟨.st [(0,2),(1,3),(2,4),(3,6)] [.int .i64,.int .i64,.bool,.int .u8],4,24,[.int .i64 0,.int .i64 0,.bool false,.int .u8 0]⟩),
 (8,⟨.st [(0,2),(1,3),(2,4),(3,6)] [.int .i64,.int .i64,.bool,.int .u8],4,24,[.int .i64 0,.int .i64 0,.bool false,.int .u8 0]⟩),
 (9,⟨.str,1,16,[.string ByteArray.empty]⟩),
 (10,⟨.str,1,16,[.string ByteArray.empty]⟩),
 (11,⟨.str,1,16,[.string ByteArray.empty]⟩),
 (12,⟨.int .u64,1,8,[.int .u64 0]⟩),
 (13,⟨.st [(0,9),(1,12)] [],2,24,[.string ByteArray.empty,.int .u64 0]⟩),
 (14,⟨.st [(0,9),(1,12)] [],2,24,[.string ByteArray.empty,.int .u64 0]⟩),
 (15,⟨.other,1,8,[.pointer none]⟩),
 (16,⟨.other,1,8,[.pointer none]⟩),
 (17,⟨.other,1,8,[.pointer none]⟩),
 (18,⟨.st [(0,17)] [],1,8,[.pointer none]⟩),
 (19,⟨.st [(0,17)] [],1,8,[.pointer none]⟩),
 (20,⟨.ifc,1,16,[.nilIface]⟩),
 (21,⟨.int .i32,1,4,[.int .i32 0]⟩),
 (22,⟨.int .u32,1,4,[.int .u32 0]⟩),
 (23,⟨.sl 9,1,24,[.slice none 0 0]⟩),
 (24,⟨.sl 50,1,24,[.slice none 0 0]⟩),
 (25,⟨.st [(0,23),(1,24)] [],2,48,[.slice none 0 0,.slice none 0 0]⟩),
 (26,⟨.st [(0,23),(1,24)] [],2,48,[.slice none 0 0,.slice none 0 0]⟩),
 (27,⟨.int .i64,1,8,[.int .i64 0]⟩),
 (29,⟨.other,1,8,[.nilFunc]⟩),
 (31,⟨.other,1,8,[.nilFunc]⟩),
 (32,⟨.sl 3,1,24,[.slice none 0 0]⟩),
 (33,⟨.other,1,8,[.nilFunc]⟩),
 (34,⟨.other,1,8,[.nilFunc]⟩),
 (35,⟨.other,1,8,[.nilFunc]⟩),
 (36,⟨.other,1,8,[.pointer none]⟩),
 (37,⟨.st [(0,26),(2,32),(3,23)] [],4,96,[.slice none 0 0,.slice none 0 0,.slice none 0 0,.slice none 0 0]⟩),
 (38,⟨.st [(0,26),(2,32),(3,23)] [],4,96,[.slice none 0 0,.slice none 0 0,.slice none 0 0,.slice none 0 0]⟩),
 (39,⟨.other,1,8,[.nilFunc]⟩),
 (40,⟨.other,1,8,[.nilFunc]⟩),
 (41,⟨.other,1,8,[.nilFunc]⟩),
 (42,⟨.other,1,8,[.nilFunc]⟩),
 (43,⟨.other,1,8,[.nilFunc]⟩),
 (44,⟨.other,1,8,[.nilFunc]⟩),
 (45,⟨.other,1,8,[.nilFunc]⟩),
 (46,⟨.mp 3 54,1,8,[.map none]⟩),
 (47,⟨.other,1,8,[.nilFunc]⟩),
 (48,⟨.other,1,8,[.nilFunc]⟩),
 (49,⟨.st [(0,3),(1,3),(2,3),(3,3)] [.int .i64,.int .i64,.int .i64,.int .i64],4,32,[.int .i64 0,.int .i64 0,.int .i64 0,.int .i64 0]⟩),
 (50,⟨.st [(0,3),(1,3),(2,3),(3,3)] [.int .i64,.int .i64,.int .i64,.int .i64],4,32,[.int .i64 0,.int .i64 0,.int .i64 0,.int .i64 0]⟩),
 (52,⟨.other,1,8,[.nilFunc]⟩),
 (53,⟨.other,1,8,[.nilFunc]⟩),
 (54,⟨.other,1,8,[.nilFunc]⟩),
 (55,⟨.other,1,8,[.nilFunc]⟩),
 (56,⟨.other,1,8,[.nilFunc]⟩),
 (57,⟨.other,1,8,[.nilFunc]⟩),
 (58,⟨.st [(0,3),(1,57)] [],2,16,[.int .i64 0,.nilFunc]⟩),
 (59,⟨.st [(0,3),(1,57)] [],2,16,[.int .i64 0,.nilFunc]⟩),
 (61,⟨.other,1,8,[.nilFunc]⟩),
 (62,⟨.other,1,8,[.nilFunc]⟩),
 (64,⟨.other,1,8,[.nilFunc]⟩),
 (65,⟨.other,1,8,[.nilFunc]⟩),
 (66,⟨.st [(0,3),(1,3)] [.int .i64,.int .i64],2,16,[.int .i64 0,.int .i64 0]⟩),
 (67,⟨.st [(0,3),(1,3)] [.int .i64,.int .i64],2,16,[.int .i64 0,.int .i64 0]⟩),
 (68,⟨.st [(0,67),(2,3)] [.int .i64,.int .i64,.int .i64],3,24,[.int .i64 0,.int .i64 0,.int .i64 0]⟩),
 (69,⟨.st [(0,67),(2,3)] [.int .i64,.int .i64,.int .i64],3,24,[.int .i64 0,.int .i64 0,.int .i64 0]⟩),
 (71,⟨.other,1,8,[.nilFunc]⟩),
 (72,⟨.other,1,8,[.nilFunc]⟩),
 (73,⟨.sl 67,1,24,[.slice none 0 0]⟩),
 (74,⟨.st [(0,32),(1,3),(2,3)] [],3,40,[.slice none 0 0,.int .i64 0,.int .i64 0]⟩),
 (75,⟨.st [(0,32),(1,3),(2,3)] [],3,40,[.slice none 0 0,.int .i64 0,.int .i64 0]⟩),
 (77,⟨.other,1,8,[.nilFunc]⟩),
 (78,⟨.st [(0,3),(1,3)] [.int .i64,.int .i64],2,16,[.int .i64 0,.int .i64 0]⟩),
 (79,⟨.st [(0,3),(1,3)] [.int .i64,.int .i64],2,16,[.int .i64 0,.int .i64 0]⟩),
 (81,⟨.other,1,8,[.nilFunc]⟩),
 (82,⟨.sl 79,1,24,[.slice none 0 0]⟩),
 (84,⟨.other,1,8,[.nilFunc]⟩),
 (85,⟨.other,1,8,[.nilFunc]⟩),
 (86,⟨.sl 153,1,24,[.slice none 0 0]⟩),
 (87,⟨.other,1,8,[.nilFunc]⟩),
 (88,⟨.other,1,8,[.nilFunc]⟩),
 (89,⟨.other,1,8,[.nilFunc]⟩),
 (90,⟨.st [(0,32),(1,32),(2,3),(3,3),(4,3),(5,32)] [],6,96,[.slice none 0 0,.slice none 0 0,.int .i64 0,.int .i64 0,.int .i64 0,.slice none 0 0]⟩),
 (91,⟨.st [(0,32),(1,32),(2,3),(3,3),(4,3),(5,32)] [],6,96,[.slice none 0 0,.slice none 0 0,.int .i64 0,.int .i64 0,.int .i64 0,.slice none 0 0]⟩),
 (93,⟨.other,1,8,[.nilFunc]⟩),
 (95,⟨.other,1,8,[.nilFunc]⟩),
 (96,⟨.other,1,8,[.nilFunc]⟩),
 (97,⟨.sl 171,1,24,[.slice none 0 0]⟩),
 (98,⟨.other,1,8,[.nilFunc]⟩),
 (99,⟨.st [(0,9),(1,32),(2,3)] [],3,48,[.string ByteArray.empty,.slice none 0 0,.int .i64 0]⟩),
 (100,⟨.st [(0,9),(1,32),(2,3)] [],3,48,[.string ByteArray.empty,.slice none 0 0,.int .i64 0]⟩),
 (101,⟨.sl 100,1,24,[.slice none 0 0]⟩),
 (103,⟨.other,1,8,[.nilFunc]⟩),
 (104,⟨.sl 187,1,24,[.slice none 0 0]⟩),
 (106,⟨.other,1,8,[.nilFunc]⟩),
 (107,⟨.other,1,8,[.nilFunc]⟩),
 (108,⟨.other,1,8,[.nilFunc]⟩),
 (109,⟨.other,1,8,[.nilFunc]⟩),
 (110,⟨.st [(0,3),(1,3),(2,3),(3,3)] [.int .i64,.int .i64,.int .i64,.int .i64],4,32,[.int .i64 0,.int .i64 0,.int .i64 0,.int .i64 0]⟩),
 (111,⟨.st [(0,3),(1,3),(2,3),(3,3)] [.int .i64,.int .i64,.int .i64,.int .i64],4,32,[.int .i64 0,.int .i64 0,.int .i64 0,.int .i64 0]⟩),
 (112,⟨.other,1,8,[.nilFunc]⟩),
 (113,⟨.other,1,8,[.nilFunc]⟩),
 (115,⟨.other,1,8,[.nilFunc]⟩),
 (116,⟨.other,1,8,[.nilFunc]⟩),
 (117,⟨.other,1,8,[.nilFunc]⟩),
 (118,⟨.other,1,8,[.nilFunc]⟩),
 (119,⟨.other,1,8,[.nilFunc]⟩),
 (120,⟨.ar 7 3,7,56,[.int .i64 0,.int .i64 0,.int .i64 0,.int .i64 0,.int .i64 0,.int .i64 0,.int .i64 0]⟩),
 (121,⟨.other,1,8,[.nilFunc]⟩),
 (122,⟨.other,1,8,[.nilFunc]⟩),
 (123,⟨.st [] [],0,0,[]⟩),
 (124,⟨.st [] [],0,0,[]⟩),
 (125,⟨.st [(0,32)] [],1,24,[.slice none 0 0]⟩),
 (126,⟨.st [(0,32)] [],1,24,[.slice none 0 0]⟩),
 (127,⟨.other,1,8,[.nilFunc]⟩),
 (128,⟨.other,1,8,[.nilFunc]⟩),
 (129,⟨.other,1,8,[.nilFunc]⟩),
 (130,⟨.other,1,8,[.nilFunc]⟩),
 (131,⟨.st [(0,9),(1,3)] [.str,.int .i64],2,24,[.string ByteArray.empty,.int .i64 0]⟩),
 (132,⟨.st [(0,9),(1,3)] [.str,.int .i64],2,24,[.string ByteArray.empty,.int .i64 0]⟩),
 (133,⟨.other,1,8,[.nilFunc]⟩),
 (134,⟨.other,1,8,[.nilFunc]⟩),
 (135,⟨.other,1,8,[.nilFunc]⟩),
 (136,⟨.other,1,8,[.nilFunc]⟩),
 (137,⟨.ar 6 9,6,96,[.string ByteArray.empty,.string ByteArray.empty,.string ByteArray.empty,.string ByteArray.empty,.string ByteArray.empty,.string ByteArray.empty]⟩),
 (138,⟨.other,1,8,[.nilFunc]⟩),
 (139,⟨.other,1,8,[.nilFunc]⟩),
 (140,⟨.other,1,8,[.nilFunc]⟩),
 (141,⟨.other,1,8,[.nilFunc]⟩),
 (142,⟨.other,1,8,[.nilFunc]⟩),
 (143,⟨.int .u64,1,8,[.int .u64 0]⟩),
 (144,⟨.other,1,8,[.nilFunc]⟩),
 (145,⟨.other,1,8,[.pointer none]⟩),
 (146,⟨.st [(0,26),(2,32)] [],3,72,[.slice none 0 0,.slice none 0 0,.slice none 0 0]⟩),
 (147,⟨.st [(0,26),(2,32)] [],3,72,[.slice none 0 0,.slice none 0 0,.slice none 0 0]⟩),
 (148,⟨.other,1,8,[.nilFunc]⟩),
 (149,⟨.other,1,8,[.nilFunc]⟩),
 (150,⟨.other,1,8,[.nilFunc]⟩),
 (151,⟨.other,1,8,[.nilFunc]⟩),
 (152,⟨.st [(0,3),(1,3),(2,3),(3,3)] [.int .i64,.int .i64,.int .i64,.int .i64],4,32,[.int .i64 0,.int .i64 0,.int .i64 0,.int .i64 0]⟩),
 (153,⟨.st [(0,3),(1,3),(2,3),(3,3)] [.int .i64,.int .i64,.int .i64,.int .i64],4,32,[.int .i64 0,.int .i64 0,.int .i64 0,.int .i64 0]⟩),
 (154,⟨.other,1,8,[.nilFunc]⟩),
 (155,⟨.other,1,8,[.nilFunc]⟩),
 (156,⟨.other,1,8,[.pointer none]⟩),
 (157,⟨.mp 9 3,1,8,[.map none]⟩),
 (158,⟨.st [(0,91),(6,157)] [],7,104,[.slice none 0 0,.slice none 0 0,.int .i64 0,.int .i64 0,.int .i64 0,.slice none 0 0,.map none]⟩),
 (159,⟨.st [(0,91),(6,157)] [],7,104,[.slice none 0 0,.slice none 0 0,.int .i64 0,.int .i64 0,.int .i64 0,.slice none 0 0,.map none]⟩),
 (160,⟨.other,1,8,[.nilFunc]⟩),
 (161,⟨.other,1,8,[.nilFunc]⟩),
 (162,⟨.other,1,8,[.nilFunc]⟩),
 (163,⟨.other,1,8,[.nilFunc]⟩),
 (164,⟨.sl 168,1,24,[.slice none 0 0]⟩),
 (166,⟨.other,1,8,[.nilFunc]⟩),
 (167,⟨.st [(0,100),(3,3)] [],4,56,[.string ByteArray.empty,.slice none 0 0,.int .i64 0,.int .i64 0]⟩),
 (168,⟨.st [(0,100),(3,3)] [],4,56,[.string ByteArray.empty,.slice none 0 0,.int .i64 0,.int .i64 0]⟩),
 (169,⟨.mp 3 3,1,8,[.map none]⟩),
 (170,⟨.st [(0,9),(1,3),(2,91)] [],8,120,[.string ByteArray.empty,.int .i64 0,.slice none 0 0,.slice none 0 0,.int .i64 0,.int .i64 0,.int .i64 0,.slice none 0 0]⟩),
 (171,⟨.st [(0,9),(1,3),(2,91)] [],8,120,[.string ByteArray.empty,.int .i64 0,.slice none 0 0,.slice none 0 0,.int .i64 0,.int .i64 0,.int .i64 0,.slice none 0 0]⟩),
 (173,⟨.other,1,8,[.nilFunc]⟩),
 (174,⟨.other,1,8,[.nilFunc]⟩),
 (175,⟨.other,1,8,[.nilFunc]⟩),
 (176,⟨.other,1,8,[.nilFunc]⟩),
 (177,⟨.other,1,8,[.nilFunc]⟩),
 (178,⟨.other,1,8,[.nilFunc]⟩),
 (179,⟨.sl 5,1,24,[.slice none 0 0]⟩),
 (180,⟨.sl 97,1,24,[.slice none 0 0]⟩),
 (181,⟨.other,1,8,[.nilFunc]⟩),
 (182,⟨.other,1,8,[.nilFunc]⟩),
 (183,⟨.other,1,8,[.nilFunc]⟩),
 (184,⟨.other,1,8,[.nilFunc]⟩),
 (185,⟨.other,1,8,[.nilFunc]⟩),
 (186,⟨.st [(0,9),(1,3),(2,3),(3,3),(4,3),(5,3),(6,3)] [.str,.int .i64,.int .i64,.int .i64,.int .i64,.int .i64,.int .i64],7,64,[.string ByteArray.empty,.int .i64 0,.int .i64 0,.int .i64 0,.int .i64 0,.int .i64 0,.int .i64 0]⟩),
 (187,⟨.st [(0,9),(1,3),(2,3),(3,3),(4,3),(5,3),(6,3)] [.str,.int .i64,.int .i64,.int .i64,.int .i64,.int .i64,.int .i64],7,64,[.string ByteArray.empty,.int .i64 0,.int .i64 0,.int .i64 0,.int .i64 0,.int .i64 0,.int .i64 0]⟩),
 (188,⟨.other,1,8,[.nilFunc]⟩),
 (189,⟨.other,1,8,[.nilFunc]⟩),
 (190,⟨.other,1,8,[.pointer none]⟩),
 (191,⟨.other,1,8,[.nilFunc]⟩),
 (192,⟨.sl 132,1,24,[.slice none 0 0]⟩),
 (193,⟨.st [(0,192)] [],1,24,[.slice none 0 0]⟩),
 (194,⟨.st [(0,192)] [],1,24,[.slice none 0 0]⟩),
 (195,⟨.other,1,8,[.nilFunc]⟩),
 (197,⟨.other,1,8,[.nilFunc]⟩),
 (199,⟨.other,1,8,[.nilFunc]⟩),
 (200,⟨.other,1,8,[.nilFunc]⟩),
 (201,⟨.other,1,8,[.pointer none]⟩),
 (202,⟨.st [(0,201),(1,179)] [],2,32,[.pointer none,.slice none 0 0]⟩),
 (203,⟨.st [(0,201),(1,179)] [],2,32,[.pointer none,.slice none 0 0]⟩),
 (204,⟨.ifc,1,16,[.nilIface]⟩),
 (205,⟨.ifc,1,16,[.nilIface]⟩),
 (207,⟨.other,1,8,[.nilFunc]⟩),
 (208,⟨.other,1,8,[.nilFunc]⟩),
 (209,⟨.sl 69,1,24,[.slice none 0 0]⟩),
 (210,⟨.st [(0,209)] [],1,24,[.slice none 0 0]⟩),
 (211,⟨.st [(0,209)] [],1,24,[.slice none 0 0]⟩),
 (212,⟨.other,1,8,[.nilFunc]⟩),
 (214,⟨.other,1,8,[.nilFunc]⟩),
 (215,⟨.sl 111,1,24,[.slice none 0 0]⟩),
 (216,⟨.other,1,8,[.nilFunc]⟩),
 (217,⟨.sl 32,1,24,[.slice none 0 0]⟩),
 (218,⟨.other,1,8,[.nilFunc]⟩),
 (219,⟨.other,1,8,[.nilFunc]⟩),
 (220,⟨.ar 8 4,8,8,[.bool false,.bool false,.bool false,.bool false,.bool false,.bool false,.bool false,.bool false]⟩),
 (221,⟨.other,1,8,[.nilFunc]⟩),
 (222,⟨.other,1,8,[.nilFunc]⟩),
 (223,⟨.st [(0,3)] [.int .i64],1,8,[.int .i64 0]⟩),
 (224,⟨.st [(0,3)] [.int .i64],1,8,[.int .i64 0]⟩),
 (226,⟨.other,1,8,[.nilFunc]⟩),
 (227,⟨.other,1,8,[.nilFunc]⟩),
 (228,⟨.other,1,8,[.nilFunc]⟩),
 (229,⟨.other,1,8,[.nilFunc]⟩),
 (231,⟨.other,1,8,[.nilFunc]⟩),
 (232,⟨.other,1,8,[.pointer none]⟩),
 (233,⟨.other,1,8,[.nilFunc]⟩),
 (235,⟨.other,1,8,[.nilFunc]⟩),
 (236,⟨.int .u64,1,8,[.int .u64 0]⟩),
 (238,⟨.other,1,8,[.nilFunc]⟩),
 (239,⟨.other,1,8,[.pointer none]⟩),
 (240,⟨.other,1,8,[.pointer none]⟩),
 (241,⟨.other,1,8,[.nilFunc]⟩),
 (242,⟨.other,1,8,[.nilFunc]⟩),
 (243,⟨.other,1,8,[.nilFunc]⟩),
 (244,⟨.other,1,8,[.nilFunc]⟩),
 (245,⟨.other,1,8,[.nilFunc]⟩),
 (246,⟨.ar 24 5,24,24,[.int .u8 0,.int .u8 0,.int .u8 0,.int .u8 0,.int .u8 0,.int .u8 0,.int .u8 0,.int .u8 0,.int .u8 0,.int .u8 0,.int .u8 0,.int .u8 0,.int .u8 0,.int .u8 0,.int .u8 0,.int .u8 0,.int .u8 0,.int .u8 0,.int .u8 0,.int .u8 0,.int .u8 0,.int .u8 0,.int .u8 0,.int .u8 0]⟩),
 (247,⟨.other,1,8,[.nilFunc]⟩),
 (248,⟨.other,1,8,[.nilFunc]⟩),
 (250,⟨.other,1,8,[.nilFunc]⟩),
 (251,⟨.other,1,8,[.pointer none]⟩),
 (252,⟨.other,1,8,[.nilFunc]⟩),
 (253,⟨.other,1,8,[.nilFunc]⟩),
 (254,⟨.other,1,8,[.nilFunc]⟩),
 (255,⟨.other,1,8,[.nilFunc]⟩),
 (256,⟨.other,1,8,[.nilFunc]⟩),
 (257,⟨.other,1,8,[.nilFunc]⟩),
 (258,⟨.ar 20 236,20,160,[.int .u64 0,.int .u64 0,.int .u64 0,.int .u64 0,.int .u64 0,.int .u64 0,.int .u64 0,.int .u64 0,.int .u64 0,.int .u64 0,.int .u64 0,.int .u64 0,.int .u64 0,.int .u64 0,.int .u64 0,.int .u64 0,.int .u64 0,.int .u64 0,.int .u64 0,.int .u64 0]⟩),
 (259,⟨.ar 65 5,65,65,[.int .u8 0,.int .u8 0,.int .u8 0,.int .u8 0,.int .u8 0,.int .u8 0,.int .u8 0,.int .u8 0,.int .u8 0,.int .u8 0,.int .u8 0,.int .u8 0,.int .u8 0,.int .u8 0,.int .u8 0,.int .u8 0,.int .u8 0,.int .u8 0,.int .u8 0,.int .u8 0,.int .u8 0,.int .u8 0,.int .u8 0,.int .u8 0,.int .u8 0,.int .u8 0,.int .u8 0,.int .u8 0,.int .u8 0,.int .u8 0,.int .u8 0,.int .u8 0,.int .u8 0,.int .u8 0,.int .u8 0,.int .u8 0,.int .u8 0,.int .u8 0,.int .u8 0,.int .u8 0,.int .u8 0,.int .u8 0,.int .u8 0,.int .u8 0,.int .u8 0,.int .u8 0,.int .u8 0,.int .u8 0,.int .u8 0,.int .u8 0,.int .u8 0,.int .u8 0,.int .u8 0,.int .u8 0,.int .u8 0,.int .u8 0,.int .u8 0,.int .u8 0,.int .u8 0,.int .u8 0,.int .u8 0,.int .u8 0,.int .u8 0,.int .u8 0,.int .u8 0]⟩),
 (260,⟨.other,1,8,[.nilFunc]⟩),
 (261,⟨.int .i64,1,8,[.int .i64 0]⟩),
 (263,⟨.other,1,8,[.nilFunc]⟩),
 (264,⟨.other,1,8,[.pointer none]⟩),
 (265,⟨.other,1,8,[.nilFunc]⟩),
 (266,⟨.other,1,8,[.nilFunc]⟩),
 (267,⟨.other,1,8,[.nilFunc]⟩),
 (269,⟨.other,1,8,[.nilFunc]⟩),
 (270,⟨.other,1,8,[.nilFunc]⟩),
 (271,⟨.st [(0,9),(1,9),(2,205)] [],3,48,[.string ByteArray.empty,.string ByteArray.empty,.nilIface]⟩),
 (272,⟨.st [(0,9),(1,9),(2,205)] [],3,48,[.string ByteArray.empty,.string ByteArray.empty,.nilIface]⟩),
 (273,⟨.other,1,8,[.nilFunc]⟩),
 (274,⟨.ar 32 5,32,32,[.int .u8 0,.int .u8 0,.int .u8 0,.int .u8 0,.int .u8 0,.int .u8 0,.int .u8 0,.int .u8 0,.int .u8 0,.int .u8 0,.int .u8 0,.int .u8 0,.int .u8 0,.int .u8 0,.int .u8 0,.int .u8 0,.int .u8 0,.int .u8 0,.int .u8 0,.int .u8 0,.int .u8 0,.int .u8 0,.int .u8 0,.int .u8 0,.int .u8 0,.int .u8 0,.int .u8 0,.int .u8 0,.int .u8 0,.int .u8 0,.int .u8 0,.int .u8 0]⟩),
 (275,⟨.ar 64 5,64,64,[.int .u8 0,.int .u8 0,.int .u8 0,.int .u8 0,.int .u8 0,.int .u8 0,.int .u8 0,.int .u8 0,.int .u8 0,.int .u8 0,.int .u8 0,.int .u8 0,.int .u8 0,.int .u8 0,.int .u8 0,.int .u8 0,.int .u8 0,.int .u8 0,.int .u8 0,.int .u8 0,.int .u8 0,.int .u8 0,.int .u8 0,.int .u8 0,.int .u8 0,.int .u8 0,.int .u8 0,.int .u8 0,.int .u8 0,.int .u8 0,.int .u8 0,.int .u8 0,.int .u8 0,.int .u8 0,.int .u8 0,.int .u8 0,.int .u8 0,.int .u8 0,.int .u8 0,.int .u8 0,.int .u8 0,.int .u8 0,.int .u8 0,.int .u8 0,.int .u8 0,.int .u8 0,.int .u8 0,.int .u8 0,.int .u8 0,.int .u8 0,.int .u8 0,.int .u8 0,.int .u8 0,.int .u8 0,.int .u8 0,.int .u8 0,.int .u8 0,.int .u8 0,.int .u8 0,.int .u8 0,.int .u8 0,.int .u8 0,.int .u8 0,.int .u8 0]⟩),
 (276,⟨.other,1,8,[.nilFunc]⟩),
 (277,⟨.other,1,8,[.pointer none]⟩),
 (278,⟨.st [(0,9)] [.str],1,16,[.string ByteArray.empty]⟩),
 (279,⟨.st [(0,9)] [.str],1,16,[.string ByteArray.empty]⟩),
 (280,⟨.st [(0,17),(1,17),(2,17),(3,9)] [],4,40,[.pointer none,.pointer none,.pointer none,.string ByteArray.empty]⟩),
 (281,⟨.st [(0,17),(1,17),(2,17),(3,9)] [],4,40,[.pointer none,.pointer none,.pointer none,.string ByteArray.empty]⟩),
 (282,⟨.ar 0 16,0,0,[]⟩),
 (283,⟨.st [(0,282)] [],0,0,[]⟩),
 (284,⟨.st [(0,282)] [],0,0,[]⟩),
 (285,⟨.int .u8,1,1,[.int .u8 0]⟩),
 (286,⟨.int .u8,1,1,[.int .u8 0]⟩),
 (287,⟨.other,1,8,[.nilFunc]⟩),
 (288,⟨.int .i32,1,4,[.int .i32 0]⟩),
 (289,⟨.int .i32,1,4,[.int .i32 0]⟩),
 (290,⟨.st [(0,12),(1,12),(2,22),(3,285),(4,5),(5,5),(6,286),(7,287),(8,239),(9,288),(10,289)] [],11,48,[.int .u64 0,.int .u64 0,.int .u32 0,.int .u8 0,.int .u8 0,.int .u8 0,.int .u8 0,.nilFunc,.pointer none,.int .i32 0,.int .i32 0]⟩),
 (291,⟨.st [(0,12),(1,12),(2,22),(3,285),(4,5),(5,5),(6,286),(7,287),(8,239),(9,288),(10,289)] [],11,48,[.int .u64 0,.int .u64 0,.int .u32 0,.int .u8 0,.int .u8 0,.int .u8 0,.int .u8 0,.nilFunc,.pointer none,.int .i32 0,.int .i32 0]⟩)]
set_option maxRecDepth 100000 in
theorem zqI:tab.map (fun p=>tiOf Tryz.prog p.1)=tab.map (fun p=>some p.2):=by kernel_rfl
theorem znj:tab.all (fun p=>zjU p.2)=true:=by kernel_rfl
def Tt:TT:=fun T=>lk T tab
theorem hTt:Tt.ok Tryz.prog:=zqH zqI znj
theorem hMix:Tryz.prog.follows .mixedOrders=true:=by kernel_rfl
end Go.Proofs.YtdgkljfpaddfpaaGreatDoor
namespace Go.Proofs.YtdgkljfpaddfpaaGreatDoor
open Go Go.QL
theorem zay {p:Prop} (h:p):Gd none p:=h
theorem ze {gd:Option Bool} {p:Prop} (h:p):Gd gd p:=by
 cases gd with
 | none=>exact h
 | some c=>exact fun _=>h
theorem zqb {c:Bool}:Gd (some c) (c=true):=fun h=>h
theorem zax {c:Bool} {p:Prop} (h:c=true→p):Gd (some c) p:=h
theorem zn {α β : Type} {f : α→β} {l:List α} {i:Nat} (h:i < l.length):(l.map f)[((i:Int)).toNat]?=some (f l[i]):=by
 simp [h]
theorem zh {α β : Type} {f : α→β} {l:List α} {n:Int} (h0:0≤n) (h:n.toNat < l.length):(l.map f)[n.toNat]?=some (f (l[n.toNat]'h)):=by
 simp [h]
theorem map_some {α β : Type} {f : α→β} {l:List α} {i:Nat} {x : α} (h:l[i]?=some x):(l.map f)[((i:Int)).toNat]?=some (f x):=by simp [h]
theorem zgb {α β : Type} {f : α→β} {l:List α} {i:Int} {x : α} (h:l[i.toNat]?=some x):(l.map f)[i.toNat]?=some (f x):=by simp [h]
theorem andA {p q:Prop} (hq:q) (hp:p:=by first|exact trivial|rfl|exact zqb|exact ze (by omega)|exact fun h=>h|decide|(constructor <;> simp [zO,maxLen];done)|(intro h;simpa using h)):p∧q:=⟨hp,hq⟩
theorem ivE {k:IntKind} {a b:Int} (h:a=b):some (iv k a)=some (iv k b):=by rw [h]
theorem oE {c st n m:Nat} (h:n=m):some (AV.x (.o c st n))=some (AV.x (.o c st m)):=by rw [h]
theorem chE {e:TypeId} {sz st:Nat} {l m:List (List PV)} (h:l=m):some (Ob.chain e sz st l)=some (Ob.chain e sz st m):=by rw [h]
theorem impA {Γ:Cx} {fr fr':Fr} {σ σ':Sg}
  (hf:SubF fr fr':=by repeat' (first|exact trivial|refine And.intro ?_ ?_|exact chE (by assumption)|rfl|exact ivE (by first|omega|(simp only [List.length_map,List.length_append,List.length_singleton] <;> omega))|exact oE (by first|omega|(simp only [List.length_map,List.length_append,List.length_singleton] <;> omega))))
  (hs:SubS σ σ':=by repeat' (first|exact trivial|refine And.intro ?_ ?_|exact chE (by assumption)|rfl|exact ivE (by first|omega|(simp only [List.length_map,List.length_append,List.length_singleton] <;> omega))|exact oE (by first|omega|(simp only [List.length_map,List.length_append,List.length_singleton] <;> omega))))
  (hr:(rsFr σ' fr' && rsSg σ' σ')=true:=by kernel_rfl) (hB:zbC Γ.ids σ'=true:=by kernel_rfl) (hD:ziL Γ.dfs σ σ'=true:=by kernel_rfl):Imp Γ fr σ fr' σ':=Imp.forget hf hs hr hB hD
def asc (l:List (Nat × Nat)) (i:Nat):Nat:=match lk i l with
 | some j=>j
 | none=>i
def sl (l:List Int):AV:=.x (.d (.s 1 (l.map fun n=>[.v (.int .i64 n)])))
def zR (l:List Int):PV:=.s 1 (l.map fun n=>[.v (.int .i64 n)])
def i64 (n:Int):Prop:=-9223372036854775808≤n∧n≤9223372036854775807
end Go.Proofs.YtdgkljfpaddfpaaGreatDoor
namespace Go.Proofs.YtdgkljfpaddfpaaGreatDoor
open Go Go.QL
section
variable {P:Program} {Γ:Cx} {fr:Fr} {σ:Sg} {Q:Exit→Fr→Sg→Prop}
theorem zaf {b:Bool} {P:Prop} (h:b=true):b=false→P:=fun e=>by rw [h] at e;cases e
theorem zM {b:Bool} {P:Prop} (h:b=false):b=true→P:=fun e=>by rw [h] at e;cases e
theorem zu {a b:Bool} (h1:a=true) (h2:b=true):(a && b)=true:=by rw [h1,h2];rfl
theorem zw {a b:Bool} (h1:a=true) (h2:b=false):(a && !b)=true:=by rw [h1,h2];rfl
theorem zx {a b:Bool} (h1:a=false) (h2:b=false):(!a && !b)=true:=by rw [h1,h2];rfl
theorem zE {b:Bool} (h:b=false):(!b)=true:=by rw [h];rfl
theorem zso {c:Operand} {x y:Code} {b:Bool} {p q:Prop} (hc:ev fr c=some (none,bv b)) (ht:p→AW P Γ x Q fr σ) (hf:q→AW P Γ y Q fr σ)
  (hp:b=true→p:=by intro h;first|(replace h:=of_decide_eq_true h;(try simp only [List.length_map] at h);exact h)|(simp only [List.length_map,bne_iff_ne,ne_eq,beq_iff_eq,bne_eq_false_iff_eq,beq_eq_false_iff_ne,decide_eq_true_eq,decide_eq_false_iff_not,Bool.not_eq_true',Bool.not_eq_false',Int.natCast_inj] at h;exact h)|exact h)
  (hq:b=false→q:=by intro h;first|(replace h:=of_decide_eq_false h;(try simp only [List.length_map] at h);exact h)|(simp only [List.length_map,bne_iff_ne,ne_eq,beq_iff_eq,bne_eq_false_iff_eq,beq_eq_false_iff_ne,decide_eq_true_eq,decide_eq_false_iff_not,Bool.not_eq_true',Bool.not_eq_false',Int.natCast_inj] at h;exact h)|exact h):AW P Γ (.cond c x y) Q fr σ:=
 za hc (fun h=>ht (hp h)) (fun h=>hf (hq h))
theorem zst {c:Operand} {x y:Code} (hc:ev fr c=some (none,bv true)) (h:AW P Γ x Q fr σ):AW P Γ (.cond c x y) Q fr σ:=za hc (fun _=>h) (fun e=>nomatch e)
theorem zss {c:Operand} {x y:Code} (hc:ev fr c=some (none,bv false)) (h:AW P Γ y Q fr σ):AW P Γ (.cond c x y) Q fr σ:=za hc (fun e=>nomatch e) (fun _=>h)
theorem zsu {c:Operand} {x y:Code} {b:Bool} (hc:ev fr c=some (none,bv b)) (h:AW P Γ x Q fr σ) (hb:¬(b=false):=by decide):AW P Γ (.cond c x y) Q fr σ:=za hc (fun _=>h) (fun e=>absurd e hb)
theorem zsv {c:Operand} {x y:Code} {b:Bool} (hc:ev fr c=some (none,bv b)) (h:AW P Γ y Q fr σ) (hb:¬(b=true):=by decide):AW P Γ (.cond c x y) Q fr σ:=za hc (fun e=>absurd e hb) (fun _=>h)
theorem zsq {n:Int} {G:Int→Prop} (hG:G n) (h : -9223372036854775808≤n∧n≤9223372036854775807:=by first|omega|(simp only [List.length_map];omega)):∃ r,IntKind.i64.wrap n=r∧G r:=⟨n,zg h,hG⟩
theorem lnA {p q G:Prop} (h:q→G) (e:p=q:=by conv=>{ lhs;(first|rewrite [List.length_map]|skip);unfold maxLen } <;> exact rfl):p→G:=fun x=>h (e ▸ x)
theorem pkA {p q:Prop} (hq:q) (hp:p:=by first|(exact trivial)|(exact fun h=>h)|(exact zu)|(exact zw)|(exact zx)|(exact zE)|(exact fun h _=>h)):p∧q:=⟨hp,hq⟩
theorem abA {p G:Prop} (h:p) (n:¬p:=by omega):G:=absurd h n
theorem zsn {f:FuncId} {args:List AV} {r:AV} {G:AV→Sg→Prop} (h:FnC P f args r) (hG:G r σ) (hp:args.all zf6=true:=by exact rfl) (hr:zf6 r=true:=by exact rfl) :
  ∃ R,ACall P f args σ R∧∀ rv σ',R rv σ'→G rv σ':=⟨_,h.call hp hr,by rintro _ _ ⟨rfl,rfl⟩;exact hG⟩
theorem zsp {ι : Sort _} {s : ι→Sg} {f:FuncId} {args:List AV} {r:AV} {G:AV→Prop} (h:FnC P f args r) (hG:G r) (hp:args.all zf6=true:=by exact rfl) (hr:zf6 r=true:=by exact rfl) :
  ∃ rv,(∀ i : ι,ACall P f args (s i) fun r' σ'=>r'=rv∧σ'=s i)∧G rv:=⟨_,fun _=>h.call hp hr,hG⟩
theorem zsr {ι κ : Sort _} {s : ι→κ→Sg} {f:FuncId} {args:List AV} {r:AV} {G:AV→Prop} (h:FnC P f args r) (hG:G r) (hp:args.all zf6=true:=by exact rfl) (hr:zf6 r=true:=by exact rfl) :
  ∃ rv,(∀ (i : ι) (j : κ),ACall P f args (s i j) fun r' σ'=>r'=rv∧σ'=s i j)∧G rv:=⟨_,fun _ _=>h.call hp hr,hG⟩
theorem frA {f:FuncId} {args args':List AV} {σ0 σ1:Sg} {r1:AV} {G:AV→Sg→Prop} (h:ACall P f args σ0 fun r σ'=>r=r1∧σ'=σ1) (l:List (Nat × Nat)) (hG:G (rnAV (asc l) r1) (after (asc l) σ0 σ1 σ))
  (ha:args.map (rnAV (asc l))=args':=by exact rfl) (hl:SubR (asc l) σ σ0:=by repeat (first|exact trivial|refine⟨rfl,?_⟩)) (hc:(args.all (zeR σ0) && rsSg σ0 σ0 && injK (asc l) (σ0.map (·.1)))=true:=by exact rfl)
  (hn:zdN (asc l) σ0 σ1 σ=true:=by exact rfl):∃ R,ACall P f args' σ R∧∀ rv σ',R rv σ'→G rv σ':=
 ⟨_,ha ▸ h.frame (asc l) hl hc (by rintro _ _ ⟨rfl,rfl⟩;exact hn),by rintro _ _ ⟨_,_,⟨rfl,rfl⟩,rfl,rfl⟩;exact hG⟩
theorem exA {α β : Type} {f : α→β} {l:List α} {i:Nat} {gd:Option Bool} {p:Prop} {G : β→Prop} (hG:∀ h:i < l.length,G (f (l[i]'h))) (h:i < l.length:=by omega) (hp:p:=by omega) :
  ∃ x,Gd gd (p∧(l.map f)[((i:Int)).toNat]?=some x)∧G x:=⟨_,ze ⟨hp,zn h⟩,hG h⟩
end
theorem regA {Γ:Cx} {fr:Fr} {σ:Sg} {Q:Exit→Fr→Sg→Prop} {id:Nat} {ops:List Oper} (h:zah Tryz.prog Tt Γ.nt ops (Q .normal) ops fr σ):AW Tryz.prog Γ (.region id ops.toArray false) Q fr σ:=zb hTt h
theorem drA {Γ:Cx} {fr:Fr} {σ:Sg} {Q:Exit→Fr→Sg→Prop} (m:Nat) (ob:Bool) (ms:List Nat) {id:Nat} {ops:List Oper} (h:vcDr Tryz.prog Tt Γ.nt ops ob ms fr σ (fun fr' σ'=>zah Tryz.prog Tt Γ.nt ops (Q .normal) (ops.drop m) fr' σ') (ops.take m) [] 0 fr σ)
  (hms:zbe ms m ops 0=true:=by kernel_rfl) (hlen:Nat.ble m ops.length=true:=by exact rfl) (hds:zc2 (ops.take m) []=true:=by exact rfl) (hrd:zcn ops ms (ops.take m) (ops.take m) 0=true:=by kernel_rfl):AW Tryz.prog Γ (.region id ops.toArray true) Q fr σ:=
 zl hTt hMix m ob ms hms hlen hds hrd h
theorem drM {Γ:Cx} {fr:Fr} {σ:Sg} {Q:Exit→Fr→Sg→Prop} (m:Nat) (ls:List Nat) (ob:Bool) (ms:List Nat) {id:Nat} {ops:List Oper} {om:Oper}
  (h:vcDr Tryz.prog Tt Γ.nt ops ob ms fr σ (fun fr' σ'=>zah Tryz.prog Tt Γ.nt ops (fun fr2 σ2=>LateGo om.dst fr2 (zcj (zcx ops ls) fr') fun v=>
   zfQ Tryz.prog Tt Γ.nt ops fr' σ2 (zah Tryz.prog Tt Γ.nt ops (Q .normal) (ops.drop (m+1)) (zbl om.dst v fr') σ2) ls) [om] (zcj (zcx ops ls) fr') σ') (ops.take m) [] 0 fr σ)
  (hms:zbe ms (m+1) ops 0=true:=by kernel_rfl) (hlen:Nat.ble (m+1) ops.length=true:=by exact rfl) (hds:zc2 (ops.take (m+1)) []=true:=by exact rfl) (hrd:zcn ops ms (ops.take m) (ops.take m) 0=true:=by kernel_rfl)
  (hom:ops[m]?=some om:=by exact rfl) (hmm:((List.range m).all fun b=>Nat.testBit (ms.getD m 0) b || ls.any (Nat.beq b))=true:=by kernel_rfl) (hls:zj8 ops ms m om.dst ls=true:=by kernel_rfl):AW Tryz.prog Γ (.region id ops.toArray true) Q fr σ:=
 zW hTt hMix m ls ob ms om hms hlen hds hrd hom hmm hls h
theorem hdC {f:FuncId} {fn:Func} {c:Code} {args:List AV} {r:AV} {res:List ResultVar} {nt:Nat} {fr:Fr} (hf:Tryz.prog.funcs[f]?=some fn) (hnt:fn.ntmps=nt)
  (h:∀ w0 K0,AW Tryz.prog (Cx.lone w0 K0 nt) c (Post Tt res r) fr []) (hb:fn.body=some c:=by exact rfl) (hname:(fn.name == "runtime.NumGoroutine")=false:=by kernel_rfl) (hres:fn.results=res.toArray:=by exact rfl) (hle:args.length≤nt:=by simp) (he:entry 0 args=fr:=by dsimp only [entry] <;> exact rfl):FnC Tryz.prog f args r:=
 zj hTt hf hb hname hres hnt hle fun w0 K0=>he ▸ h w0 K0
theorem hdD {f:FuncId} {fn:Func} {c:Code} {args:List AV} {σ:Sg} {R:AV→Sg→Prop} {res:List ResultVar} {nt:Nat} {fr:Fr} (hf:Tryz.prog.funcs[f]?=some fn) (hnt:fn.ntmps=nt)
  (h:∀ w0 K0 B,AW Tryz.prog ⟨w0,K0,nt,B,σ.map (·.1),none,[],[]⟩ c (zqs Tt res (σ.map (·.1)) R) fr σ) (hb:fn.body=some c:=by exact rfl) (hname:(fn.name == "runtime.NumGoroutine")=false:=by kernel_rfl) (hres:fn.results=res.toArray:=by exact rfl) (hle:args.length≤nt:=by simp) (he:entry 0 args=fr:=by dsimp only [entry] <;> exact rfl):ACall Tryz.prog f args σ R:=
 zp hTt hf hb hname hres hnt hle fun w0 K0 B=>he ▸ h w0 K0 B
theorem zsw {p:Prop} (h:p:=by first|rfl|exact ivE (by first|omega|(simp only [List.length_map,List.length_append,List.length_singleton] <;> omega))|exact oE (by first|omega|(simp only [List.length_map,List.length_append,List.length_singleton] <;> omega))):p:=h
theorem impX {Γ:Cx} {fr fr':Fr} {σ σ':Sg} (h:SubF fr fr'∧SubS σ σ') (hr:(rsFr σ' fr' && rsSg σ' σ')=true:=by kernel_rfl) (hB:zbC Γ.ids σ'=true:=by kernel_rfl) (hD:ziL Γ.dfs σ σ'=true:=by kernel_rfl):Imp Γ fr σ fr' σ':=Imp.forget h.1 h.2 hr hB hD
end Go.Proofs.YtdgkljfpaddfpaaGreatDoor
namespace FoT
structure FNode where
 kind:Int
 var:Int
 num:Int
 places:Int
deriving DecidableEq
abbrev Bs8:=List UInt8
def zaM (c:UInt8):Bool:=(97≤c && c≤122) || (65≤c && c≤90) || (48≤c && c≤57) || c == 95 || c == 46
def zc7:Option (Nat × Bs8)→List (Nat × Bs8)
 | none=>[]
 | some p=>[p]
def tk:Nat→Option (Nat × Bs8)→Bs8→List (Nat × Bs8)
 | at_,st,[]=>zc7 st ++ [(at_,[])]
 | at_,st,c::r=>
  if zaM c then
   match st with
   | none=>tk (at_+1) (some (at_,[c])) r
   | some (a,w)=>tk (at_+1) (some (a,w ++ [c])) r
  else zc7 st ++ (if c=32 then [] else [(at_,[c])]) ++ tk (at_+1) none r
structure PS where
 toks:List (Nat × Bs8)
 vars:List Bs8
 code:List FNode
deriving DecidableEq
def zg2 (first:Bool) (c:UInt8):Bool:=(97≤c && c≤122) || (!first && ((48≤c && c≤57) || c == 95))
def z7:Bool→Bs8→Bool
 | _,[]=>true
 | f,c::r=>zg2 f c && z7 false r
def zbb (l:Bs8):Bool:=decide (1≤l.length) && decide (l.length≤20) && !(l.getLastD 0 == 95) && z7 true l
def digs:Nat→Bs8→Option Nat
 | acc,[]=>some acc
 | acc,c::r=>if 48≤c.toNat∧c.toNat≤57 then digs (10 * acc+(c.toNat - 48)) r else none
def zaW (t:Bs8):Option FNode:=
 match t with
 | a::b::ds=>
  if a=48∧b=46∧1≤ds.length∧ds.length≤6 then
   match digs 0 ds with
   | some n=>if ds.length=1∨n % 10≠0 then some ⟨2,0,n,ds.length⟩ else none
   | none=>none
  else none
 | _=>none
def idxB:List Bs8→Bs8→Nat→Option Nat
 | [],_,_=>none
 | v::r,t,i=>if v=t then some i else idxB r t (i+1)
def zen (vars:List Bs8) (t:Bs8):Option (FNode × List Bs8):=
 if zbb t then
  match idxB vars t 0 with
  | some i=>some (⟨1,i,0,0⟩,vars)
  | none=>some (⟨1,vars.length,0,0⟩,vars ++ [t])
 else match zaW t with
  | some n=>some (n,vars)
  | none=>none
def opN (k:Int):FNode:=⟨k,0,0,0⟩
abbrev Rs:=Option (Except Nat PS)
mutual
def opM:Nat→PS→Rs
 | 0,_=>none
 | k+1,st=>
  match st.toks with
  | []=>some (.error 0)
  | (a,t)::rest=>
   if t=[40] then
    match sumM k ⟨rest,st.vars,st.code⟩ with
    | none=>none
    | some (.error e)=>some (.error e)
    | some (.ok st')=>
     match st'.toks with
     | []=>some (.error 0)
     | (a',t')::rest'=>if t'=[41] then some (.ok ⟨rest',st'.vars,st'.code⟩) else some (.error a')
   else match zen st.vars t with
    | none=>some (.error a)
    | some (n,vs)=>some (.ok ⟨rest,vs,st.code ++ [n]⟩)
def zaY:Nat→PS→Rs
 | 0,_=>none
 | k+1,st=>
  match opM k st with
  | none=>none
  | some (.error e)=>some (.error e)
  | some (.ok st')=>zcb k st'
def zcb:Nat→PS→Rs
 | 0,_=>none
 | k+1,st=>
  match st.toks with
  | []=>some (.error 0)
  | (_,t)::rest=>
   if t=[42] then
    match opM k ⟨rest,st.vars,st.code⟩ with
    | none=>none
    | some (.error e)=>some (.error e)
    | some (.ok st')=>zcb k ⟨st'.toks,st'.vars,st'.code ++ [opN 5]⟩
   else some (.ok st)
def sumM:Nat→PS→Rs
 | 0,_=>none
 | k+1,st=>
  match zaY k st with
  | none=>none
  | some (.error e)=>some (.error e)
  | some (.ok st')=>sumT k st'
def sumT:Nat→PS→Rs
 | 0,_=>none
 | k+1,st=>
  match st.toks with
  | []=>some (.error 0)
  | (_,t)::rest=>
   if t=[43]∨t=[45] then
    match zaY k ⟨rest,st.vars,st.code⟩ with
    | none=>none
    | some (.error e)=>some (.error e)
    | some (.ok st')=>sumT k ⟨st'.toks,st'.vars,st'.code ++ [opN (if t=[45] then 4 else 3)]⟩
   else some (.ok st)
end
theorem mono:∀ k:Nat,(∀ st r,opM k st=some r→opM (k+1) st=some r)∧(∀ st r,zaY k st=some r→zaY (k+1) st=some r)∧(∀ st r,zcb k st=some r→zcb (k+1) st=some r) ∧
  (∀ st r,sumM k st=some r→sumM (k+1) st=some r)∧∀ st r,sumT k st=some r→sumT (k+1) st=some r:=by
 intro k;induction k with
 | zero=>exact⟨fun _ _ h=>by simp [opM] at h,fun _ _ h=>by simp [zaY] at h,fun _ _ h=>by simp [zcb] at h,fun _ _ h=>by simp [sumM] at h,fun _ _ h=>by simp [sumT] at h⟩
 | succ k ih=>
  obtain⟨h1,h2,h3,h4,h5⟩:=ih;refine⟨fun st r h=>?_,fun st r h=>?_,fun st r h=>?_,fun st r h=>?_,fun st r h=>?_⟩
  ·rw [opM] at h ⊢;cases ht:st.toks with
   | nil=>rw [ht] at h;exact h
   | cons p rest=>
    obtain⟨a,t⟩:=p;rw [ht] at h;dsimp only at h ⊢;by_cases hc:t=[40]
    ·rw [if_pos hc] at h ⊢;cases hs:sumM k ⟨rest,st.vars,st.code⟩ with
     | none=>rw [hs] at h;cases h
     | some x=>rw [h4 _ _ hs];rw [hs] at h;exact h
    ·rw [if_neg hc] at h ⊢;exact h
  ·rw [zaY] at h ⊢;cases hs:opM k st with
   | none=>rw [hs] at h;cases h
   | some x=>
    rw [h1 _ _ hs];rw [hs] at h;cases x with
    | error e=>exact h
    | ok st'=>exact h3 _ _ h
  ·rw [zcb] at h ⊢;cases ht:st.toks with
   | nil=>rw [ht] at h;exact h
   | cons p rest=>
    obtain⟨a,t⟩:=p;rw [ht] at h;dsimp only at h ⊢;by_cases hc:t=[42]
    ·rw [if_pos hc] at h ⊢;cases hs:opM k ⟨rest,st.vars,st.code⟩ with
     | none=>rw [hs] at h;cases h
     | some x=>
      rw [h1 _ _ hs];rw [hs] at h;cases x with
      | error e=>exact h
      | ok st'=>exact h3 _ _ h
    ·rw [if_neg hc] at h ⊢;exact h
  ·rw [sumM] at h ⊢;cases hs:zaY k st with
   | none=>rw [hs] at h;cases h
   | some x=>
    rw [h2 _ _ hs];rw [hs] at h;cases x with
    | error e=>exact h
    | ok st'=>exact h5 _ _ h
  ·rw [sumT] at h ⊢;cases ht:st.toks with
   | nil=>rw [ht] at h;exact h
   | cons p rest=>
    obtain⟨a,t⟩:=p;rw [ht] at h;dsimp only at h ⊢;by_cases hc:t=[43]∨t=[45]
    ·rw [if_pos hc] at h ⊢;cases hs:zaY k ⟨rest,st.vars,st.code⟩ with
     | none=>rw [hs] at h;cases h
     | some x=>
      rw [h2 _ _ hs];rw [hs] at h;cases x with
      | error e=>exact h
      | ok st'=>exact h5 _ _ h
    ·rw [if_neg hc] at h ⊢;exact h
theorem zlU {k k':Nat} (hk:k≤k') {st:PS} {r} (h:opM k st=some r):opM k' st=some r:=by
 induction hk with
 | refl=>exact h
 | step _ ih=>exact (mono _).1 _ _ ih
theorem zhs {k k':Nat} (hk:k≤k') {st:PS} {r} (h:zaY k st=some r):zaY k' st=some r:=by
 induction hk with
 | refl=>exact h
 | step _ ih=>exact (mono _).2.1 _ _ ih
theorem zfq {k k':Nat} (hk:k≤k') {st:PS} {r} (h:zcb k st=some r):zcb k' st=some r:=by
 induction hk with
 | refl=>exact h
 | step _ ih=>exact (mono _).2.2.1 _ _ ih
theorem zjb {k k':Nat} (hk:k≤k') {st:PS} {r} (h:sumM k st=some r):sumM k' st=some r:=by
 induction hk with
 | refl=>exact h
 | step _ ih=>exact (mono _).2.2.2.1 _ _ ih
theorem zfW {k k':Nat} (hk:k≤k') {st:PS} {r} (h:sumT k st=some r):sumT k' st=some r:=by
 induction hk with
 | refl=>exact h
 | step _ ih=>exact (mono _).2.2.2.2 _ _ ih
def okT (n:Nat) (r:Except Nat PS):Prop:=∀ st',r=.ok st'→st'.toks.length≤n
theorem zqB:∀ L:Nat,
  (∀ st,st.toks.length=L→∃ r,opM (4 * L+1) st=some r∧okT (L - 1) r)∧(∀ st,st.toks.length=L→∃ r,zcb (4 * L+1) st=some r∧okT L r) ∧
  (∀ st,st.toks.length=L→∃ r,zaY (4 * L+2) st=some r∧okT (L - 1) r)∧(∀ st,st.toks.length=L→∃ r,sumT (4 * L+1) st=some r∧okT L r) ∧
  (∀ st,st.toks.length=L→∃ r,sumM (4 * L+3) st=some r∧okT (L - 1) r):=by
 intro L;induction L using Nat.strongRecOn with
 | _ L ih=>
  have hop:∀ st,st.toks.length=L→∃ r,opM (4 * L+1) st=some r∧okT (L - 1) r:=by
   intro st hL;rw [opM];cases ht:st.toks with
   | nil=>exact⟨_,rfl,fun _ h=>by cases h⟩
   | cons p rest=>
    obtain⟨a,t⟩:=p;have hl:rest.length=L - 1:=by rw [← hL,ht];simp
    have hL1:1≤L:=by rw [← hL,ht];simp
    dsimp only;by_cases hc:t=[40]
    ·rw [if_pos hc];obtain⟨r,hr,hb⟩:=(ih (L - 1) (by omega)).2.2.2.2 ⟨rest,st.vars,st.code⟩ hl;rw [zjb (k':=4 * L) (by omega) hr];cases r with
     | error e=>exact⟨_,rfl,fun _ h=>by cases h⟩
     | ok st'=>
      have hb:=hb _ rfl;dsimp only;cases ht':st'.toks with
      | nil=>exact⟨_,rfl,fun _ h=>by cases h⟩
      | cons q rest'=>
       obtain⟨a',t'⟩:=q;rw [ht'] at hb;simp only [List.length_cons] at hb;dsimp only;by_cases hc':t'=[41]
       ·rw [if_pos hc'];refine⟨_,rfl,fun st2 h=>?_⟩
        cases h;show rest'.length≤L - 1
        omega
       ·rw [if_neg hc'];exact⟨_,rfl,fun _ h=>by cases h⟩
    ·rw [if_neg hc];cases zen st.vars t with
     | none=>exact⟨_,rfl,fun _ h=>by cases h⟩
     | some p=>
      refine⟨_,rfl,fun st2 h=>?_⟩
      cases h;show rest.length≤L - 1
      omega
  have hpt:∀ st,st.toks.length=L→∃ r,zcb (4 * L+1) st=some r∧okT L r:=by
   intro st hL;rw [zcb];cases ht:st.toks with
   | nil=>exact⟨_,rfl,fun _ h=>by cases h⟩
   | cons p rest=>
    obtain⟨a,t⟩:=p;have hl:rest.length=L - 1:=by rw [← hL,ht];simp
    have hL1:1≤L:=by rw [← hL,ht];simp
    dsimp only;by_cases hc:t=[42]
    ·rw [if_pos hc];obtain⟨r,hr,hb⟩:=(ih (L - 1) (by omega)).1 ⟨rest,st.vars,st.code⟩ hl;rw [zlU (k':=4 * L) (by omega) hr];cases r with
     | error e=>exact⟨_,rfl,fun _ h=>by cases h⟩
     | ok st'=>
      have hb:=hb _ rfl;dsimp only;obtain⟨r2,hr2,hb2⟩:=(ih st'.toks.length (by omega)).2.1 ⟨st'.toks,st'.vars,st'.code ++ [opN 5]⟩ rfl;exact⟨r2,zfq (by omega) hr2,fun st2 h=>by have:=hb2 st2 h;omega⟩
    ·rw [if_neg hc];refine⟨_,rfl,fun st2 h=>?_⟩
     cases h;omega
  have hpm:∀ st,st.toks.length=L→∃ r,zaY (4 * L+2) st=some r∧okT (L - 1) r:=by
   intro st hL;rw [zaY];obtain⟨r,hr,hb⟩:=hop st hL;rw [hr];cases r with
   | error e=>exact⟨_,rfl,fun _ h=>by cases h⟩
   | ok st'=>
    have hb:=hb _ rfl;dsimp only;by_cases h0:L=0
    ·have:st'.toks.length=L:=by omega
     obtain⟨r2,hr2,hb2⟩:=hpt st' this;exact⟨r2,hr2,fun st2 h=>by have:=hb2 st2 h;omega⟩
    ·obtain⟨r2,hr2,hb2⟩:=(ih st'.toks.length (by omega)).2.1 st' rfl;exact⟨r2,zfq (by omega) hr2,fun st2 h=>by have:=hb2 st2 h;omega⟩
  have hst:∀ st,st.toks.length=L→∃ r,sumT (4 * L+1) st=some r∧okT L r:=by
   intro st hL;rw [sumT];cases ht:st.toks with
   | nil=>exact⟨_,rfl,fun _ h=>by cases h⟩
   | cons p rest=>
    obtain⟨a,t⟩:=p;have hl:rest.length=L - 1:=by rw [← hL,ht];simp
    have hL1:1≤L:=by rw [← hL,ht];simp
    dsimp only;by_cases hc:t=[43]∨t=[45]
    ·rw [if_pos hc];obtain⟨r,hr,hb⟩:=(ih (L - 1) (by omega)).2.2.1 ⟨rest,st.vars,st.code⟩ hl;rw [zhs (k':=4 * L) (by omega) hr];cases r with
     | error e=>exact⟨_,rfl,fun _ h=>by cases h⟩
     | ok st'=>
      have hb:=hb _ rfl;dsimp only;obtain⟨r2,hr2,hb2⟩:=(ih st'.toks.length (by omega)).2.2.2.1 ⟨st'.toks,st'.vars,st'.code ++ [opN (if t=[45] then 4 else 3)]⟩ rfl;exact⟨r2,zfW (by omega) hr2,fun st2 h=>by have:=hb2 st2 h;omega⟩
    ·rw [if_neg hc];refine⟨_,rfl,fun st2 h=>?_⟩
     cases h;omega
  refine⟨hop,hpt,hpm,hst,fun st hL=>?_⟩
  rw [sumM];obtain⟨r,hr,hb⟩:=hpm st hL;rw [hr];cases r with
  | error e=>exact⟨_,rfl,fun _ h=>by cases h⟩
  | ok st'=>
   have hb:=hb _ rfl;dsimp only;by_cases h0:L=0
   ·have:st'.toks.length=L:=by omega
    obtain⟨r2,hr2,hb2⟩:=hst st' this;exact⟨r2,zfW (by omega) hr2,fun st2 h=>by have:=hb2 st2 h;omega⟩
   ·obtain⟨r2,hr2,hb2⟩:=(ih st'.toks.length (by omega)).2.2.2.1 st' rfl;exact⟨r2,zfW (by omega) hr2,fun st2 h=>by have:=hb2 st2 h;omega⟩
end FoT
namespace FoT
inductive E where
 | leaf (n:FNode)
 | op (k:Int) (a b:E)
def E.post:E→List FNode
 | .leaf n=>[n]
 | .op k a b=>a.post ++ (b.post ++ [opN k])
def E.binds:E→Nat
 | .leaf _=>3
 | .op k _ _=>if k=5 then 2 else 1
def zca (k:Int):Bs8:=if k=5 then [42] else if k=4 then [45] else [43]
def E.words (tx:FNode→Bs8):E→Nat→List Bs8
 | .leaf n,_=>[tx n]
 | .op k a b,w=>
  let m:=if k=5 then 2 else 1
  let t:=a.words tx m ++ (zca k::b.words tx (m+1))
  if w≤m then t else [40]::(t ++ [[41]])
abbrev wds (l:List (Nat × Bs8)):List Bs8:=l.map (·.2)
def E.good (V:List Bs8) (tx:FNode→Bs8):E→Nat→Nat→Prop
 | .leaf n,u,u'=>u'≤V.length∧tx n≠[40]∧zen (V.take u) (tx n)=some (n,V.take u')
 | .op k a b,u,u'=>(k=3∨k=4∨k=5)∧∃ m,a.good V tx u m∧b.good V tx m u'
section
variable {V:List Bs8} {tx:FNode→Bs8}
def Beg (ws:List Bs8) (toks rest:List (Nat × Bs8)):Prop:=∃ pre,toks=pre ++ rest∧wds pre=ws
theorem Beg.app {w1 w2:List Bs8} {toks rest:List (Nat × Bs8)} (h:Beg (w1 ++ w2) toks rest):∃ mid,Beg w1 toks mid∧Beg w2 mid rest:=by
 obtain⟨pre,rfl,hp⟩:=h;have h1:(pre.take w1.length).map (·.2)=w1:=by
  have:=congrArg (List.take w1.length) hp;simpa [List.map_take] using this
 have h2:(pre.drop w1.length).map (·.2)=w2:=by
  have:=congrArg (List.drop w1.length) hp;simpa [List.map_drop] using this
 exact⟨pre.drop w1.length ++ rest,⟨pre.take w1.length,by rw [← List.append_assoc,List.take_append_drop],h1⟩,⟨_,rfl,h2⟩⟩
theorem Beg.cons {w:Bs8} {ws:List Bs8} {toks rest:List (Nat × Bs8)} (h:Beg (w::ws) toks rest):∃ a mid,toks=(a,w)::mid∧Beg ws mid rest:=by
 obtain⟨pre,rfl,hp⟩:=h;cases pre with
 | nil=>cases hp
 | cons p r=>
  obtain⟨a,t⟩:=p;simp only [wds,List.map_cons,List.cons.injEq] at hp;obtain⟨rfl,hp⟩:=hp;exact⟨a,r ++ rest,rfl,r,rfl,hp⟩
theorem Beg.nil {toks rest:List (Nat × Bs8)} (h:Beg [] toks rest):toks=rest:=by
 obtain⟨pre,rfl,hp⟩:=h;cases pre with
 | nil=>rfl
 | cons _ _=>cases hp
def Not1 (ws:List Bs8) (toks:List (Nat × Bs8)):Prop:=∃ a t r,toks=(a,t)::r∧t ∉ ws
abbrev mulW:List Bs8:=[[42]]
abbrev sumW:List Bs8:=[[43],[45]]
def OpP (V:List Bs8) (tx:FNode→Bs8) (e:E) (u u':Nat):Prop:=∀ toks R code,Beg (e.words tx 3) toks R→∃ k,opM k ⟨toks,V.take u,code⟩=some (.ok ⟨R,V.take u',code ++ e.post⟩)
def zoI (V:List Bs8) (tx:FNode→Bs8) (e:E) (u u':Nat):Prop:=∀ toks R code r k',Beg (e.words tx 2) toks R→zcb k' ⟨R,V.take u',code ++ e.post⟩=some r→∃ k,zaY k ⟨toks,V.take u,code⟩=some r
def SumP (V:List Bs8) (tx:FNode→Bs8) (e:E) (u u':Nat):Prop:=∀ toks R code r k',Beg (e.words tx 1) toks R→Not1 mulW R→sumT k' ⟨R,V.take u',code ++ e.post⟩=some r→∃ k,sumM k ⟨toks,V.take u,code⟩=some r
theorem zgQ {st:PS} (h:Not1 mulW st.toks):zcb 1 st=some (.ok st):=by
 obtain⟨a,t,r,ht,hn⟩:=h;rw [zcb,ht];dsimp only;rw [if_neg (fun e=>hn (by simp [e]))]
theorem zhV {st:PS} (h:Not1 sumW st.toks):sumT 1 st=some (.ok st):=by
 obtain⟨a,t,r,ht,hn⟩:=h;rw [sumT,ht];dsimp only;rw [if_neg (fun e=>hn (by rcases e with e|e <;> simp [e]))]
theorem zgO {e:E} {u u':Nat} (h3:e.words tx 2=e.words tx 3) (h:OpP V tx e u u'):zoI V tx e u u':=by
 intro toks R code r k' hb hr;obtain⟨k,hk⟩:=h toks R code (h3 ▸ hb);refine⟨max k k'+1,?_⟩
 rw [zaY,zlU (Nat.le_max_left _ _) hk];exact zfq (Nat.le_max_right _ _) hr
theorem zfV {e:E} {u u':Nat} (h2:e.words tx 1=e.words tx 2) (h:zoI V tx e u u'):SumP V tx e u u':=by
 intro toks R code r k' hb hn hr;obtain⟨k,hk⟩:=h toks R code _ 1 (h2 ▸ hb) (zgQ (st:=⟨R,V.take u',code ++ e.post⟩) hn);refine⟨max k k'+1,?_⟩
 rw [sumM,zhs (Nat.le_max_left _ _) hk];exact zfW (Nat.le_max_right _ _) hr
theorem zif {e:E} {u u':Nat} (h3:e.words tx 3=[40]::(e.words tx 1 ++ [[41]])) (h:SumP V tx e u u'):OpP V tx e u u':=by
 intro toks R code hb;rw [h3] at hb;obtain⟨a,m1,rfl,hb0⟩:=hb.cons;obtain⟨m2,hb1,hb2⟩:=hb0.app;obtain⟨a2,m3,rfl,hb3⟩:=hb2.cons;obtain rfl:=hb3.nil;have hn1:Not1 mulW ((a2,[41])::m3):=⟨a2,[41],m3,rfl,by decide⟩;have hn2:Not1 sumW ((a2,[41])::m3):=⟨a2,[41],m3,rfl,by decide⟩;obtain⟨k,hk⟩:=h m1 _ code _ 1 hb1 hn1 (zhV (st:=⟨(a2,[41])::m3,V.take u',code ++ e.post⟩) hn2);refine⟨k+1,?_⟩
 rw [opM];dsimp only;rw [if_pos rfl,hk];dsimp only;rw [if_pos rfl]
theorem zfL {k:Int} (h:k≠5) (a b:E) (w:Nat):(E.op k a b).words tx w=if w≤1 then a.words tx 1 ++ (zca k::b.words tx 2) else [40]::((a.words tx 1 ++ (zca k::b.words tx 2)) ++ [[41]]):=by
 rw [E.words];simp only [if_neg h]
theorem zf8:∀ (e:E) (u u':Nat),e.good V tx u u'→OpP V tx e u u'∧zoI V tx e u u'∧SumP V tx e u u'
 | .leaf n,u,u',h=>by
  have ho:OpP V tx (.leaf n) u u':=by
   intro toks R code hb;obtain⟨a,m,rfl,hb0⟩:=Beg.cons hb;obtain rfl:=hb0.nil;refine⟨1,?_⟩
   rw [opM];dsimp only;rw [if_neg h.2.1,h.2.2];rfl
  have hp:=zgO rfl ho;exact⟨ho,hp,zfV rfl hp⟩
 | .op k a b,u,u',h=>by
  obtain⟨hk,m,ha,hb⟩:=h;obtain⟨oa,pa,sa⟩:=zf8 a u m ha;obtain⟨ob,pb,sb⟩:=zf8 b m u' hb;by_cases h5:k=5
  ·subst h5;have hp:zoI V tx (.op 5 a b) u u':=by
    intro toks R code r k' hB hr;have hw:(E.op 5 a b).words tx 2=a.words tx 2 ++ ([42]::b.words tx 3):=rfl;rw [hw] at hB;obtain⟨m1,hB1,hB2⟩:=hB.app;obtain⟨p,m2,rfl,hB3⟩:=hB2.cons;obtain⟨k1,hk1⟩:=ob m2 R (code ++ a.post) hB3;refine pa toks _ code r (max k1 k'+1) hB1 ?_
    rw [zcb];dsimp only;rw [if_pos rfl,zlU (Nat.le_max_left _ _) hk1];dsimp only;refine zfq (Nat.le_max_right _ _) ?_
    rw [← hr];simp [E.post]
   have hs:=zfV rfl hp;exact⟨zif rfl hs,hp,hs⟩
  ·have hs:SumP V tx (.op k a b) u u':=by
    intro toks R code r k' hB hn hr;have hw:(E.op k a b).words tx 1=a.words tx 1 ++ (zca k::b.words tx 2):=by
     rw [zfL h5,if_pos (Nat.le_refl _)]
    rw [hw] at hB;obtain⟨m1,hB1,hB2⟩:=hB.app;obtain⟨p,m2,rfl,hB3⟩:=hB2.cons;obtain⟨k1,hk1⟩:=pb m2 R (code ++ a.post) _ 1 hB3 (zgQ (st:=⟨R,V.take u',(code ++ a.post) ++ b.post⟩) hn);have hsg:zca k=[43]∨zca k=[45]:=by unfold zca;rw [if_neg h5];split <;> simp
    refine sa toks _ code r (max k1 k'+1) hB1 ⟨p,_,m2,rfl,by rcases hsg with e|e <;> rw [e] <;> decide⟩ ?_
    rw [sumT];dsimp only;rw [if_pos hsg,zhs (Nat.le_max_left _ _) hk1];dsimp only;refine zfW (Nat.le_max_right _ _) ?_
    have hkk:(if zca k=[45] then (4:Int) else 3)=k:=by
     rcases hk with rfl|rfl|rfl
     ·decide
     ·decide
     ·exact absurd rfl h5
    rw [hkk,← hr];simp [E.post]
   have h3:∀ w,1 < w→(E.op k a b).words tx w=[40]::((E.op k a b).words tx 1 ++ [[41]]):=by
    intro w hw;rw [zfL h5,zfL h5,if_neg (by omega),if_pos (Nat.le_refl _)]
   have ho:=zif (h3 3 (by omega)) hs;exact⟨ho,zgO ((h3 2 (by omega)).trans (h3 3 (by omega)).symm) ho,hs⟩
end
end FoT
namespace FoT
def rowW (w:Bs8):Prop:=w≠[]∧∀ c ∈ w,zaM c=true
def znE (w:Bs8):Prop:=∃ c,w=[c]∧zaM c=false∧c≠32
def zhY:List Bs8→Prop
 | []=>True
 | w::r=>(rowW w∧(match r with|[]=>True|x::_=>znE x)∨znE w)∧zhY r
theorem zlg:∀ (w:Bs8) (at_ a:Nat) (v r:Bs8),(∀ c ∈ w,zaM c=true)→tk at_ (some (a,v)) (w ++ r)=tk (at_+w.length) (some (a,v ++ w)) r
 | [],at_,a,v,r,_=>by simp
 | c::w,at_,a,v,r,h=>by
  rw [List.cons_append,tk,if_pos (h c (by simp))];show tk (at_+1) (some (a,v ++ [c])) (w ++ r)=_
  rw [zlg w (at_+1) a (v ++ [c]) r (fun x hx=>h x (by simp [hx]))];simp [Nat.add_assoc,Nat.add_comm 1]
theorem zhS (at_:Nat) (p:Nat × Bs8):tk at_ (some p) []=p::tk at_ none []:=rfl
theorem zd5 (at_:Nat) (p:Nat × Bs8) {c:UInt8} (h:zaM c=false) (r:Bs8):tk at_ (some p) (c::r)=p::tk at_ none (c::r):=by
 have e:∀ st,tk at_ st (c::r)=zc7 st ++ (if c=32 then [] else [(at_,[c])]) ++ tk (at_+1) none r:=fun st=>by
  cases st <;> simp [tk,h]
 rw [e,e];rfl
theorem zhd:∀ (ws:List Bs8) (at_:Nat),zhY ws→∃ pre N,tk at_ none ws.flatten=pre ++ [(N,[])]∧wds pre=ws
 | [],at_,_=>⟨[],at_,rfl,rfl⟩
 | w::r,at_,h=>by
  obtain⟨hw,hr⟩:=h;rcases hw with ⟨⟨hne,hrow⟩,hnx⟩|⟨c,rfl,hc,h32⟩
  ·cases w with
   | nil=>exact absurd rfl hne
   | cons c w=>
    have e1:tk at_ none ((c::w) ++ r.flatten)=tk (at_+1+w.length) (some (at_,c::w)) r.flatten:=by
     rw [List.cons_append,tk,if_pos (hrow c (by simp))];show tk (at_+1) (some (at_,[c])) (w ++ r.flatten)=_
     rw [zlg w _ _ _ _ (fun x hx=>hrow x (by simp [hx]))];rfl
    rw [List.flatten_cons,e1];cases r with
    | nil=>exact⟨[(at_,c::w)],_,rfl,rfl⟩
    | cons x r=>
     obtain⟨d,rfl,hd,hd32⟩:=hnx;obtain⟨pre,N,h1,h2⟩:=zhd ([d]::r) (at_+1+w.length) hr;have e2:([d]::r).flatten=d::r.flatten:=rfl;rw [e2] at h1 ⊢;rw [zd5 _ _ hd,h1];exact⟨(at_,c::w)::pre,N,rfl,by simp [wds] at h2 ⊢;exact h2⟩
  ·have e2:([c]::r).flatten=c::r.flatten:=rfl;rw [e2,tk,if_neg (by rw [hc];exact Bool.noConfusion),if_neg h32];obtain⟨pre,N,h1,h2⟩:=zhd r (at_+1) hr;rw [h1];exact⟨(at_,[c])::pre,N,rfl,by simp [wds] at h2 ⊢;exact h2⟩
theorem zjd {s:Bs8} (hs:znE s) {y:List Bs8} (hy:zhY y):∀ {x:List Bs8},zhY x→zhY (x ++ s::y)
 | [],_=>⟨.inr hs,hy⟩
 | w::r,h=>by
  refine⟨?_,zjd hs hy h.2⟩
  rcases h.1 with ⟨hw,hn⟩|hp
  ·refine .inl ⟨hw,?_⟩
   cases r with
   | nil=>exact hs
   | cons a b=>exact hn
  ·exact .inr hp
theorem zlJ (k:Int):znE (zca k):=by
 unfold zca;split
 ·exact⟨42,rfl,by decide,by decide⟩
 ·split
  ·exact⟨45,rfl,by decide,by decide⟩
  ·exact⟨43,rfl,by decide,by decide⟩
def E.rows (tx:FNode→Bs8):E→Prop
 | .leaf n=>rowW (tx n)
 | .op _ a b=>a.rows tx∧b.rows tx
theorem zf0 {tx:FNode→Bs8}:∀ (e:E) (w:Nat),e.rows tx→zhY (e.words tx w)
 | .leaf n,w,h=>⟨.inl ⟨h,trivial⟩,trivial⟩
 | .op k a b,w,h=>by
  have key:∀ m,zhY (a.words tx m ++ (zca k::b.words tx (m+1))):=fun m=>zjd (zlJ k) (zf0 b _ h.2) (zf0 a _ h.1)
  have all:∀ m,zhY (if w≤m then a.words tx m ++ (zca k::b.words tx (m+1)) else [40]::((a.words tx m ++ (zca k::b.words tx (m+1))) ++ [[41]])):=fun m=>by
   split
   ·exact key _
   ·exact⟨.inr ⟨40,rfl,by decide,by decide⟩,zjd (y:=[]) ⟨41,rfl,by decide,by decide⟩ trivial (key _)⟩
  rw [E.words];exact all _
def E.text (tx:FNode→Bs8) (e:E):Bs8:=(e.words tx 1).flatten
theorem znk {V:List Bs8} {tx:FNode→Bs8} {e:E} {u':Nat} (hg:e.good V tx 0 u') (hr:e.rows tx):∃ k N,sumM k ⟨tk 0 none (e.text tx),[],[]⟩=some (.ok ⟨[(N,[])],V.take u',e.post⟩):=by
 obtain⟨pre,N,h1,h2⟩:=zhd _ 0 (zf0 e 1 hr);have hs:=(zf8 e 0 u' hg).2.2;obtain⟨k,hk⟩:=hs (pre ++ [(N,[])]) [(N,[])] [] _ 1 ⟨pre,rfl,h2⟩ ⟨N,[],[],rfl,by decide⟩ (zhV (st:=⟨[(N,[])],V.take u',[] ++ e.post⟩) ⟨N,[],[],rfl,by decide⟩);refine⟨k,N,?_⟩
 unfold E.text;rw [h1];exact hk
structure FormT where
 vars:List Bs8
 code:List FNode
deriving DecidableEq
def fine (nv:Nat) (n:FNode):Prop:=
 if n.kind=1 then 0≤n.var∧n.var≤(nv:Int) - 1∧n.num=0∧n.places=0
 else if n.kind=2 then n.var=0∧1≤n.places∧n.places≤6∧0≤n.num∧n.num≤10 ^ n.places.toNat - 1∧(n.places=1∨n.num % 10≠0)
 else n.var=0∧n.num=0∧n.places=0
instance (nv:Nat) (n:FNode):Decidable (fine nv n):=by unfold fine;infer_instance
def zbA (nv:Nat) (n:FNode):Int:=if 1≤n.kind∧n.kind≤5 then (if fine nv n then 0 else 7) else 2
structure CS where
 p:Nat
 u:Nat
 b:Bool
deriving DecidableEq
def zbx (nv:Nat) (n:FNode) (s:CS):Except Int CS:=
 if zbA nv n≠0 then .error (zbA nv n)
 else if 3≤n.kind∧s.p < 2 then .error 6
 else
  let p:=(if 3≤n.kind then s.p - 2 else s.p)+1
  if 12 < p then .error 3
  else .ok ⟨p,if n.kind=1∧n.var=s.u then s.u+1 else s.u,s.b && !(decide (n.kind=1) && decide ((s.u:Int) < n.var))⟩
theorem zd7 {nv:Nat} {n:FNode} {s s':CS} (h:zbx nv n s=.ok s'):zbA nv n=0∧¬ (3≤n.kind∧s.p < 2)∧(if 3≤n.kind then s.p - 2 else s.p)+1≤12 ∧
  s'=⟨(if 3≤n.kind then s.p - 2 else s.p)+1,if n.kind=1∧n.var=s.u then s.u+1 else s.u,s.b && !(decide (n.kind=1) && decide ((s.u:Int) < n.var))⟩:=by
 unfold zbx at h;by_cases h1:zbA nv n≠0
 ·rw [if_pos h1] at h;cases h
 rw [if_neg h1] at h;by_cases h2:3≤n.kind∧s.p < 2
 ·rw [if_pos h2] at h;cases h
 rw [if_neg h2] at h;dsimp only at h;generalize (if 3≤n.kind then s.p - 2 else s.p)+1=p at h ⊢;by_cases h3:12 < p
 ·rw [if_pos h3] at h;cases h
 rw [if_neg h3] at h;cases h;exact⟨by simpa using h1,h2,by omega,rfl⟩
theorem zfX {nv:Nat} {n:FNode} {s:CS} {e:Int} (h:zbx nv n s=.error e):e≠0:=by
 unfold zbx at h;by_cases h1:zbA nv n≠0
 ·rw [if_pos h1] at h;cases h;exact h1
 rw [if_neg h1] at h;by_cases h2:3≤n.kind∧s.p < 2
 ·rw [if_pos h2] at h;cases h;decide
 rw [if_neg h2] at h;dsimp only at h;generalize (if 3≤n.kind then s.p - 2 else s.p)+1=p at h;by_cases h3:12 < p
 ·rw [if_pos h3] at h;cases h;decide
 ·rw [if_neg h3] at h;cases h
theorem zfu {nv:Nat} {n:FNode} (h:zbA nv n=0):1≤n.kind∧n.kind≤5∧fine nv n:=by
 unfold zbA at h;by_cases h1:1≤n.kind∧n.kind≤5
 ·rw [if_pos h1] at h;by_cases h2:fine nv n
  ·exact⟨h1.1,h1.2,h2⟩
  ·rw [if_neg h2] at h;cases h
 ·rw [if_neg h1] at h;cases h
def zav (nv:Nat):List FNode→CS→Except Int CS
 | [],s=>.ok s
 | n::r,s=>match zbx nv n s with
  | .error e=>.error e
  | .ok s'=>zav nv r s'
def zaw:List Bs8→List Bs8→Option Int
 | _,[]=>none
 | seen,s::r=>if zbb s=false then some 6 else if s ∈ seen then some 5 else zaw (seen ++ [s]) r
def zD (f:FormT):Int:=
 if 8 < f.vars.length∨¬ (1≤f.code.length∧f.code.length≤40) then 3
 else match zaw [] f.vars with
  | some e=>e
  | none=>match zav f.vars.length f.code ⟨0,0,true⟩ with
   | .error e=>e
   | .ok s=>if s.p≠1 then 6 else if s.b=false∨s.u < f.vars.length then 2 else 0
def chain (V:List Bs8) (tx:FNode→Bs8):List E→Nat→Nat→Prop
 | [],u,u'=>u=u'
 | e::r,u,u'=>∃ m,e.good V tx u m∧chain V tx r m u'
theorem zeB {V:List Bs8} {tx:FNode→Bs8}:∀ {x y:List E} {u u':Nat},chain V tx (x ++ y) u u'↔∃ m,chain V tx x u m∧chain V tx y m u'
 | [],y,u,u'=>by simp [chain]
 | e::r,y,u,u'=>by
  simp only [List.cons_append,chain,zeB (x:=r)];constructor
  ·rintro⟨m,h1,n,h2,h3⟩;exact⟨n,⟨m,h1,h2⟩,h3⟩
  ·rintro⟨n,⟨m,h1,h2⟩,h3⟩;exact⟨m,h1,n,h2,h3⟩
abbrev zlL (l:List E):List FNode:=(l.map E.post).flatten
structure TxOK (V:List Bs8) (tx:FNode→Bs8):Prop where
 var:∀ i:Nat,∀ h:i < V.length,tx ⟨1,i,0,0⟩=V[i]
 const:∀ n:FNode,n.kind=2→fine V.length n→zbb (tx n)=false∧zaW (tx n)=some n
theorem zeK:∀ {r seen:List Bs8},zaw seen r=none→(∀ s ∈ r,zbb s=true)∧(∀ i (h:i < r.length),r[i] ∉ seen∧∀ j (hj:j < i),r[j]≠r[i])
 | [],seen,_=>⟨fun s h=>by simp at h,fun i h=>by simp at h⟩
 | s::r,seen,h=>by
  rw [zaw] at h;split at h
  ·cases h
  ·rename_i hn;split at h
   ·cases h
   ·rename_i hs;obtain⟨h1,h2⟩:=zeK h;refine⟨fun x hx=>?_,fun i hi=>?_⟩
    ·rcases List.mem_cons.1 hx with rfl|hx
     ·simpa using hn
     ·exact h1 x hx
    ·cases i with
     | zero=>exact⟨hs,fun j hj=>absurd hj (Nat.not_lt_zero j)⟩
     | succ i=>
      have hi':i < r.length:=by simpa using hi
      obtain⟨g1,g2⟩:=h2 i hi';simp only [List.getElem_cons_succ];rw [List.mem_append,not_or] at g1;refine⟨g1.1,fun j hj=>?_⟩
      cases j with
      | zero=>exact fun e=>g1.2 (by simp at e ⊢;exact e.symm)
      | succ j=>exact g2 j (by omega)
theorem ziu {t:Bs8}:∀ (l:List Bs8) (j i:Nat),(hi:i < l.length)→l[i]=t→(∀ k (h:k < i),l[k]≠t)→idxB l t j=some (j+i)
 | [],j,i,hi,_,_=>by simp at hi
 | v::r,j,i,hi,ht,hn=>by
  rw [idxB];cases i with
  | zero=>rw [if_pos (by simpa using ht)];rfl
  | succ i=>
   rw [if_neg (by have:=hn 0 (by omega);simpa using this),ziu r (j+1) i (by simpa using hi) (by simpa using ht) (fun k hk=>by have:=hn (k+1) (by omega);simpa using this)];rw [Nat.add_right_comm,Nat.add_assoc]
theorem ziv {t:Bs8}:∀ (l:List Bs8) (j:Nat),t ∉ l→idxB l t j=none
 | [],_,_=>rfl
 | v::r,j,h=>by
  rw [idxB,if_neg (fun e=>h (by simp [e])),ziv r _ (fun e=>h (by simp [e]))]
theorem zl2 {t:Bs8} (h:zbb t=true):t≠[40]:=by
 rintro rfl;revert h;decide
theorem zos {t:Bs8} {n:FNode} (h:zaW t=some n):t≠[40]:=by
 rintro rfl;cases h
theorem zma {V:List Bs8} {tx:FNode→Bs8} (hV:zaw [] V=none) (ht:TxOK V tx) {n:FNode} {s s':CS} (hk:¬ 3≤n.kind) (h:zbx V.length n s=.ok s') (hb:s'.b=true) (hu:s.u≤V.length) :
  (E.leaf n).good V tx s.u s'.u∧s.b=true∧s'.u≤V.length∧s'.p=s.p+1:=by
 obtain⟨hn0,_,_,rfl⟩:=zd7 h;simp only [Bool.and_eq_true,Bool.not_eq_true',Bool.and_eq_false_iff,decide_eq_false_iff_not] at hb;dsimp only at hb ⊢;rw [if_neg hk];obtain⟨hk1,hk5,hf⟩:=zfu hn0;obtain⟨hnm,hds⟩:=zeK hV;by_cases h1:n.kind=1
 ·have hf1:=hf;unfold fine at hf1;rw [if_pos h1] at hf1;obtain⟨kind,var,num,places⟩:=n;dsimp only at h1 hf1 hb ⊢;subst h1;obtain⟨h0,hlt,rfl,rfl⟩:=hf1;obtain⟨i,rfl⟩:∃ i:Nat,var=i:=⟨var.toNat,by omega⟩;have hi:i < V.length:=by omega
  have hle:i≤s.u:=by
   rcases hb.2 with e|e
   ·exact absurd rfl e
   ·omega
  have hname:=hnm V[i] (List.getElem_mem hi);have htx:=ht.var i hi;by_cases hiu:i=s.u
  ·subst hiu;rw [if_pos ⟨rfl,rfl⟩];refine⟨⟨by omega,by rw [htx];exact zl2 hname,?_⟩,hb.1,by omega,rfl⟩
   unfold zen;rw [htx,if_pos hname,ziv]
   ·simp only [List.length_take,Nat.min_eq_left hu];rw [List.take_add_one,List.getElem?_eq_getElem hi];rfl
   ·intro hm;obtain⟨j,hj,e⟩:=List.getElem_of_mem hm;rw [List.length_take] at hj;rw [List.getElem_take] at e;exact (hds s.u hi).2 j (by omega) e
  ·rw [if_neg (fun e=>hiu (by have:=e.2;omega))];refine⟨⟨by omega,by rw [htx];exact zl2 hname,?_⟩,hb.1,by omega,rfl⟩
   unfold zen;rw [htx,if_pos hname,ziu (V.take s.u) 0 i (by rw [List.length_take];omega) (by rw [List.getElem_take]) (fun k hk=>by rw [List.getElem_take];exact (hds i hi).2 k hk)];simp
 ·have h2:n.kind=2:=by omega
  rw [if_neg (fun e=>h1 e.1)];obtain⟨c1,c2⟩:=ht.const n h2 hf;refine⟨⟨by omega,zos c2,?_⟩,hb.1,hu,rfl⟩
  unfold zen;rw [c1,c2];rfl
theorem zfU {V:List Bs8} {tx:FNode→Bs8} (hV:zaw [] V=none) (ht:TxOK V tx):∀ (code:List FNode) (st:List E) (s s':CS),s.p=st.length→s.u≤V.length→chain V tx st 0 s.u→zav V.length code s=.ok s'→s'.b=true →
  ∃ st',s'.p=st'.length∧chain V tx st' 0 s'.u∧zlL st'=zlL st ++ code∧s'.u≤V.length
 | [],st,s,s',hp,hu,hc,h,_=>by
  cases h;exact⟨st,hp,hc,by simp,hu⟩
 | n::r,st,s,s',hp,hu,hc,h,hb=>by
  rw [zav] at h;cases hs:zbx V.length n s with
  | error e=>rw [hs] at h;cases h
  | ok s1=>
   rw [hs] at h;dsimp only at h;have hb1:s1.b=true:=by
    have key:∀ (l:List FNode) (x y:CS),zav V.length l x=.ok y→y.b=true→x.b=true:=by
     intro l;induction l with
     | nil=>intro x y hx hy;cases hx;exact hy
     | cons m l ih=>
      intro x y hx hy;rw [zav] at hx;cases hz:zbx V.length m x with
      | error e=>rw [hz] at hx;cases hx
      | ok z=>
       rw [hz] at hx;have hzb:=ih z y hx hy;obtain⟨_,_,_,rfl⟩:=zd7 hz;simp only [Bool.and_eq_true] at hzb;exact hzb.1
    exact key r s1 s' h hb
   by_cases hk:3≤n.kind
   ·obtain⟨hn0,hp2,_,rfl⟩:=zd7 hs;rw [if_pos hk] at h;obtain⟨hk1,hk5,hf⟩:=zfu hn0;unfold fine at hf;rw [if_neg (by omega),if_neg (by omega)] at hf;obtain⟨kind,var,num,places⟩:=n;dsimp only at hk hk1 hk5 hf h hb1 hp2;obtain⟨rfl,rfl,rfl⟩:=hf;have hlen:2≤st.length:=by omega
    obtain⟨pre,a,b,rfl⟩:∃ pre a b,st=pre ++ [a,b]:=by
     refine⟨st.take (st.length - 2),st[st.length - 2],st[st.length - 1],?_⟩
     have e1:=List.take_append_drop (st.length - 2) st;have e2:st.drop (st.length - 2)=[st[st.length - 2],st[st.length - 1]]:=by
      rw [List.drop_eq_getElem_cons (by omega)];have:st.length - 2+1=st.length - 1:=by omega
      simp only [this];rw [List.drop_eq_getElem_cons (by omega),List.drop_eq_nil_of_le (by omega)]
     rw [e2] at e1;exact e1.symm
    have hu1:(if kind=1∧(0:Int)=s.u then s.u+1 else s.u)=s.u:=if_neg (fun e=>by omega);rw [hu1] at h;obtain⟨m,hc1,hc2⟩:=zeB.1 hc;obtain⟨m2,ha,m3,hb',hm3⟩:=hc2;have hc':chain V tx (pre ++ [E.op kind a b]) 0 s.u:=zeB.2 ⟨m,hc1,m3,⟨by omega,m2,ha,hb'⟩,hm3⟩;obtain⟨st',g1,g2,g3,g4⟩:=zfU hV ht r (pre ++ [E.op kind a b]) ⟨s.p - 2+1,s.u,_⟩ s' (by simp at hp ⊢;omega) hu hc' h hb;refine⟨st',g1,g2,?_,g4⟩
    rw [g3];simp [zlL,E.post,opN]
   ·obtain⟨hg,hsb,hu1,hp1⟩:=zma hV ht hk hs hb1 hu;obtain⟨st',g1,g2,g3,g4⟩:=zfU hV ht r (st ++ [E.leaf n]) s1 s' (by rw [hp1,List.length_append,hp];rfl) hu1 (zeB.2 ⟨s.u,hc,s1.u,hg,rfl⟩) h hb;refine⟨st',g1,g2,?_,g4⟩
    rw [g3];simp [zlL,E.post]
theorem zpn {f:FormT} (h:zD f=0) {tx:FNode→Bs8} (ht:TxOK f.vars tx):∃ e:E,f.code=e.post∧e.good f.vars tx 0 f.vars.length:=by
 unfold zD at h;split at h
 ·cases h
 ·cases hv:zaw [] f.vars with
  | some e=>
   rw [hv] at h;dsimp only at h;exfalso;have key:∀ (r seen:List Bs8) (e:Int),zaw seen r=some e→e≠0:=by
    intro r;induction r with
    | nil=>intro seen e h;cases h
    | cons s r ih=>
     intro seen e h;rw [zaw] at h;split at h
     ·cases h;decide
     ·split at h
      ·cases h;decide
      ·exact ih _ _ h
   exact key _ _ _ hv h
  | none=>
   rw [hv] at h;dsimp only at h;cases hw:zav f.vars.length f.code ⟨0,0,true⟩ with
   | error e=>
    rw [hw] at h;dsimp only at h;exfalso;have key:∀ (l:List FNode) (s:CS) (e:Int),zav f.vars.length l s=.error e→e≠0:=by
     intro l;induction l with
     | nil=>intro s e h;cases h
     | cons n l ih=>
      intro s e h;rw [zav] at h;cases hs:zbx f.vars.length n s with
      | error e'=>
       rw [hs] at h;cases h;exact zfX hs
      | ok s'=>rw [hs] at h;exact ih _ _ h
    exact key _ _ _ hw h
   | ok s=>
    rw [hw] at h;dsimp only at h;split at h
    ·cases h
    ·rename_i hp;split at h
     ·cases h
     ·rename_i hbu;rw [not_or] at hbu;obtain⟨st',g1,g2,g3,g4⟩:=zfU hv ht f.code [] ⟨0,0,true⟩ s rfl (Nat.zero_le _) rfl hw (by simpa using hbu.1);have hl:st'.length=1:=by omega
      obtain⟨e,rfl⟩:=List.length_eq_one_iff.1 hl;obtain⟨m,ge,rfl⟩:=g2;refine⟨e,?_,?_⟩
      ·simp [zlL] at g3;exact g3.symm
      ·have:s.u=f.vars.length:=by omega
       rw [← this];exact ge
end FoT
namespace FoT
def padD:Nat→Nat→Bs8
 | 0,_=>[]
 | k+1,n=>padD k (n / 10) ++ [UInt8.ofNat (48+n % 10)]
theorem zdp:∀ (k n:Nat),(padD k n).length=k
 | 0,_=>rfl
 | k+1,n=>by rw [padD,List.length_append,zdp k];rfl
def txV (V:List Bs8) (n:FNode):Bs8:=if n.kind=1 then V.getD n.var.toNat [] else [48,46] ++ padD n.places.toNat n.num.toNat
theorem ziK:∀ (l:Bs8) (acc:Nat) (c:UInt8),digs acc (l ++ [c])=match digs acc l with|some a=>digs a [c]|none=>none
 | [],acc,c=>rfl
 | x::r,acc,c=>by
  rw [List.cons_append,digs,digs];split
  ·exact ziK r _ c
  ·rfl
theorem zmQ (d:Nat) (h:d < 10):(UInt8.ofNat (48+d)).toNat=48+d:=by
 have:∀ d,d < 10→(UInt8.ofNat (48+d)).toNat=48+d:=by decide
 exact this d h
theorem zks:∀ (k n acc:Nat),digs acc (padD k n)=some (acc * 10 ^ k+n % 10 ^ k)
 | 0,n,acc=>by simp [padD,digs,Nat.mod_one]
 | k+1,n,acc=>by
  have hd:n % 10 < 10:=Nat.mod_lt _ (by decide);rw [padD,ziK,zks k (n / 10) acc];show digs (acc * 10 ^ k+n / 10 % 10 ^ k) [UInt8.ofNat (48+n % 10)]=_
  rw [digs,zmQ _ hd,if_pos (by omega),digs];have e:n % 10 ^ (k+1)=n / 10 % 10 ^ k * 10+n % 10:=by
   rw [Nat.pow_succ,Nat.mul_comm (10 ^ k) 10,Nat.mod_mul];omega
  rw [e,Nat.pow_succ];congr 1
  generalize 10 ^ k=p;generalize n / 10 % p=q;rw [Nat.mul_add,← Nat.mul_assoc];have:acc * (p * 10)=10 * (acc * p):=by rw [← Nat.mul_assoc,Nat.mul_comm]
  rw [Nat.mul_assoc 10 acc p,this];omega
theorem zk0 {k n:Nat} (h1:1≤k) (h6:k≤6) (hn:n < 10 ^ k) (hc:k=1∨n % 10≠0):zaW ([48,46] ++ padD k n)=some ⟨2,0,n,k⟩:=by
 show (if (48:UInt8)=48∧(46:UInt8)=46∧1≤(padD k n).length∧(padD k n).length≤6 then _ else _)=_
 rw [if_pos ⟨rfl,rfl,by rw [zdp];exact h1,by rw [zdp];exact h6⟩];show (match digs 0 (padD k n) with|some x=>(if (padD k n).length=1∨x % 10≠0 then some (⟨2,0,x,(padD k n).length⟩:FNode) else none)|none=>none)=_
 rw [zks,zdp];simp only [Nat.zero_mul,Nat.zero_add,Nat.mod_eq_of_lt hn];rw [if_pos hc]
theorem ziN (r:Bs8):zbb (48::r)=false:=by
 have:z7 true (48::r)=false:=by rw [z7];rfl
 unfold zbb;rw [this,Bool.and_false]
theorem zqA (V:List Bs8):TxOK V (txV V):=by
 refine⟨fun i h=>?_,fun n hk hf=>?_⟩
 ·unfold txV;rw [if_pos rfl];simp [List.getD,h]
 ·unfold txV;rw [if_neg (by omega)];refine⟨ziN _,?_⟩
  unfold fine at hf;rw [if_neg (by omega),if_pos hk] at hf;obtain⟨kind,var,num,places⟩:=n;dsimp only at hk hf ⊢;subst hk;obtain⟨rfl,h1,h6,h0,hlt,hc⟩:=hf;obtain⟨k,rfl⟩:∃ k:Nat,places=k:=⟨places.toNat,by omega⟩;obtain⟨m,rfl⟩:∃ m:Nat,num=m:=⟨num.toNat,by omega⟩;simp only [Int.toNat_natCast] at hlt ⊢;have hlt2:m < 10 ^ k:=by
   have e:(10:Int) ^ k=((10 ^ k:Nat):Int):=by norm_cast
   rw [e] at hlt;omega
  rw [zk0 (by omega) (by omega) hlt2 (by omega)]
theorem zk1 {f:Bool} {c:UInt8} (h:zg2 f c=true):zaM c=true:=by
 unfold zg2 at h;unfold zaM;simp only [Bool.or_eq_true,Bool.and_eq_true] at h ⊢;rcases h with h|⟨_,h|h⟩
 ·exact .inl (.inl (.inl (.inl h)))
 ·exact .inl (.inl (.inr h))
 ·exact .inl (.inr h)
theorem zfa:∀ {f:Bool} {l:Bs8},z7 f l=true→∀ c ∈ l,zaM c=true
 | f,[],_,c,h=>by simp at h
 | f,x::r,h,c,hc=>by
  rw [z7,Bool.and_eq_true] at h;rcases List.mem_cons.1 hc with rfl|hc
  ·exact zk1 h.1
  ·exact zfa h.2 c hc
theorem znR {l:Bs8} (h:zbb l=true):rowW l:=by
 unfold zbb at h;simp only [Bool.and_eq_true,decide_eq_true_eq] at h;refine⟨?_,zfa h.2⟩
 rintro rfl;simp at h
theorem zkr:∀ {l:Bs8} {acc n:Nat},digs acc l=some n→∀ c ∈ l,zaM c=true
 | [],_,_,_,c,h=>by simp at h
 | x::r,acc,n,h,c,hc=>by
  rw [digs] at h;split at h
  ·rename_i hx;rcases List.mem_cons.1 hc with rfl|hc
   ·unfold zaM;have h1:(48≤c && c≤57)=true:=by
     simp only [Bool.and_eq_true,decide_eq_true_eq];exact⟨UInt8.le_iff_toNat_le.2 hx.1,UInt8.le_iff_toNat_le.2 hx.2⟩
    rw [h1];simp
   ·exact zkr h c hc
  ·cases h
theorem zmR {l:Bs8} {n:FNode} (h:zaW l=some n):rowW l:=by
 unfold zaW at h;split at h
 ·rename_i a b ds;split at h
  ·rename_i hc;obtain⟨rfl,rfl,_,_⟩:=hc;split at h
   ·rename_i m hd;refine⟨by simp,fun c hc=>?_⟩
    rcases List.mem_cons.1 hc with rfl|hc
    ·decide
    ·rcases List.mem_cons.1 hc with rfl|hc
     ·decide
     ·exact zkr hd c hc
   ·cases h
  ·cases h
 ·cases h
theorem zgm {V:List Bs8} {tx:FNode→Bs8}:∀ {e:E} {u u':Nat},e.good V tx u u'→e.rows tx
 | .leaf n,u,u',h=>by
  have h:=h.2.2;unfold zen at h;show rowW (tx n)
  split at h
  ·rename_i hn;exact znR hn
  ·split at h
   ·rename_i m hm;exact zmR hm
   ·cases h
 | .op k a b,u,u',h=>by
  obtain⟨_,m,ha,hb⟩:=h;exact⟨zgm ha,zgm hb⟩
def zaN {T:Type} (d:T) (leaf:Nat→FNode→T) (join:Nat→FNode→T→T→T):Nat→List FNode→List T→List T
 | _,[],st=>st
 | i,n::r,st=>zaN d leaf join (i+1) r (if n.kind < 3 then st ++ [leaf i n] else st.take (st.length - 2) ++ [join i n (st.getD (st.length - 2) d) (st.getD (st.length - 1) d)])
def E.fold {T:Type} (leaf:Nat→FNode→T) (join:Nat→FNode→T→T→T):E→Nat→T
 | .leaf n,i=>leaf i n
 | .op k a b,i=>join (i+a.post.length+b.post.length) (opN k) (a.fold leaf join i) (b.fold leaf join (i+a.post.length))
def E.kinds:E→Prop
 | .leaf n=>n.kind=1∨n.kind=2
 | .op k a b=>(k=3∨k=4∨k=5)∧a.kinds∧b.kinds
theorem zgq {T:Type} (d:T) (leaf:Nat→FNode→T) (join:Nat→FNode→T→T→T):∀ (e:E) (i:Nat) (r:List FNode) (st:List T),e.kinds →
  zaN d leaf join i (e.post ++ r) st=zaN d leaf join (i+e.post.length) r (st ++ [e.fold leaf join i])
 | .leaf n,i,r,st,h=>by
  have h3:n.kind < 3:=by rcases h with h|h <;> omega
  show zaN d leaf join i (n::r) st=_
  rw [zaN,if_pos h3];rfl
 | .op k a b,i,r,st,h=>by
  obtain⟨hk,ha,hb⟩:=h;have e1:(E.op k a b).post ++ r=a.post ++ (b.post ++ (opN k::r)):=by simp [E.post]
  rw [e1,zgq d leaf join a i _ st ha,zgq d leaf join b _ _ _ hb,zaN,if_neg (by show ¬ k < 3;omega)];have e2:((st ++ [a.fold leaf join i]) ++ [b.fold leaf join (i+a.post.length)]).length - 2=st.length:=by simp
  have e3:((st ++ [a.fold leaf join i]) ++ [b.fold leaf join (i+a.post.length)]).length - 1=st.length+1:=by simp
  rw [e2,e3];have e4:(E.op k a b).post.length=a.post.length+b.post.length+1:=by simp [E.post];omega
  rw [e4];have e5:((st ++ [a.fold leaf join i]) ++ [b.fold leaf join (i+a.post.length)]).take st.length=st:=by simp
  have e6:((st ++ [a.fold leaf join i]) ++ [b.fold leaf join (i+a.post.length)]).getD st.length d=a.fold leaf join i:=by simp [List.getD]
  have e7:((st ++ [a.fold leaf join i]) ++ [b.fold leaf join (i+a.post.length)]).getD (st.length+1) d=b.fold leaf join (i+a.post.length):=by simp [List.getD]
  rw [e5,e6,e7,show i+a.post.length+b.post.length+1=i+(a.post.length+b.post.length+1) by omega];rfl
theorem zmW {T:Type} (d:T) (leaf:Nat→FNode→T) (join:Nat→FNode→T→T→T) {e:E} (h:e.kinds):zaN d leaf join 0 e.post []=[e.fold leaf join 0]:=by
 have:=zgq d leaf join e 0 [] [] h;rw [List.append_nil] at this;rw [this];rfl
theorem ze0 {V:List Bs8} {tx:FNode→Bs8}:∀ {e:E} {u u':Nat},e.good V tx u u'→e.kinds
 | .leaf n,u,u',h=>by
  have h:=h.2.2;unfold zen at h;split at h
  ·split at h
   ·exact .inl (by rw [← (Prod.mk.inj (Option.some.inj h)).1])
   ·exact .inl (by rw [← (Prod.mk.inj (Option.some.inj h)).1])
  ·split at h
   ·rename_i m hm;obtain rfl:=(Prod.mk.inj (Option.some.inj h)).1;unfold zaW at hm;split at hm
    ·split at hm
     ·split at hm
      ·split at hm
       ·cases hm;exact .inr rfl
       ·cases hm
      ·cases hm
     ·cases hm
    ·cases hm
   ·cases h
 | .op k a b,u,u',h=>by
  obtain⟨hk,m,ha,hb⟩:=h;exact⟨hk,ze0 ha,ze0 hb⟩
abbrev Part:=Bs8 × Nat
def zae (p:Part) (w:Nat):Bs8:=if w≤p.2 then p.1 else [40] ++ p.1 ++ [41]
def zdy (V:List Bs8) (_:Nat) (n:FNode):Part:=(txV V n,3)
def zcT (_:Nat) (n:FNode) (a b:Part):Part:=
 let m:=if n.kind=5 then 2 else 1
 (zae a m ++ zca n.kind ++ zae b (m+1),m)
theorem zeu {V:List Bs8}:∀ (e:E) (i:Nat),(e.fold (zdy V) zcT i).2=e.binds∧∀ w,1≤w→w≤3→zae (e.fold (zdy V) zcT i) w=(e.words (txV V) w).flatten
 | .leaf n,i=>by
  refine⟨rfl,fun w h1 h3=>?_⟩
  show (if w≤3 then _ else _)=_
  rw [if_pos h3];simp [E.words,E.fold,zdy]
 | .op k a b,i=>by
  obtain⟨ha,ha2⟩:=zeu (V:=V) a i;obtain⟨hb,hb2⟩:=zeu (V:=V) b (i+a.post.length);refine⟨rfl,fun w h1 h3=>?_⟩
  have key:∀ m:Nat,1≤m→m≤2→zae (zae (a.fold (zdy V) zcT i) m ++ zca k ++ zae (b.fold (zdy V) zcT (i+a.post.length)) (m+1),m) w =
    (if w≤m then a.words (txV V) m ++ (zca k::b.words (txV V) (m+1)) else [40]::((a.words (txV V) m ++ (zca k::b.words (txV V) (m+1))) ++ [[41]])).flatten:=by
   intro m hm1 hm2;rw [ha2 m hm1 (by omega),hb2 (m+1) (by omega) (by omega)];unfold zae;dsimp only;split
   ·simp
   ·simp
  rw [E.words];exact key _ (by split <;> omega) (by split <;> omega)
def zeL (f:FormT):Bs8:=((zaN (([],0):Part) (zdy f.vars) zcT 0 f.code []).getD 0 ([],0)).1
theorem zkF {f:FormT} {e:E} (hc:f.code=e.post) (hk:e.kinds):zeL f=e.text (txV f.vars):=by
 unfold zeL;rw [hc,zmW _ _ _ hk];have h:=(zeu (V:=f.vars) e 0).2 1 (Nat.le_refl _) (by omega);unfold zae at h;have hb:1≤(e.fold (zdy f.vars) zcT 0).2:=by
  rw [(zeu (V:=f.vars) e 0).1];cases e with
  | leaf n=>exact Nat.le_of_ble_eq_true rfl
  | op k a b=>unfold E.binds;dsimp only;split <;> omega
 rw [if_pos hb] at h;exact h
def zdw:FormT:=⟨[],[]⟩
def zbH (s:Bs8):FormT × Int × Int:=
 if 600 < s.length then (zdw,0,3)
 else match sumM (4 * (tk 0 none s).length+3) ⟨tk 0 none s,[],[]⟩ with
  | none=>(zdw,0,6)
  | some (.error a)=>(zdw,a,6)
  | some (.ok st)=>match st.toks with
   | (a,_)::_::_=>(zdw,a,6)
   | _=>if zD ⟨st.vars,st.code⟩=0 then (⟨st.vars,st.code⟩,0,0) else (zdw,0,3)
theorem zhg {V:List Bs8} {tx:FNode→Bs8}:∀ (e:E) (u u':Nat) (w:Nat),e.good V tx u u'→2 * ((e.words tx w).flatten.length)+6≤23 * (e.post.length+1)
 | .leaf n,u,u',w,h=>by
  have h:=h.2.2;have hl:(tx n).length≤20:=by
   unfold zen at h;split at h
   ·rename_i hn;unfold zbb at hn;simp only [Bool.and_eq_true,decide_eq_true_eq] at hn;exact hn.1.1.2
   ·split at h
    ·rename_i m hm;unfold zaW at hm;split at hm
     ·split at hm
      ·rename_i hc;simp only [*,List.length_cons];omega
      ·cases hm
     ·cases hm
    ·cases h
  simp [E.words,E.post];omega
 | .op k a b,u,u',w,h=>by
  obtain⟨hk,m,ha,hb⟩:=h;have key:∀ x:Nat,((a.words tx x).flatten.length+(b.words tx (x+1)).flatten.length) * 2+12≤23 * (a.post.length+b.post.length+2):=fun x=>by
   have h1:=zhg a u m x ha;have h2:=zhg b m u' (x+1) hb;omega
  have hs:(zca k).length=1:=by unfold zca;split;rfl;split <;> rfl
  have all:∀ x,2 * ((if w≤x then a.words tx x ++ (zca k::b.words tx (x+1)) else [40]::((a.words tx x ++ (zca k::b.words tx (x+1))) ++ [[41]])).flatten.length)+6≤23 * ((E.op k a b).post.length+1):=fun x=>by
   have h1:=key x;have e4:(E.op k a b).post.length=a.post.length+b.post.length+1:=by simp [E.post];omega
   rw [e4];split
   ·simp only [List.flatten_append,List.flatten_cons,List.length_append,hs];omega
   ·simp only [List.flatten_append,List.flatten_cons,List.length_append,List.length_cons,List.flatten_nil,List.length_nil,hs];omega
  rw [E.words];exact all _
theorem zeT {f:FormT} (h:zD f=0):zbH (zeL f)=(f,0,0)∧(zeL f).length≤600:=by
 obtain⟨e,hc,hg⟩:=zpn h (zqA f.vars);have htx:=zkF hc (ze0 hg);have hcl:f.code.length≤40:=by
  unfold zD at h;split at h
  ·cases h
  ·rename_i hn;rw [not_or] at hn;have:=hn.2;omega
 have hlen:(zeL f).length≤600:=by
  rw [htx];have:=zhg e 0 f.vars.length 1 hg;rw [← hc] at this;unfold E.text;omega
 refine⟨?_,hlen⟩
 obtain⟨k,N,hk⟩:=znk hg (zgm hg);obtain⟨r,hr,_⟩:=(zqB (tk 0 none (e.text (txV f.vars))).length).2.2.2.2 ⟨tk 0 none (e.text (txV f.vars)),[],[]⟩ rfl;have h1:=zjb (Nat.le_max_left k (4 * (tk 0 none (e.text (txV f.vars))).length+3)) hk;have h2:=zjb (Nat.le_max_right k (4 * (tk 0 none (e.text (txV f.vars))).length+3)) hr;rw [h1] at h2;cases h2;unfold zbH;rw [if_neg (by omega),htx,hr];dsimp only;rw [List.take_length,← hc];rw [if_pos h]
end FoT
namespace FoT
structure FloT where
 mant:Int
 exp:Int
deriving DecidableEq
def zeroFl:FloT:=⟨0,0⟩
def sg (n:Int):Int:=if n < 0 then -1 else 1
theorem zfZ (n:Int):sg n * n.natAbs=n:=by unfold sg;split <;> omega
def hlv:Nat→Nat→Int→Nat × Int
 | 0,m,e=>(m,e)
 | k+1,m,e=>if 8388608≤m then hlv k (m / 2) (e+1) else (m,e)
def dbl:Nat→Nat→Int→Nat × Int
 | 0,m,e=>(m,e)
 | k+1,m,e=>if m≠0∧m < 4194304 then dbl k (m * 2) (e - 1) else (m,e)
def fin (s:Int) (m:Nat) (e:Int):FloT × Int:=
 if m=0∨e < -64 then (zeroFl,0) else if 63 < e then (zeroFl,171) else (⟨s * m,e⟩,0)
def zaj (n exp:Int):FloT × Int:=
 let h:=hlv 64 n.natAbs (exp+23)
 let d:=dbl 23 h.1 h.2
 fin (sg n) d.1 d.2
theorem zes {m:Nat} (h:m < 8388608) (e:Int):∀ k,hlv k m e=(m,e)
 | 0=>rfl
 | k+1=>by rw [hlv,if_neg (by omega)]
theorem zeA {m:Nat} (h:m=0∨4194304≤m) (e:Int):∀ k,dbl k m e=(m,e)
 | 0=>rfl
 | k+1=>by rw [dbl,if_neg (by omega)]
theorem zkm:∀ (k m:Nat) (e:Int),4194304≤m→m < 8388608 * 2 ^ k→∃ s:Nat,hlv k m e=(m / 2 ^ s,e+s)∧4194304≤m / 2 ^ s∧m / 2 ^ s < 8388608
 | 0,m,e,h1,h2=>⟨0,by simp [hlv],by simpa using h1,by simpa using h2⟩
 | k+1,m,e,h1,h2=>by
  by_cases h:8388608≤m
  ·rw [Nat.pow_succ] at h2;obtain⟨s,hs,a,b⟩:=zkm k (m / 2) (e+1) (by omega) (by omega);have e1:m / 2 / 2 ^ s=m / 2 ^ (s+1):=by rw [Nat.div_div_eq_div_mul,Nat.pow_succ,Nat.mul_comm]
   rw [e1] at hs a b;refine⟨s+1,?_,a,b⟩
   rw [hlv,if_pos h,hs];congr 1
   omega
  ·exact⟨0,by rw [zes (by omega)];simp,by simpa using h1,by simp;omega⟩
theorem zku:∀ (k m:Nat) (e:Int),m≠0→m < 8388608→4194304≤m * 2 ^ k→∃ s:Nat,s≤k∧dbl k m e=(m * 2 ^ s,e - s)∧4194304≤m * 2 ^ s∧m * 2 ^ s < 8388608
 | 0,m,e,h0,h1,h2=>⟨0,Nat.le_refl _,by simp [dbl],by simpa using h2,by simpa using h1⟩
 | k+1,m,e,h0,h1,h2=>by
  by_cases h:m < 4194304
  ·have e0:m * 2 ^ (k+1)=m * 2 * 2 ^ k:=by rw [Nat.pow_succ,Nat.mul_comm (2 ^ k) 2,Nat.mul_assoc]
   obtain⟨s,hsk,hs,a,b⟩:=zku k (m * 2) (e - 1) (by omega) (by omega) (by omega);have e1:m * 2 * 2 ^ s=m * 2 ^ (s+1):=by rw [Nat.pow_succ,Nat.mul_comm (2 ^ s) 2,Nat.mul_assoc]
   rw [e1] at hs a b;refine⟨s+1,by omega,?_,a,b⟩
   rw [dbl,if_pos ⟨h0,h⟩,hs];congr 1
   omega
  ·exact⟨0,by omega,by rw [zeA (by omega)];simp,by simp;omega,by simpa using h1⟩
theorem zim {n exp:Int} (h0:n≠0) (h:n.natAbs < 4611686018427387904):∃ s M:Nat,∃ E:Int,((8388608≤n.natAbs∧M=n.natAbs / 2 ^ s∧E=exp+23+s)∨(n.natAbs < 8388608∧s≤22∧M=n.natAbs * 2 ^ s∧E=exp+23 - s))∧4194304≤M∧M < 8388608∧zaj n exp=fin (sg n) M E:=by
 unfold zaj;by_cases hb:8388608≤n.natAbs
 ·obtain⟨s,hs,a,b⟩:=zkm 64 n.natAbs (exp+23) (by omega) (by omega);refine⟨s,_,_,.inl ⟨hb,rfl,rfl⟩,a,b,?_⟩
  rw [hs];dsimp only;rw [zeA (.inr a)]
 ·obtain⟨s,hk,hs,a,b⟩:=zku 23 n.natAbs (exp+23) (by omega) (by omega) (by omega);have hs22:s≤22:=by
   rcases Nat.lt_or_ge 22 s with hc|hc
   ·have:s=23:=by omega
    subst this;omega
   ·exact hc
  refine⟨s,_,_,.inr ⟨by omega,hs22,rfl,rfl⟩,a,b,?_⟩
  rw [zes (by omega)];dsimp only;rw [hs]
theorem zb3 (exp:Int):zaj 0 exp=(zeroFl,0):=by
 unfold zaj;rw [zes (by decide)];dsimp only;rw [zeA (m:=Int.natAbs 0) (.inl rfl)];rfl
def zG (x:FloT):Prop:=x=zeroFl∨(4194304≤x.mant.natAbs∧x.mant.natAbs≤8388607∧-64≤x.exp∧x.exp≤63)
instance (x:FloT):Decidable (zG x):=by unfold zG;infer_instance
theorem zbP (n:Int) (M:Nat):(sg n * (M:Int)).natAbs=M:=by unfold sg;split <;> omega
theorem zmI {n:Int} {M:Nat} {E:Int} (h1:4194304≤M) (h2:M < 8388608):zG (fin (sg n) M E).1:=by
 unfold fin;split
 ·exact .inl rfl
 ·split
  ·exact .inl rfl
  ·exact .inr ⟨by rw [zbP];exact h1,by rw [zbP];omega,by dsimp only;omega,by dsimp only;omega⟩
theorem zbf {n exp:Int} (h:n.natAbs < 4611686018427387904):zG (zaj n exp).1:=by
 by_cases h0:n=0
 ·rw [h0,zb3];exact .inl rfl
 ·obtain⟨s,M,E,_,a,b,e⟩:=zim (exp:=exp) h0 h;rw [e];exact zmI a b
theorem made_err {n exp:Int}:(zaj n exp).2=0∨((zaj n exp).2=171∧(zaj n exp).1=zeroFl):=by
 unfold zaj fin;dsimp only;split
 ·exact .inl rfl
 ·split
  ·exact .inr ⟨rfl,rfl⟩
  ·exact .inl rfl
def zbd (m d:Int):Int:=if d < 60 then (m * 1073741824).tdiv (2 ^ d.toNat) else 0
def zfh (a b:FloT):FloT × Int:=zaj (a.mant * 1073741824+zbd b.mant (a.exp - b.exp)) (a.exp - 53)
def zbz (a b:FloT):FloT × Int:=
 if a.mant=0 then (b,0) else if b.mant=0 then (a,0) else if a.exp < b.exp then zfh b a else zfh a b
def stepM (op:Int) (a b:FloT):FloT × Int:=
 if op=3 then zbz a b
 else if op=4 then zbz a ⟨-b.mant,b.exp⟩
 else if op=5 then zaj (a.mant * b.mant) (a.exp+b.exp - 46)
 else if b.mant=0 then (zeroFl,8) else zaj ((a.mant * 1073741824).tdiv b.mant) (a.exp - b.exp - 30)
def zau (x:FloT):Prop:=x.mant.natAbs≤8388607
theorem zI {x:FloT} (h:zG x):zau x:=by
 rcases h with rfl|h
 ·exact Nat.zero_le _
 ·exact h.2.1
theorem zj7 {m d:Int} (h:m.natAbs≤8388607):(zbd m d).natAbs≤9007198180999168:=by
 unfold zbd;split
 ·have:=Int.natAbs_tdiv_le_natAbs (m * 1073741824) (2 ^ d.toNat);rw [Int.natAbs_mul,show Int.natAbs 1073741824=1073741824 from rfl] at this;omega
 ·exact Nat.zero_le _
theorem zfr {a b:FloT} (ha:zau a) (hb:zau b):(a.mant * 1073741824+zbd b.mant (a.exp - b.exp)).natAbs < 4611686018427387904:=by
 have:=zj7 (d:=a.exp - b.exp) hb;unfold zau at ha;omega
theorem zik {a b:FloT} (ha:zau a) (hb:zau b):(a.mant * b.mant).natAbs < 4611686018427387904:=by
 rw [Int.natAbs_mul];have:=Nat.mul_le_mul ha hb;omega
theorem zkq {a b:FloT} (ha:zau a):((a.mant * 1073741824).tdiv b.mant).natAbs < 4611686018427387904:=by
 have:=Int.natAbs_tdiv_le_natAbs (a.mant * 1073741824) b.mant;rw [Int.natAbs_mul,show Int.natAbs 1073741824=1073741824 from rfl] at this;unfold zau at ha;omega
theorem zlY {b:FloT} (h:zG b):b.mant≠0→zG ⟨-b.mant,b.exp⟩:=by
 intro hm;rcases h with rfl|h
 ·exact absurd rfl hm
 ·exact .inr ⟨by dsimp only;omega,by dsimp only;omega,h.2.2.1,h.2.2.2⟩
theorem zeV {a b:FloT} (ha:zG a) (hb:zG b):zG (zbz a b).1:=by
 unfold zbz;split
 ·exact hb
 ·split
  ·exact ha
  ·split
   ·exact zbf (zfr (zI hb) (zI ha))
   ·exact zbf (zfr (zI ha) (zI hb))
theorem zeN {op:Int} {a b:FloT} (ha:zG a) (hb:zG b):zG (stepM op a b).1:=by
 unfold stepM;split
 ·exact zeV ha hb
 ·split
  ·by_cases h0:b.mant=0
   ·have:b=zeroFl:=by
     rcases hb with h|h
     ·exact h
     ·omega
    subst this;exact zeV ha (.inl rfl)
   ·exact zeV ha (zlY hb h0)
  ·split
   ·exact zbf (zik (zI ha) (zI hb))
   ·split
    ·exact .inl rfl
    ·exact zbf (zkq (zI ha))
structure StepT where
 op:Int
 a:Int
 b:Int
 to:Int
deriving DecidableEq
def za8:List FloT→Nat→Option Nat
 | [],_=>none
 | x::r,i=>if zG x then za8 r (i+1) else some i
def zaA (n:Int) (s:StepT):Int:=
 if s.op < 3∨6 < s.op then 2
 else if 0≤s.a∧s.a < n∧0≤s.b∧s.b < n∧0≤s.to∧s.to < n then 0 else 4
def zag (n:Int):List StepT→Nat→Option (Nat × Int)
 | [],_=>none
 | s::r,i=>if zaA n s=0 then zag n r (i+1) else some (i,zaA n s)
def runS:List StepT→Nat→List FloT→Except (Nat × Int) (List FloT)
 | [],_,l=>.ok l
 | s::r,i,l=>
  let x:=stepM s.op (l.getD s.a.toNat zeroFl) (l.getD s.b.toNat zeroFl)
  if x.2=0 then runS r (i+1) (l.set s.to.toNat x.1) else .error (i,x.2)
def zaC (regs:List FloT) (steps:List StepT):List FloT × Int × Int:=
 if ¬ (1≤regs.length∧regs.length≤8)∨40 < steps.length then ([],0,3)
 else match za8 regs 0 with
  | some i=>([],i,7)
  | none=>match zag regs.length steps 0 with
   | some (i,e)=>([],i,e)
   | none=>match runS steps 0 regs with
    | .error (i,e)=>([],i,e)
    | .ok l=>(l,0,0)
theorem zbk:∀ {l:List FloT} {i:Nat},za8 l i=none↔∀ x ∈ l,zG x
 | [],_=>by simp [za8]
 | x::r,i=>by
  rw [za8];split
  ·rename_i h;simp [zbk (l:=r),h]
  ·rename_i h;simp [h]
theorem zaz {n:Int}:∀ {l:List StepT} {i:Nat},zag n l i=none↔∀ s ∈ l,zaA n s=0
 | [],_=>by simp [zag]
 | s::r,i=>by
  rw [zag];split
  ·rename_i h;simp [zaz (l:=r),h]
  ·rename_i h;simp [h]
theorem zj2:∀ (x y:List StepT) (i:Nat) (l:List FloT),runS (x ++ y) i l=match runS x i l with
  | .error e=>.error e
  | .ok m=>runS y (i+x.length) m
 | [],y,i,l=>by simp [runS]
 | s::r,y,i,l=>by
  rw [List.cons_append,runS,runS];try dsimp only
  split
  ·rw [zj2 r y];simp only [List.length_cons,Nat.add_right_comm,Nat.add_assoc,Nat.add_comm 1]
  ·rfl
theorem zgI:∀ (x:List StepT) (i j:Nat) (l m:List FloT),runS x i l=.ok m→runS x j l=.ok m
 | [],i,j,l,m,h=>h
 | s::r,i,j,l,m,h=>by
  rw [runS] at h ⊢;try dsimp only at h ⊢
  split at h
  ·rename_i hc;rw [if_pos hc];exact zgI r _ _ _ _ h
  ·cases h
theorem zh1:∀ (x:List StepT) (i:Nat) (l m:List FloT),(∀ x ∈ l,zG x)→runS x i l=.ok m→m.length=l.length∧∀ x ∈ m,zG x
 | [],i,l,m,hl,h=>by cases h;exact⟨rfl,hl⟩
 | s::r,i,l,m,hl,h=>by
  rw [runS] at h;try dsimp only at h
  split at h
  ·have hd:∀ k:Nat,zG (l.getD k zeroFl):=fun k=>by
    rw [List.getD_eq_getElem?_getD];cases hk:l[k]? with
    | none=>exact .inl rfl
    | some x=>exact hl x (List.mem_of_getElem? hk)
   obtain⟨h1,h2⟩:=zh1 r _ _ m (fun x hx=>by
    rcases List.mem_or_eq_of_mem_set hx with hx|rfl
    ·exact hl x hx
    ·exact zeN (hd _) (hd _)) h
   exact⟨by rw [h1,List.length_set],h2⟩
  ·cases h
theorem zgu {regs:List FloT} {steps:List StepT} (h:(zaC regs steps).2.2=0):(1≤regs.length∧regs.length≤8)∧steps.length≤40∧(∀ x ∈ regs,zG x)∧(∀ s ∈ steps,zaA regs.length s=0)∧∃ l,runS steps 0 regs=.ok l∧zaC regs steps=(l,0,0):=by
 unfold zaC at h ⊢;by_cases h1:¬ (1≤regs.length∧regs.length≤8)∨40 < steps.length
 ·rw [if_pos h1] at h;cases h
 rw [if_neg h1] at h ⊢;have hn:(1≤regs.length∧regs.length≤8)∧steps.length≤40:=by
  rw [not_or,Classical.not_not] at h1;exact⟨h1.1,by omega⟩
 cases h2:za8 regs 0 with
 | some i=>rw [h2] at h;cases h
 | none=>
  rw [h2] at h;dsimp only at h ⊢;cases h3:zag regs.length steps 0 with
  | some p=>
   obtain⟨i,e⟩:=p;rw [h3] at h;dsimp only at h;exfalso;have key:∀ (l:List StepT) (j:Nat),zag regs.length l j=some (i,e)→e≠0:=by
    intro l;induction l with
    | nil=>intro j hj;cases hj
    | cons s r ih=>
     intro j hj;rw [zag] at hj;split at hj
     ·exact ih _ hj
     ·rename_i hs;cases hj;exact hs
   exact key _ _ h3 h
  | none=>
   rw [h3] at h;dsimp only at h ⊢;cases h4:runS steps 0 regs with
   | error p=>
    obtain⟨i,e⟩:=p;rw [h4] at h;dsimp only at h;exfalso;have key:∀ (l:List StepT) (j:Nat) (q:List FloT),runS l j q=.error (i,e)→e≠0:=by
     intro l;induction l with
     | nil=>intro j q hj;cases hj
     | cons s r ih=>
      intro j q hj;rw [runS] at hj;try dsimp only at hj
      split at hj
      ·exact ih _ _ hj
      ·rename_i hs;cases hj;exact hs
    exact key _ _ _ h4 h
   | ok l=>
    exact⟨hn.1,hn.2,zbk.1 h2,zaz.1 h3,l,rfl,rfl⟩
theorem zjL {regs:List FloT} {steps:List StepT} {l:List FloT} (h1:1≤regs.length∧regs.length≤8) (h2:steps.length≤40) (h3:∀ x ∈ regs,zG x) (h4:∀ s ∈ steps,zaA regs.length s=0) (h5:runS steps 0 regs=.ok l):zaC regs steps=(l,0,0):=by
 unfold zaC;rw [if_neg (by rw [not_or,Classical.not_not];exact⟨h1,by omega⟩),zbk.2 h3];dsimp only;rw [zaz.2 h4];dsimp only;rw [h5]
theorem zoz {regs:List FloT} {steps:List StepT} (h:(zaC regs steps).2.2=0) (k:Nat):∃ m l,zaC regs (steps.take k)=(m,0,0)∧zaC m (steps.drop k)=(l,0,0)∧zaC regs steps=(l,0,0):=by
 obtain⟨h1,h2,h3,h4,l,h5,h6⟩:=zgu h;have e:=zj2 (steps.take k) (steps.drop k) 0 regs;rw [List.take_append_drop] at e;rw [h5] at e;cases hm:runS (steps.take k) 0 regs with
 | error p=>rw [hm] at e;cases e
 | ok m=>
  rw [hm] at e;dsimp only at e;obtain⟨g1,g2⟩:=zh1 _ _ _ _ h3 hm;refine⟨m,l,zjL h1 (by rw [List.length_take];omega) h3 (fun s hs=>h4 s (List.mem_of_mem_take hs)) hm,zjL (by rw [g1];exact h1) (by rw [List.length_drop];omega) g2 (fun s hs=>?_) (zgI _ _ 0 _ _ e.symm),h6⟩
  rw [g1];exact h4 s (List.mem_of_mem_drop hs)
end FoT
namespace FoT
def ten (n:FNode):Int:=10 ^ n.places.toNat
def zbo (n:FNode):Int:=(n.num * 8388608+ten n / 2) / ten n
def zdz (n:FNode):Int:=if n.num * 8388608 % ten n=0 then 0 else 1
def sgnW (w:Int):Int:=if 8388608≤w then w - 16777216 else w
def opV (k a b:Int):Int:=if k=3 then a+b else if k=4 then a - b else a * b / 8388608
def zP (w:Int):Prop:=0≤w∧w≤16777215
instance (w:Int):Decidable (zP w):=by unfold zP;infer_instance
def zcw (words:List Int) (_:Nat) (n:FNode):Int:=if n.kind=1 then words.getD n.var.toNat 0 else zbo n
def zdQ (_:Nat) (n:FNode) (a b:Int):Int:=opV n.kind (sgnW a) (sgnW b) % 16777216
def valF (f:FormT) (words:List Int):Int:=(zaN 0 (zcw words) zdQ 0 f.code []).getD 0 0
def zdU (f:FormT) (words:List Int):Int × Int:=
 if zD f≠0 then (0,zD f)
 else if words.length≠f.vars.length then (0,2)
 else if words.all (fun w=>decide (zP w))=false then (0,7)
 else (valF f words,0)
structure SpanT where
 lo:Int
 hi:Int
deriving DecidableEq
structure RangeT where
 lo:Int
 hi:Int
 err:Int
deriving DecidableEq
def zaI:RangeT:=⟨0,0,0⟩
def zC (n:Int):Bool:=decide (n < -8388608) || decide (8388607 < n)
def zbB (spans:List SpanT) (n:FNode):RangeT:=
 if n.kind=1 then ⟨(spans.getD n.var.toNat ⟨0,0⟩).lo,(spans.getD n.var.toNat ⟨0,0⟩).hi,0⟩ else ⟨zbo n,zbo n,zdz n⟩
def farR (a:RangeT):Int:=max (max a.lo (-a.lo)) (max a.hi (-a.hi))
def min4 (a b c d:Int):Int:=min (min a b) (min c d)
def max4 (a b c d:Int):Int:=max (max a b) (max c d)
def zT (k:Int) (a b:RangeT):RangeT:=
 ⟨min4 (opV k a.lo b.lo) (opV k a.lo b.hi) (opV k a.hi b.lo) (opV k a.hi b.hi),max4 (opV k a.lo b.lo) (opV k a.lo b.hi) (opV k a.hi b.lo) (opV k a.hi b.hi),
  if k=5 then (2 * farR a * b.err+2 * farR b * a.err+a.err * b.err+16777215) / 16777216+2 else a.err+b.err⟩
def rngS (spans:List SpanT):Nat→List FNode→List RangeT→Except Nat (List RangeT)
 | _,[],st=>.ok st
 | i,n::r,st=>
  if n.kind < 3 then rngS spans (i+1) r (st ++ [zbB spans n])
  else
   let x:=zT n.kind (st.getD (st.length - 2) zaI) (st.getD (st.length - 1) zaI)
   if zC x.lo=true∨zC x.hi=true then .error i else rngS spans (i+1) r (st.take (st.length - 2) ++ [x])
def zaF:List SpanT→Nat→Option (Nat × Int)
 | [],_=>none
 | s::r,i=>if zC s.lo=true∨zC s.hi=true then some (i,7) else if s.hi < s.lo then some (i,2) else zaF r (i+1)
def z8 (f:FormT) (spans:List SpanT):RangeT × Int × Int:=
 if zD f≠0 then (zaI,0,zD f)
 else if spans.length≠f.vars.length then (zaI,0,2)
 else match zaF spans 0 with
  | some (i,e)=>(zaI,i,e)
  | none=>match rngS spans 0 f.code [] with
   | .error i=>(zaI,i,170)
   | .ok st=>(st.getD 0 zaI,0,0)
def encW (op a b c:Int):Int:=((op * 128+a) * 128+b) * 128+c
def zal:List FNode→List Int
 | []=>[]
 | n::r=>if n.kind=2 then zbo n::zal r else zal r
structure ES where
 next:Int
 h:Int
 most:Int
deriving DecidableEq
def zbM (vars pile:Int):List FNode→Int→ES→List Int × ES
 | [],_,s=>([],s)
 | n::r,pos,s=>
  if n.kind=1 then
   let q:=zbM vars pile r (pos+1) ⟨s.next,s.h+1,max s.most (s.h+1)⟩
   (encW 1 (vars+n.var) (pile+s.h) (pos+1)::q.1,q.2)
  else if n.kind=2 then
   let q:=zbM vars pile r (pos+1) ⟨s.next+1,s.h+1,max s.most (s.h+1)⟩
   (encW 1 s.next (pile+s.h) (pos+1)::q.1,q.2)
  else
   let q:=zbM vars pile r (pos+1) ⟨s.next,s.h - 1,s.most⟩
   (encW (n.kind - 1) (pile+s.h - 1) (pile+s.h - 2) (pos+1)::q.1,q.2)
def zaT (vars:Int) (nv:Nat):List Int:=(List.range nv).map fun i:Nat=>encW 6 0 (vars+i) (i+1)
structure ProgT where
 store:List Int
 start:Int
 orders:Int
deriving DecidableEq
def zbN (f:FormT):ProgT × Int:=
 if zD f≠0 then (⟨[],0,0⟩,zD f)
 else
  let o:Int:=f.vars.length+f.code.length+2
  let c:=zal f.code
  let vars:=o
  let pile:Int:=o+f.vars.length+c.length
  let q:=zbM vars pile f.code f.vars.length ⟨o+f.vars.length,0,0⟩
  (⟨zaT vars f.vars.length ++ q.1 ++ [encW 7 pile 0 (o - 1)] ++ List.replicate (1+f.vars.length) 0 ++ c ++ List.replicate q.2.most.toNat 0,0,o⟩,0)
theorem zdO {a A x y:Int} (h1:a≤x) (h2:x≤A):min (a * y) (A * y)≤x * y∧x * y≤max (a * y) (A * y):=by
 rcases Int.le_total 0 y with hy|hy
 ·have:=Int.mul_le_mul_of_nonneg_right h1 hy;have:=Int.mul_le_mul_of_nonneg_right h2 hy;omega
 ·have:=Int.mul_le_mul_of_nonpos_right h1 hy;have:=Int.mul_le_mul_of_nonpos_right h2 hy;omega
theorem zl4 {a A b B x y:Int} (h1:a≤x) (h2:x≤A) (h3:b≤y) (h4:y≤B):min4 (a * b) (a * B) (A * b) (A * B)≤x * y∧x * y≤max4 (a * b) (a * B) (A * b) (A * B):=by
 have e1:=zdO (y:=y) h1 h2;have e2:=zdO (y:=a) h3 h4;have e3:=zdO (y:=A) h3 h4;rw [Int.mul_comm b a,Int.mul_comm B a,Int.mul_comm y a] at e2;rw [Int.mul_comm b A,Int.mul_comm B A,Int.mul_comm y A] at e3;unfold min4 max4;omega
theorem zig {k a A b B x y:Int} (h1:a≤x) (h2:x≤A) (h3:b≤y) (h4:y≤B):min4 (opV k a b) (opV k a B) (opV k A b) (opV k A B)≤opV k x y∧opV k x y≤max4 (opV k a b) (opV k a B) (opV k A b) (opV k A B):=by
 unfold opV;by_cases k3:k=3
 ·simp only [if_pos k3];unfold min4 max4;omega
 ·by_cases k4:k=4
  ·simp only [if_neg k3,if_pos k4];unfold min4 max4;omega
  ·simp only [if_neg k3,if_neg k4];have h:=zl4 h1 h2 h3 h4;generalize a * b=p1,a * B=p2,A * b=p3,A * B=p4,x * y=z at h;unfold min4 max4 at h ⊢;omega
end FoT
namespace Go.Proofs.YtdgkljfpaddfpaaGreatDoor
open Go Go.QL FoT
set_option maxHeartbeats 1600000
attribute [local irreducible] ACall FnC
def bs (l:Bs8):ByteArray:=⟨l.toArray⟩
def ndPV (n:FNode):List PV:=[.v (.int .i64 n.kind),.v (.int .i64 n.var),.v (.int .i64 n.num),.v (.int .i64 n.places)]
abbrev ndC (n:FNode):List SV:=[.d (.v (.int .i64 n.kind)),.d (.v (.int .i64 n.var)),.d (.v (.int .i64 n.num)),.d (.v (.int .i64 n.places))]
def ndAV (n:FNode):AV:=.a [.d (.v (.int .i64 n.kind)),.d (.v (.int .i64 n.var)),.d (.v (.int .i64 n.num)),.d (.v (.int .i64 n.places))]
def zS (l:List FNode):PV:=.s 4 (l.map ndPV)
def zaa (s:Bs8):List PV:=[.v (.string (bs s))]
def zac (V:List Bs8):PV:=.s 1 (V.map zaa)
def zaB (f:FormT):AV:=.a [.d (zac f.vars),.d (zS f.code)]
abbrev zb5 (f:FormT):List SV:=[.d (zac f.vars),.d (zS f.code)]
def flAV (x:FloT):AV:=.a [.d (.v (.int .i64 x.mant)),.d (.v (.int .i64 x.exp))]
def flPV (x:FloT):List PV:=[.v (.int .i64 x.mant),.v (.int .i64 x.exp)]
def zdT (l:List FloT):AV:=.x (.d (.s 2 (l.map flPV)))
def stPV (s:StepT):List PV:=[.v (.int .i64 s.op),.v (.int .i64 s.a),.v (.int .i64 s.b),.v (.int .i64 s.to)]
def zhW (l:List StepT):AV:=.x (.d (.s 4 (l.map stPV)))
def rgAV (x:RangeT):AV:=.a [.d (.v (.int .i64 x.lo)),.d (.v (.int .i64 x.hi)),.d (.v (.int .i64 x.err))]
def rgPV (x:RangeT):List PV:=[.v (.int .i64 x.lo),.v (.int .i64 x.hi),.v (.int .i64 x.err)]
def spPV (x:SpanT):List PV:=[.v (.int .i64 x.lo),.v (.int .i64 x.hi)]
def zcS (l:List SpanT):PV:=.s 2 (l.map spPV)
def zoV (p:ProgT):AV:=.a [.d (zR p.store),.d (.v (.int .i64 p.start)),.d (.v (.int .i64 p.orders))]
theorem zbj (l:Bs8):(bs l).size=l.length:=List.size_toArray ..
theorem zco (l:Bs8):(bs l).data.toList=l:=by simp [bs]
theorem zsc (s:ByteArray):bs s.data.toList=s:=by
 apply ByteArray.ext;simp [bs]
theorem zrs {a b:Bs8} (h:bs a=bs b):a=b:=by
 have:=congrArg (fun s:ByteArray=>s.data.toList) h;simpa [bs] using this
theorem za7 (a b:Bs8):bs a ++ bs b=bs (a ++ b):=by
 apply ByteArray.ext;rw [ByteArray.data_append];simp [bs]
theorem zdf (a b:Bs8):((bs a).toList == (bs b).toList)=decide (a=b):=by
 rw [Bool.eq_iff_iff,Lib.bytes_beq_iff,decide_eq_true_iff];exact⟨zrs,congrArg bs⟩
theorem ztj (l:Bs8) (a b:Nat):(bs l).extract a b=bs ((l.take b).drop a):=by
 apply ByteArray.ext;rw [ByteArray.data_extract];simp [bs];rw [List.drop_take]
def outB (n lo hi:Int):Bool:=bif decide (n < lo) then true else decide (hi < n)
theorem zQ {n lo hi:Int}:outB n lo hi=false↔lo≤n∧n≤hi:=by
 unfold outB;cases h:decide (n < lo) with
 | true=>have:=of_decide_eq_true h;simp;omega
 | false=>have:=of_decide_eq_false h;simp;omega
theorem outB_true {n lo hi:Int}:outB n lo hi=true↔¬ (lo≤n∧n≤hi):=by rw [← zQ];simp
theorem zcE (n lo hi:Int):outB n lo hi=decide (¬ (lo≤n∧n≤hi)):=by
 rw [Bool.eq_iff_iff,outB_true,decide_eq_true_iff]
theorem zaL (n lo hi:Int):FnC Tryz.prog 15 [iv .i64 n,iv .i64 lo,iv .i64 hi] (bv (outB n lo hi)):=by
 refine hdC Tryz.func15 Tryz.ntmps15 (res:=[.tmp 6]) fun w0 K0=>?_
 repeat' first|refine zd ?_|((first|refine zi ?_|refine regA ?_|refine andA ?_|fail);conv=>whnf)|fail
 rfl
theorem zpQ (n lo hi:Int):FnC Tryz.prog 101 [iv .i64 n,iv .i64 lo,iv .i64 hi] (bv (outB n lo hi)):=by
 refine hdC Tryz.func101 Tryz.ntmps101 (res:=[.tmp 6]) fun w0 K0=>?_
 repeat' first|refine zd ?_|((first|refine zi ?_|refine regA ?_|refine andA ?_|fail);conv=>whnf)|fail
 rfl
def zqG:List SV:=[.d (.v (.int .i64 1)),.d (.v (.int .i64 10)),.d (.v (.int .i64 100)),.d (.v (.int .i64 1000)),.d (.v (.int .i64 10000)),.d (.v (.int .i64 100000)),.d (.v (.int .i64 1000000))]
def zqF (i:Nat):List SV:=(List.range 7).map fun k=>if k≤i then .d (.v (.int .i64 ((10:Int) ^ k))) else .d (.v (.int .i64 0))
theorem zdI:FnC Tryz.prog 53 [] (.a zqG):=by
 refine hdC Tryz.func53 Tryz.ntmps53 (res:=[.cell 0 120]) fun w0 K0=>?_
 repeat' first|refine zd ?_|refine zc ?_|((first|refine regA ?_|refine andA ?_|fail);conv=>whnf)|fail
 refine zJ (fun i:Nat=>[(3,iv .i64 i),(0,.x (.b 0 0))]) (fun i=>[(0,.box (zqF i))]) (fun i=>i≤6) (fun i=>6 - i) 0 (by omega) (Imp.forget ⟨rfl,rfl,trivial⟩ ⟨rfl,trivial⟩ rfl) ?_
 intro i hi;have hi':i=0∨i=1∨i=2∨i=3∨i=4∨i=5∨i=6:=by omega
 rcases hi' with rfl|rfl|rfl|rfl|rfl|rfl|rfl
 ·repeat' first|refine zd ?_|refine zc ?_|((first|refine zf ?_|refine regA ?_|fail);conv=>whnf)|(refine zst rfl ?_)|((first|refine zsq ?_|refine andA ?_|fail);conv=>whnf)|fail
  exact⟨1,by omega,by omega,impA⟩
 ·repeat' first|refine zd ?_|refine zc ?_|((first|refine zf ?_|refine regA ?_|fail);conv=>whnf)|(refine zst rfl ?_)|((first|refine zsq ?_|refine andA ?_|fail);conv=>whnf)|fail
  exact⟨2,by omega,by omega,impA⟩
 ·repeat' first|refine zd ?_|refine zc ?_|((first|refine zf ?_|refine regA ?_|fail);conv=>whnf)|(refine zst rfl ?_)|((first|refine zsq ?_|refine andA ?_|fail);conv=>whnf)|fail
  exact⟨3,by omega,by omega,impA⟩
 ·repeat' first|refine zd ?_|refine zc ?_|((first|refine zf ?_|refine regA ?_|fail);conv=>whnf)|(refine zst rfl ?_)|((first|refine zsq ?_|refine andA ?_|fail);conv=>whnf)|fail
  exact⟨4,by omega,by omega,impA⟩
 ·repeat' first|refine zd ?_|refine zc ?_|((first|refine zf ?_|refine regA ?_|fail);conv=>whnf)|(refine zst rfl ?_)|((first|refine zsq ?_|refine andA ?_|fail);conv=>whnf)|fail
  exact⟨5,by omega,by omega,impA⟩
 ·repeat' first|refine zd ?_|refine zc ?_|((first|refine zf ?_|refine regA ?_|fail);conv=>whnf)|(refine zst rfl ?_)|((first|refine zsq ?_|refine andA ?_|fail);conv=>whnf)|fail
  exact⟨6,by omega,by omega,impA⟩
 ·repeat' first|refine zd ?_|((first|refine zk ?_|refine zi ?_|refine regA ?_|fail);conv=>whnf)|(refine zss rfl ?_)|fail
  rfl
end Go.Proofs.YtdgkljfpaddfpaaGreatDoor
namespace Go.Proofs.YtdgkljfpaddfpaaGreatDoor
open Go Go.QL FoT
set_option maxHeartbeats 1600000
attribute [local irreducible] ACall FnC
theorem znH (n:FNode):FnC Tryz.prog 52 [ndAV n] (ndAV (if n.kind=1 then ⟨n.kind,0,n.num,n.places⟩ else if n.kind=2 then ⟨n.kind,n.var,0,0⟩ else n)):=by
 by_cases h1:n.kind=1
 ·rw [if_pos h1];refine hdC Tryz.func52 Tryz.ntmps52 (res:=[.cell 2 50]) fun w0 K0=>?_
  repeat' first|refine zd ?_|refine zc ?_|((first|refine zi ?_|refine regA ?_|fail);conv=>whnf)|exact abA hb|(refine zso rfl (fun hb=>?_) (fun hb=>?_))|((refine andA ?_);conv=>whnf)|fail
  rfl
 ·rw [if_neg h1];by_cases h2:n.kind=2
  ·rw [if_pos h2];refine hdC Tryz.func52 Tryz.ntmps52 (res:=[.cell 2 50]) fun w0 K0=>?_
   repeat' first|refine zd ?_|refine zc ?_|((first|refine zf ?_|refine zi ?_|refine regA ?_|fail);conv=>whnf)|exact abA hb|(refine zso rfl (fun hb=>?_) (fun hb=>?_))|((refine andA ?_);conv=>whnf)|fail
   rfl
  ·rw [if_neg h2];refine hdC Tryz.func52 Tryz.ntmps52 (res:=[.cell 2 50]) fun w0 K0=>?_
   repeat' first|refine zd ?_|refine zc ?_|((first|refine zf ?_|refine zi ?_|refine regA ?_|fail);conv=>whnf)|exact abA hb|(refine zso rfl (fun hb=>?_) (fun hb=>?_))|((refine andA ?_);conv=>whnf)|fail
   rfl
theorem zpj {a c:UInt8}:(a≤c)↔(a.toNat:Int)≤c.toNat:=by rw [UInt8.le_iff_toNat_le];omega
abbrev zoe (c:UInt8):Bool:=bif decide ((c.toNat:Int) ≥ 97) then decide ((c.toNat:Int)≤122) else false
abbrev zkW (i:Nat) (c:UInt8):Bool:=bif decide ((i:Int) > 0) then (bif ((c.toNat:Int) == 95) then true else bif decide ((c.toNat:Int) ≥ 48) then decide ((c.toNat:Int)≤57) else false) else false
theorem zmB (c:UInt8):zoe c=(97≤c && c≤122):=by
 rw [Bool.eq_iff_iff];simp [zoe,zpj]
theorem zmA (i:Nat) (c:UInt8):zkW i c=(!(decide (i=0)) && ((48≤c && c≤57) || c == 95)):=by
 rw [Bool.eq_iff_iff];have e:(c == 95)=((c.toNat:Int) == 95):=by
  rw [Bool.eq_iff_iff,beq_iff_eq,beq_iff_eq,← UInt8.toNat_inj];show c.toNat=95↔_
  omega
 rw [e];simp only [zkW,Bool.cond_eq_ite];simp [zpj,Nat.pos_iff_ne_zero];grind
theorem zg1 (i:Nat) (c:UInt8):zg2 (decide (i=0)) c=(zoe c || zkW i c):=by
 rw [zmB,zmA];rfl
theorem zkd {l:Bs8} (h:1≤l.length):l[l.length - 1]?=some (l.getLastD 0):=by
 rw [List.getLastD_eq_getLast?,List.getLast?_eq_getElem?];rw [List.getElem?_eq_getElem (by omega)];rfl
end Go.Proofs.YtdgkljfpaddfpaaGreatDoor
namespace Go.Proofs.YtdgkljfpaddfpaaGreatDoor
open Go Go.QL FoT
set_option maxHeartbeats 1600000
attribute [local irreducible] ACall FnC
abbrev zpT (l:Bs8):Bool:=((l.getLastD 0).toNat:Int) == 95
theorem zeo (l:Bs8):zpT l=(l.getLastD 0 == 95):=by
 rw [Bool.eq_iff_iff,beq_iff_eq,beq_iff_eq,← UInt8.toNat_inj];show _↔(l.getLastD 0).toNat=95
 omega
theorem zl3 (l:Bs8):FnC Tryz.prog 50 [sv (bs l)] (bv (zbb l)):=by
 have hsz:=zbj l;have hli:=zco l;have o:=zpQ (bs l).size 1 20;by_cases h1:1≤l.length∧l.length≤20
 ·have ho:outB (bs l).size 1 20=false:=zQ.2 (by omega);rw [ho] at o;have hg:(bs l).data.toList[((bs l).size - 1:Int).toNat]?=some (l.getLastD 0):=by
   rw [hli,show ((bs l).size - 1:Int).toNat=l.length - 1 by omega];exact zkd h1.1
  cases h2:zpT l with
  | true=>
   have hr:zbb l=false:=by
    unfold zbb;rw [← zeo,h2];simp
   rw [hr];refine hdC Tryz.func50 Tryz.ntmps50 (res:=[.tmp 2]) fun w0 K0=>?_
   repeat' first|refine zd ?_|((first|refine zi ?_|refine regA ?_|refine zsn (o) ?_|refine⟨_,ze ⟨by omega,hg⟩,?_⟩|fail);conv=>whnf)|(refine za rfl (fun _=>?_) (zaf h2))|((first|refine zsq ?_|refine andA ?_|fail);conv=>whnf)|fail
   rfl
  | false=>
   have hr:zbb l=z7 true l:=by
    unfold zbb;rw [← zeo,h2,decide_eq_true h1.1,decide_eq_true h1.2];rfl
   rw [hr];have hlen:((bs l).data.toList.map fun c=>[PV.v (.int .u8 c.toNat)]).length=l.length:=by rw [hli,List.length_map]
   have hmax:(bs l).size≤maxLen:=by unfold maxLen;omega
   refine hdC Tryz.func50 Tryz.ntmps50 (res:=[.tmp 2]) fun w0 K0=>?_
   repeat' first|refine zd ?_|refine zc ?_|((first|refine zf ?_|refine regA ?_|refine zsn (o) ?_|refine⟨_,ze ⟨by omega,hg⟩,?_⟩|fail);conv=>whnf)|(refine za rfl (zM h2) (fun _=>?_))|((first|refine And.intro hmax ?_|refine zsq ?_|refine andA ?_|fail);conv=>whnf)|(refine lnA fun hln=>?_;conv=>whnf)|fail
   refine zJ (fun i:Nat=>[(19,iv .i64 i),(18,iv .i64 l.length),(17,.x (.d (.s 1 (l.map fun c=>[.v (.int .u8 c.toNat)]))))]) (fun _=>[])
    (fun i=>i≤l.length∧z7 true l=z7 (decide (i=0)) (l.drop i)) (fun i=>l.length - i) 0 ⟨Nat.zero_le _,rfl⟩
    (Imp.slots ⟨rfl,congrArg (fun k:Nat=>some (iv .i64 k)) hlen,congrArg (fun q:Bs8=>some (AV.x (.d (.s 1 (q.map fun c:UInt8=>[PV.v (.int .u8 (c.toNat:Int))]))))) hli,trivial⟩) ?_
   rintro i ⟨hi,hn⟩;rcases Nat.lt_or_ge i l.length with hil|hil
   ·rw [List.drop_eq_getElem_cons hil,z7,zg1] at hn;cases ha:zoe l[i] with
    | true=>
     rw [ha] at hn;have hn:z7 true l=z7 false (l.drop (i+1)):=hn;repeat' first|refine zd ?_|refine zc ?_|((first|refine zf ?_|refine zk ?_|refine zi ?_|refine regA ?_|fail);conv=>whnf)|exact abA hb|(refine za rfl (fun _=>?_) (zaf ha))|((refine pkA ?_);conv=>whnf)|(refine zso rfl (fun hb=>?_) (fun hb=>?_))|((first|refine zsq ?_|refine andA ?_|with_reducible refine exA fun _=>?_|fail);conv=>whnf)|fail
     exact⟨i+1,⟨by omega,hn⟩,by omega,impA⟩
    | false=>
     rw [ha] at hn;cases hc:zkW i l[i] with
     | true=>
      rw [hc] at hn;have hn:z7 true l=z7 false (l.drop (i+1)):=hn;repeat' first|refine zd ?_|refine zc ?_|((first|refine zf ?_|refine zk ?_|refine zi ?_|refine regA ?_|fail);conv=>whnf)|exact abA hb|(refine za rfl (zM ha) (fun _=>?_))|((refine pkA ?_);conv=>whnf)|(refine za rfl (fun _=>?_) (zaf hc))|(refine zso rfl (fun hb=>?_) (fun hb=>?_))|((first|refine zsq ?_|refine andA ?_|with_reducible refine exA fun _=>?_|fail);conv=>whnf)|fail
      exact⟨i+1,⟨by omega,hn⟩,by omega,impA⟩
     | false=>
      rw [hc] at hn;have hn:z7 true l=false:=hn;rw [hn];repeat' first|refine zd ?_|refine zc ?_|((first|refine zf ?_|refine zk ?_|refine zi ?_|refine regA ?_|fail);conv=>whnf)|exact abA hb|(refine za rfl (zM ha) (fun _=>?_))|((refine pkA ?_);conv=>whnf)|(refine za rfl (zM hc) (fun _=>?_))|(refine zso rfl (fun hb=>?_) (fun hb=>?_))|((first|refine andA ?_|with_reducible refine exA fun _=>?_|fail);conv=>whnf)|fail
      rfl
   ·rw [List.drop_eq_nil_of_le hil] at hn;have hn:z7 true l=true:=hn;rw [hn];repeat' first|refine zd ?_|refine zc ?_|((first|refine zf ?_|refine zk ?_|refine zi ?_|refine regA ?_|fail);conv=>whnf)|exact abA hb|(refine zso rfl (fun hb=>?_) (fun hb=>?_))|fail
    rfl
 ·have ho:outB (bs l).size 1 20=true:=outB_true.2 (by omega);rw [ho] at o;have hr:zbb l=false:=by
   unfold zbb;have:(decide (1≤l.length) && decide (l.length≤20))=false:=by
    rw [Bool.eq_false_iff];simp;omega
   rw [this];rfl
  rw [hr];refine hdC Tryz.func50 Tryz.ntmps50 (res:=[.tmp 2]) fun w0 K0=>?_
  repeat' first|refine zd ?_|((first|refine zi ?_|refine regA ?_|refine zsn (o) ?_|refine⟨95,zax (fun h=>absurd h (by decide)),?_⟩|fail);conv=>whnf)|(refine zst rfl ?_)|((first|refine⟨IntKind.wrap _ _,rfl,?_⟩|refine andA ?_|fail);conv=>whnf)|fail
  rfl
def idxV (t:Bs8):List Bs8→Nat→Int
 | [],_=>-1
 | v::r,i=>if v=t then i else idxV t r (i+1)
theorem zp8 (V:List Bs8) (t:Bs8):FnC Tryz.prog 102 [.x (.d (zac V)),sv (bs t)] (iv .i64 (idxV t V 0)):=by
 refine hdC Tryz.func102 Tryz.ntmps102 (res:=[.tmp 4]) fun w0 K0=>?_
 repeat' first|refine zd ?_|refine zc ?_|((refine regA ?_);conv=>whnf)|(refine lnA fun hln=>?_;conv=>whnf)|fail
 refine zJ (fun i:Nat=>[(8,iv .i64 i),(7,iv .i64 V.length),(0,.x (.d (zac V))),(1,sv (bs t))]) (fun _=>[]) (fun i=>i≤V.length∧idxV t V 0=idxV t (V.drop i) i) (fun i=>V.length - i) 0 ⟨Nat.zero_le _,rfl⟩
  (Imp.slots ⟨rfl,congrArg (fun k:Nat=>some (iv .i64 k)) (List.length_map _),rfl,rfl,trivial⟩) ?_
 rintro i ⟨hi,hfo⟩;rcases Nat.lt_or_ge i V.length with hil|hil
 ·rw [List.drop_eq_getElem_cons hil,idxV] at hfo;by_cases e:V[i]=t
  ·rw [if_pos e] at hfo;have hq:((bs t).toList == (bs V[i]).toList)=true:=by rw [zdf,e];exact decide_eq_true rfl
   repeat' first|refine zd ?_|refine zc ?_|((first|refine zf ?_|refine zk ?_|refine zi ?_|refine regA ?_|fail);conv=>whnf)|exact abA hb|(refine za rfl (fun _=>?_) (zaf hq))|(refine zso rfl (fun hb=>?_) (fun hb=>?_))|((first|refine andA ?_|with_reducible refine exA fun _=>?_|fail);conv=>whnf)|fail
   exact congrArg some (congrArg (iv .i64) hfo.symm)
  ·rw [if_neg e] at hfo;have hq:((bs t).toList == (bs V[i]).toList)=false:=by rw [zdf];exact decide_eq_false (fun h=>e h.symm)
   repeat' first|refine zd ?_|refine zc ?_|((first|refine zf ?_|refine zk ?_|refine zi ?_|refine regA ?_|fail);conv=>whnf)|exact abA hb|(refine za rfl (zM hq) (fun _=>?_))|(refine zso rfl (fun hb=>?_) (fun hb=>?_))|((first|refine zsq ?_|refine andA ?_|with_reducible refine exA fun _=>?_|fail);conv=>whnf)|fail
   exact⟨i+1,⟨by omega,hfo⟩,by omega,impA⟩
 ·rw [List.drop_eq_nil_of_le hil,idxV] at hfo;repeat' first|refine zd ?_|refine zc ?_|((first|refine zf ?_|refine zk ?_|refine zi ?_|refine regA ?_|fail);conv=>whnf)|exact abA hb|(refine zso rfl (fun hb=>?_) (fun hb=>?_))|fail
  exact congrArg some (congrArg (iv .i64) hfo.symm)
theorem zkl (t:Bs8):∀ (V:List Bs8) (i:Nat),(t ∈ V→0≤idxV t V i)∧(t ∉ V→idxV t V i = -1)
 | [],i=>⟨fun h=>(by cases h),fun _=>rfl⟩
 | v::r,i=>by
  rw [idxV];by_cases e:v=t
  ·rw [if_pos e];exact⟨fun _=>by omega,fun h=>absurd (by simp [e]) h⟩
  ·rw [if_neg e];obtain⟨h1,h2⟩:=zkl t r (i+1);refine⟨fun h=>h1 ?_,fun h=>h2 ?_⟩
   ·rcases List.mem_cons.1 h with h|h
    ·exact absurd h.symm e
    ·exact h
   ·exact fun hm=>h (List.mem_cons_of_mem _ hm)
theorem zdW (V:List Bs8) (t:Bs8):FnC Tryz.prog 51 [.x (.d (zac V)),sv (bs t)] (bv (decide (t ∈ V))):=by
 have hc:=zp8 V t;have hr:decide (idxV t V 0 ≥ 0)=decide (t ∈ V):=by
  obtain⟨h1,h2⟩:=zkl t V 0;rw [Bool.eq_iff_iff,decide_eq_true_iff,decide_eq_true_iff];refine⟨fun h=>?_,h1⟩
  by_cases hm:t ∈ V
  ·exact hm
  ·rw [h2 hm] at h;omega
 rw [← hr];generalize idxV t V 0=k at hc;refine hdC Tryz.func51 Tryz.ntmps51 (res:=[.tmp 4]) fun w0 K0=>?_
 repeat' first|refine zd ?_|((first|refine zi ?_|refine regA ?_|refine zsn (hc) ?_|fail);conv=>whnf)|fail
 rfl
end Go.Proofs.YtdgkljfpaddfpaaGreatDoor
namespace FoT
def Sub (x y:RangeT):Prop:=y.lo≤x.lo∧x.lo≤x.hi∧x.hi≤y.hi∧0≤x.err∧x.err≤y.err
def SubL:List RangeT→List RangeT→Prop
 | [],[]=>True
 | x::r,y::q=>Sub x y∧SubL r q
 | _,_=>False
theorem SubL.len:∀ {a b:List RangeT},SubL a b→a.length=b.length
 | [],[],_=>rfl
 | x::r,y::q,h=>by simp [SubL.len h.2]
 | [],_::_,h=>h.elim
 | _::_,[],h=>h.elim
theorem SubL.app:∀ {a b c d:List RangeT},SubL a b→SubL c d→SubL (a ++ c) (b ++ d)
 | [],[],_,_,_,h=>h
 | x::r,y::q,_,_,h,g=>⟨h.1,SubL.app h.2 g⟩
 | [],_::_,_,_,h,_=>h.elim
 | _::_,[],_,_,h,_=>h.elim
theorem SubL.take:∀ {a b:List RangeT} (k:Nat),SubL a b→SubL (a.take k) (b.take k)
 | _,_,0,_=>by simp [SubL]
 | [],[],k+1,_=>by simp [SubL]
 | x::r,y::q,k+1,h=>by rw [List.take_succ_cons,List.take_succ_cons];exact⟨h.1,SubL.take k h.2⟩
 | [],_::_,_+1,h=>h.elim
 | _::_,[],_+1,h=>h.elim
theorem sub_zero:Sub zaI zaI:=by unfold Sub zaI;decide
theorem SubL.getD:∀ {a b:List RangeT} (k:Nat),SubL a b→Sub (a.getD k zaI) (b.getD k zaI)
 | [],[],_,_=>sub_zero
 | x::r,y::q,0,h=>h.1
 | x::r,y::q,k+1,h=>by rw [List.getD_cons_succ,List.getD_cons_succ];exact SubL.getD k h.2
 | [],_::_,_,h=>h.elim
 | _::_,[],_,h=>h.elim
theorem zmJ {x y:RangeT} (h:Sub x y):0≤farR x∧farR x≤farR y:=by
 unfold Sub at h;unfold farR;omega
theorem zjo {a b c d:Int} (h0:0≤a) (h1:a≤b) (h2:0≤c) (h3:c≤d):a * c≤b * d:=Int.mul_le_mul h1 h3 h2 (Int.le_trans h0 h1)
theorem zqf {x y u v:RangeT} (h:Sub x y) (g:Sub u v):0≤(zT 5 x u).err∧(zT 5 x u).err≤(zT 5 y v).err:=by
 obtain⟨f0,f1⟩:=zmJ h;obtain⟨g0,g1⟩:=zmJ g;obtain⟨_,_,_,h4,h5⟩:=h;obtain⟨_,_,_,g4,g5⟩:=g;have a1:=zjo f0 f1 g4 g5;have a2:=zjo g0 g1 h4 h5;have a3:=zjo h4 h5 g4 g5;have b1:=Int.mul_nonneg f0 g4;have b2:=Int.mul_nonneg g0 h4;have b3:=Int.mul_nonneg h4 g4;have key:∀ p q r p' q' r':Int,0≤p→0≤q→0≤r→p≤p'→q≤q'→r≤r'→0≤(2 * p+2 * q+r+16777215) / 16777216+2∧(2 * p+2 * q+r+16777215) / 16777216+2≤(2 * p'+2 * q'+r'+16777215) / 16777216+2:=by
  intro p q r p' q' r' _ _ _ _ _ _;omega
 have:=key _ _ _ _ _ _ b1 b2 b3 a1 a2 a3;unfold zT;dsimp only;rw [if_pos rfl,if_pos rfl,Int.mul_assoc,Int.mul_assoc,Int.mul_assoc,Int.mul_assoc];exact this
theorem zoa {k:Int} {x y u v:RangeT} (h:Sub x y) (g:Sub u v):Sub (zT k x u) (zT k y v):=by
 have e:=zqf h g;have h':=h;have g':=g;obtain⟨h1,h2,h3,h4,h5⟩:=h;obtain⟨g1,g2,g3,g4,g5⟩:=g;have c1:=zig (k:=k) h1 (Int.le_trans h2 h3) g1 (Int.le_trans g2 g3);have c2:=zig (k:=k) h1 (Int.le_trans h2 h3) (Int.le_trans g1 g2) g3;have c3:=zig (k:=k) (Int.le_trans h1 h2) h3 g1 (Int.le_trans g2 g3);have c4:=zig (k:=k) (Int.le_trans h1 h2) h3 (Int.le_trans g1 g2) g3;have hE:0≤(zT k x u).err∧(zT k x u).err≤(zT k y v).err:=by
  by_cases k5:k=5
  ·rw [k5];exact e
  ·unfold zT;dsimp only;rw [if_neg k5,if_neg k5];omega
 refine⟨?_,?_,?_,hE.1,hE.2⟩
 ·show min4 _ _ _ _≤min4 _ _ _ _
  generalize min4 (opV k y.lo v.lo) (opV k y.lo v.hi) (opV k y.hi v.lo) (opV k y.hi v.hi)=m at c1 c2 c3 c4 ⊢;unfold min4;omega
 ·show min4 _ _ _ _≤max4 _ _ _ _
  unfold min4 max4;omega
 ·show max4 _ _ _ _≤max4 _ _ _ _
  generalize max4 (opV k y.lo v.lo) (opV k y.lo v.hi) (opV k y.hi v.lo) (opV k y.hi v.hi)=m at c1 c2 c3 c4 ⊢;unfold max4;omega
theorem zmE {x y:RangeT} (h:Sub x y) (g:¬ (zC y.lo=true∨zC y.hi=true)):¬ (zC x.lo=true∨zC x.hi=true):=by
 obtain⟨h1,h2,h3,_,_⟩:=h;unfold zC at g ⊢;simp only [Bool.or_eq_true,decide_eq_true_eq] at g ⊢;omega
def SubP (x y:SpanT):Prop:=y.lo≤x.lo∧x.lo≤x.hi∧x.hi≤y.hi
theorem zdS (n:FNode):0≤zdz n:=by unfold zdz;split <;> decide
theorem znU {less spans:List SpanT} (h:∀ i:Nat,SubP (less.getD i ⟨0,0⟩) (spans.getD i ⟨0,0⟩)) (n:FNode):Sub (zbB less n) (zbB spans n):=by
 unfold zbB;by_cases k1:n.kind=1
 ·rw [if_pos k1,if_pos k1];obtain⟨a,b,c⟩:=h n.var.toNat;exact⟨a,b,c,Int.le_refl _,Int.le_refl _⟩
 ·rw [if_neg k1,if_neg k1];exact⟨Int.le_refl _,Int.le_refl _,Int.le_refl _,zdS n,Int.le_refl _⟩
theorem zjf {less spans:List SpanT} (h:∀ i:Nat,SubP (less.getD i ⟨0,0⟩) (spans.getD i ⟨0,0⟩)):∀ (code:List FNode) (i:Nat) (st' st out:List RangeT),SubL st' st→rngS spans i code st=.ok out→∃ out',rngS less i code st'=.ok out'∧SubL out' out
 | [],i,st',st,out,hs,ho=>by cases ho;exact⟨_,rfl,hs⟩
 | n::r,i,st',st,out,hs,ho=>by
  rw [rngS] at ho ⊢;split at ho
  ·rename_i hk;rw [if_pos hk];exact zjf h r _ _ _ _ (SubL.app (c:=[_]) (d:=[_]) hs ⟨znU h n,trivial⟩) ho
  ·rename_i hk;rw [if_neg hk];dsimp only at ho ⊢;rw [hs.len];have hj:=zoa (k:=n.kind) (SubL.getD (st.length - 2) hs) (SubL.getD (st.length - 1) hs);split at ho
   ·cases ho
   ·rename_i hg;rw [if_neg (zmE hj hg)];exact zjf h r _ _ _ _ (SubL.app (c:=[_]) (d:=[_]) (SubL.take _ hs) ⟨hj,trivial⟩) ho
theorem zbv:∀ {l:List SpanT} {i:Nat},zaF l i=none↔∀ s ∈ l,zC s.lo=false∧zC s.hi=false∧s.lo≤s.hi
 | [],_=>by simp [zaF]
 | s::r,i=>by
  rw [zaF];split
  ·rename_i h;refine⟨fun e=>(by cases e),fun e=>?_⟩
   have:=e s (by simp);rw [this.1,this.2.1] at h;rcases h with h|h <;> cases h
  ·rename_i h;rw [not_or,Bool.not_eq_true,Bool.not_eq_true] at h;split
   ·rename_i h2;refine⟨fun e=>(by cases e),fun e=>?_⟩
    have:=e s (by simp);omega
   ·rename_i h2;rw [zbv (l:=r)];simp only [List.mem_cons,forall_eq_or_imp];refine⟨fun e=>⟨⟨h.1,h.2,by omega⟩,e⟩,fun e=>e.2⟩
theorem zhq {f:FormT} {spans:List SpanT} (h:(z8 f spans).2.2=0):zD f=0∧spans.length=f.vars.length∧(∀ s ∈ spans,zC s.lo=false∧zC s.hi=false∧s.lo≤s.hi)∧∃ st,rngS spans 0 f.code []=.ok st∧z8 f spans=(st.getD 0 zaI,0,0):=by
 unfold z8 at h ⊢;by_cases h1:zD f≠0
 ·rw [if_pos h1] at h;exact absurd h h1
 rw [if_neg h1] at h ⊢;by_cases h2:spans.length≠f.vars.length
 ·rw [if_pos h2] at h;cases h
 rw [if_neg h2] at h ⊢;cases h3:zaF spans 0 with
 | some p=>
  obtain⟨i,e⟩:=p;rw [h3] at h;dsimp only at h;subst h;exfalso;have key:∀ (l:List SpanT) (j:Nat),zaF l j=some (i,0)→False:=by
   intro l;induction l with
   | nil=>intro j hj;cases hj
   | cons s r ih=>
    intro j hj;rw [zaF] at hj;split at hj
    ·cases hj
    ·split at hj
     ·cases hj
     ·exact ih _ hj
  exact key _ _ h3
 | none=>
  rw [h3] at h;dsimp only at h ⊢;cases h4:rngS spans 0 f.code [] with
  | error i=>rw [h4] at h;cases h
  | ok st=>exact⟨by simpa using h1,by simpa using h2,zbv.1 h3,st,rfl,rfl⟩
theorem zi2 {f:FormT} {spans less:List SpanT} (h:(z8 f spans).2.2=0) (hl:less.length=spans.length) (hs:∀ i (h1:i < less.length) (h2:i < spans.length),SubP less[i] spans[i]) :
  (z8 f less).2.2=0∧(z8 f spans).1.lo≤(z8 f less).1.lo∧(z8 f less).1.hi≤(z8 f spans).1.hi∧(z8 f less).1.err≤(z8 f spans).1.err:=by
 obtain⟨hc,hlen,hsp,st,hst,he⟩:=zhq h;have hD:∀ i:Nat,SubP (less.getD i ⟨0,0⟩) (spans.getD i ⟨0,0⟩):=fun i=>by
  by_cases hi:i < less.length
  ·have h2:i < spans.length:=by omega
   have:=hs i hi h2;rw [List.getD_eq_getElem?_getD,List.getD_eq_getElem?_getD,List.getElem?_eq_getElem hi,List.getElem?_eq_getElem h2];exact this
  ·rw [List.getD_eq_getElem?_getD,List.getD_eq_getElem?_getD,List.getElem?_eq_none (by omega),List.getElem?_eq_none (by omega)];exact⟨Int.le_refl _,Int.le_refl _,Int.le_refl _⟩
 obtain⟨st',h1,h2⟩:=zjf hD f.code 0 [] [] st trivial hst;have hb:zaF less 0=none:=zbv.2 fun s hm=>by
  obtain⟨i,hi,rfl⟩:=List.getElem_of_mem hm;have h2:i < spans.length:=by omega
  obtain⟨a,b,c⟩:=hs i hi h2;obtain⟨d,e,g⟩:=hsp _ (List.getElem_mem h2);unfold zC at d e ⊢;simp only [Bool.or_eq_false_iff,decide_eq_false_iff_not] at d e ⊢;omega
 have e2:z8 f less=(st'.getD 0 zaI,0,0):=by
  unfold z8;rw [if_neg (by simpa using hc),if_neg (by simpa using hl.trans hlen),hb];dsimp only;rw [h1]
 rw [e2,he];obtain⟨a,b,c,d,e⟩:=SubL.getD 0 h2;exact⟨rfl,a,c,e⟩
end FoT
namespace FoT
abbrev Fr2:=Int × Int
def zcu (s e:Int) (x:Fr2):Prop:=2 * s * x.2 - 2 * x.1≤e * x.2∧2 * x.1 - 2 * s * x.2≤e * x.2
def In3 (w:Int) (x:RangeT) (y:Fr2):Prop:=zP w∧-8388608≤x.lo∧x.lo≤sgnW w∧sgnW w≤x.hi∧x.hi≤8388607∧0≤x.err∧0 < y.2∧zcu (sgnW w) x.err y
def In3L:List Int→List RangeT→List Fr2→Prop
 | [],[],[]=>True
 | a::r,b::q,c::s=>In3 a b c∧In3L r q s
 | _,_,_=>False
theorem In3L.len:∀ {a b c},In3L a b c→a.length=b.length∧c.length=b.length
 | [],[],[],_=>⟨rfl,rfl⟩
 | a::r,b::q,c::s,h=>by simp [(In3L.len h.2).1,(In3L.len h.2).2]
 | [],[],_::_,h=>h.elim
 | [],_::_,_,h=>h.elim
 | _::_,[],_,h=>h.elim
 | _::_,_::_,[],h=>h.elim
theorem In3L.app:∀ {a b c a' b' c'},In3L a b c→In3L a' b' c'→In3L (a ++ a') (b ++ b') (c ++ c')
 | [],[],[],_,_,_,_,h=>h
 | a::r,b::q,c::s,_,_,_,h,g=>⟨h.1,In3L.app h.2 g⟩
 | [],[],_::_,_,_,_,h,_=>h.elim
 | [],_::_,_,_,_,_,h,_=>h.elim
 | _::_,[],_,_,_,_,h,_=>h.elim
 | _::_,_::_,[],_,_,_,h,_=>h.elim
theorem In3L.take:∀ {a b c} (k:Nat),In3L a b c→In3L (a.take k) (b.take k) (c.take k)
 | _,_,_,0,_=>by simp [In3L]
 | [],[],[],k+1,_=>by simp [In3L]
 | a::r,b::q,c::s,k+1,h=>by rw [List.take_succ_cons,List.take_succ_cons,List.take_succ_cons];exact⟨h.1,In3L.take k h.2⟩
 | [],[],_::_,_+1,h=>h.elim
 | [],_::_,_,_+1,h=>h.elim
 | _::_,[],_,_+1,h=>h.elim
 | _::_,_::_,[],_+1,h=>h.elim
theorem zof:In3 0 zaI (0,1):=by unfold In3 zP sgnW zaI zcu;decide
theorem In3L.getD:∀ {a b c} (k:Nat),In3L a b c→In3 (a.getD k 0) (b.getD k zaI) (c.getD k (0,1))
 | [],[],[],_,_=>zof
 | a::r,b::q,c::s,0,h=>h.1
 | a::r,b::q,c::s,k+1,h=>by rw [List.getD_cons_succ,List.getD_cons_succ,List.getD_cons_succ];exact In3L.getD k h.2
 | [],[],_::_,_,h=>h.elim
 | [],_::_,_,_,h=>h.elim
 | _::_,[],_,_,h=>h.elim
 | _::_,_::_,[],_,h=>h.elim
theorem zne {t m:Int} (hT:t=10∨t=100∨t=1000∨t=10000∨t=100000∨t=1000000) (h0:0≤m) (hlt:m≤t - 1):0≤(m * 8388608+t / 2) / t∧(m * 8388608+t / 2) / t≤8388607∧0 < t ∧
  (2 * ((m * 8388608+t / 2) / t) * t - 2 * (m * 8388608)≤(if m * 8388608 % t=0 then 0 else 1) * t∧2 * (m * 8388608) - 2 * ((m * 8388608+t / 2) / t) * t≤(if m * 8388608 % t=0 then 0 else 1) * t):=by
 obtain⟨h,hh,ht⟩:∃ h,t=2 * h∧0 < h:=by exact⟨t / 2,by omega,by omega⟩
 have hh2:t / 2=h:=by omega
 have ht6:t≤1000000:=by omega
 have d1:=Int.mul_ediv_add_emod (m * 8388608+h) t;have d2:=Int.emod_nonneg (m * 8388608+h) (show t≠0 by omega);have d3:=Int.emod_lt_of_pos (m * 8388608+h) (show 0 < t by omega);rw [hh2];generalize hq:(m * 8388608+h) / t=q at *;generalize (m * 8388608+h) % t=r at *;have q0:0≤q:=by rw [← hq];exact Int.ediv_nonneg (by omega) (by omega)
 have q1:q < 8388608:=by
  rw [← hq];refine Int.ediv_lt_of_lt_mul (by omega) ?_
  omega
 rw [show 2 * q * t=2 * (t * q) by rw [Int.mul_assoc,Int.mul_comm q]];refine⟨q0,by omega,by omega,?_⟩
 split
 ·rename_i hz;have e1:=Int.mul_ediv_add_emod (m * 8388608) t;rw [hz] at e1;generalize (m * 8388608) / t=p at e1;have hqp:q=p:=by
   have e2:(m * 8388608+h) / t=p:=by
    rw [← e1,Int.add_zero,Int.mul_add_ediv_left _ _ (by omega),Int.ediv_eq_zero_of_lt (by omega) (by omega),Int.add_zero]
   omega
  subst hqp;omega
 ·omega
theorem zha {n:FNode} (hk:n.kind=2) {nv:Nat} (hf:fine nv n):0≤zbo n∧zbo n≤8388607∧0 < ten n∧zcu (zbo n) (zdz n) (n.num * 8388608,ten n):=by
 unfold fine at hf;rw [if_neg (by omega),if_pos hk] at hf;obtain⟨_,h1,h6,h0,hlt,_⟩:=hf;have hT:ten n=10∨ten n=100∨ten n=1000∨ten n=10000∨ten n=100000∨ten n=1000000:=by
  unfold ten;have:n.places=1∨n.places=2∨n.places=3∨n.places=4∨n.places=5∨n.places=6:=by omega
  rcases this with e|e|e|e|e|e <;> rw [e]
  ·exact .inl rfl
  ·exact .inr (.inl rfl)
  ·exact .inr (.inr (.inl rfl))
  ·exact .inr (.inr (.inr (.inl rfl)))
  ·exact .inr (.inr (.inr (.inr (.inl rfl))))
  ·exact .inr (.inr (.inr (.inr (.inr rfl))))
 have hlt:n.num≤ten n - 1:=by unfold ten;exact hlt
 unfold zbo zdz zcu;exact zne hT h0 hlt
structure LeafOK (words units:List Int) (spans:List SpanT) (nv:Nat):Prop where
 ok:∀ i:Nat,i < nv→zP (words.getD i 0)∧sgnW (words.getD i 0)=units.getD i 0∧(spans.getD i ⟨0,0⟩).lo≤units.getD i 0∧units.getD i 0≤(spans.getD i ⟨0,0⟩).hi∧-8388608≤(spans.getD i ⟨0,0⟩).lo∧(spans.getD i ⟨0,0⟩).hi≤8388607
theorem zgE {nv:Nat}:∀ (code:List FNode) (s s':CS),zav nv code s=.ok s'→∀ n ∈ code,zbA nv n=0
 | [],_,_,_,n,h=>by simp at h
 | m::r,s,s',hw,n,h=>by
  rw [zav] at hw;cases hs:zbx nv m s with
  | error e=>rw [hs] at hw;cases hw
  | ok s1=>
   rw [hs] at hw;rcases List.mem_cons.1 h with rfl|h
   ·exact (zd7 hs).1
   ·exact zgE r s1 s' hw n h
end FoT
namespace FoT
def vl:List Int→Int
 | []=>0
 | d::r=>d+10000 * vl r
def dg (l:List Int):Prop:=∀ d ∈ l,0≤d∧d < 10000
end FoT
namespace FoT
theorem zcv {n exp:Int} (h0:n≠0) (h:n.natAbs < 4611686018427387904):∃ s M:Nat,∃ E:Int,((8388608≤n.natAbs∧M=n.natAbs / 2 ^ s∧E=exp+23+s)∨(n.natAbs < 8388608∧s≤22∧M=n.natAbs * 2 ^ s∧E=exp+23 - s))∧4194304≤M∧M < 8388608 ∧
  ((E < -64∧zaj n exp=(zeroFl,0))∨(63 < E∧zaj n exp=(zeroFl,171))∨(-64≤E∧E≤63∧zaj n exp=(⟨sg n * M,E⟩,0))):=by
 obtain⟨s,M,E,h1,h2,h3,h4⟩:=zim (exp:=exp) h0 h;refine⟨s,M,E,h1,h2,h3,?_⟩
 rw [h4];unfold fin;by_cases a:E < -64
 ·exact .inl ⟨a,if_pos (.inr a)⟩
 ·rw [if_neg (by omega)];by_cases b:63 < E
  ·exact .inr (.inl ⟨b,if_pos b⟩)
  ·exact .inr (.inr ⟨by omega,by omega,if_neg b⟩)
theorem zcJ (n s:Nat):n / 2 ^ s * 2 ^ s≤n∧n < n / 2 ^ s * 2 ^ s+2 ^ s:=by
 have h:=Nat.div_add_mod n (2 ^ s);have h2:=Nat.mod_lt n (Nat.two_pow_pos s);rw [Nat.mul_comm] at h;omega
theorem zdK {a b:Nat} (h:a≤b):2 ^ a≤2 ^ b:=Nat.pow_le_pow_right (by decide) h
theorem zc6 {n s A:Nat} (h2:4194304≤n / 2 ^ s) (h3:n / 2 ^ s < 8388608) (hn:n < 2 ^ A) (hA:22≤A):s+23≤A:=by
 obtain⟨p,_⟩:=zcJ n s;rcases Nat.lt_or_ge A (s+23) with hc|hc
 ·have:=zdK (show A≤s+22 by omega);rw [Nat.pow_add] at this;have:=Nat.mul_le_mul_right (2 ^ s) h2;omega
 ·exact hc
theorem zcz {n s A:Nat} (h3:n / 2 ^ s < 8388608) (hn:2 ^ A≤n):A≤s+22:=by
 obtain⟨_,p⟩:=zcJ n s;rcases Nat.lt_or_ge (s+22) A with hc|hc
 ·have:=zdK (show s+23≤A by omega);rw [Nat.pow_add] at this;have:=Nat.mul_le_mul_right (2 ^ s) (show n / 2 ^ s+1≤8388608 by omega);rw [Nat.add_mul] at this;omega
 ·exact hc
def zij (x:FloT) (n exp:Int):Prop:=
 let shift:=x.exp - 23 - exp
 if x.mant=0∨shift < 0∨40 < shift then x.mant=0∧n=0
 else max (x.mant * 2 ^ shift.toNat - n) (-(x.mant * 2 ^ shift.toNat - n))≤max n (-n) / 2097152
theorem zl6 (n:Int):max n (-n)=n.natAbs:=by omega
theorem zaH (n:Int):(0≤n∧sg n=1∧n=n.natAbs)∨(n < 0∧sg n = -1∧n = -n.natAbs):=by unfold sg;split <;> omega
theorem zl0 {n:Int} {s M:Nat} {e E:Int} (h0:n≠0) (hM:M=n.natAbs / 2 ^ s) (h2:4194304≤M) (hs:s≤40) (hE:E - 23 - e=s):zij ⟨sg n * M,E⟩ n e:=by
 unfold zij;dsimp only;rw [hE];have hm0:sg n * (M:Int)≠0:=by rcases zaH n with ⟨_,h,_⟩|⟨_,h,_⟩ <;> rw [h] <;> omega
 rw [if_neg (by omega),zl6,zl6];obtain⟨p,q⟩:=zcJ n.natAbs s;rw [← hM] at p q;have hp:=Nat.mul_le_mul_right (2 ^ s) h2;have e1:((s:Int)).toNat=s:=by omega
 rw [e1];have e2:(2:Int) ^ s=((2 ^ s:Nat):Int):=by push_cast;rfl
 rw [e2];generalize 2 ^ s=t at *;have hd:(sg n * ↑M * (t:Int) - n).natAbs < t:=by
  have e3:((M * t:Nat):Int)=(M:Int) * (t:Int):=by push_cast;rfl
  rcases zaH n with ⟨_,h,hn⟩|⟨_,h,hn⟩
  ·rw [h,Int.one_mul,← e3];omega
  ·rw [h,show (-1 * (M:Int) * t) = -((M:Int) * t) by grind,← e3];omega
 omega
theorem zii (e:Int):zij zeroFl 0 e:=by
 unfold zij;rw [if_pos (.inl rfl)];exact⟨rfl,rfl⟩
theorem zcI {x:FloT} (h:zG x) (h0:x.mant≠0):4194304≤x.mant.natAbs∧x.mant.natAbs≤8388607∧-64≤x.exp∧x.exp≤63:=by
 rcases h with rfl|h
 ·exact absurd rfl h0
 ·exact h
theorem zb6 {x:FloT} (h:zG x) : -64≤x.exp∧x.exp≤63:=by
 rcases h with rfl|h
 ·decide
 ·exact h.2.2
theorem znS {a b:FloT} (ha:zG a) (hb:zG b) :
  ((zaj (a.mant * b.mant) (a.exp+b.exp - 46)).2=0→zij (zaj (a.mant * b.mant) (a.exp+b.exp - 46)).1 (a.mant * b.mant) (a.exp+b.exp - 46)∨((zaj (a.mant * b.mant) (a.exp+b.exp - 46)).1.mant=0∧a.exp+b.exp≤-64)) ∧
  ((zaj (a.mant * b.mant) (a.exp+b.exp - 46)).2≠0→(zaj (a.mant * b.mant) (a.exp+b.exp - 46)).2=171∧63≤a.exp+b.exp):=by
 by_cases h0:a.mant * b.mant=0
 ·rw [h0,zb3];exact⟨fun _=>.inl (zii _),fun h=>absurd rfl h⟩
 have ha0:a.mant≠0:=fun h=>h0 (by rw [h,Int.zero_mul])
 have hb0:b.mant≠0:=fun h=>h0 (by rw [h,Int.mul_zero])
 have h1:=zcI ha ha0;have h2:=zcI hb hb0;obtain⟨s,M,E,hc,m1,m2,hr⟩:=zcv (exp:=a.exp+b.exp - 46) h0 (zik (zI ha) (zI hb));have hlo:2 ^ 44≤(a.mant * b.mant).natAbs:=by
  rw [Int.natAbs_mul];have:=Nat.mul_le_mul h1.1 h2.1;omega
 have hhi:(a.mant * b.mant).natAbs < 2 ^ 46:=by
  rw [Int.natAbs_mul];have:=Nat.mul_le_mul h1.2.1 h2.2.1;omega
 rcases hc with ⟨_,hM,hE⟩|⟨hc,_⟩
 ·rw [hM] at m1 m2;have s1:=zc6 m1 m2 hhi (by omega);have s2:=zcz m2 hlo;rcases hr with ⟨hE2,hr⟩|⟨hE2,hr⟩|⟨hE2,hE3,hr⟩
  ·rw [hr];exact⟨fun _=>.inr ⟨rfl,by omega⟩,fun h=>absurd rfl h⟩
  ·rw [hr];exact⟨fun h=>absurd h (by decide),fun _=>⟨rfl,by omega⟩⟩
  ·rw [hr];exact⟨fun _=>.inl (zl0 h0 hM (by rw [hM];exact m1) (by omega) (by omega)),fun h=>absurd rfl h⟩
 ·omega
theorem zlM {a b:FloT} (ha:zG a) (hb:zG b) (ha0:a.mant≠0) (hb0:b.mant≠0) {d:Int} (hd:d=a.exp - b.exp) (hd0:0≤d) (hd30:d≤30) (hok:(zbz a b).2=0) :
  let n:=a.mant * 2 ^ d.toNat+b.mant
  let x:=(zbz a b).1
  let shift:=x.exp - b.exp
  (x.mant≠0∧shift < 0→-24 < shift∧x.mant=n * 2 ^ (-shift).toNat)∧(¬ (x.mant≠0∧shift < 0)→zij x n (b.exp - 23)∨(x.mant=0∧b.exp < -40)):=by
 have h1:=zcI ha ha0;have h2:=zcI hb hb0;have hp:zbz a b=zfh a b:=by
  unfold zbz;rw [if_neg ha0,if_neg hb0,if_neg (by omega)]
 rw [hp] at hok ⊢;have hlt:=zfr (zI ha) (zI hb);obtain⟨k,rfl⟩:∃ k:Nat,d=k:=⟨d.toNat,by omega⟩;have hk:k≤30:=by omega
 have eN:a.mant * 1073741824+zbd b.mant (a.exp - b.exp)=(a.mant * 2 ^ k+b.mant) * 2 ^ (30 - k):=by
  rw [← hd];unfold zbd;rw [if_pos (by omega)];have e30:(1073741824:Int)=2 ^ k * 2 ^ (30 - k):=by rw [← Int.pow_add,show k+(30 - k)=30 by omega];decide
  rw [show ((k:Int)).toNat=k by omega,e30];have hp2:(0:Int) < 2 ^ k:=Int.pow_pos (by decide);rw [show b.mant * (2 ^ k * 2 ^ (30 - k))=b.mant * 2 ^ (30 - k) * 2 ^ k by grind,Int.mul_tdiv_cancel _ (by omega)];grind
 unfold zfh at hok ⊢;rw [eN] at hok hlt ⊢;dsimp only;rw [show ((k:Int)).toNat=k by omega];generalize hn:a.mant * 2 ^ k+b.mant=n at *;have hpk:((2 ^ (30 - k):Nat):Int)=2 ^ (30 - k):=by push_cast;rfl
 by_cases h0:n=0
 ·subst h0;rw [Int.zero_mul,zb3];exact⟨fun h=>absurd rfl h.1,fun _=>.inl (zii _)⟩
 have hN0:n * 2 ^ (30 - k)≠0:=by
  intro h;rcases Int.mul_eq_zero.1 h with h|h
  ·exact h0 h
  ·have:(0:Int) < 2 ^ (30 - k):=Int.pow_pos (by decide);omega
 have habs:(n * 2 ^ (30 - k)).natAbs=n.natAbs * 2 ^ (30 - k):=by rw [Int.natAbs_mul,← hpk];rfl
 have hsg:sg (n * 2 ^ (30 - k))=sg n:=by
  have hpp:(0:Int) < 2 ^ (30 - k):=Int.pow_pos (by decide);unfold sg;by_cases hn0:n < 0
  ·rw [if_pos hn0,if_pos (Int.mul_neg_of_neg_of_pos hn0 hpp)]
  ·rw [if_neg hn0,if_neg (by have:=Int.mul_nonneg (show 0≤n by omega) (Int.le_of_lt hpp);omega)]
 have hge:2 ^ (30 - k)≤n.natAbs * 2 ^ (30 - k):=Nat.le_mul_of_pos_left _ (by omega);have hlow:2 ^ 29≤n.natAbs * 2 ^ (30 - k):=by
  by_cases hk1:k≤1
  ·exact Nat.le_trans (zdK (by omega)) hge
  ·have hm:4194304 * 2 ^ k≤(a.mant * 2 ^ k).natAbs:=by
    rw [Int.natAbs_mul];have:((2:Int) ^ k).natAbs=2 ^ k:=by rw [show (2:Int) ^ k=((2 ^ k:Nat):Int) by push_cast;rfl];rfl
    rw [this];exact Nat.mul_le_mul_right _ h1.1
   have hk4:4≤2 ^ k:=zdK (show 2≤k by omega);have hnn:2097152 * 2 ^ k≤n.natAbs:=by omega
   have:=Nat.mul_le_mul_right (2 ^ (30 - k)) hnn;rw [Nat.mul_assoc,← Nat.pow_add,show k+(30 - k)=30 by omega] at this;omega
 obtain⟨s,M,E,hc,m1,m2,hr⟩:=zcv (exp:=a.exp - 53) hN0 hlt;rw [habs] at hc;rcases hc with ⟨_,hM,hE⟩|⟨hc,_⟩
 ·rcases hr with ⟨hE2,hr⟩|⟨hE2,hr⟩|⟨hE2,hE3,hr⟩
  ·rw [hr];refine⟨fun h=>absurd rfl h.1,fun _=>.inr ⟨rfl,?_⟩⟩
   rw [hM] at m2;have s1:=zcz (A:=30 - k) m2 hge;omega
  ·rw [hr] at hok;exact absurd hok (by decide)
  ·rw [hr,hsg];dsimp only;have hm0:sg n * (M:Int)≠0:=by rcases zaH n with ⟨_,h,_⟩|⟨_,h,_⟩ <;> rw [h] <;> omega
   by_cases hsh:E - b.exp < 0
   ·refine⟨fun _=>?_,fun h=>absurd ⟨hm0,hsh⟩ h⟩
    have hs:s < 30 - k:=by omega
    have hM2:M=n.natAbs * 2 ^ (30 - k - s):=by
     rw [hM,show 30 - k=(30 - k - s)+s by omega,Nat.pow_add,← Nat.mul_assoc,Nat.mul_div_cancel _ (Nat.two_pow_pos s),show 30 - k - s+s - s=30 - k - s by omega]
    have hsm:30 - k - s < 23:=by
     rcases Nat.lt_or_ge (30 - k - s) 23 with hq|hq
     ·exact hq
     ·have h3:=zdK hq;have h4:=Nat.le_mul_of_pos_left (2 ^ (30 - k - s)) (show 0 < n.natAbs by omega);omega
    refine⟨by omega,?_⟩
    rw [show (-(E - b.exp)).toNat=30 - k - s by omega,hM2];push_cast;rw [← Int.mul_assoc,zfZ]
   ·refine⟨fun h=>absurd h.2 hsh,fun _=>.inl ?_⟩
    have hs:30 - k≤s:=by omega
    have hM2:M=n.natAbs / 2 ^ (s - (30 - k)):=by
     have e2:2 ^ s=2 ^ (30 - k) * 2 ^ (s - (30 - k)):=by rw [← Nat.pow_add,show 30 - k+(s - (30 - k))=s by omega]
     rw [hM,e2,← Nat.div_div_eq_div_mul,Nat.mul_div_cancel _ (Nat.two_pow_pos _)]
    have hub:n.natAbs < 2 ^ 54:=by
     have hm:(a.mant * 2 ^ k).natAbs≤8388607 * 2 ^ 30:=by
      rw [Int.natAbs_mul];have:((2:Int) ^ k).natAbs=2 ^ k:=by rw [show (2:Int) ^ k=((2 ^ k:Nat):Int) by push_cast;rfl];rfl
      rw [this];exact Nat.mul_le_mul h1.2.1 (zdK hk)
     omega
    have:=zc6 (by rw [← hM2];exact m1) (by rw [← hM2];exact m2) hub (by omega);exact zl0 h0 hM2 m1 (by omega) (by omega)
 ·omega
end FoT
namespace FoT
theorem zop {a b:FloT} (ha:zG a) (hb:zG b) (hb0:b.mant≠0) :
  let q:=zaj ((a.mant * 1073741824).tdiv b.mant) (a.exp - b.exp - 30)
  let shift:=q.1.exp+b.exp - 23 - a.exp
  (q.2≠0→q.2=171∧63≤a.exp - b.exp) ∧
  (q.2=0→q.1.mant=0→a.mant=0∨a.exp - b.exp≤-64) ∧
  (q.2=0→q.1.mant≠0→zG q.1∧-23≤shift∧shift≤-22 ∧
   max (q.1.mant * b.mant - a.mant * 2 ^ (-shift).toNat) (a.mant * 2 ^ (-shift).toNat - q.1.mant * b.mant)≤max (a.mant * 2 ^ (-shift).toNat) (-(a.mant * 2 ^ (-shift).toNat)) / 2097152):=by
 have h2:=zcI hb hb0;by_cases ha0:a.mant=0
 ·rw [ha0,Int.zero_mul,Int.zero_tdiv,zb3];exact⟨fun h=>absurd rfl h,fun _ _=>.inl rfl,fun _ h=>absurd rfl h⟩
 have h1:=zcI ha ha0;have hflt:=zbf (exp:=a.exp - b.exp - 30) (zkq (b:=b) (zI ha));have hlt:=zkq (b:=b) (zI ha);have hN:((a.mant * 1073741824).tdiv b.mant).natAbs=a.mant.natAbs * 1073741824 / b.mant.natAbs:=by
  rw [Int.natAbs_tdiv,Int.natAbs_mul];rfl
 have hlo:2 ^ 29≤a.mant.natAbs * 1073741824 / b.mant.natAbs:=by
  rw [Nat.le_div_iff_mul_le (by omega)];show 536870912 * _≤_
  omega
 have hhi:a.mant.natAbs * 1073741824 / b.mant.natAbs < 2 ^ 31:=by
  rw [Nat.div_lt_iff_lt_mul (by omega)];show _ < 2147483648 * _
  omega
 have hsgN:sg ((a.mant * 1073741824).tdiv b.mant) * sg b.mant=sg a.mant:=by
  have hb1:0 < b.mant.natAbs:=by omega
  have hpos:0 < (a.mant.natAbs * 1073741824 / b.mant.natAbs):=by omega
  generalize hq:(a.mant * 1073741824).tdiv b.mant=q at *;rcases zaH a.mant with ⟨a0,ha,_⟩|⟨a0,ha,_⟩ <;> rcases zaH b.mant with ⟨b0,hb',_⟩|⟨b0,hb',_⟩ <;> rw [ha,hb']
  ·have:0≤q:=by rw [← hq];exact Int.tdiv_nonneg (by omega) b0
   unfold sg;rw [if_neg (by omega)];rfl
  ·have:q≤0:=by rw [← hq];exact Int.tdiv_nonpos_of_nonneg_of_nonpos (by omega) (by omega)
   unfold sg;rw [if_pos (by omega)];rfl
  ·have:q≤0:=by
    have h3:0≤(-(a.mant * 1073741824)).tdiv b.mant:=Int.tdiv_nonneg (by omega) b0;rw [Int.neg_tdiv,hq] at h3;omega
   unfold sg;rw [if_pos (by omega)];rfl
  ·have:0≤q:=by
    have h3:(-(a.mant * 1073741824)).tdiv b.mant≤0:=Int.tdiv_nonpos_of_nonneg_of_nonpos (by omega) (by omega);rw [Int.neg_tdiv,hq] at h3;omega
   unfold sg;rw [if_neg (by omega)];rfl
 have hN0:(a.mant * 1073741824).tdiv b.mant≠0:=by intro h;rw [h] at hN;simp at hN;omega
 obtain⟨s,M,E,hc,m1,m2,hr⟩:=zcv (exp:=a.exp - b.exp - 30) hN0 hlt;rw [hN] at hc;rcases hc with ⟨_,hM,hE⟩|⟨hc,_⟩
 ·have s1:=zc6 (by rw [← hM];exact m1) (by rw [← hM];exact m2) hhi (by omega);have s2:=zcz (by rw [← hM];exact m2) hlo;dsimp only;rcases hr with ⟨hE2,hr⟩|⟨hE2,hr⟩|⟨hE2,hE3,hr⟩
  ·rw [hr];exact⟨fun h=>absurd rfl h,fun _ _=>.inr (by omega),fun _ h=>absurd rfl h⟩
  ·rw [hr];exact⟨fun _=>⟨rfl,by omega⟩,fun h=>absurd h (by decide),fun h=>absurd h (by decide)⟩
  ·rw [hr] at hflt ⊢;dsimp only at hflt ⊢;have hm0:sg ((a.mant * 1073741824).tdiv b.mant) * (M:Int)≠0:=by rcases zaH ((a.mant * 1073741824).tdiv b.mant) with ⟨_,h,_⟩|⟨_,h,_⟩ <;> rw [h] <;> omega
   refine⟨fun h=>absurd rfl h,fun _ h=>absurd h hm0,fun _ _=>⟨hflt,by omega,by omega,?_⟩⟩
   have hsh:(-(E+b.exp - 23 - a.exp)).toNat=30 - s:=by omega
   rw [hsh];have hp30:(1073741824:Nat)=2 ^ (30 - s) * 2 ^ s:=by rw [← Nat.pow_add,show 30 - s+s=30 by omega]
   have hMb:M=a.mant.natAbs * 2 ^ (30 - s) / b.mant.natAbs:=by
    rw [hM,Nat.div_div_eq_div_mul,Nat.mul_comm b.mant.natAbs,← Nat.div_div_eq_div_mul,hp30,← Nat.mul_assoc,Nat.mul_div_cancel _ (Nat.two_pow_pos s)]
   have hx:=Nat.div_add_mod (a.mant.natAbs * 2 ^ (30 - s)) b.mant.natAbs;have hy:=Nat.mod_lt (a.mant.natAbs * 2 ^ (30 - s)) (show 0 < b.mant.natAbs by omega);rw [← hMb] at hx;have hz:=Nat.mul_le_mul_left b.mant.natAbs m1;have eX:sg ((a.mant * 1073741824).tdiv b.mant) * (M:Int) * b.mant=sg a.mant * ((b.mant.natAbs * M:Nat):Int):=by
    rw [← hsgN];have:=zfZ b.mant;push_cast;generalize (b.mant.natAbs:Int)=B at this ⊢;rw [← this];have hq:sg b.mant * sg b.mant=1:=by unfold sg;split <;> rfl
    grind
   have eA:a.mant * 2 ^ (30 - s)=sg a.mant * ((a.mant.natAbs * 2 ^ (30 - s):Nat):Int):=by
    have:=zfZ a.mant;push_cast;rw [← Int.mul_assoc,this]
   rw [eX,eA];generalize a.mant.natAbs * 2 ^ (30 - s)=A at *;generalize b.mant.natAbs * M=X at *;rcases zaH a.mant with ⟨_,h,_⟩|⟨_,h,_⟩ <;> rw [h] <;> omega
 ·omega
theorem zmF {n exp:Int} (hn:n.natAbs≤70368744177664) (h:(zaj n exp).2=0) :
  let x:=(zaj n exp).1
  let shift:=x.exp - 23 - exp
  (x.mant=0→n=0∨∀ top:Nat,2 ^ top≤n.natAbs→exp+top+1≤-65) ∧
  (x.mant≠0→-23≤shift∧shift≤30∧(shift≤0→x.mant=n * 2 ^ (-shift).toNat) ∧
   (0 < shift→let d:=n - x.mant * 2 ^ shift.toNat
    max d (-d) < 2 ^ shift.toNat∧max d (-d) * 65536≤max n (-n) / 64∧(d=0∨(0 < d↔0 < n)))):=by
 by_cases h0:n=0
 ·subst h0;rw [zb3];exact⟨fun _=>.inl rfl,fun h=>absurd rfl h⟩
 obtain⟨s,M,E,hc,m1,m2,hr⟩:=zcv (exp:=exp) h0 (by omega);dsimp only;rcases hr with ⟨hE2,hr⟩|⟨hE2,hr⟩|⟨hE2,hE3,hr⟩
 ·rw [hr];refine⟨fun _=>.inr fun top ht=>?_,fun h=>absurd rfl h⟩
  rcases hc with ⟨_,hM,hE⟩|⟨hc,hs,hM,hE⟩
  ·have:=zcz (by rw [← hM];exact m2) ht;omega
  ·have h3:=Nat.mul_le_mul_right (2 ^ s) ht;rw [← hM,← Nat.pow_add] at h3;rcases Nat.lt_or_ge (top+s) 23 with hq|hq
   ·omega
   ·have:=zdK hq;omega
 ·rw [hr] at h;exact absurd h (by decide)
 ·rw [hr];dsimp only;have hm0:sg n * (M:Int)≠0:=by rcases zaH n with ⟨_,h,_⟩|⟨_,h,_⟩ <;> rw [h] <;> omega
  refine⟨fun h=>absurd h hm0,fun _=>?_⟩
  rcases hc with ⟨hb,hM,hE⟩|⟨hc,hs,hM,hE⟩
  ·have s1:=zc6 (A:=47) (by rw [← hM];exact m1) (by rw [← hM];exact m2) (by omega) (by omega);have s2:=zcz (A:=23) (by rw [← hM];exact m2) (by omega);refine⟨by omega,by omega,fun h=>by omega,fun _=>?_⟩
   obtain⟨p,q⟩:=zcJ n.natAbs s;rw [← hM] at p q;have hp:=Nat.mul_le_mul_right (2 ^ s) m1;rw [show (E - 23 - exp).toNat=s by omega];have e2:(2:Int) ^ s=((2 ^ s:Nat):Int):=by push_cast;rfl
   rw [e2];generalize 2 ^ s=t at *;have e3:((M * t:Nat):Int)=(M:Int) * (t:Int):=by push_cast;rfl
   rcases zaH n with ⟨_,h,hn⟩|⟨_,h,hn⟩
   ·rw [h,Int.one_mul,← e3];generalize M * t=u at *;refine⟨by omega,by omega,by omega⟩
   ·rw [h,show (-1 * (M:Int) * t) = -((M:Int) * t) by grind,← e3];generalize M * t=u at *;refine⟨by omega,by omega,by omega⟩
  ·refine⟨by omega,by omega,fun _=>?_,fun h=>by omega⟩
   rw [show (-(E - 23 - exp)).toNat=s by omega,hM];push_cast;rw [← Int.mul_assoc,zfZ]
theorem zkK {a b:FloT} (h:a.exp=b.exp):zfh a b=zfh b a:=by
 unfold zfh zbd;rw [h,Int.sub_self,if_pos (by decide),if_pos (by decide)];have:(2:Int) ^ (0:Int).toNat=1:=rfl;rw [this,Int.tdiv_one,Int.tdiv_one,Int.add_comm]
theorem zfJ {a:FloT} (h:zG a) (h0:a.mant=0):a=zeroFl:=by
 rcases h with h|h
 ·exact h
 ·omega
theorem zlO {a b:FloT} (ha:zG a) (hb:zG b):zbz a b=zbz b a:=by
 unfold zbz;by_cases a0:a.mant=0
 ·rw [if_pos a0];by_cases b0:b.mant=0
  ·rw [if_pos b0,zfJ ha a0,zfJ hb b0]
  ·rw [if_neg b0,if_pos a0]
 ·rw [if_neg a0];by_cases b0:b.mant=0
  ·rw [if_pos b0,if_pos b0]
  ·rw [if_neg b0,if_neg b0,if_neg a0];by_cases h1:a.exp < b.exp
   ·rw [if_pos h1,if_neg (by omega)]
   ·rw [if_neg h1];by_cases h2:b.exp < a.exp
    ·rw [if_pos h2]
    ·rw [if_neg h2,zkK (by omega)]
theorem zlk {op:Int} (ho:op=3∨op=5) {a b:FloT} (ha:zG a) (hb:zG b):stepM op a b=stepM op b a:=by
 rcases ho with rfl|rfl
 ·exact zlO ha hb
 ·show zaj _ _=zaj _ _
  rw [Int.mul_comm,Int.add_comm]
def zqS:FloT:=⟨4194304,1⟩
theorem sub_self {a:FloT} (ha:zG a):stepM 4 a a=(zeroFl,0):=by
 show zbz a ⟨-a.mant,a.exp⟩=_
 by_cases a0:a.mant=0
 ·rw [zfJ ha a0];rfl
 ·unfold zbz;rw [if_neg a0,if_neg (by dsimp only;omega),if_neg (by dsimp only;omega)];unfold zfh zbd;dsimp only;rw [Int.sub_self,if_pos (by decide)];have:(2:Int) ^ (0:Int).toNat=1:=rfl;rw [this,Int.tdiv_one,show a.mant * 1073741824 + -a.mant * 1073741824=0 by omega,zb3]
theorem mul_one {a:FloT} (ha:zG a):stepM 5 a zqS=(a,0):=by
 show zaj (a.mant * 4194304) (a.exp+1 - 46)=_
 by_cases a0:a.mant=0
 ·rw [a0,Int.zero_mul,zb3,zfJ ha a0]
 ·have h1:=zcI ha a0;have hN0:a.mant * 4194304≠0:=by omega
  have habs:(a.mant * 4194304).natAbs=a.mant.natAbs * 2 ^ 22:=by rw [Int.natAbs_mul];rfl
  obtain⟨s,M,E,hc,m1,m2,hr⟩:=zcv (exp:=a.exp+1 - 46) hN0 (by omega);rw [habs] at hc;have hsg:sg (a.mant * 4194304)=sg a.mant:=by
   unfold sg;by_cases hh:a.mant < 0
   ·rw [if_pos hh,if_pos (by omega)]
   ·rw [if_neg hh,if_neg (by omega)]
  rcases hc with ⟨_,hM,hE⟩|⟨hc,_⟩
  ·have s1:=zc6 (A:=45) (by rw [← hM];exact m1) (by rw [← hM];exact m2) (by omega) (by omega);have s2:=zcz (A:=44) (by rw [← hM];exact m2) (by omega);have hs:s=22:=by omega
   subst hs;have hM2:M=a.mant.natAbs:=by rw [hM,Nat.mul_div_cancel _ (Nat.two_pow_pos _)]
   rcases hr with ⟨hE2,hr⟩|⟨hE2,hr⟩|⟨hE2,hE3,hr⟩
   ·omega
   ·omega
   ·rw [hr,hsg,hM2,zfZ,show E=a.exp by omega]
  ·omega
theorem add_zero {a:FloT} (ha:zG a):stepM 3 a zeroFl=(a,0):=by
 show zbz a zeroFl=_
 unfold zbz;by_cases a0:a.mant=0
 ·rw [if_pos a0,zfJ ha a0]
 ·rw [if_neg a0,if_pos (show zeroFl.mant=0 from rfl)]
end FoT
namespace FoT
end FoT
namespace FoT
end FoT
namespace FoT
theorem zi9 {s:Bs8} {a e:Nat} (ha:a < s.length) (hae:a < e) (he:e≤s.length) (hrow:∀ k (h:k < s.length),a < k→k < e→zaM s[k]=true) (h1:a+1 < e→zaM s[a]=true)
  (hstop:zaM s[a]=true→∀ h:e < s.length,zaM s[e]=false) :
  tk a none (s.drop a)=(if s[a]=32 then [] else [(a,(s.take e).drop a)]) ++ tk e none (s.drop e):=by
 rw [List.drop_eq_getElem_cons ha];by_cases hr:zaM s[a]=true
 ·have h32:s[a]≠32:=fun h=>by rw [h] at hr;exact absurd hr (by decide)
  rw [if_neg h32];have e1:tk a none (s[a]::s.drop (a+1))=tk (a+1) (some (a,[s[a]])) (s.drop (a+1)):=by rw [tk,if_pos hr]
  have e2:s.drop (a+1)=(s.take e).drop (a+1) ++ s.drop e:=by
   rw [← List.drop_append_of_le_length (by rw [List.length_take];omega),List.take_append_drop]
  have hl:((s.take e).drop (a+1)).length=e - (a+1):=by rw [List.length_drop,List.length_take];omega
  have hmid:∀ c ∈ (s.take e).drop (a+1),zaM c=true:=fun c hc=>by
   obtain⟨i,hi,rfl⟩:=List.getElem_of_mem hc;rw [hl] at hi;rw [List.getElem_drop,List.getElem_take];exact hrow _ (by omega) (by omega) (by omega)
  rw [e1,e2,zlg _ _ _ _ _ hmid,hl,show a+1+(e - (a+1))=e by omega];have e3:[s[a]] ++ (s.take e).drop (a+1)=(s.take e).drop a:=by
   rw [List.drop_eq_getElem_cons (l:=s.take e) (i:=a) (by rw [List.length_take];omega),List.getElem_take];rfl
  rw [e3];rcases Nat.lt_or_ge e s.length with hel|hel
  ·rw [List.drop_eq_getElem_cons hel,zd5 _ _ (hstop hr hel)];rfl
  ·rw [List.drop_eq_nil_of_le hel,zhS];rfl
 ·have he1:e=a+1:=by
   rcases Nat.lt_or_ge (a+1) e with h|h
   ·exact absurd (h1 h) hr
   ·omega
  subst he1;rw [tk,if_neg hr];have e3:(s.take (a+1)).drop a=[s[a]]:=by
   rw [List.drop_eq_getElem_cons (l:=s.take (a+1)) (i:=a) (by rw [List.length_take];omega),List.getElem_take,List.drop_eq_nil_of_le (by rw [List.length_take];omega)]
  rw [e3];rfl
theorem zqE (a:Nat):tk a none []=[(a,[])]:=rfl
end FoT
namespace Go.QL
open Go Go.RowKit
section
variable {w0:World} {K0:Bs} {σ:Sg} {g:Gh} {w:World}
theorem zgX (h:Hp w0 K0 σ g w) {c e sz st n:Nat} {xs:List (List PV)} (hl:lk c σ=some (.chain e sz st xs)) (hn:n≤xs.length) {v:Value} (hv:SR σ g w (.o c st n) v) :
  ∃ g',Did w0 K0 σ g w (zat c (.chain e sz (st+1) []) σ) g' w∧SR (zat c (.chain e sz (st+1) []) σ) g' w (.d (.s sz (xs.take n))) v:=by
 have hsome:(lk c σ).isSome:=by rw [hl];rfl
 let K':Nat→Nat→Prop:=fun b o=>g.K b o∨(blk (g.μ c)=some b∧b < w.heap.size)
 let g':Gh:=⟨K',upd g.μ c (.slice none 0 0)⟩
 have hext:Ext g.K w K' w:=⟨fun _ _ h=>.inl h,fun _ _ _=>rfl⟩;have hc:Compat σ g (zat c (.chain e sz (st+1) []) σ) g':=by
  refine⟨fun i cs hi=>?_,fun i e1 sz1 st1 xs1 hi=>?_,fun i o hi=>?_⟩
  ·have hne:i≠c:=fun e=>by rw [e,hl] at hi;cases hi
   exact⟨zo _ _ hne,cs,by rw [zt _ _ _ _ hne];exact hi⟩
  ·by_cases hne:i=c
   ·subst hne;rw [hl] at hi;cases hi;exact .inl ⟨_,_,_,_,zab _ _ _ hsome,Nat.lt_succ_self _⟩
   ·exact .inr ⟨zo _ _ hne,xs1,by rw [zt _ _ _ _ hne];exact hi,rfl⟩
  ·have hne:i≠c:=fun e=>by rw [e,hl] at hi;cases hi
   exact⟨zo _ _ hne,o,by rw [zt _ _ _ _ hne];exact hi,rfl⟩
 have hkeep:∀ s u,SR σ g w s u→SR (zat c (.chain e sz (st+1) []) σ) g' w s u:=fun s u hs=>hs.keep hc hext
 refine⟨g',⟨⟨h.kept,h.flt,h.ext.trans hext,?_,?_,?_,?_,?_⟩,hkeep⟩,?_⟩
 ·intro b o hb hk;rcases hk with hk|⟨hk,_⟩
  ·exact h.old b o hb hk
  ·exact absurd hb (h.own c b hsome hk)
 ·intro b o hk;rcases hk with hk|⟨_,hk⟩
  ·exact h.val b o hk
  ·exact hk
 ·intro i ob hi;by_cases hne:i=c
  ·subst hne;rw [zab _ _ _ hsome] at hi;cases hi;refine⟨[],?_,⟨none,0,zy _ _ _,Nat.le_refl _,by simp [maxLen]⟩,fun x hx=>by simp at hx,fun i x hi=>by simp at hi,fun b hb=>?_⟩
   ·show World.ownsRow w 0 e sz (upd g.μ i (.slice none 0 0) i) 0 []
    rw [zy];exact World.ownsRow_nil w _ _ _
   ·have hb:blk (upd g.μ i (.slice none 0 0) i)=some b:=hb;rw [zy] at hb;cases hb
  ·rw [zt _ _ _ _ hne] at hi;have hO:=h.obs i ob hi;refine hO.keep hkeep hext (zo _ _ hne) (fun _ _=>rfl) (fun b hb o hk=>?_)
   rcases hk with hk|⟨hk,_⟩
   ·exact h.notK hi hb o hk
   ·exact hne (h.inj i c b (by rw [hi];rfl) hsome hb hk)
 ·intro i b hi hb;have hb:blk (upd g.μ c (.slice none 0 0) i)=some b:=hb;by_cases hne:i=c
  ·subst hne;rw [zy] at hb;cases hb
  ·rw [zt _ _ _ _ hne] at hi;rw [zo _ _ hne] at hb;exact h.own i b hi hb
 ·intro i j b hi hj hbi hbj;have hbi:blk (upd g.μ c (.slice none 0 0) i)=some b:=hbi;have hbj:blk (upd g.μ c (.slice none 0 0) j)=some b:=hbj;by_cases e1:i=c
  ·subst e1;rw [zy] at hbi;cases hbi
  ·by_cases e2:j=c
   ·subst e2;rw [zy] at hbj;cases hbj
   ·rw [zt _ _ _ _ e1] at hi;rw [zt _ _ _ _ e2] at hj;rw [zo _ _ e1] at hbi;rw [zo _ _ e2] at hbj;exact h.inj i j b hi hj hbi hbj
 ·obtain⟨vs,hown,⟨a0,cap0,hμ0,hcap0,hmax0⟩,hsz,hpr,_⟩:=h.obs _ _ hl;cases hv with
  | old _ _ _ e1 sz1 st1 xs1 v hl1 hlt1 _=>rw [hl] at hl1;cases hl1;omega
  | o _ _ _ e1 sz1 xs1 a cap hl1 hn1 hμ1=>
   rw [hl] at hl1;cases hl1;have hmax1:cap≤maxLen:=by rw [hμ1] at hμ0;cases hμ0;exact hmax0
   have hcap1:xs.length≤cap:=by rw [hμ1] at hμ0;cases hμ0;exact hcap0
   have htl:(xs.take n).length=n:=by simp;omega
   rcases hown.2 with ⟨hnil,hz⟩|⟨gb,cap',cur,hv',hB,hg,_⟩
   ·have hx:xs=[]:=List.eq_nil_of_length_eq_zero hz;subst hx;have hn0:n=0:=by simpa using hn
    subst hn0;have:=PR.s (K:=K') (w:=w) sz ([]:List (List PV)) a cap 0 0 (fun _ _=>undef) (Nat.zero_le _) hmax1 (by simp) (fun h=>absurd rfl h) (fun i e hi=>by simp at hi) (fun i e hi=>by simp at hi) (fun i e hi=>by simp at hi);exact .d _ _ (by simpa using this)
   ·rw [hμ1] at hv';cases hv';have hbl:blk (g.μ c)=some gb:=by rw [hμ1];rfl
    have hlt:gb < w.heap.size:=(h.obs _ _ hl).blk_lt hbl |>.2
    have hcell:=hown.cells (g:=gb) (by rw [hμ1];rfl);have:=PR.s (K:=K') (w:=w) sz (xs.take n) (some ⟨gb,0,none⟩) cap gb 0 (fun i j=>vs.getD (i * sz+j) undef) (by rw [htl];omega) hmax1 (fun x hx=>hsz x (List.mem_of_mem_take hx)) (fun _=>rfl)
     (fun i e hi j hj=>.inr ⟨hbl,hlt⟩) (fun i e hi j hj=>by
      rw [List.getElem?_take] at hi;by_cases hin:i < n
      ·rw [if_pos hin] at hi;obtain⟨u,hu,_⟩:=hpr i e hi j _ (List.getElem?_eq_getElem hj);have:=hcell _ _ hu;rw [zad] at this;rw [this];simp [hu]
      ·rw [if_neg hin] at hi;cases hi) (fun i e hi j p hp'=>by
      rw [List.getElem?_take] at hi;by_cases hin:i < n
      ·rw [if_pos hin] at hi;obtain⟨u,hu,hpu⟩:=hpr i e hi j p hp';have e2:vs.getD (i * sz+j) undef=u:=by simp [hu]
       rw [e2];exact hpu.mono hext
      ·rw [if_neg hin] at hi;cases hi)
    rw [htl] at this;exact .d _ _ this
def FzGo (on:Bool) (σ:Sg) (v:AV) (k:AV→Sg→Prop):Prop:=
 bif on then (match v with
  | .x (.o c st n)=>(match lk c σ with
   | some (.chain e sz st' xs)=>(st'=st∧n≤xs.length)∧k (.x (.d (.s sz (xs.take n)))) (zat c (.chain e sz (st+1) []) σ)
   | _=>False)
  | _=>False)
 else k v σ
theorem zqt {P:Program} {Γ:Cx} {on:Bool} {v:AV} {k:AV→Sg→Prop} (h:FzGo on σ v k):∃ v' σ',k v' σ'∧∀ (d:Option Tmp) (fr:Fr) (g:Gh) (a:Act) (w:World),Rel Γ (zbl d v fr) σ g a w→∃ g',Rel Γ (zbl d v' fr) σ' g' a w:=by
 unfold FzGo at h;cases on with
 | false=>exact⟨v,σ,h,fun d fr g a w hr=>⟨g,hr⟩⟩
 | true=>
  simp only [cond_true] at h;split at h
  ·rename_i c st n;split at h
   ·rename_i e sz st' xs hl;obtain⟨⟨rfl,hn⟩,hk⟩:=h;refine⟨_,_,hk,fun d fr g a w hr=>?_⟩
    cases d with
    | none=>
     have hO:=hr.hp.obs _ _ hl;obtain⟨vs,hown,⟨a0,cap0,hμ0,hcap0,hmax0⟩,hsz,hpr,_⟩:=hO;obtain⟨g',hd,_⟩:=zgX hr.hp hl hn (SR.o c st' n e sz xs a0 cap0 hl hn hμ0);exact⟨g',hr.did hd⟩
    | some t=>
     have ht:=hr.fr t (.x (.o c st' n)) (by show lk t ((t,_)::fr)=_;rw [zr,if_pos rfl]);obtain⟨g',hd,hv⟩:=zgX hr.hp hl hn (show SR σ g w (.o c st' n) _ from ht.2);refine⟨g',hd.hp,fun s x hs=>?_,hr.size,(hr.did hd).defers,(hr.did hd).base⟩
     have hs:lk s ((t,_)::fr)=some x:=hs;rw [zr] at hs;by_cases e1:t=s
     ·subst e1;rw [if_pos rfl] at hs;cases hs;exact⟨ht.1,hv⟩
     ·rw [if_neg e1] at hs;refine (hr.did hd).fr s x ?_
      show lk s ((t,_)::fr)=some x
      rw [zr,if_neg e1];exact hs
   ·exact h.elim
  ·exact h.elim
end
structure Stg where
 w:Nat
 ob:Bool
 fz:Bool
 re:List Nat
 fl:List Nat
def vcFl (P:Program) (tt:TT) (nt:Nat) (ops:List Oper) (ms:List Nat) (fr0:Fr) (σ:Sg) (k:List En→Prop):List Nat→List En→Prop
 | [],es=>k es
 | i::r,es=>match ops[i]? with
  | some o=>opDr P tt ops false (selF (frs (zaK (ms.getD i 0) es) ++ fr0) (looks ops o)) σ 0 o fun gd v nob=>nob=none∧putE nt o.dst gd v fun x=>vcFl P tt nt ops ms fr0 σ k r (⟨i,o.dst,x,none⟩::es)
  | none=>False
def getE:List En→Nat→Option AV
 | [],_=>none
 | ⟨j,_,x,_⟩::r,i=>bif Nat.beq j i then some x else getE r i
def vcRe (P:Program) (tt:TT) (nt:Nat) (ops:List Oper) (ms:List Nat) (fr0:Fr) (es:List En) (σ:Sg) (k:Prop):List Nat→Prop
 | []=>k
 | l::r=>match ops[l]? with
  | some o=>opDr P tt ops false (selF (frs (zaK (ms.getD l 0) es) ++ fr0) (looks ops o)) σ 0 o fun gd v nob=>nob=none∧putE nt o.dst gd v fun x=>getE es l=some x∧vcRe P tt nt ops ms fr0 es σ k r
  | none=>False
def vcSt (P:Program) (tt:TT) (nt:Nat) (ops:List Oper) (ms:List Nat) (fr0:Fr) (k:Fr→Sg→Prop):List Stg→List En→Sg→Prop
 | [],es,σ=>k (frs es ++ fr0) σ
 | ⟨w,mk,fz,re,fl⟩::r,es,σ=>match ops[w]? with
  | none=>False
  | some o=>
   bif mk then
    zhE σ o.dst fun id=>opDr P tt ops true (selF (frs (zaK (ms.getD w 0) es) ++ fr0) (looks ops o)) σ id o fun gd v nob=>putE nt o.dst gd v fun x=>
     FzGo fz (zdZ nob σ) x fun x σ2=>vcRe P tt nt ops ms fr0 (⟨w,o.dst,x,none⟩::es) σ2 (vcFl P tt nt ops ms fr0 σ2 (fun es'=>vcSt P tt nt ops ms fr0 k r es' σ2) fl (⟨w,o.dst,x,none⟩::es)) re
   else
    zah P tt nt ops (fun fr2 σ2=>LateGo o.dst fr2 (selF (frs (zaK (ms.getD w 0) es) ++ fr0) (looks ops o)) fun x=>FzGo fz σ2 x fun x σ2=>
     vcRe P tt nt ops ms fr0 (⟨w,o.dst,x,none⟩::es) σ2 (vcFl P tt nt ops ms fr0 σ2 (fun es'=>vcSt P tt nt ops ms fr0 k r es' σ2) fl (⟨w,o.dst,x,none⟩::es)) re)
     [o] (selF (frs (zaK (ms.getD w 0) es) ++ fr0) (looks ops o)) σ
def inL (l:List Nat) (i:Nat):Bool:=l.any (Nat.beq i)
def zlV (ms:List Nat) (m i:Nat) (ls:List Nat):Bool:=Nat.blt i m && !inL ls i && (List.range m).all fun b=>!Nat.testBit (ms.getD i 0) b || inL ls b
def okFl (ms:List Nat) (m:Nat) (k:List Nat→Bool):List Nat→List Nat→Bool
 | [],ls=>k ls
 | i::r,ls=>zlV ms m i ls && okFl ms m k r (i::ls)
def okSt (ms:List Nat) (m:Nat):List Stg→List Nat→Bool
 | [],ls=>(List.range m).all (inL ls)
 | s::r,ls=>zlV ms m s.w ls && (ls.all fun i=>Nat.testBit (ms.getD s.w 0) i || inL s.re i) && (s.re.all (inL ls)) &&
   ((List.range m).all fun i=>inL ls i || Nat.beq i s.w || Nat.testBit (ms.getD i 0) s.w) && okFl ms m (okSt ms m r) s.fl (s.w::ls)
theorem zgk {l:List Nat} {i:Nat}:inL l i=true↔i ∈ l:=by
 unfold inL;rw [List.any_eq_true];constructor
 ·rintro⟨x,hx,e⟩;have:=Nat.eq_of_beq_eq_true e;subst this;exact hx
 ·intro h;exact⟨i,h,by simp⟩
theorem zkn {i:Nat} {x:AV}:∀ {es:List En},getE es i=some x→∃ e ∈ es,e.i=i∧e.x=x
 | [],h=>by cases h
 | ⟨j,d,y,ob⟩::r,h=>by
  unfold getE at h;cases hb:Nat.beq j i with
  | true=>
   rw [hb] at h;cases h;exact⟨_,List.mem_cons_self,Nat.eq_of_beq_eq_true hb,rfl⟩
  | false=>
   rw [hb] at h;obtain⟨e,he,h'⟩:=zkn (es:=r) h;exact⟨e,List.mem_cons_of_mem _ he,h'⟩
section
variable {P:Program} {Γ:Cx} {fr:Fr} {σ:Sg} {Q:Exit→Fr→Sg→Prop}
structure GoodS (ops:List Oper) (ms:List Nat) (m nt:Nat) (es:List En):Prop where
 idx:∀ e ∈ es,∀ e' ∈ es,e.i=e'.i→e=e'
 lt:∀ e ∈ es,e.i < m
 op:∀ e ∈ es,∃ o,ops[e.i]?=some o∧e.d=o.dst∧∀ t,o.dst=some t→t < nt
 cl:∀ e ∈ es,∀ b,(ms.getD e.i 0).testBit b=true→b < m→b ∈ es.map (·.i)
def SemF (P:Program) (Γ:Cx) (ops:List Oper) (ms:List Nat) (fr0:Fr) (es:List En) (σ:Sg) (e:En):Prop:=
 ∃ o,ops[e.i]?=some o∧SemE P Γ ops false (selF (frs (zaK (ms.getD e.i 0) es) ++ fr0) (looks ops o)) σ e.i o e.x none
theorem zft {ms:List Nat} {m i:Nat} {ls:List Nat} (h:zlV ms m i ls=true):i < m∧i ∉ ls∧∀ b,b < m→(ms.getD i 0).testBit b=true→b ∈ ls:=by
 unfold zlV at h;simp only [Bool.and_eq_true,List.all_eq_true] at h;obtain⟨⟨h1,h2⟩,h3⟩:=h;refine⟨Nat.le_of_ble_eq_true h1,fun hm=>?_,fun b hb hbit=>?_⟩
 ·rw [zgk.2 hm] at h2;cases h2
 ·have:=h3 b (List.mem_range.2 hb);rw [hbit] at this;exact zgk.1 (by simpa using this)
theorem GoodS.add {ops:List Oper} {ms:List Nat} {m nt:Nat} {es:List En} (hg:GoodS ops ms m nt es) {i:Nat} {o:Oper} {x:AV} {ob:Option (Nat × Ob)} (ho:ops[i]?=some o) (h1:zlV ms m i (es.map (·.i))=true) (hd:∀ t,o.dst=some t→t < nt) :
  GoodS ops ms m nt (⟨i,o.dst,x,ob⟩::es):=by
 obtain⟨h1,h2,h3⟩:=zft h1;have hn:∀ e ∈ es,e.i≠i:=fun e he hi=>h2 (List.mem_map.2 ⟨e,he,hi⟩)
 refine⟨fun e he e' he' hii=>?_,fun e he=>?_,fun e he=>?_,fun e he b hb hbm=>?_⟩
 ·rcases List.mem_cons.1 he with rfl|he <;> rcases List.mem_cons.1 he' with rfl|he'
  ·rfl
  ·exact absurd hii.symm (hn e' he')
  ·exact absurd hii (hn e he)
  ·exact hg.idx e he e' he' hii
 ·rcases List.mem_cons.1 he with rfl|he
  ·exact h1
  ·exact hg.lt e he
 ·rcases List.mem_cons.1 he with rfl|he
  ·exact⟨o,ho,rfl,hd⟩
  ·exact hg.op e he
 ·rcases List.mem_cons.1 he with rfl|he
  ·exact List.mem_cons_of_mem _ (h3 b hbm hb)
  ·exact List.mem_cons_of_mem _ (hg.cl e he b hb hbm)
theorem zgS {ms k:Nat} {e:En} {es:List En} (h:ms.testBit e.i=false):zaK ms (e::es)=zaK ms es:=by
 obtain⟨i,d,x,ob⟩:=e;show (bif zm3 ms i then _ else _)=_
 rw [zeC,h];rfl
theorem SemF.add {ops:List Oper} {ms:List Nat} {m nt:Nat} {fr0:Fr} {es:List En} {σ:Sg} (hg:GoodS ops ms m nt es) {en:En} (hen:en.i ∉ es.map (·.i)) (hm:en.i < m) {e:En} (he:e ∈ es) (h:SemF P Γ ops ms fr0 es σ e):SemF P Γ ops ms fr0 (en::es) σ e:=by
 obtain⟨o,ho,hs⟩:=h;refine⟨o,ho,?_⟩
 rw [zgS (k:=0)]
 ·exact hs
 ·cases hb:(ms.getD e.i 0).testBit en.i with
  | false=>rfl
  | true=>exact absurd (hg.cl e he en.i hb hm) hen
theorem zi3 {tt:TT} (htt:tt.ok P) (hL:Laid P Γ.K0.K Γ.w0) {ops:List Oper} {ms:List Nat} {m:Nat} (hmk:MaskOK ops.toArray ms m) {fr0:Fr} {σ:Sg} {k:List En→Prop} {kb:List Nat→Bool}:∀ {l:List Nat} {es:List En},
  vcFl P tt Γ.nt ops ms fr0 σ k l es→okFl ms m kb l (es.map (·.i))=true→GoodS ops ms m Γ.nt es →
  ∃ es',k es'∧kb (es'.map (·.i))=true∧GoodS ops ms m Γ.nt es'∧(∀ e ∈ es,e ∈ es')∧(∀ e ∈ es',e ∈ es∨SemF P Γ ops ms fr0 es' σ e)∧(∀ e ∈ es,SemF P Γ ops ms fr0 es σ e→SemF P Γ ops ms fr0 es' σ e)
 | [],es,h,hb,hg=>⟨es,h,hb,hg,fun e he=>he,fun e he=>.inl he,fun e _ hs=>hs⟩
 | i::r,es,h,hb,hg=>by
  unfold vcFl at h;unfold okFl at hb;rw [Bool.and_eq_true] at hb;cases ho:ops[i]? with
  | none=>rw [ho] at h;exact h.elim
  | some o=>
   rw [ho] at h;simp only at h;obtain⟨gd,x,nob,⟨hn,hk⟩,_,hsem⟩:=zdM (Γ:=Γ) htt hL h i;subst hn;obtain⟨hk,hd⟩:=zdJ hk;obtain⟨h1,h2,h3⟩:=zft hb.1;have hg':=hg.add (x:=zeI gd x) (ob:=none) ho hb.1 hd;obtain⟨es',k1,k2,k3,k4,k5,k6⟩:=zi3 htt hL hmk hk hb.2 hg';have hself:SemF P Γ ops ms fr0 (⟨i,o.dst,zeI gd x,none⟩::es) σ ⟨i,o.dst,zeI gd x,none⟩:=by
    refine⟨o,ho,?_⟩
    rw [zgS (k:=0)]
    ·exact hsem
    ·cases hbt:(ms.getD i 0).testBit i with
     | false=>rfl
     | true=>have:=hmk.lt i o (by simpa using ho) i hbt;omega
   refine⟨es',k1,k2,k3,fun e he=>k4 e (List.mem_cons_of_mem _ he),fun e he=>?_,fun e he hs=>k6 e (List.mem_cons_of_mem _ he) (hs.add hg h2 h1 he)⟩
   rcases k5 e he with he|hs
   ·rcases List.mem_cons.1 he with rfl|he
    ·exact .inr (k6 _ List.mem_cons_self hself)
    ·exact .inl he
   ·exact .inr hs
theorem zlc {tt:TT} (htt:tt.ok P) (hL:Laid P Γ.K0.K Γ.w0) {ops:List Oper} {ms:List Nat} {m:Nat} {fr0:Fr} {es:List En} (hg:GoodS ops ms m Γ.nt es) {σ:Sg} {k:Prop}:∀ {l:List Nat},vcRe P tt Γ.nt ops ms fr0 es σ k l →
  k∧∀ e ∈ es,e.i ∈ l→SemF P Γ ops ms fr0 es σ e
 | [],h=>⟨h,fun e _ he=>by cases he⟩
 | i::r,h=>by
  unfold vcRe at h;cases ho:ops[i]? with
  | none=>rw [ho] at h;exact h.elim
  | some o=>
   rw [ho] at h;simp only at h;obtain⟨gd,x,nob,⟨hn,hk⟩,_,hsem⟩:=zdM (Γ:=Γ) htt hL h i;subst hn;obtain⟨⟨hx,hr⟩,_⟩:=zdJ hk;obtain⟨h1,h2⟩:=zlc htt hL hg hr;refine⟨h1,fun e he hi=>?_⟩
   rcases List.mem_cons.1 hi with hi|hi
   ·obtain⟨e',he',hi',hx'⟩:=zkn hx;have:=hg.idx e he e' he' (hi.trans hi'.symm);subst this;refine⟨o,by rw [hi];exact ho,?_⟩
    rw [hi,hx'];exact hsem
   ·exact h2 e he hi
theorem zkA {tt:TT} (htt:tt.ok P) (hmix:P.follows .mixedOrders=true) (m:Nat) (fl0:List Nat) (sts:List Stg) (ms:List Nat) {id:Nat} {ops:List Oper} (hms:zbe ms m ops 0=true) (hlen:Nat.ble m ops.length=true)
  (hds:zc2 (ops.take m) []=true) (hrd:zcn ops ms (ops.take m) (ops.take m) 0=true) (hst:okFl ms m (okSt ms m sts) fl0 []=true)
  (h:vcFl P tt Γ.nt ops ms fr σ (fun es=>vcSt P tt Γ.nt ops ms fr (fun fr' σ'=>zah P tt Γ.nt ops (Q .normal) (ops.drop m) fr' σ') sts es σ) fl0 []):AW P Γ (.region id ops.toArray true) Q fr σ:=by
 refine AW.mk fun hLd g a w hr=>?_
 have hm:=MaskOK.of hms;have hlen:m≤ops.length:=Nat.le_of_ble_eq_true hlen;obtain⟨es0,hk0,hb0,hg0,_,hs0,_⟩:=zi3 (Γ:=Γ) htt hLd hm h hst ⟨fun e he=>by simp at he,fun e he=>by simp at he,fun e he=>by simp at he,fun e he=>by simp at he⟩;have hs0:∀ e ∈ es0,SemF P Γ ops ms fr es0 σ e:=fun e he=>(hs0 e he).resolve_left (by simp)
 clear h hst;obtain⟨_,hd1⟩:=zb1 hds;have hrd:=fun j o h=>zaV (zbR hrd j o h)
 simp only [Nat.zero_add] at hrd;have htk:∀ {i:Nat} {o:Oper},i < m→ops[i]?=some o→(ops.take m)[i]?=some o:=fun hi ho=>by rw [List.getElem?_take,if_pos hi];exact ho
 have hfF:∀ es,GoodS ops ms m Γ.nt es→∀ p ∈ frs es,∀ q ∈ frs es,p.1=q.1→p=q:=by
  intro es hg p hp q hq hpq;obtain⟨e,he,h1,h2⟩:=zY.1 hp;obtain⟨e',he',h1',h2'⟩:=zY.1 hq;obtain⟨o,ho,hd,_⟩:=hg.op e he;obtain⟨o',ho',hd',_⟩:=hg.op e' he';have:=hd1 e.i e'.i o o' p.1 (htk (hg.lt e he) ho) (htk (hg.lt e' he') ho') (by rw [← hd,h1]) (by rw [← hd',h1',hpq]);have:=hg.idx e he e' he' this;subst this;obtain⟨p1,p2⟩:=p;obtain⟨q1,q2⟩:=q;simp only at *;subst hpq;subst h2;subst h2';rfl
 let InvA:(Nat→Prop)→Act→World→Prop:=fun L a w=>∃ (E es:List En) (σ1:Sg) (rest:List Stg) (g:Gh),GoodS ops ms m Γ.nt es∧okSt ms m rest (es.map (·.i))=true ∧
  vcSt P tt Γ.nt ops ms fr (fun fr' σ'=>zah P tt Γ.nt ops (Q .normal) (ops.drop m) fr' σ') rest es σ1∧(∀ e ∈ es,¬ L e.i→SemF P Γ ops ms fr es σ1 e) ∧
  (∀ e ∈ E,e ∈ es)∧(∀ j,L j↔∃ e ∈ E,e.i=j)∧(∀ k,L k→∀ b,(ms.getD k 0).testBit b=true→L b)∧Rel Γ (frs E ++ fr) σ1 g a w
 let InvB:(Nat→Prop)→Act→World→Prop:=fun L a w=>∃ j,m≤j∧j≤ops.length∧(∀ b,L b↔b < j)∧wpLs Γ.ro P ops.toArray (Lift Γ Q) (ops.drop j) a w
 have conv:∀ L a w,InvA L a w→(∀ b,b < m→L b)→InvB L a w:=by
  intro L a w ⟨E,es,σ1,rest,g,hg,hb,hk,_,h1,h2,_,h3⟩ hall;cases rest with
  | cons s r=>
   unfold okSt at hb;simp only [Bool.and_eq_true] at hb;obtain⟨k1,k2,_⟩:=zft hb.1.1.1.1;obtain⟨e,he,hi⟩:=(h2 s.w).1 (hall s.w k1);exact absurd (List.mem_map.2 ⟨e,h1 e he,hi⟩) k2
  | nil=>
   refine⟨m,Nat.le_refl _,hlen,fun b=>⟨fun hb=>?_,hall b⟩,?_⟩
   ·obtain⟨e,he,hi⟩:=(h2 b).1 hb;rw [← hi];exact hg.lt e (h1 e he)
   ·have hsub:∀ e ∈ es,e ∈ E:=by
     intro e he;obtain⟨e',he',hi⟩:=(h2 e.i).1 (hall e.i (hg.lt e he));have:=hg.idx e' (h1 e' he') e he hi;subst this;exact he'
    have hf:=hfF es hg;have hr':Rel Γ (frs es ++ fr) σ1 g a w:=h3.subF (zb4 (fun p hp q hq=>hf p ((zq h1) p hp) q ((zq h1) q hq)) (fun p=>⟨zq hsub p,zq h1 p⟩));exact zcc htt hLd (fun _ _ h=>h) (ops.drop m) _ _ hk g a w hr'
 have look:∀ (L:Nat→Prop) (E es:List En) (i:Nat) (o:Oper),GoodS ops ms m Γ.nt es→(∀ e ∈ E,e ∈ es)→(∀ j,L j↔∃ e ∈ E,e.i=j)→(∀ k,L k→∀ b,(ms.getD k 0).testBit b=true→L b)→¬ L i→i < m→ops[i]?=some o →
   (∀ b,(ms.getD i 0).testBit b=true→L b)→Sup (selF (frs (zaK (ms.getD i 0) es) ++ fr) (looks ops o)) (frs E ++ fr):=by
  intro L E es i o hg h1 h2 hcl hL him ho hbits t v hl;have hf:=hfF es hg;obtain⟨ht,hl⟩:=zbF hl;have hpE:∀ e ∈ zaK (ms.getD i 0) es,e ∈ E:=fun e he=>by
   obtain⟨he,hbit⟩:=zap he;obtain⟨e',he',hi'⟩:=(h2 e.i).1 (hbits e.i hbit);have:=hg.idx e' (h1 e' he') e he hi';subst this;exact he'
  rcases zdB hl with hl|⟨hn,hl⟩
  ·exact zas (fun p hp q hq=>hf p (zq h1 p hp) q (zq h1 q hq)) (zq hpE _ hl)
  ·rw [zU]
   ·exact hl
   ·intro p hp hpt;obtain⟨e,he,h1',h2'⟩:=zY.1 hp;obtain⟨oe,hoe,hde,_⟩:=hg.op e (h1 e he);have hLe:L e.i:=(h2 e.i).2 ⟨e,he,rfl⟩;rcases hrd i o (htk him ho) e.i oe t (htk (hg.lt e (h1 e he)) hoe) (by rw [← hde,h1',hpt]) ht with hk|hk|hk
    ·exact hL (hk ▸ hLe)
    ·exact hn p (zY.2 ⟨e,zbt (h1 e he) hk,h1',h2'⟩) hpt
    ·exact hL (hcl e.i hLe i hk)
 refine wpIn_region_any hmix ?_
 refine zbU hm (fun L a w=>InvA L a w∨InvB L a w) ?_ ?_ _ _ _ _ (by simp) ?_ ?_ ?_
 ·-- a step
  intro L a w hinv i hi hL hbits;have hi':i < ops.length:=by simpa using hi
  have stepB:InvB L a w→wpOpIn (FX Γ.ro) 0 P ops.toArray (Lift Γ Q) i (fun a w=>InvA (fun j=>L j∨j=i) a w∨InvB (fun j=>L j∨j=i) a w) a w:=by
   intro ⟨j,hj1,hj2,hj3,hj4⟩;have hji:j≤i:=by
    rcases Nat.lt_or_ge i j with h'|h'
    ·exact absurd ((hj3 i).2 h') hL
    ·exact h'
   have hij:i=j:=by
    rcases Nat.lt_or_ge j i with h'|h'
    ·have:=hm.tail i _ (Array.getElem?_eq_getElem (by simpa using hi')) (by omega) j h';have:=(hj3 j).1 (hbits j this);omega
    ·omega
   subst hij;rw [List.drop_eq_getElem_cons hi'] at hj4;have hoi:ops.toArray[i]?=some ops[i]:=by simp [hi']
   have hnew:∀ a w,wpLs Γ.ro P ops.toArray (Lift Γ Q) (ops.drop (i+1)) a w→InvA (fun j=>L j∨j=i) a w∨InvB (fun j=>L j∨j=i) a w:=by
    intro a w hw;refine .inr ⟨i+1,by omega,by omega,fun b=>?_,hw⟩
    show (L b∨b=i)↔b < i+1
    rw [hj3 b];omega
   unfold wpOpIn;simp only [hoi];unfold wpLs wpLk at hj4;split
   ·rename_i hwant;rw [if_pos hwant] at hj4;exact Oper.wpIn_mono hnew hj4
   ·rename_i hwant;rw [if_neg hwant] at hj4;exact⟨fun _ _=>trivial,hnew _ _ hj4⟩
  rcases hinv with hA|hB
  ·rcases Nat.lt_or_ge i m with him|him
   ·obtain⟨E,es,σ1,rest,g,hg,hb,hk,hsF,h1,h2,hcl,h3⟩:=hA;have hcl':∀ k,(L k∨k=i)→∀ b,(ms.getD k 0).testBit b=true→(L b∨b=i):=by
     intro k hk b hb;rcases hk with hk|rfl
     ·exact .inl (hcl k hk b hb)
     ·exact .inl (hbits b hb)
    have hL2:∀ (en:En),en.i=i→∀ j,(L j∨j=i)↔∃ e ∈ en::E,e.i=j:=by
     intro en hen j;rw [h2 j];constructor
     ·rintro (⟨e,he,h'⟩|rfl)
      ·exact⟨e,List.mem_cons_of_mem _ he,h'⟩
      ·exact⟨en,List.mem_cons_self,hen⟩
     ·rintro⟨e,he,h'⟩;rcases List.mem_cons.1 he with rfl|he
      ·exact .inr (h'.symm.trans hen)
      ·exact .inl ⟨e,he,h'⟩
    by_cases hin:i ∈ es.map (·.i)
    ·-- one that floats
     obtain⟨en,hen,heni⟩:=List.mem_map.1 hin;obtain⟨o,ho,hsem⟩:=hsF en hen (by rw [heni];exact hL);obtain⟨o',ho',hd,hdn⟩:=hg.op en hen;rw [ho] at ho';cases ho';rw [heni] at ho hsem;refine hsem _ (frs E ++ fr) σ1 g a w (look L E es i o hg h1 h2 hcl hL him ho hbits) (fun _ _ h=>h) (fun _=>rfl) (fun p hp=>by cases hp) h3 _ (fun v g' w' hr' hv=>.inl ?_) (by simpa using ho)
     refine⟨en::E,es,σ1,rest,g',hg,hb,hk,fun e he hn=>hsF e he (fun h=>hn (.inl h)),fun e he=>?_,hL2 en heni,hcl',?_⟩
     ·rcases List.mem_cons.1 he with rfl|he
      ·exact hen
      ·exact h1 e he
     ·rw [← zbO,hd];have hr':Rel Γ (frs E ++ fr) σ1 g' a w':=hr';cases hdd:o.dst with
      | none=>exact hr'
      | some d=>exact hr'.put (hdn d hdd) hv
    ·-- the next one that writes
     cases rest with
     | nil=>
      unfold okSt at hb;rw [List.all_eq_true] at hb;exact absurd (zgk.1 (hb i (List.mem_range.2 him))) hin
     | cons s r=>
      obtain⟨sw,mk,fz,re,fl⟩:=s;unfold okSt at hb;simp only [Bool.and_eq_true] at hb;obtain⟨⟨⟨⟨hone,hre⟩,_⟩,hrst⟩,hfl⟩:=hb;obtain⟨k1,k2,k3⟩:=zft hone;have hiw:i=sw:=by
       rw [List.all_eq_true] at hrst;have:=hrst i (List.mem_range.2 him);simp only [Bool.or_eq_true] at this;rcases this with (h'|h')|h'
       ·exact absurd (zgk.1 h') hin
       ·exact Nat.eq_of_beq_eq_true h'
       ·obtain⟨e,he,hi2⟩:=(h2 sw).1 (hbits sw h');exact absurd (List.mem_map.2 ⟨e,h1 e he,hi2⟩) k2
      subst hiw;unfold vcSt at hk;have ho:ops[i]?=some ops[i]:=List.getElem?_eq_getElem hi';rw [ho] at hk;simp only at hk;generalize ops[i]=o at ho hk;have hoi:ops.toArray[i]?=some o:=by simpa using ho
      have hsup:=look L E es i o hg h1 h2 hcl hL him ho hbits;have fin:∀ (x:AV) (σ2:Sg),(∀ t,o.dst=some t→t < Γ.nt)→(FzGo fz σ2 x fun x σ2=>
        vcRe P tt Γ.nt ops ms fr (⟨i,o.dst,x,none⟩::es) σ2 (vcFl P tt Γ.nt ops ms fr σ2 (fun es'=>vcSt P tt Γ.nt ops ms fr (fun fr' σ'=>zah P tt Γ.nt ops (Q .normal) (ops.drop m) fr' σ') r es' σ2) fl (⟨i,o.dst,x,none⟩::es)) re) →
        ∀ g2 a2 w2,Rel Γ (zbl o.dst x (frs E ++ fr)) σ2 g2 a2 w2→InvA (fun j=>L j∨j=i) a2 w2:=by
       intro x1 σ3 hdn hk2 g3 a2 w2 hr3;obtain⟨x,σ2,hk2,hfz⟩:=zqt (P:=P) (Γ:=Γ) hk2;obtain⟨g2,hr2⟩:=hfz _ _ g3 a2 w2 hr3;have hg':=hg.add (x:=x) (ob:=none) ho hone hdn;obtain⟨hk3,hre2⟩:=zlc (Γ:=Γ) htt hLd hg' hk2;obtain⟨es',q1,q2,q3,q4,q5,q6⟩:=zi3 (Γ:=Γ) htt hLd hm hk3 hfl hg';refine⟨⟨i,o.dst,x,none⟩::E,es',σ2,r,g2,q3,q2,q1,fun e he hn=>?_,fun e he=>?_,hL2 _ rfl,hcl',?_⟩
       ·rcases q5 e he with he'|hs
        ·refine q6 e he' (hre2 e he' ?_)
         rcases List.mem_cons.1 he' with rfl|he'
         ·exact absurd (.inr rfl) hn
         ·rw [List.all_eq_true] at hre;have:=hre e.i (List.mem_map.2 ⟨e,he',rfl⟩);rw [Bool.or_eq_true] at this;rcases this with h'|h'
          ·exact absurd (.inl (hbits e.i h')) hn
          ·exact zgk.1 h'
        ·exact hs
       ·rcases List.mem_cons.1 he with rfl|he
        ·exact q4 _ List.mem_cons_self
        ·exact q4 e (List.mem_cons_of_mem _ (h1 e he))
       ·rw [← zbO];exact hr2
      cases mk with
      | true=>
       simp only [cond_true] at hk;obtain⟨id,hid,hk⟩:=zfA hk;obtain⟨gd,x,nob,hk,hnob,hsem⟩:=zdM (Γ:=Γ) htt hLd hk i;obtain⟨hk,hdn⟩:=zdJ hk;refine hsem _ (frs E ++ fr) σ1 g a w hsup (fun _ _ h=>h) (fun _=>rfl) (fun p hp=>?_) h3 _ (fun v g' w' hr' hv=>.inl ?_) hoi
       ·rcases hnob with hn|⟨_,_,b,hb⟩
        ·rw [hn] at hp;cases hp
        ·rw [hb] at hp;cases hp;exact hid
       ·refine fin (zeI gd x) (zdZ nob σ1) hdn hk g' _ w' ?_
        cases hdd:o.dst with
        | none=>exact hr'
        | some d=>exact hr'.put (hdn d hdd) hv
      | false=>
       simp only [cond_false] at hk;generalize hF:selF (frs (zaK (ms.getD i 0) es) ++ fr) (looks ops o)=F at hk hsup;have hr':Rel Γ F σ1 g a w:=h3.subF hsup;let Γ':Cx:=⟨Γ.w0,Γ.K0,Γ.nt,SR σ1 g w,σ1.map (·.1),Γ.ro,Γ.dfs,Γ.bs⟩
       have hr2:Rel Γ' F σ1 g a w:=⟨hr'.hp,hr'.fr,hr'.size,hr'.defers,fun s v hb=>⟨hb,SR.inI hb⟩⟩;have hw:=zaJ (Γ:=Γ') htt hLd (Qx:=Lift Γ Q) (K:=fun a w=>∃ g2 fr2 σ2,Rel Γ' fr2 σ2 g2 a w∧∃ v,fr2=zbl o.dst v F∧FzGo fz σ2 v fun v σ2=>
        vcRe P tt Γ.nt ops ms fr (⟨i,o.dst,v,none⟩::es) σ2 (vcFl P tt Γ.nt ops ms fr σ2 (fun es'=>vcSt P tt Γ.nt ops ms fr (fun fr' σ'=>zah P tt Γ.nt ops (Q .normal) (ops.drop m) fr' σ') r es' σ2) fl (⟨i,o.dst,v,none⟩::es)) re)
        (fun fr2 σ2 g2 a2 w2 hr2 hk2=>⟨g2,fr2,σ2,hr2,hk2.ex⟩) [o] _ _ hk g a w hr2
       have hw2:wpOpIn (FX Γ.ro) 0 P ops.toArray (Lift Γ Q) i (fun a w=>∃ g2 fr2 σ2,Rel Γ' fr2 σ2 g2 a w∧∃ v,fr2=zbl o.dst v F∧FzGo fz σ2 v fun v σ2=>
        vcRe P tt Γ.nt ops ms fr (⟨i,o.dst,v,none⟩::es) σ2 (vcFl P tt Γ.nt ops ms fr σ2 (fun es'=>vcSt P tt Γ.nt ops ms fr (fun fr' σ'=>zah P tt Γ.nt ops (Q .normal) (ops.drop m) fr' σ') r es' σ2) fl (⟨i,o.dst,v,none⟩::es)) re) a w:=by
        unfold wpOpIn;simp only [hoi];unfold wpLk at hw;split
        ·rename_i hwant;rw [if_pos hwant] at hw;exact hw
        ·rename_i hwant;rw [if_neg hwant] at hw;exact⟨fun _ _=>trivial,hw⟩
       refine wpOpIn_mono ?_ (zgC hoi hw2)
       rintro a2 w2 ⟨⟨g2,fr2,σ2,hr2,v,rfl,hk2⟩,v',htm⟩;have hdn:∀ t,o.dst=some t→t < Γ.nt:=fun t hd=>(hr2.fr t v (by rw [hd];show lk t ((t,v)::F)=_;rw [zr,if_pos rfl])).1
       refine .inl (fin v σ2 hdn hk2 g2 a2 w2 ?_)
       have keep:∀ s u,SR σ1 g w s u→SR σ2 g2 w2 s u:=fun s u hsu=>(hr2.base s u hsu).1
       refine⟨hr2.hp,fun t x ht=>?_,hr2.size,hr2.defers,fun s u hb=>⟨keep s u (h3.base s u hb).1,(h3.base s u hb).2⟩⟩
       by_cases hdt:o.dst=some t
       ·have:lk t (zbl o.dst v F)=some x:=by
         rw [hdt] at ht ⊢;have ht:lk t ((t,v)::(frs E ++ fr))=some x:=ht;show lk t ((t,v)::_)=some x
         rw [zr,if_pos rfl] at ht ⊢;exact ht
        exact hr2.fr t x this
       ·have ht:lk t (frs E ++ fr)=some x:=by
         cases hd:o.dst with
         | none=>rw [hd] at ht;exact ht
         | some d=>
          rw [hd] at ht;have ht:lk t ((d,v)::(frs E ++ fr))=some x:=ht;rw [zr,if_neg (fun e=>hdt (by rw [hd,e]))] at ht;exact ht
        have h4:=h3.fr t x ht;refine⟨h4.1,?_⟩
        have e:a2.tmps.getD t undef=a.tmps.getD t undef:=by
         rw [htm];cases hd:o.dst with
         | none=>rfl
         | some d=>
          have:¬ d=t:=fun e=>hdt (by rw [hd,e])
          simp [Act.put,this]
        rw [e];exact h4.2.keep keep
   ·have hall:∀ b,b < i→L b:=fun b hb=>hbits b (hm.tail i _ (Array.getElem?_eq_getElem (by simpa using hi')) him b hb)
    exact stepB (conv L a w hA fun b hb=>hall b (by omega))
  ·exact stepB hB
 ·-- the end
  intro L a w hinv hall;have hB:InvB L a w:=by
   rcases hinv with hA|hB
   ·exact conv L a w hA fun b hb=>hall b (by simp;omega)
   ·exact hB
  obtain⟨j,hj1,hj2,hj3,hj4⟩:=hB;have:j=ops.length:=by
   rcases Nat.lt_or_ge j ops.length with h'|h'
   ·have:=(hj3 j).1 (hall j (by simpa using h'));omega
   ·omega
  subst this;rw [List.drop_length] at hj4;exact hj4
 ·intro i hi;have:(Array.replicate ops.length false)[i]?.getD false=false:=by
   rw [Array.getElem?_replicate];split <;> rfl
  simp [this] at hi
 ·unfold unl;refine Nat.le_trans (List.length_filter_le _ _) (by simp)
 ·left
  refine⟨[],es0,σ,sts,g,hg0,hb0,hk0,fun e he _=>hs0 e he,fun e he=>by simp at he,fun j=>?_,fun k hk=>?_,hr.drawn _⟩
  rotate_left
  ·have:(Array.replicate ops.length false)[k]?.getD false=false:=by
    rw [Array.getElem?_replicate];split <;> rfl
   simp [this] at hk
  have:(Array.replicate ops.length false)[j]?.getD false=false:=by
   rw [Array.getElem?_replicate];split <;> rfl
  simp [this]
end
end Go.QL
namespace Go.QL
open Go Go.RowKit
def allN (g:Nat→Oper→Prop):List Oper→Nat→Prop
 | [],_=>True
 | o::r,i=>g i o∧allN g r (i+1)
theorem zhJ {g:Nat→Oper→Prop}:∀ {l:List Oper} {k:Nat},allN g l k→∀ (j:Nat) (o:Oper),l[j]?=some o→g (k+j) o
 | [],_,_,j,o,h=>by simp at h
 | x::r,k,h,0,o,hj=>by cases hj;exact h.1
 | x::r,k,h,j+1,o,hj=>by
  have:=zhJ h.2 j o hj;rwa [show k+1+j=k+(j+1) by omega] at this
section
variable {P:Program} {Γ:Cx} {fr:Fr} {σ:Sg} {Q:Exit→Fr→Sg→Prop}
theorem zkf {d i:Nat} (h:d.testBit i=false):Nat.land d (Nat.pow 2 i)=0:=by
 show d &&& 2 ^ i=0
 apply Nat.eq_of_testBit_eq;intro j;rw [Nat.testBit_and,Nat.zero_testBit,Nat.testBit_two_pow];by_cases e:i=j
 ·subst e;simp [h]
 ·simp [e]
theorem zke {m d:Nat} (h:∀ b,m.testBit b=true→d.testBit b=true):Nat.land m d=m:=by
 show m &&& d=m
 apply Nat.eq_of_testBit_eq;intro j;rw [Nat.testBit_and];cases hm:m.testBit j with
 | false=>rfl
 | true=>rw [h j hm];rfl
end
end Go.QL
namespace Go.QL
open Go Go.RowKit
def zsk (tt:TT) (res:List ResultVar) (r:AV):Exit→Fr→Sg→Prop
 | .normal,fr,σ|.ret,fr,σ=>∃ r',za6 tt res fr σ=some r'∧LeAV r' r
 | _,_,_=>False
theorem LeAV.refl (x:AV):LeAV x x:=by
 cases x with
 | t xs=>
  refine⟨xs,rfl,?_⟩
  induction xs with
  | nil=>trivial
  | cons x r ih=>exact⟨LeAV1.refl x,ih⟩
 | x s=>exact LeAV1.refl (.x s)
 | a s=>exact LeAV1.refl (.a s)
 | g c s=>exact LeAV1.refl (.g c s)
section
variable {P:Program}
theorem zg7 {tt:TT} (htt:tt.ok P) {f:FuncId} {fn:Func} {c:Code} {args:List AV} {r:AV} {res:List ResultVar} (hf:P.funcs[f]?=some fn) (hb:fn.body=some c)
  (hname:(fn.name == "runtime.NumGoroutine")=false) (hres:fn.results=res.toArray) {nt:Nat} (hnt:fn.ntmps=nt) (hle:args.length≤nt)
  (h:∀ w0 K0,AW P (Cx.lone w0 K0 nt) c (zsk tt res r) (entry 0 args) []):FnC P f args r:=by
 refine⟨⟨fn,hf,by rw [hb];rfl,hname⟩,fun K w vs hL hK hs hv=>?_⟩
 refine calls_of_wp hf hb ((wpIn_wide (n:=0)).1 ?_)
 have hrel:Rel (Cx.lone w ⟨K,(· < w.heap.size)⟩ nt) (entry 0 args) [] ⟨K,fun _=>undef⟩ ⟨vs ++ Array.replicate (fn.ntmps - vs.size) undef,[]⟩ w:=by
  refine⟨⟨.refl _ _,fun _ h=>h,.refl _ _,fun _ _ _ h=>h,hK,(fun id ob hid=>by cases hid),(fun id b hi=>by cases hi),(fun i j b hi=>by cases hi)⟩,fun t x ht=>?_,by simp;omega,DRb.empty,fun s v hb=>hb.elim⟩
  obtain⟨_,hx⟩:=zbm args 0 t x ht;rw [Nat.sub_zero] at hx;have hlt:t < args.length:=(List.getElem?_eq_some_iff.1 hx).1;refine⟨by show t < nt;omega,?_⟩
  have hvt:vs[t]?=some (vs[t]'(by omega)):=Array.getElem?_eq_getElem (by omega);have e:(vs ++ Array.replicate (fn.ntmps - vs.size) undef).getD t undef=vs[t]'(by omega):=by
   rw [Array.getD_eq_getD_getElem?,Array.getElem?_append_left (by omega),hvt];rfl
  show VR _ _ _ _ ((vs ++ Array.replicate (fn.ntmps - vs.size) undef).getD t undef)
  rw [e];exact zZ (hv t x _ hx hvt)
 refine wpIn_mono ((h w ⟨K,(· < w.heap.size)⟩).use hL hrel) ?_
 intro e a' w' ⟨fr,σ,g,hr,hq⟩;have fin:(∃ r',za6 tt res fr σ=some r'∧LeAV r' r)→a'.defers=[]∧∃ v,(results fn a'.tmps).run P w'=.ok v w'∧∃ v_1 K',Ending.returned v=.returned v_1∧Below w.heap.size w w'∧Ext K w K' w' ∧
   (∀ b o,b < w.heap.size→K' b o→K b o)∧(∀ b o,K' b o→b < w'.heap.size)∧VR2 [] ⟨K',fun _=>undef⟩ w' r v_1:=by
  rintro⟨r',ho,hle⟩;obtain⟨v,hrun,hvr⟩:=zeW htt hr hres ho (μ:=fun _=>undef);exact⟨hr.defers.nil,v,hrun,v,Kall σ g w',rfl,hr.hp.kept.below,hr.hp.ext.trans zcM,zfH hr.hp,zeF hr.hp,hle.ok hvr⟩
 cases e with
 | normal=>exact fin hq
 | ret=>exact fin hq
 | _=>exact hq.elim
end
end Go.QL
namespace Go.QL.DC
open Go Go.RowKit Go.QL
structure En where
 i:Nat
 d:Option Tmp
 x:AV
 ob:Sg
def frs:List En→Fr
 | []=>[]
 | ⟨_,d,x,_⟩::r=>match d with|some d=>(d,x)::frs r|none=>frs r
def obs:List En→Sg
 | []=>[]
 | ⟨_,_,_,ob⟩::r=>ob ++ obs r
def zaK (m:Nat):List En→List En
 | []=>[]
 | ⟨i,d,x,ob⟩::r=>bif zm3 m i then ⟨i,d,x,ob⟩::zaK m r else zaK m r
def zdZ (ob:Sg) (σ:Sg):Sg:=ob ++ σ
def ndB:List Nat→Bool
 | []=>true
 | x::r=>r.all (fun y=>!Nat.beq x y) && ndB r
def zcF (nob σ:Sg):Bool:=nob.all (fun p=>!(lk p.1 σ).isSome) && ndB (nob.map (·.1))
def oL:Option (Nat × Ob)→Sg
 | some p=>[p]
 | none=>[]
def zpI (P:Program) (tt:TT) (all:List Oper) (ob:Bool) (fr:Fr) (σ σt:Sg) (id:Nat) (o:Oper) (kk:Option Bool→AV→Sg→Prop):Prop:=
 match o.op with
 | .call ⟨.value f,args,_⟩=>zix all fr o.guard fun gd=>ev1 fr gd f fun fv=>evL fr gd args.toList fun vs=>
  (match fv,gd with
  | .x (.f (.func fid) first captured),none=>∃ rv nob,(ob && zcF nob σt)=true∧(∀ σE,(∀ p ∈ nob,lk p.1 σE=none)→ACall P fid (first.map .x ++ vs ++ captured.map .x) σE fun r' σ'=>r'=rv∧σ'=nob ++ σE)∧kk none rv nob
  | _,_=>False)
 | _=>opDr P tt all ob fr σ id o fun gd v nob=>kk gd v (oL nob)
def vcDr (P:Program) (tt:TT) (nt:Nat) (all:List Oper) (ob:Bool) (ms:List Nat) (fr0:Fr) (σ0:Sg) (k:Fr→Sg→Prop):List Oper→List En→Nat→Fr→Sg→Prop
 | [],_,_,fr,σ=>k fr σ
 | o::r,es,i,fr,σ=>
  zhE σ o.dst fun id=>zpI P tt all ob (selF (frs (zaK (ms.getD i 0) es) ++ fr0) (looks all o)) (obs (zaK (ms.getD i 0) es) ++ σ0) σ id o fun gd v nob=>
   putE nt o.dst gd v fun x=>vcDr P tt nt all ob ms fr0 σ0 k r (⟨i,o.dst,x,nob⟩::es) (i+1) (zbl o.dst x fr) (zdZ nob σ)
section
variable {P:Program} {Γ:Cx} {Qq:Exit→Act→World→Prop}
def SemE (P:Program) (Γ:Cx) (all:List Oper) (ob:Bool) (fr:Fr) (σ:Sg) (i:Nat) (o:Oper) (x:AV) (nob:Sg):Prop:=
 ∀ (Qq:Exit→Act→World→Prop) (frE:Fr) (σE:Sg) (g:Gh) (a:Act) (w:World),Sup fr frE→Sup σ σE→(ob=false→σE=σ)→(∀ p,p ∈ nob→lk p.1 σE=none)→Rel Γ frE σE g a w →
  ∀ K:Act→World→Prop,(∀ v g' w',Rel Γ frE (zdZ nob σE) g' a w'→VR (zdZ nob σE) g' w' x v→K (a.put o.dst v) w')→all.toArray[i]?=some o→wpOpIn (FX Γ.ro) 0 P all.toArray Qq i K a w
theorem SemE.of {all:List Oper} {ob:Bool} {fr:Fr} {σ:Sg} {i:Nat} {o:Oper} {x:AV} {nob:Option (Nat × Ob)} (h:QL.SemE P Γ all ob fr σ i o x nob):SemE P Γ all ob fr σ i o x (oL nob):=by
 intro Qq frE σE g a w hf hs hob hid hr K hK ho;refine h Qq frE σE g a w hf hs hob (fun p hp=>hid p (by subst hp;exact List.mem_singleton.2 rfl)) hr K (fun v g' w' hr' hv=>hK v g' w' ?_ ?_) ho
 ·cases nob <;> exact hr'
 ·cases nob <;> exact hv
theorem znL {tt:TT} (htt:tt.ok P) (hL:Laid P Γ.K0.K Γ.w0) {all:List Oper} {ob:Bool} {fr:Fr} {σ σt:Sg} {id:Nat} (hid:lk id σt=none) {o:Oper} {kk:Option Bool→AV→Sg→Prop}
  (h:zpI P tt all ob fr σ σt id o kk) (i:Nat) :
  ∃ gd x nob,kk gd x nob∧(nob=[]∨(ob=true∧zcF nob σt=true))∧SemE P Γ all ob fr σ i o (zeI gd x) nob:=by
 unfold zpI at h;split at h
 ·rename_i f args ts hop;have hnd:∀ c,o.op≠.defer c:=fun c hc=>by rw [hc] at hop;cases hop
  obtain⟨gd,h,hgd⟩:=zgl h;obtain⟨fv,h2,hfv⟩:=zK h;clear h;obtain⟨vs,h,hl,hvs⟩:=zbE h2;clear h2;split at h
  ·rename_i fid first captured
   obtain⟨rv,nob,hnn,hac,hk⟩:=h;simp only [Bool.and_eq_true] at hnn;refine⟨none,rv,nob,hk,.inr hnn,?_⟩
   intro Qq frE σE g a w hf hs hob hid' hr K hK ho;obtain⟨hwant,_⟩:=hgd Γ σE g a w (hr.subF hf) o rfl;unfold wpOpIn;simp only [ho];rw [if_pos (hwant.2 (.inl rfl))];have hac:=hac σE hid';have hrD:=hr.subF hf;have hsr:SR σE g w (.f (.func fid) first captured) (a.eval f):=hfv (.inl rfl) Γ σE g a w hrD;generalize hae:a.eval f=fval at hsr;cases hsr with
   | f _ _ _ v1 v2 s1 s2 r1 r2=>
    have hvl:vs.length=(args.map a.eval).size:=by simpa using hl
    have hargs:=zde (us:=args.map a.eval) s1 s2 r1 r2 hvl (fun j x v hx hv=>by
     rw [Array.getElem?_map] at hv;cases ha:args[j]? with
     | none=>rw [ha] at hv;cases hv
     | some y=>rw [ha] at hv;cases hv;exact hvs (.inl rfl) Γ σE g a w hrD _ x y hx (by simpa using ha))
    have hsize:(v1 ++ args.map a.eval ++ v2).size=(first.map AV.x ++ vs ++ captured.map AV.x).length:=by
     simp at hvl;simp [s1,s2,hvl]
    refine⟨fun _ _=>trivial,?_⟩
    rw [Oper.semAt_eq _ _ o hnd,zdl hop hae hac.1 w];refine⟨zfc,zbi.2 ?_⟩
    refine (hac.2 Γ.w0 Γ.K0 g w _ hL hr.hp hsize hargs).mono fun e w' ⟨v,g',σ',r,he,hd,hv,hR⟩=>?_
    obtain⟨rfl,rfl⟩:=hR;subst he;exact hK v g' w' (hr.did hd) (zZ hv)
  ·exact h.elim
 ·obtain⟨gd,x,nob,hk,hn,hs⟩:=zdM (Γ:=Γ) htt hL h i;refine⟨gd,x,oL nob,hk,?_,SemE.of hs⟩
  rcases hn with rfl|⟨h1,_,b,rfl⟩
  ·exact .inl rfl
  ·exact .inr ⟨h1,by simp [zcF,oL,hid,ndB]⟩
theorem zY {E:List En} {p:Nat × AV}:p ∈ frs E↔∃ e ∈ E,e.d=some p.1∧e.x=p.2:=by
 induction E with
 | nil=>simp [frs]
 | cons e r ih=>
  unfold frs;cases hd:e.d with
  | none=>
   simp only [ih,List.mem_cons];constructor
   ·rintro⟨e',h,h'⟩;exact⟨e',.inr h,h'⟩
   ·rintro⟨e',rfl|h,h'⟩
    ·rw [hd] at h';cases h'.1
    ·exact⟨e',h,h'⟩
  | some d=>
   simp only [List.mem_cons,ih];constructor
   ·rintro (rfl|⟨e',h,h'⟩)
    ·exact⟨e,.inl rfl,hd,rfl⟩
    ·exact⟨e',.inr h,h'⟩
   ·rintro⟨e',rfl|h,h1,h2⟩
    ·left;rw [hd] at h1;cases h1;obtain⟨a,b⟩:=p;cases h2;rfl
    ·exact .inr ⟨e',h,h1,h2⟩
theorem zF {E:List En} {p:Nat × Ob}:p ∈ obs E↔∃ e ∈ E,p ∈ e.ob:=by
 induction E with
 | nil=>simp [obs]
 | cons e r ih=>
  unfold obs;rw [List.mem_append,ih];constructor
  ·rintro (h|⟨e',h,h'⟩)
   ·exact⟨e,List.mem_cons_self,h⟩
   ·exact⟨e',List.mem_cons_of_mem _ h,h'⟩
  ·rintro⟨e',h,h'⟩;rcases List.mem_cons.1 h with rfl|h
   ·exact .inl h'
   ·exact .inr ⟨e',h,h'⟩
theorem zap {m:Nat} {e:En}:∀ {E:List En},e ∈ zaK m E→e ∈ E∧m.testBit e.i=true
 | [],h=>by simp [zaK] at h
 | x::r,h=>by
  unfold zaK at h;rw [zeC] at h;cases hb:m.testBit x.i with
  | true=>
   rw [hb] at h;rcases List.mem_cons.1 h with rfl|h
   ·exact⟨List.mem_cons_self,hb⟩
   ·exact⟨List.mem_cons_of_mem _ (zap h).1,(zap h).2⟩
  | false=>
   rw [hb] at h;exact⟨List.mem_cons_of_mem _ (zap h).1,(zap h).2⟩
theorem zbt {m:Nat} {e:En}:∀ {E:List En},e ∈ E→m.testBit e.i=true→e ∈ zaK m E
 | [],h,_=>by simp at h
 | x::r,h,hb=>by
  unfold zaK;rw [zeC];rcases List.mem_cons.1 h with rfl|h
  ·rw [hb];exact List.mem_cons_self
  ·cases m.testBit x.i with
   | true=>exact List.mem_cons_of_mem _ (zbt h hb)
   | false=>exact zbt h hb
theorem zbO (e:En) (E:List En) (fr0:Fr):zbl e.d e.x (frs E ++ fr0)=frs (e::E) ++ fr0:=by
 unfold zbl;simp only [frs];cases e.d <;> rfl
theorem zcL (e:En) (E:List En) (σ0:Sg):zdZ e.ob (obs E ++ σ0)=obs (e::E) ++ σ0:=by
 unfold zdZ;simp only [obs];rw [List.append_assoc]
theorem zo0:∀ {l:Sg},ndB (l.map (·.1))=true→∀ p ∈ l,∀ q ∈ l,p.1=q.1→p=q
 | [],_,p,hp,_,_,_=>by cases hp
 | x::r,h,p,hp,q,hq,e=>by
  simp only [List.map_cons,ndB,Bool.and_eq_true,List.all_eq_true] at h;have hx:∀ y ∈ r,x.1≠y.1:=fun y hy he=>by
   have:=h.1 y.1 (List.mem_map.2 ⟨y,hy,rfl⟩);rw [he] at this;simp at this
  rcases List.mem_cons.1 hp with hp1|hp1 <;> rcases List.mem_cons.1 hq with hq1|hq1
  ·rw [hp1,hq1]
  ·exact absurd (by rw [← hp1];exact e) (hx q hq1)
  ·exact absurd (by rw [← hq1];exact e.symm) (hx p hp1)
  ·exact zo0 h.2 p hp1 q hq1 e
theorem zjn {nob σ:Sg} (h:zcF nob σ=true):(∀ p ∈ nob,lk p.1 σ=none)∧∀ p ∈ nob,∀ q ∈ nob,p.1=q.1→p=q:=by
 unfold zcF at h;simp only [Bool.and_eq_true,List.all_eq_true] at h;refine⟨fun p hp=>?_,zo0 h.2⟩
 have:=h.1 p hp;cases hl:lk p.1 σ with
 | none=>rfl
 | some _=>rw [hl] at this;cases this
structure GoodE (P:Program) (Γ:Cx) (all:List Oper) (ob:Bool) (ms:List Nat) (fr0:Fr) (σ0:Sg) (es:List En):Prop where
 idx:∀ e ∈ es,∀ e' ∈ es,e.i=e'.i→e=e'
 ids:∀ e ∈ es,∀ e' ∈ es,∀ p q,p ∈ e.ob→q ∈ e'.ob→p.1=q.1→e=e'∧p=q
 id0:∀ e ∈ es,∀ p,p ∈ e.ob→lk p.1 σ0=none∧ob=true
 sem:∀ e ∈ es,∃ o D,all[e.i]?=some o∧e.d=o.dst∧(∀ t,o.dst=some t→t < Γ.nt)∧(∀ e' ∈ D,e' ∈ es∧(ms.getD e.i 0).testBit e'.i=true)∧(∀ e' ∈ es,(ms.getD e.i 0).testBit e'.i=true→e'.i < e.i→e' ∈ D) ∧
  SemE P Γ all ob (selF (frs D ++ fr0) (looks all o)) (obs D ++ σ0) e.i o e.x e.ob
theorem zdH {tt:TT} (htt:tt.ok P) (hL:Laid P Γ.K0.K Γ.w0) {all:List Oper} {ob:Bool} {ms:List Nat} {fr0:Fr} {σ0:Sg} {k:Fr→Sg→Prop}:∀ (rest:List Oper) (es:List En) (i:Nat),
  vcDr P tt Γ.nt all ob ms fr0 σ0 k rest es i (frs es ++ fr0) (obs es ++ σ0)→(∀ (j:Nat) (o:Oper),rest[j]?=some o→all[i+j]?=some o)→(∀ e ∈ es,e.i < i)→(∀ j,j < i→∃ e ∈ es,e.i=j)→GoodE P Γ all ob ms fr0 σ0 es →
  ∃ es',k (frs es' ++ fr0) (obs es' ++ σ0)∧GoodE P Γ all ob ms fr0 σ0 es'∧(∀ e ∈ es',e.i < i+rest.length)∧(∀ j,j < i+rest.length→∃ e ∈ es',e.i=j)
 | [],es,i,h,_,hlt,hcov,hg=>⟨es,h,hg,hlt,hcov⟩
 | o::rest,es,i,h,hall,hlt,hcov,hg=>by
  unfold vcDr at h;obtain⟨id,hidn,h⟩:=zfA h;obtain⟨gd,x,nob,hk,hnob,hsem⟩:=znL (Γ:=Γ) htt hL hidn h i;obtain⟨hk,hd⟩:=zdJ hk;let en:En:=⟨i,o.dst,zeI gd x,nob⟩
  have e1:=zbO en es fr0;have e2:=zcL en es σ0;have hk:vcDr P tt Γ.nt all ob ms fr0 σ0 k rest (en::es) (i+1) (frs (en::es) ++ fr0) (obs (en::es) ++ σ0):=by
   rw [← e1,← e2];exact hk
  have hfresh:ob=true∧zcF nob (obs es ++ σ0)=true→(∀ p ∈ nob,∀ e ∈ es,∀ q ∈ e.ob,q.1≠p.1)∧(∀ p ∈ nob,lk p.1 σ0=none)∧∀ p ∈ nob,∀ q ∈ nob,p.1=q.1→p=q:=by
   rintro⟨_,hn⟩;obtain⟨h1,h2⟩:=zjn hn;have key:∀ (L l0:List (Nat × Ob)) (t:Nat),lk t (L ++ l0)=none→∀ p ∈ L,p.1≠t:=by
    intro L l0 t;induction L with
    | nil=>intro _ p hp;simp at hp
    | cons q r ih=>
     intro h p hp;obtain⟨j,y⟩:=q;rw [List.cons_append,zr] at h;by_cases ej:j=t
     ·rw [if_pos ej] at h;cases h
     ·rw [if_neg ej] at h;rcases List.mem_cons.1 hp with rfl|hp
      ·exact ej
      ·exact ih h p hp
   refine⟨fun p hp e he q hq=>key _ _ _ (h1 p hp) q (zF.2 ⟨e,he,hq⟩),fun p hp=>?_,h2⟩
   rw [← zU (L:=obs es) (key _ _ _ (h1 p hp))];exact h1 p hp
  have hnob:∀ p ∈ nob,ob=true∧zcF nob (obs es ++ σ0)=true:=fun p hp=>by
   rcases hnob with hn|hn
   ·rw [hn] at hp;cases hp
   ·exact hn
  have:=zdH htt hL rest (en::es) (i+1) hk (fun j o' hj=>by
   have:=hall (j+1) o' hj;rwa [Nat.add_assoc,Nat.add_comm 1 j]) (fun e he=>by
   rcases List.mem_cons.1 he with rfl|he
   ·exact Nat.lt_succ_self _
   ·exact Nat.lt_succ_of_lt (hlt e he)) (fun j hj=>by
   by_cases hji:j=i
   ·exact⟨en,List.mem_cons_self,hji.symm⟩
   ·obtain⟨e,he,h'⟩:=hcov j (by omega);exact⟨e,List.mem_cons_of_mem _ he,h'⟩) ?_
  ·obtain⟨es',h1,h2,h3,h4⟩:=this;refine⟨es',h1,h2,fun e he=>?_,fun j hj=>?_⟩
   ·have:=h3 e he;simp;omega
   ·exact h4 j (by simp at hj;omega)
  ·refine⟨fun e he e' he' hii=>?_,fun e he e' he' p q hp hq hpq=>?_,fun e he p hp=>?_,fun e he=>?_⟩
   ·rcases List.mem_cons.1 he with rfl|he <;> rcases List.mem_cons.1 he' with rfl|he'
    ·rfl
    ·have:=hlt e' he';have:i=e'.i:=hii;omega
    ·have:=hlt e he;have:e.i=i:=hii;omega
    ·exact hg.idx e he e' he' hii
   ·rcases List.mem_cons.1 he with rfl|he <;> rcases List.mem_cons.1 he' with rfl|he'
    ·exact⟨rfl,(hfresh (hnob p hp)).2.2 p hp q hq hpq⟩
    ·exact absurd hpq.symm ((hfresh (hnob p hp)).1 p hp e' he' q hq)
    ·exact absurd hpq ((hfresh (hnob q hq)).1 q hq e he p hp)
    ·exact hg.ids e he e' he' p q hp hq hpq
   ·rcases List.mem_cons.1 he with rfl|he
    ·exact⟨(hfresh (hnob p hp)).2.1 p hp,(hnob p hp).1⟩
    ·exact hg.id0 e he p hp
   ·rcases List.mem_cons.1 he with rfl|he
    ·refine⟨o,zaK (ms.getD i 0) es,by simpa using hall 0 o rfl,rfl,hd,fun e' he'=>⟨List.mem_cons_of_mem _ (zap he').1,(zap he').2⟩,fun e' he' hb hlt'=>?_,hsem⟩
     rcases List.mem_cons.1 he' with rfl|he'
     ·exact absurd hlt' (Nat.lt_irrefl _)
     ·exact zbt he' hb
    ·obtain⟨o',D,a1,a2,a3,a4,a6,a5⟩:=hg.sem e he;refine⟨o',D,a1,a2,a3,fun e' he'=>⟨List.mem_cons_of_mem _ (a4 e' he').1,(a4 e' he').2⟩,fun e' he' hb hlt'=>?_,a5⟩
     rcases List.mem_cons.1 he' with rfl|he'
     ·have:=hlt e he;have hlt':i < e.i:=hlt';omega
     ·exact a6 e' he' hb hlt'
theorem zq {D E:List En} (h:∀ e ∈ D,e ∈ E):∀ p,p ∈ frs D→p ∈ frs E:=fun p hp=>by
 obtain⟨e,he,h'⟩:=zY.1 hp;exact zY.2 ⟨e,h e he,h'⟩
variable {fr:Fr} {σ:Sg} {Q:Exit→Fr→Sg→Prop}
end
theorem ziH:∀ (σ:Sg),ziI [] σ=σ
 | []=>rfl
 | (i,o)::r=>by
  show (bif false then _ else _)=_
  rw [cond_false,ziH r]
theorem ACall.anew {P:Program} {f:FuncId} {args:List AV} {rv:AV} {nob:Sg} (h:ACall P f args [] (fun r σ'=>r=rv∧σ'=nob)) (ρ : Nat→Nat) {args':List AV} {rv':AV} {nob':Sg}
  (ha:args'=args.map (rnAV ρ)) (hr:rv'=rnAV ρ rv) (hn:nob'=rnSg ρ nob) (hc:(args.all (zeR []) && injK ρ (nob.map (·.1)))=true) (σE:Sg) (hf:∀ p ∈ nob',lk p.1 σE=none) :
  ACall P f args' σE (fun r' σ'=>r'=rv'∧σ'=nob' ++ σE):=by
 subst ha;subst hr;subst hn;simp only [Bool.and_eq_true] at hc;refine (h.frame ρ (σ:=σE) trivial (by simp [hc.1,rsSg,injK]) ?_).mono ?_
 ·rintro r1 σ1 ⟨rfl,rfl⟩;unfold zdN;simp only [List.map_nil,List.all_nil,Bool.and_true,List.any_nil,Bool.false_or,Bool.and_eq_true,List.all_eq_true,Bool.not_eq_true'];refine⟨hc.2,fun i hi=>?_⟩
  obtain⟨p,hp,rfl⟩:=List.mem_map.1 hi;have hm:∃ q ∈ rnSg ρ σ1,q.1 = ρ p.1:=by
   clear hc hf hi h;induction σ1 with
   | nil=>cases hp
   | cons x r ih=>
    rcases List.mem_cons.1 hp with rfl|hp
    ·exact⟨_,List.mem_cons_self,rfl⟩
    ·obtain⟨q,hq,e⟩:=ih hp;exact⟨q,List.mem_cons_of_mem _ hq,e⟩
  obtain⟨q,hq,e⟩:=hm;have h1:=hf q hq;rw [e] at h1;cases hb:(σE.map (·.1)).any (Nat.beq (ρ p.1)) with
  | false=>rfl
  | true=>
   have:=zz.2 (zdY.1 hb);rw [h1] at this;cases this
 ·rintro r σ' ⟨r1,σ1,⟨rfl,rfl⟩,rfl,rfl⟩;refine⟨rfl,?_⟩
  unfold after;congr 1
  exact ziH σE
end Go.QL.DC
namespace Go.QL
open Go Go.RowKit
def PCall (P:Program) (f:FuncId) (args:List AV) (σ:Sg) (R:AV→Sg→Prop) (Rp:Value→Sg→Prop):Prop:=
 Good P f∧∀ (w0:World) (K0:Bs) (g:Gh) (w:World) (vs:Array Value),Laid P K0.K w0→Hp w0 K0 σ g w→vs.size=args.length →
  (∀ (i:Nat) (x:AV) (v:Value),args[i]?=some x→vs[i]?=some v→VR2 σ g w x v) →
  Calls P f vs w (fun e w'=>(∃ v g' σ' r,e=.returned v∧Did w0 K0 σ g w σ' g' w'∧VR2 σ' g' w' r v∧R r σ') ∨
   ∃ v g' σ',e=.panicked [{ v:=v,recovered:=false }]∧Did w0 K0 σ g w σ' g' w'∧Rp v σ')
theorem ACall.toP {P:Program} {f:FuncId} {args:List AV} {σ:Sg} {R:AV→Sg→Prop} (h:ACall P f args σ R):PCall P f args σ R fun _ _=>False:=
 ⟨h.1,fun w0 K0 g w vs hL hp hs hv=>(h.2 w0 K0 g w vs hL hp hs hv).mono fun e w' h=>.inl h⟩
theorem PCall.toA {P:Program} {f:FuncId} {args:List AV} {σ:Sg} {R:AV→Sg→Prop} (h:PCall P f args σ R fun _ _=>False):ACall P f args σ R:=
 ⟨h.1,fun w0 K0 g w vs hL hp hs hv=>(h.2 w0 K0 g w vs hL hp hs hv).mono fun e w' h=>h.elim id fun⟨_,_,_,_,_,h⟩=>h.elim⟩
theorem PCall.mono {P:Program} {f:FuncId} {args:List AV} {σ:Sg} {R R':AV→Sg→Prop} {Rp Rp':Value→Sg→Prop} (h:PCall P f args σ R Rp) (hr:∀ r σ',R r σ'→R' r σ') (hp:∀ v σ',Rp v σ'→Rp' v σ'):PCall P f args σ R' Rp':=
 ⟨h.1,fun w0 K0 g w vs hL hp' hs hv=>(h.2 w0 K0 g w vs hL hp' hs hv).mono fun e w' h=>h.elim (fun⟨v,g',σ',r,a,b,c,d⟩=>.inl ⟨v,g',σ',r,a,b,c,hr _ _ d⟩) fun⟨v,g',σ',a,b,c⟩=>.inr ⟨v,g',σ',a,b,hp _ _ c⟩⟩
def zhH (P:Program) (T:TypeId):Prop:=∃ d,P.underlying T=some d∧(match d with|.interface _=>false|_=>true)=true
def zp2 (op:BinOp) (u:AV) (k:AV→Prop):Prop:=
 match op,u with
 | .eql,.x (.f _ _ _)=>k (bv false)
 | .neq,.x (.f _ _ _)=>k (bv true)
 | .eql,.x (.d (.v .nilFunc))=>k (bv true)
 | .neq,.x (.d (.v .nilFunc))=>k (bv false)
 | _,_=>False
def opP (P:Program) (tt:TT) (nt:Nat) (all:List Oper) (kp:Value→Fr→Sg→Prop) (o:Oper) (fr:Fr) (σ:Sg) (k:Fr→Sg→Prop):Prop:=
 match o.guard,o.op with
 | none,.panic x=>ev1 fr none x fun u=>(match u with|.x (.d (.v (.iface T v)))=>kp (.iface T v) fr σ|_=>False)
 | none,.makeInterface T x=>zhH P T∧ev1 fr none x fun u=>(match u with|.x (.d (.v v))=>zba nt o.dst none (.x (.d (.v (.iface T v)))) fr fun fr'=>k fr' σ|_=>False)
 | none,.typeAssert x _ T false=>zhH P T∧ev1 fr none x fun u=>(match u with|.x (.d (.v (.iface S v)))=>S=T∧v.oneCell'=true∧zba nt o.dst none (.x (.d (.v v))) fr fun fr'=>k fr' σ|_=>False)
 | none,.binOp op xT x (.const .nilIface) _=>(∃ ms,P.underlying xT=some (.interface ms))∧ev1 fr none x fun u=>zgg op u fun v=>zba nt o.dst none v fr fun fr'=>k fr' σ
 | none,.binOp op xT x (.const .nilFunc) _=>(∃ ps rs v,P.underlying xT=some (.func ps rs v))∧ev1 fr none x fun u=>zp2 op u fun v=>zba nt o.dst none v fr fun fr'=>k fr' σ
 | none,.call ⟨.value f,args,_⟩=>ev1 fr none f fun fv=>evL fr none args.toList fun vs=>
   (match fv with
   | .x (.f (.func fid) first captured)=>∃ R Rp,PCall P fid (first.map .x ++ vs ++ captured.map .x) σ R Rp∧(∀ rv σ',R rv σ'→zba nt o.dst none rv fr fun fr'=>k fr' σ')∧∀ v σ',Rp v σ'→kp v fr σ'
   | _=>False)
 | _,_=>zah P tt nt all k [o] fr σ
def zhO (P:Program) (tt:TT) (nt:Nat) (all:List Oper) (kp:Value→Fr→Sg→Prop) (k:Fr→Sg→Prop):List Oper→Fr→Sg→Prop
 | [],fr,σ=>k fr σ
 | o::r,fr,σ=>opP P tt nt all kp o fr σ (zhO P tt nt all kp k r)
section
variable {P:Program} {Γ:Cx} {fr:Fr} {σ:Sg} {Q:Exit→Fr→Sg→Prop}
theorem znq {op:BinOp} {xT:TypeId} {ps rs:Array TypeId} {va:Bool} (hu:P.underlying xT=some (.func ps rs va)) {X:Operand} {u:AV} {k:AV→Prop} (h:zp2 op u k) {g:Gh} {w:World} {v:Value} (hv:VR2 σ g w u v) :
  ∃ b,k (bv b)∧(do eqGuard op xT X (.const .nilFunc) v .nilFunc;binOp op xT v .nilFunc:Sem Value).run P w=.ok (.bool b) w:=by
 have hun:=run_underlying hu w;have e1:∀ f a b,(Op.equal xT (.func f a b) .nilFunc).run P w=.ok false w:=fun f a b=>by
  show (Op.equalIn (Op.maxDepth - 1+1) xT (.func f a b) .nilFunc).run P w=_
  rw [Op.equalIn,Sem.run_bind,hun];rfl
 have e2:(Op.equal xT .nilFunc .nilFunc).run P w=.ok true w:=by
  show (Op.equalIn (Op.maxDepth - 1+1) xT .nilFunc .nilFunc).run P w=_
  rw [Op.equalIn,Sem.run_bind,hun];rfl
 unfold zp2 at h;split at h
 ·cases hv with
  | f _ _ _ v1 v2 s1 s2 r1 r2=>
   refine⟨_,h,?_⟩
   show ((do pure (.bool (← Op.equal xT _ .nilFunc)):Sem Value)).run P w=_
   rw [Sem.run_bind,e1];rfl
 ·cases hv with
  | f _ _ _ v1 v2 s1 s2 r1 r2=>
   refine⟨_,h,?_⟩
   show ((do pure (.bool (!(← Op.equal xT _ .nilFunc))):Sem Value)).run P w=_
   rw [Sem.run_bind,e1];rfl
 ·have:=zm hv;subst this;refine⟨_,h,?_⟩
  show ((do pure (.bool (← Op.equal xT .nilFunc .nilFunc)):Sem Value)).run P w=_
  rw [Sem.run_bind,e2];rfl
 ·have:=zm hv;subst this;refine⟨_,h,?_⟩
  show ((do pure (.bool (!(← Op.equal xT .nilFunc .nilFunc))):Sem Value)).run P w=_
  rw [Sem.run_bind,e2];rfl
 ·exact h.elim
theorem zlT {tt:TT} (htt:tt.ok P) (hL:Laid P Γ.K0.K Γ.w0) {all:List Oper} {E:Exit→Act→World→Prop} {kp:Value→Fr→Sg→Prop} {k:Fr→Sg→Prop} {K:Act→World→Prop}
  (hE:∀ v fr σ g a w,Rel Γ fr σ g a w→kp v fr σ→E (.panic [{ v:=v,recovered:=false }]) a w) (rest:List Oper) (hk:∀ fr σ g a w,Rel Γ fr σ g a w→k fr σ→wpLk Γ.ro P all.toArray E K rest a w)
  (o:Oper) (fr:Fr) (σ:Sg) (h:opP P tt Γ.nt all kp o fr σ k) (g:Gh) (a:Act) (w:World) (hr:Rel Γ fr σ g a w):wpLk Γ.ro P all.toArray E K (o::rest) a w:=by
 have easy:zah P tt Γ.nt all k [o] fr σ→wpLk Γ.ro P all.toArray E K (o::rest) a w:=fun h=>by
  have h2:=zaJ (Γ:=Γ) htt hL (Qx:=E) (K:=wpLk Γ.ro P all.toArray E K rest) hk [o] fr σ h g a w hr;unfold wpLk at h2 ⊢;exact h2
 unfold opP at h;have val:o.guard=none→∀ (x:AV) (v:Value),(execOp a.eval o).run P w=.ok (.value v) w→(∀ c,¬ o.op=.defer c)→VR2 σ g w x v→zba Γ.nt o.dst none x fr (fun fr'=>k fr' σ)→wpLk Γ.ro P all.toArray E K (o::rest) a w:=by
  intro hg x v hrun hnc hv hput;unfold wpLk;rw [if_pos (show Region.wanted o _=true by simp [Region.wanted,hg])];refine⟨fun _ _=>trivial,?_⟩
  rw [Oper.semAt_eq _ _ o hnc,hrun];obtain⟨fr',hk',hr''⟩:=zcf hr hput (v:=v) (zZ hv);exact hk _ _ _ _ _ hr'' hk'
 split at h
 ·rename_i x hg ho;obtain⟨u,hk,hu⟩:=zK h;split at hk
  ·rename_i T v;have hv:=zm (hu (.inl rfl) Γ σ g a w hr);unfold wpLk;rw [if_pos (show Region.wanted o _=true by simp [Region.wanted,hg])];refine⟨fun _ _=>trivial,?_⟩
   rw [Oper.semAt_eq _ _ o (by intro c hc;rw [ho] at hc;cases hc)];have hrun:(execOp a.eval o).run P w=.halt (.panic (.iface T v)) w:=by
    simp only [execOp,ho];rw [hv];rfl
   rw [hrun];exact hE _ _ _ _ _ _ hr hk
  ·exact hk.elim
 ·rename_i T x hg ho;obtain⟨⟨d,hd,hdc⟩,h⟩:=h;obtain⟨u,hk,hu⟩:=zK h;split at hk
  ·rename_i v;have hv:=zm (hu (.inl rfl) Γ σ g a w hr);refine val hg _ (.iface T v) ?_ (by intro c hc;rw [ho] at hc;cases hc) (zL _ rfl) hk
   simp only [execOp,ho];rw [hv];simp only [Instr.makeInterface,Sem.run_bind,run_underlying hd,Result.andThen_ok];cases d <;> first|(cases hdc;done)|rfl
  ·exact hk.elim
 ·rename_i x xT T hg ho;obtain⟨⟨d,hd,hdc⟩,h⟩:=h;obtain⟨u,hk,hu⟩:=zK h;split at hk
  ·rename_i S v;obtain⟨rfl,h1,hk⟩:=hk;have hv:=zm (hu (.inl rfl) Γ σ g a w hr);refine val hg _ v ?_ (by intro c hc;rw [ho] at hc;cases hc) (zL _ h1) hk
   simp only [execOp,ho];rw [hv];simp only [Instr.typeAssert,Sem.run_bind,run_underlying hd,Result.andThen_ok];cases d <;> first|(cases hdc;done)|simp
  ·exact hk.elim
 ·rename_i op xT x yT hg ho;obtain⟨⟨ms,hms⟩,h⟩:=h;obtain⟨u,hk,hu⟩:=zK h;obtain⟨b,hb,hrun⟩:=zj1 (X:=x) hms hk (hu (.inl rfl) Γ σ g a w hr);refine val hg _ (.bool b) ?_ (by intro c hc;rw [ho] at hc;cases hc) (zL _ rfl) hb
  simp only [execOp,ho];show ((do eqGuard op xT x (.const .nilIface) (a.eval x) .nilIface;binOp op xT (a.eval x) .nilIface) >>= fun x=>pure (Next.value x):Sem Next).run P w=_
  rw [Sem.run_bind,hrun];rfl
 ·rename_i op xT x yT hg ho;obtain⟨⟨ps,rs,va,hms⟩,h⟩:=h;obtain⟨u,hk,hu⟩:=zK h;obtain⟨b,hb,hrun⟩:=znq (X:=x) hms hk (hu (.inl rfl) Γ σ g a w hr);refine val hg _ (.bool b) ?_ (by intro c hc;rw [ho] at hc;cases hc) (zL _ rfl) hb
  simp only [execOp,ho];show ((do eqGuard op xT x (.const .nilFunc) (a.eval x) .nilFunc;binOp op xT (a.eval x) .nilFunc) >>= fun x=>pure (Next.value x):Sem Next).run P w=_
  rw [Sem.run_bind,hrun];rfl
 ·rename_i f args ts hg ho;obtain⟨fv,h2,hfv⟩:=zK h;clear h;obtain⟨vs,h,hl,hvs⟩:=zbE h2;clear h2;split at h
  ·rename_i fid first captured
   obtain⟨R,Rp,hac,hcont,hpan⟩:=h;unfold wpLk;rw [if_pos (show Region.wanted o _=true by simp [Region.wanted,hg])];refine⟨fun _ _=>trivial,?_⟩
   rw [Oper.semAt_eq _ _ o (by intro c hc;rw [ho] at hc;cases hc)];have hsr:SR σ g w (.f (.func fid) first captured) (a.eval f):=hfv (.inl rfl) Γ σ g a w hr;generalize hae:a.eval f=fval at hsr;cases hsr with
   | f _ _ _ v1 v2 s1 s2 r1 r2=>
    have hvl:vs.length=(args.map a.eval).size:=by simpa using hl
    have hargs:=zde (us:=args.map a.eval) s1 s2 r1 r2 hvl (fun j x v hx hv=>by
     rw [Array.getElem?_map] at hv;cases ha:args[j]? with
     | none=>rw [ha] at hv;cases hv
     | some y=>rw [ha] at hv;cases hv;exact hvs (.inl rfl) Γ σ g a w hr _ x y hx (by simpa using ha))
    have hsize:(v1 ++ args.map a.eval ++ v2).size=(first.map AV.x ++ vs ++ captured.map AV.x).length:=by
     simp at hvl;simp [s1,s2,hvl]
    rw [zdl ho hae hac.1 w];refine⟨zfc,zbi.2 ?_⟩
    refine (hac.2 Γ.w0 Γ.K0 g w _ hL hr.hp hsize hargs).mono fun e w' h=>?_
    rcases h with ⟨v,g',σ',r,he,hd,hv,hR⟩|⟨v,g',σ',he,hd,hR⟩
    ·subst he;have hr':=hr.did hd;obtain⟨fr',hk',hr''⟩:=zcf hr' (hcont r σ' hR) (v:=v) (zZ hv);exact hk _ _ _ _ _ hr'' hk'
    ·subst he;exact hE _ _ _ _ _ _ (hr.did hd) (hpan v σ' hR)
  ·exact h.elim
 ·exact easy h
theorem zgF {tt:TT} (htt:tt.ok P) (hL:Laid P Γ.K0.K Γ.w0) {all:List Oper} {E:Exit→Act→World→Prop} {kp:Value→Fr→Sg→Prop} {k:Fr→Sg→Prop} {K:Act→World→Prop}
  (hE:∀ v fr σ g a w,Rel Γ fr σ g a w→kp v fr σ→E (.panic [{ v:=v,recovered:=false }]) a w) (hk:∀ fr σ g a w,Rel Γ fr σ g a w→k fr σ→K a w) :
  ∀ (rest:List Oper) (fr:Fr) (σ:Sg),zhO P tt Γ.nt all kp k rest fr σ→∀ (g:Gh) (a:Act) (w:World),Rel Γ fr σ g a w→wpLk Γ.ro P all.toArray E K rest a w
 | [],fr,σ,h,g,a,w,hr=>by unfold zhO at h;exact hk _ _ _ _ _ hr h
 | o::rest,fr,σ,h,g,a,w,hr=>by
  unfold zhO at h;exact zlT htt hL hE rest (fun fr σ g a w hr hh=>zgF htt hL hE hk rest fr σ hh g a w hr) o fr σ h g a w hr
theorem zH {tt:TT} (htt:tt.ok P) {id:Nat} {ops:List Oper} (h:zhO P tt Γ.nt ops (fun v fr σ=>Q (.panic [{ v:=v,recovered:=false }]) fr σ) (Q .normal) ops fr σ):AW P Γ (.region id ops.toArray false) Q fr σ:=
 AW.mk fun hL g a w hr=>zbT (zgF htt hL (E:=Lift Γ Q) (fun _ _ _ _ _ _ hr hq=>⟨_,_,_,hr,hq⟩) (fun _ _ _ _ _ hr hq=>⟨_,_,_,hr,hq⟩) ops fr σ h g a w hr)
def zfR (P:Program) (tt:TT) (nt:Nat) (all:List Oper) (kp:Value→Fr→Sg→Prop) (ms:List Nat) (full:Nat) (k:Fr→Sg→Prop):Nat→Nat→Fr→Sg→Prop
 | 0,done,fr,σ=>bif Nat.beq done full then k fr σ else False
 | f+1,done,fr,σ=>bif Nat.beq done full then k fr σ else
  allN (fun i o=>bif Nat.beq (Nat.land done (Nat.pow 2 i)) 0 && Nat.beq (Nat.land (ms.getD i 0) done) (ms.getD i 0) then
   opP P tt nt all kp o fr σ (fun fr' σ'=>zfR P tt nt all kp ms full k f (Nat.lor done (Nat.pow 2 i)) fr' σ') else True) all 0
theorem zoL {tt:TT} (htt:tt.ok P) (hmix:P.follows .mixedOrders=true) (ms:List Nat) {id:Nat} {ops:List Oper} (hms:zbe ms ops.length ops 0=true) (fr':Fr) (σ':Sg)
  (h:zfR P tt Γ.nt ops (fun v fr σ=>Q (.panic [{ v:=v,recovered:=false }]) fr σ) ms (Nat.sub (Nat.pow 2 ops.length) 1) (fun fr1 σ1=>Imp Γ fr1 σ1 fr' σ') ops.length 0 fr σ) (hk:Q .normal fr' σ'):AW P Γ (.region id ops.toArray true) Q fr σ:=by
 refine AW.mk fun hLd g a w hr=>?_
 have hm:=MaskOK.of hms;generalize hfull:Nat.sub (Nat.pow 2 ops.length) 1=full at h;have hfb:∀ j,full.testBit j=decide (j < ops.length):=by
  intro j;rw [← hfull];exact Nat.testBit_two_pow_sub_one ops.length j
 let Inv:(Nat→Prop)→Act→World→Prop:=fun L a w=>∃ (fr1:Fr) (σ1:Sg) (g:Gh) (f done:Nat),Rel Γ fr1 σ1 g a w∧zfR P tt Γ.nt ops (fun v fr σ=>Q (.panic [{ v:=v,recovered:=false }]) fr σ) ms full (fun fr1 σ1=>Imp Γ fr1 σ1 fr' σ') f done fr1 σ1∧(∀ j,L j↔done.testBit j=true)∧(∀ j,L j→j < ops.length)
 refine wpIn_region_any hmix ?_
 refine zbU hm Inv ?_ ?_ _ _ _ _ (by simp) ?_ ?_ ?_
 ·intro L a w ⟨fr1,σ1,g1,f,done,hr1,hv,hL,hlt⟩ i hi hLi hbits;have hi':i < ops.length:=by simpa using hi
  have hdi:done.testBit i=false:=by
   cases hb:done.testBit i with
   | false=>rfl
   | true=>exact absurd ((hL i).2 hb) hLi
  have hne:Nat.beq done full=false:=by
   cases hb:Nat.beq done full with
   | false=>rfl
   | true=>
    have:=Nat.eq_of_beq_eq_true hb;rw [this,hfb] at hdi;simp [hi'] at hdi
  cases f with
  | zero=>unfold zfR at hv;rw [hne] at hv;exact hv.elim
  | succ f=>
   unfold zfR at hv;rw [hne] at hv;simp only [cond_false] at hv;have hoi:ops.toArray[i]?=some ops[i]:=by simp [hi']
   have h1:=zhJ hv i ops[i] (List.getElem?_eq_getElem hi');rw [Nat.zero_add,zkf hdi,zke (fun b hb=>(hL b).1 (hbits b hb))] at h1;have e1:Nat.beq 0 0=true:=rfl;have e2:Nat.beq (ms.getD i 0) (ms.getD i 0)=true:=by rw [Nat.beq_eq]
   rw [e1,e2] at h1;simp only [Bool.and_self,cond_true] at h1;have h2:=zlT (Γ:=Γ) htt hLd (E:=Lift Γ Q) (K:=Inv (fun j=>L j∨j=i)) (fun _ _ _ _ _ _ hr hq=>⟨_,_,_,hr,hq⟩) [] (fun fr2 σ2 g2 a2 w2 hr2 hv2=>by
    refine⟨fr2,σ2,g2,f,_,hr2,hv2,fun j=>?_,fun j hj=>?_⟩
    ·show (L j∨j=i)↔(done ||| 2 ^ i).testBit j=true
     rw [Nat.testBit_or,Nat.testBit_two_pow,hL j];simp only [Bool.or_eq_true,decide_eq_true_eq];exact⟨fun h=>h.elim .inl (fun e=>.inr e.symm),fun h=>h.elim .inl (fun e=>.inr e.symm)⟩
    ·rcases hj with hj|rfl
     ·exact hlt j hj
     ·exact hi') ops[i] fr1 σ1 h1 g1 a w hr1
   unfold wpOpIn;simp only [hoi];unfold wpLk at h2;split
   ·rename_i hwant;rw [if_pos hwant] at h2;exact Oper.wpIn_mono (fun a w h=>h) h2
   ·rename_i hwant;rw [if_neg hwant] at h2;exact⟨fun _ _=>trivial,h2⟩
 ·intro L a w ⟨fr1,σ1,g1,f,done,hr1,hv,hL,hlt⟩ hall;have hd:done=full:=by
   apply Nat.eq_of_testBit_eq;intro j;rw [hfb];by_cases hj:j < ops.length
   ·rw [(hL j).1 (hall j (by simpa using hj))];simp [hj]
   ·cases hb:done.testBit j with
    | true=>exact absurd (hlt j ((hL j).2 hb)) hj
    | false=>simp [hj]
  have hb:Nat.beq done full=true:=by rw [hd,Nat.beq_eq]
  have hi:Imp Γ fr1 σ1 fr' σ':=by
   cases f with
   | zero=>unfold zfR at hv;rw [hb] at hv;exact hv
   | succ f=>unfold zfR at hv;rw [hb] at hv;exact hv
  obtain⟨g',hr'⟩:=hi g1 a w hr1;exact⟨fr',σ',g',hr',hk⟩
 ·intro i hi;have:(Array.replicate ops.length false)[i]?.getD false=false:=by
   rw [Array.getElem?_replicate];split <;> rfl
  simp [this] at hi
 ·unfold unl;refine Nat.le_trans (List.length_filter_le _ _) (by simp)
 ·refine⟨fr,σ,g,ops.length,0,hr.drawn _,h,fun j=>?_,fun j hj=>?_⟩
  ·have:(Array.replicate ops.length false)[j]?.getD false=false:=by
    rw [Array.getElem?_replicate];split <;> rfl
   simp [this]
  ·have:(Array.replicate ops.length false)[j]?.getD false=false:=by
    rw [Array.getElem?_replicate];split <;> rfl
   simp [this] at hj
def zsj (tt:TT) (res:List ResultVar) (ids:List Nat) (R:AV→Sg→Prop) (Rp:Value→Sg→Prop):Exit→Fr→Sg→Prop
 | .normal,fr,σ|.ret,fr,σ=>∃ r σ',SubS σ σ'∧(rsSg σ' σ' && zbC ids σ')=true∧zb0 tt res fr σ σ'=some r∧R r σ'
 | .panic ch,fr,σ=>∃ v σ',ch=[{ v:=v,recovered:=false }]∧SubS σ σ'∧(rsSg σ' σ' && zbC ids σ')=true∧Rp v σ'
 | _,_,_=>False
theorem z6 {tt:TT} (htt:tt.ok P) {f:FuncId} {fn:Func} {c:Code} {args:List AV} {σ:Sg} {R:AV→Sg→Prop} {Rp:Value→Sg→Prop} {res:List ResultVar} (hf:P.funcs[f]?=some fn) (hb:fn.body=some c)
  (hname:(fn.name == "runtime.NumGoroutine")=false) (hres:fn.results=res.toArray) {nt:Nat} (hnt:fn.ntmps=nt) (hle:args.length≤nt)
  (h:∀ w0 K0 B,AW P ⟨w0,K0,nt,B,σ.map (·.1),none,[],[]⟩ c (zsj tt res (σ.map (·.1)) R Rp) (entry 0 args) σ):PCall P f args σ R Rp:=by
 refine⟨⟨fn,hf,by rw [hb];rfl,hname⟩,fun w0 K0 g w vs hL hp hs hv=>?_⟩
 refine calls_of_wp hf hb ((wpIn_wide (n:=0)).1 ?_)
 have hrel:Rel ⟨w0,K0,nt,SR σ g w,σ.map (·.1),none,[],[]⟩ (entry 0 args) σ g ⟨vs ++ Array.replicate (fn.ntmps - vs.size) undef,[]⟩ w:=by
  refine⟨hp,fun t x ht=>?_,by simp;omega,DRb.empty,fun s v hb=>⟨hb,SR.inI hb⟩⟩
  obtain⟨_,hx⟩:=zbm args 0 t x ht;rw [Nat.sub_zero] at hx;have hlt:t < args.length:=(List.getElem?_eq_some_iff.1 hx).1;refine⟨by show t < nt;omega,?_⟩
  have hvt:vs[t]?=some (vs[t]'(by omega)):=Array.getElem?_eq_getElem (by omega);have e:(vs ++ Array.replicate (fn.ntmps - vs.size) undef).getD t undef=vs[t]'(by omega):=by
   rw [Array.getD_eq_getD_getElem?,Array.getElem?_append_left (by omega),hvt];rfl
  show VR _ _ _ _ ((vs ++ Array.replicate (fn.ntmps - vs.size) undef).getD t undef)
  rw [e];exact zZ (hv t x _ hx hvt)
 refine wpIn_mono ((h w0 K0 _).use hL hrel) ?_
 intro e a' w' ⟨fr,τ,g',hr,hq⟩;have fin:(∃ r σ',SubS τ σ'∧(rsSg σ' σ' && zbC (σ.map (·.1)) σ')=true∧zb0 tt res fr τ σ'=some r∧R r σ') →
   a'.defers=[]∧∃ v,(results fn a'.tmps).run P w'=.ok v w'∧((∃ v_1 g'' σ'' r,Ending.returned v=.returned v_1∧Did w0 K0 σ g w σ'' g'' w'∧VR2 σ'' g'' w' r v_1∧R r σ'') ∨
    ∃ v_1 g'' σ'',Ending.returned v=.panicked [{ v:=v_1,recovered:=false }]∧Did w0 K0 σ g w σ'' g'' w'∧Rp v_1 σ''):=by
  rintro⟨r,σ',hss,hc,ho,hR⟩;simp only [Bool.and_eq_true] at hc;have hsup:=za9 hss;obtain⟨v,hrun,hvr⟩:=zbQ htt hr hsup hres ho;exact⟨hr.defers.nil,v,hrun,.inl ⟨v,_,σ',r,rfl,⟨hr.hp.atEnd hsup hc.1,fun s u hs=>zak (zai hsup hc.2 (hr.base s u hs).1 (hr.base s u hs).2)⟩,hvr,hR⟩⟩
 cases e with
 | normal=>exact fin hq
 | ret=>exact fin hq
 | panic ch=>
  obtain⟨v,σ',rfl,hss,hc,hR⟩:=hq;simp only [Bool.and_eq_true] at hc;have hsup:=za9 hss;exact⟨hr.defers.nil,.inr ⟨v,g',σ',rfl,⟨hr.hp.weaken hsup hc.1,fun s u hs=>zai hsup hc.2 (hr.base s u hs).1 (hr.base s u hs).2⟩,hR⟩⟩
 | exit id=>exact hq.elim
 | goto l=>exact hq.elim
 | outgrown=>exact hq.elim
end
end Go.QL
