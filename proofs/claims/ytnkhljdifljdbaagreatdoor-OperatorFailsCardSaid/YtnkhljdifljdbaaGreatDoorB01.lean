/- The logic of walks, and what the functions of the program return: part 1. No condition. -/
import Derived.Test.YtnkhljdifljdbaaGreatDoorB00
import Derived.RangeFuncRecord
import Derived.OrdersIn
import Derived.Lib.LaidTab
import Derived.Lib.ItoaNum
import Derived.Laws.IdiomCopy
import Derived.Laws.IdiomStrings
import Derived.RangeFuncIn
set_option linter.all false
noncomputable section
namespace Go.QL
open Go Go.RowKit
def Good (P:Program) (f:FuncId):Prop:=∃ fn,P.funcs[f]?=some fn∧fn.body.isSome=true∧(fn.name == "runtime.NumGoroutine")=false
def zdX (s:String):List Nat:=s.toList.map Char.toNat
def pow10codes:List Nat:=[105,110,116,101,114,110,97,108,47,115,116,114,99,111,110,118,46,117,105,110,116,54,52,112,111,119,49,48]
theorem zb9 {a b:String} (h:zdX a=zdX b):a=b:=by
 unfold zdX at h;exact String.toList_inj.1 (List.map_inj_right (fun x y e=>Char.ext (UInt32.toNat_inj.1 e)) |>.1 h)
def zfD (l:List Nat):Bool:=l == [115,116,114,99,111,110,118,46,69,114,114,83,121,110,116,97,120] || l == [115,116,114,99,111,110,118,46,69,114,114,82,97,110,103,101]
def zfx (l:List Nat):Bool:=l == [105,110,116,101,114,110,97,108,47,98,121,116,101,97,108,103,46,77,97,120,76,101,110]
def LaidAt (K:Nat→Nat→Prop) (w:World) (g:Nat) (vs:List Value):Prop:=∀ o,K g o∧w.cell? ⟨g,o,none⟩=vs[o]?
theorem LaidAt.mono {K K':Nat→Nat→Prop} {w w':World} {g:Nat} {vs:List Value} (h:LaidAt K w g vs) (he:Ext K w K' w'):LaidAt K' w' g vs:=fun o=>
 ⟨he.sub _ _ (h o).1,(he.cell _ _ (h o).1).trans (h o).2⟩
def Laid (P:Program) (K:Nat→Nat→Prop) (w:World):Prop:=
 ∀ nm g,P.globalNamed nm=some g→(zdX nm=pow10codes→LaidAt K w g (Lib.pow10Tab.map fun z=>Value.int .u64 z)) ∧
  (zfD (zdX nm)=true→∃ tp p,LaidAt K w g [.iface tp p])∧(zfx (zdX nm)=true→∃ m,LaidAt K w g [.int .i64 m])
theorem Laid.mono {P:Program} {K K':Nat→Nat→Prop} {w w':World} (h:Laid P K w) (he:Ext K w K' w'):Laid P K' w':=fun nm g hg=>
 ⟨fun hn=>((h nm g hg).1 hn).mono he,fun hn=>let ⟨tp,p,h⟩:=(h nm g hg).2.1 hn;⟨tp,p,h.mono he⟩,fun hn=>let ⟨m,h⟩:=(h nm g hg).2.2 hn;⟨m,h.mono he⟩⟩
theorem LaidAt.var {P:Program} {K:Nat→Nat→Prop} {w:World} {nm:String} {g:Nat} {v:Value} {vs:List Value} (h:LaidAt K w g (v::vs)) (hg:P.globalNamed nm=some g):w.var? P nm=some (v::vs).toArray:=by
 have hc:=fun o=>(h o).2
 unfold World.var?;rw [hg];simp only [Option.bind_some];unfold World.cell? at hc;dsimp only at hc;split
 ·rename_i cs T fz hh;rw [hh] at hc;refine congrArg some (Array.ext_getElem? fun i=>?_)
  simp_all
 ·rename_i hh;have h0:=hc 0;simp_all
theorem Laid.tab {P:Program} {K:Nat→Nat→Prop} {w:World} (h:Laid P K w) {nm:String} {g:Nat} (hn:zdX nm=pow10codes) (hg:P.globalNamed nm=some g):Lib.TabIs P w nm .u64 Lib.pow10Tab:=by
 unfold Lib.TabIs;have:=((h nm g hg).1 hn).var hg;exact this
theorem Laid.err {P:Program} {K:Nat→Nat→Prop} {w:World} (h:Laid P K w) {nm:String} {g:Nat} (hn:zfD (zdX nm)=true) (hg:P.globalNamed nm=some g):∃ tp p,w.var? P nm=some #[.iface tp p]:=
 let ⟨tp,p,h⟩:=(h nm g hg).2.1 hn;⟨tp,p,h.var hg⟩
theorem Laid.len {P:Program} {K:Nat→Nat→Prop} {w:World} (h:Laid P K w) {nm:String} {g:Nat} (hn:zfx (zdX nm)=true) (hg:P.globalNamed nm=some g):∃ m,w.cell? ⟨g,0,none⟩=some (.int .i64 m):=
 let ⟨m,h⟩:=(h nm g hg).2.2 hn;⟨m,(h 0).2⟩
def ACall (P:Program) (f:FuncId) (args:List AV) (σ:Sg) (R:AV→Sg→Prop):Prop:=
 Good P f∧∀ (w0:World) (K0:Bs) (g:Gh) (w:World) (vs:Array Value),Laid P K0.K w0→Hp w0 K0 σ g w→vs.size=args.length →
  (∀ (i:Nat) (x:AV) (v:Value),args[i]?=some x→vs[i]?=some v→VR2 σ g w x v) →
  Calls P f vs w (fun e w'=>∃ v g' σ' r,e=.returned v∧Did w0 K0 σ g w σ' g' w'∧VR2 σ' g' w' r v∧R r σ')
def YC (P:Program) (id:Nat) (args:List AV) (σ:Sg) (R:AV→Sg→Prop):Prop:=
 ∀ (w0:World) (K0:Bs) (g:Gh) (w:World) (vs:Array Value),Laid P K0.K w0→Hp w0 K0 σ g w→vs.size=args.length →
  (∀ (i:Nat) (x:AV) (v:Value),args[i]?=some x→vs[i]?=some v→VR2 σ g w x v) →
  ∃ (l:Nat) (f:FuncId) (tmps:Array Value) (assign body:Code) (o:Ob2),lk id σ=some (.x o)∧o.kd=.loop∧g.μ id=.pointer (some ⟨l,0,none⟩) ∧
   (Instr.yield l vs).run P w=.ok (.round l f tmps assign body) w ∧
   RoundIn Fence.wide 0 P l f tmps assign body w (fun e w'=>∃ v g' σ' r,e=.returned v∧Did w0 K0 σ g w σ' g' w'∧VR2 σ' g' w' r v∧R r σ')
theorem ACall.mono {P:Program} {f:FuncId} {args:List AV} {σ:Sg} {R R':AV→Sg→Prop} (h:ACall P f args σ R) (hr:∀ r σ',R r σ'→R' r σ'):ACall P f args σ R':=
 ⟨h.1,fun w0 K0 g w vs hL hp hs hv=>(h.2 w0 K0 g w vs hL hp hs hv).mono fun e w' ⟨v,g',σ',r,a,b,c,d⟩=>⟨v,g',σ',r,a,b,c,hr _ _ d⟩⟩
def ev (fr:Fr):Operand→Option (Option Bool × AV)
 | .tmp t=>match lk t fr with
  | some (.g c v)=>some (some c,v)
  | some v=>some (none,v)
  | none=>none
 | .const v=>bif v.oneCell' then some (none,.x (.d (.v v))) else none
 | .global g=>some (none,.x (.d (.v (.pointer (some ⟨g,0,none⟩)))))
 | .func f=>some (none,.x (.f (.func f) [] []))
def Gd (gd:Option Bool) (p:Prop):Prop:=
 match gd with
 | none=>p
 | some c=>c=true→p
theorem zlS:Open (Gd none):=fun _ h=>h
theorem open_true {c:Bool} (h:c=true):Open (Gd (some c)):=fun _ hp=>hp h
def ev1 (fr:Fr) (gd:Option Bool) (x:Operand) (k:AV→Prop):Prop:=
 match ev fr x with
 | some (none,v)=>k v
 | some (some c,v)=>Gd gd (c=true)∧k v
 | none=>False
def evL (fr:Fr) (gd:Option Bool):List Operand→(List AV→Prop)→Prop
 | [],k=>k []
 | x::r,k=>ev1 fr gd x fun v=>evL fr gd r fun vs=>k (v::vs)
def evO (fr:Fr) (gd:Option Bool):Option Operand→(Option AV→Prop)→Prop
 | none,k=>k none
 | some x,k=>ev1 fr gd x fun v=>k (some v)
inductive InI (ids:List Nat):SV→Prop
 | d (x:PV):InI ids (.d x)
 | o (c st n:Nat) (h:c ∈ ids):InI ids (.o c st n)
 | b (id off:Nat) (h:id ∈ ids):InI ids (.b id off)
 | se (e:List PV) (off:Nat):InI ids (.se e off)
 | oe (c st i off:Nat) (h:c ∈ ids):InI ids (.oe c st i off)
 | f (fn:Fn) (first captured:List SV) (h1:∀ s,s ∈ first→InI ids s) (h2:∀ s,s ∈ captured→InI ids s):InI ids (.f fn first captured)
 | j:InI ids .j
 | h (id:Nat) (h:id ∈ ids):InI ids (.h id)
 | sb (id off n cap:Nat) (h:id ∈ ids):InI ids (.sb id off n cap)
 | os (c st lo n:Nat) (h:c ∈ ids):InI ids (.os c st lo n)
structure Cx where
 w0:World
 K0:Bs
 nt:Nat
 B:SV→Value→Prop
 ids:List Nat
 ro:Option Nat:=none
 dfs:List Nat:=[]
 bs:List Deferred:=[]
abbrev Cx.lone (w0:World) (K0:Bs) (nt:Nat):Cx:=⟨w0,K0,nt,fun _ _=>False,[],none,[],[]⟩
def DR (dfs:List Nat) (σ:Sg) (g:Gh) (ds:List Deferred):Prop:=
 ∃ is:List Nat,is.Nodup∧is.length=ds.length∧∀ (k i:Nat) (x:Deferred),is[k]?=some i→ds[k]?=some x →
  i ∈ dfs∧lk i σ=some (.x .dfr)∧∃ d,g.μ i=.pointer (some ⟨d,0,none⟩)∧x=⟨.collected d,#[]⟩
theorem DR.nil {σ:Sg} {g:Gh} {ds:List Deferred} (h:DR [] σ g ds):ds=[]:=by
 obtain⟨is,_,hl,h⟩:=h;cases ds with
 | nil=>rfl
 | cons x r=>
  cases is with
  | nil=>cases hl
  | cons i r'=>exact absurd (h 0 i x rfl rfl).1 (by simp)
theorem DR.empty {dfs:List Nat} {σ:Sg} {g:Gh}:DR dfs σ g []:=⟨[],by simp,rfl,fun k i x h=>by simp at h⟩
theorem DR.map {dfs:List Nat} {σ σ':Sg} {g g':Gh} {ds:List Deferred} (h:DR dfs σ g ds) (hk:∀ i d,i ∈ dfs→lk i σ=some (.x .dfr)→g.μ i=.pointer (some ⟨d,0,none⟩)→lk i σ'=some (.x .dfr)∧g'.μ i=.pointer (some ⟨d,0,none⟩)):DR dfs σ' g' ds:=by
 obtain⟨is,h1,h2,h3⟩:=h;refine⟨is,h1,h2,fun k i x hi hx=>?_⟩
 grind
theorem DR.keep {dfs:List Nat} {σ σ':Sg} {g g':Gh} {w w':World} {ds:List Deferred} (h:DR dfs σ g ds) (hk:∀ s v,SR σ g w s v→SR σ' g' w' s v):DR dfs σ' g' ds:=
 h.map fun i d _ hl hμ=>by
  have:=hk _ _ (SR.h (w:=w) i .dfr d hl hμ);generalize hv:Kd.val d (Ob2.kd .dfr)=v at this;cases this with
  | h _ o k hl' hμ'=>
   cases o <;> simp [Kd.val,Ob2.kd] at hv;simp_all
def DRb (dfs:List Nat) (bs:List Deferred) (σ:Sg) (g:Gh) (ds:List Deferred):Prop:=∃ ms,ds=ms ++ bs∧DR dfs σ g ms
theorem DRb.nil {σ:Sg} {g:Gh} {ds:List Deferred} (h:DRb [] [] σ g ds):ds=[]:=by
 obtain⟨ms,rfl,h⟩:=h;rw [h.nil];rfl
theorem DRb.only {bs:List Deferred} {σ:Sg} {g:Gh} {ds:List Deferred} (h:DRb [] bs σ g ds):ds=bs:=by
 obtain⟨ms,rfl,h⟩:=h;rw [h.nil];rfl
theorem DRb.empty {dfs:List Nat} {bs:List Deferred} {σ:Sg} {g:Gh}:DRb dfs bs σ g bs:=⟨[],rfl,DR.empty⟩
theorem DRb.map {dfs:List Nat} {bs:List Deferred} {σ σ':Sg} {g g':Gh} {ds:List Deferred} (h:DRb dfs bs σ g ds) (hk:∀ i d,i ∈ dfs→lk i σ=some (.x .dfr)→g.μ i=.pointer (some ⟨d,0,none⟩)→lk i σ'=some (.x .dfr)∧g'.μ i=.pointer (some ⟨d,0,none⟩)):DRb dfs bs σ' g' ds:=by
 obtain⟨ms,h0,h⟩:=h;exact⟨ms,h0,h.map hk⟩
theorem DRb.keep {dfs:List Nat} {bs:List Deferred} {σ σ':Sg} {g g':Gh} {w w':World} {ds:List Deferred} (h:DRb dfs bs σ g ds) (hk:∀ s v,SR σ g w s v→SR σ' g' w' s v):DRb dfs bs σ' g' ds:=by
 obtain⟨ms,h0,h⟩:=h;exact⟨ms,h0,h.keep hk⟩
def ziL (dfs:List Nat) (σ σ':Sg):Bool:=dfs.all fun i=>!(lk i σ).isSome || (lk i σ').isSome
theorem zfE {dfs:List Nat} {σ σ':Sg} (h:ziL dfs σ σ'=true) {i:Nat} (hi:i ∈ dfs) {o:Ob} (hl:lk i σ=some o):(lk i σ').isSome=true:=by
 unfold ziL at h;grind
structure Rel (Γ:Cx) (fr:Fr) (σ:Sg) (g:Gh) (a:Act) (w:World):Prop where
 hp:Hp Γ.w0 Γ.K0 σ g w
 fr:∀ t v,lk t fr=some v→t < Γ.nt∧VR σ g w v (a.tmps.getD t undef)
 size:a.tmps.size=Γ.nt
 defers:DRb Γ.dfs Γ.bs σ g a.defers
 base:∀ s v,Γ.B s v→SR σ g w s v∧InI Γ.ids s
theorem zZ {σ:Sg} {g:Gh} {w:World} {x:AV} {v:Value} (h:VR2 σ g w x v):VR σ g w x v:=by
 cases x with
 | g _ _=>exact h.elim
 | _=>exact h
section
variable {P:Program} {Γ:Cx} {fr:Fr} {σ:Sg} {g:Gh} {a:Act} {w:World}
theorem zrg {gd:Option Bool} {x:Operand} {k:AV→Prop} (h:ev1 fr gd x k):∃ v,k v∧(∀ c,gd=some c→c=true→∀ (Γ:Cx) (σ:Sg) (g:Gh) (a:Act) (w:World),Rel Γ fr σ g a w→VR2 σ g w v (a.eval x)) ∧
  (gd=none→∀ (Γ:Cx) (σ:Sg) (g:Gh) (a:Act) (w:World),Rel Γ fr σ g a w→VR2 σ g w v (a.eval x)):=by
 unfold ev1 at h;split at h
 ·rename_i v he;have key:∀ (Γ:Cx) (σ:Sg) (g:Gh) (a:Act) (w:World),Rel Γ fr σ g a w→VR2 σ g w v (a.eval x):=by
   intro Γ σ g a w hr;unfold ev at he;split at he
   ·rename_i t;split at he
    ·cases he
    ·rename_i v' hne hl;cases he;have:=(hr.fr t v hl).2;cases v with
     | g c u=>exact (hne c u rfl).elim
     | _=>exact this
    ·cases he
   ·rename_i u;cases h1:u.oneCell' with
    | true=>rw [h1] at he;cases he;exact zL _ h1
    | false=>rw [h1] at he;cases he
   ·cases he;exact zL _ rfl
   ·cases he;exact .f _ _ _ #[] #[] rfl rfl (fun i s v h=>by simp at h) (fun i s v h=>by simp at h)
  grind
 ·rename_i c v he;have key:∀ (Γ:Cx) (σ:Sg) (g:Gh) (a:Act) (w:World),c=true→Rel Γ fr σ g a w→VR2 σ g w v (a.eval x):=by
   intro Γ σ g a w hc hr;unfold ev at he;split at he
   ·rename_i t;split at he
    ·rename_i c' u hl;cases he;exact (hr.fr t _ hl).2.1 hc
    ·cases he
    ·cases he
   ·grind
   ·cases he
   ·cases he
  exact⟨v,h.2,fun c' hc' ht Γ σ g a w hr=>by subst hc';exact key Γ σ g a w (h.1 ht) hr,fun hn Γ σ g a w hr=>by subst hn;exact key Γ σ g a w h.1 hr⟩
 ·exact h.elim
def On (gd:Option Bool):Prop:=gd=none∨gd=some true
theorem On.open {gd:Option Bool} (h:On gd):Open (Gd gd):=by
 rcases h with rfl|rfl
 ·exact zlS
 ·exact open_true rfl
theorem zK {gd:Option Bool} {x:Operand} {k:AV→Prop} (h:ev1 fr gd x k):∃ v,k v∧(On gd→∀ (Γ:Cx) (σ:Sg) (g:Gh) (a:Act) (w:World),Rel Γ fr σ g a w→VR2 σ g w v (a.eval x)):=by
 obtain⟨v,hk,h1,h2⟩:=zrg h;refine⟨v,hk,fun ho=>?_⟩
 rcases ho with rfl|rfl
 ·exact h2 rfl
 ·grind
theorem zbE {gd:Option Bool}:∀ {xs:List Operand} {k:List AV→Prop} (_:evL fr gd xs k),∃ vs,k vs∧vs.length=xs.length ∧
  (On gd→∀ (Γ:Cx) (σ:Sg) (g:Gh) (a:Act) (w:World),Rel Γ fr σ g a w→∀ (i:Nat) (v:AV) (x:Operand),vs[i]?=some v→xs[i]?=some x→VR2 σ g w v (a.eval x))
 | [],k,h=>⟨[],h,rfl,fun _ Γ σ g a w _ i v x hi=>by simp at hi⟩
 | x::r,k,h=>by
  obtain⟨v,hk,hv⟩:=zK h;obtain⟨vs,hk2,hl,hvs⟩:=zbE hk;grind
theorem ziF {gd:Option Bool} {x:Option Operand} {k:Option AV→Prop} (h:evO fr gd x k):∃ v,k v∧(On gd→∀ (Γ:Cx) (σ:Sg) (g:Gh) (a:Act) (w:World),Rel Γ fr σ g a w→bval σ g w v (x.map a.eval)):=by
 cases x with
 | none=>exact⟨none,h,fun _ _ _ _ _ _ _=>trivial⟩
 | some x=>
  obtain⟨v,hk,hv⟩:=zK h;exact⟨some v,hk,fun ho Γ σ g a w hr=>hv ho Γ σ g a w hr⟩
end
end Go.QL
namespace Go.QL
open Go Go.RowKit
section
variable {P:Program} {w0:World} {K0:Bs} {σ:Sg} {g:Gh} {w:World}
def zp5 (tt:TT) (σ:Sg) (T:TypeId) (dst src:AV) (k:AV→Sg→Prop):Prop:=
 match tt T with
 | some ⟨.sl e,_,_,_⟩=>
  (match tt e,zby σ 1 src with
  | some ei,some ys=>
   ei.size=1 ∧
   (match dst with
   | .x (.o c st n)=>
    (match lk c σ with
    | some (.chain e' sz st' xs)=>(sz=1∧st'=st)∧n≤xs.length ∧
      k (iv .i64 (min ys.length n:Nat)) (zat c (.chain e' sz st' (ys.take n ++ xs.drop (min ys.length n))) σ)
    | _=>False)
   | .x (.sb id off n _)=>
    (match lk id σ with
    | some (.box cs)=>off+n≤cs.length∧k (iv .i64 (min ys.length n:Nat)) (zat id (.box (seg cs off ((ys.take n).flatten.map .d))) σ)
    | _=>False)
   | _=>False)
  | _,_=>False)
 | _=>False
theorem zeO:∀ {σ:Sg} {id:Nat} {ob:Ob},lk id σ=some ob→zat id ob σ=σ
 | [],_,_,h=>by cases h
 | (j,x)::r,id,ob,h=>by
  rw [zr] at h;by_cases e:j=id
  ·subst e;rw [if_pos rfl] at h;cases h;simp [zat]
  ·rw [if_neg e] at h;have:=zeO h;have hb:Nat.beq j id=false:=by
    cases hb:Nat.beq j id with
    | false=>rfl
    | true=>exact absurd (Nat.eq_of_beq_eq_true hb) e
   simp [zat,hb,this]
theorem ziB:∀ {ys:List (List PV)},(∀ y ∈ ys,y.length=1)→∀ (i:Nat) (p:PV),ys.flatten[i]?=some p→ys[i]?=some [p]
 | [],_,i,p,h=>by simp at h
 | y::r,hl,i,p,h=>by
  obtain⟨q,rfl⟩:∃ q,y=[q]:=by
   have:=hl y (List.mem_cons_self ..);match y,this with
   | [q],_=>exact⟨q,rfl⟩
  rw [List.flatten_cons,List.singleton_append] at h;cases i with
  | zero=>simpa using h
  | succ i=>simpa using ziB (fun y hy=>hl y (List.mem_cons_of_mem _ hy)) i p (by simpa using h)
theorem ziA:∀ {ys:List (List PV)},(∀ y ∈ ys,y.length=1)→ys.flatten.length=ys.length
 | [],_=>rfl
 | y::r,hl=>by
  rw [List.flatten_cons,List.length_append,ziA (fun y hy=>hl y (List.mem_cons_of_mem _ hy)),hl y (List.mem_cons_self ..),List.length_cons];omega
theorem zn7 {tt:TT} (htt:tt.ok P) {T T':TypeId} {dst src:AV} {k:AV→Sg→Prop} (h:zp5 tt σ T dst src k) (ty:TypeId) :
  ∃ av σ',k av σ'∧∀ (w0:World) (K0:Bs) (g:Gh) (w:World) u v,Hp w0 K0 σ g w→VR2 σ g w dst u→VR2 σ g w src v →
   Gives P w0 K0 σ g w (Builtin.copy_ #[T,T'] ty #[u,v]) av σ':=by
 unfold zp5 at h;split at h
 ·rename_i e _ _ _ heq;have hty:P.underlying T=some (.slice e):=(htt _ _ heq).desc;split at h
  ·rename_i ei ys hei hys;obtain⟨hsz1,h⟩:=h;have hinfo:(P.info? e).map (·.size)=some 1:=by
    obtain⟨info,z,i1,i2,_⟩:=(htt _ _ hei).info;simp_all
   split at h
   ·rename_i c st n;split at h
    ·rename_i e' sz st' xs hl;obtain⟨⟨rfl,rfl⟩,hn,hk⟩:=h;refine⟨_,_,hk,fun w0 K0 g w u v hp hu hv=>?_⟩
     obtain⟨vs,hown,⟨a0,cap0,hμ0,hcap0,hmax0⟩,hszs,hpr,hnK⟩:=hp.obs _ _ hl;obtain⟨hy1,hcase⟩:=zaS hp hys hv;cases hu with
     | old _ _ _ e1 sz1 st1 xs1 v hl1 hlt _=>rw [hl] at hl1;cases hl1;omega
     | o _ _ _ e1 sz1 xs1 a cap hl1 hn1 hμ1=>
      rw [hl] at hl1;cases hl1;have none_:min ys.length n=0→∀ a1 c1,v=.slice a1 ys.length c1→Gives P w0 K0 σ g w (Builtin.copy_ #[T,T'] ty #[.slice a n cap,v]) (iv .i64 (min ys.length n:Nat)) (zat c (.chain e' 1 st' (ys.take n ++ xs.drop (min ys.length n))) σ):=by
       intro h0 a1 c1 hv1;have e1:ys.take n ++ xs.drop (min ys.length n)=xs:=by
        grind
       rw [e1,zeO hl,h0,hv1];exact Gives.same hp (run_copy_none (P:=P) w T T' ty e a a1 n cap ys.length c1 hty hinfo h0) (zL _ rfl)
      rcases hcase with ⟨hnil,hv0⟩|⟨a1,c1,hv1,hane,us,hul,huc,hu1,hup⟩
      ·simp_all
      ·by_cases h0:min ys.length n=0
       ·grind
       ·subst hv1;have hyne:ys≠[]:=by intro e;subst e;simp at h0
        obtain⟨ad,rfl⟩:∃ ad,a1=some ad:=by
         cases a1 with
         | none=>exact absurd rfl (hane hyne)
         | some ad=>exact⟨ad,rfl⟩
        rcases hown.2 with ⟨hnil,hz⟩|⟨gb,cap',cur,hv',hB,hg,q1,q2,q3,q4⟩
        ·exfalso;omega
        ·rw [hμ1] at hv';cases hv';have hvl:vs.length=xs.length:=by rw [hown.1,Nat.mul_one]
         have hcurl:cur.toList.length=cap:=by simpa using q3
         have hm:(us.take n).length=min ys.length n:=by rw [List.length_take,hul];omega
         have hrun:=run_copy_row (P:=P) w T T' ty e gb 0 n cap ad ys.length c1 cur e' (us.take n) hty hinfo hg hm
          (fun j x hj=>by
           rw [List.getElem?_take] at hj;by_cases c:j < n
           ·rw [if_pos c] at hj;exact huc j x hj ad rfl
           ·rw [if_neg c] at hj;cases hj)
          (by rw [hm];simp at hcurl;omega) (fun x hx=>hu1 x (List.mem_of_mem_take hx))
         have hother:∀ k,k≠gb→(w.setRow gb (seg cur.toList 0 (us.take n)).toArray).heap[k]?=w.heap[k]?:=fun k hk=>setRow_other w gb k _ hk
         have hheap:=setRow_heap w gb cur (seg cur.toList 0 (us.take n)).toArray e' (0,0) hg;have hseg1:(seg vs 0 (us.take n)).length=vs.length:=zam _ _ _ (by rw [hm];omega);have hseg2:(seg cur.toList 0 (us.take n)).length=cur.toList.length:=zam _ _ _ (by rw [hm];omega);have hxl:(ys.take n ++ xs.drop (min ys.length n)).length=xs.length:=by
          grind
         have hd:Did w0 K0 σ g w (zat c (.chain e' 1 st' (ys.take n ++ xs.drop (min ys.length n))) σ) ⟨g.K,upd g.μ c (.slice (some ⟨gb,0,none⟩) xs.length cap)⟩ (w.setRow gb (seg cur.toList 0 (us.take n)).toArray):=by
          refine hp.setObj c (.chain e' 1 st' xs) _ hl _ ⟨rfl,rfl,rfl,by simp [World.setRow]⟩ ?_ ?_ ?_ ?_
          ·intro k _ hk;exact hother k (fun e=>hk (by rw [hμ1,e];rfl))
          ·simp_all
          ·constructor
           ·intro j ci hj;by_cases ej:j=c
            ·simp_all
            ·exact⟨zo _ _ ej,ci,by rw [zt _ _ _ _ ej];exact hj⟩
           ·intro j e0 sz0 st0 xs0 hj;by_cases ej:j=c
            ·subst ej;rw [hl] at hj;cases hj;exact .inr ⟨by rw [hμ1];exact zy _ _ _,_,zab _ _ _ (by rw [hl];rfl),hxl⟩
            ·exact .inr ⟨zo _ _ ej,xs0,by rw [zt _ _ _ _ ej];exact hj,rfl⟩
           ·intro j o hj;by_cases ej:j=c
            ·simp_all
            ·exact⟨zo _ _ ej,o,by rw [zt _ _ _ _ ej];exact hj,rfl⟩
          ·intro σ' g' hσ hg' hkk hee;subst hg';refine⟨seg vs 0 (us.take n),?_,⟨_,cap,by rw [hxl];exact zy _ _ _,by rw [hxl];exact q1,q2⟩,?_,?_,?_⟩
           ·dsimp only;rw [zy,hxl];refine⟨by rw [hseg1];exact hown.1,.inr ⟨gb,cap,(seg cur.toList 0 (us.take n)).toArray,rfl,hB,hheap,q1,q2,?_,?_⟩⟩
            ·simp_all
            ·simp only [];rw [Nat.mul_one,zj0 _ _ _ _ (by rw [hm];omega) (by omega)];simp_all
           ·grind
           ·intro j y hj j' p hp';have hyl:y.length=1:=by
             grind
            have hj0:j'=0:=by have:=(List.getElem?_eq_some_iff.1 hp').1;omega
            subst hj0;have hsv:=zbX vs 0 (us.take n) (by rw [hm];omega) (j * 1+0);rw [hsv,if_neg (by omega),hm];by_cases c1:j < min ys.length n
            ·rw [if_pos (by omega)];rw [List.getElem?_append_left (by rw [List.length_take];omega),List.getElem?_take,if_pos (by omega)] at hj;obtain⟨u,hu,hpu⟩:=hup j y hj 0 p hp';refine⟨u,?_,hpu.mono hee⟩
             grind
            ·rw [if_neg (by omega)];rw [List.getElem?_append_right (by rw [List.length_take];omega),List.length_take,List.getElem?_drop] at hj;rw [show min ys.length n+(j - min n ys.length)=j by omega] at hj;obtain⟨u,hu,hpu⟩:=hpr j y hj 0 p hp';exact⟨u,hu,hpu.mono hee⟩
           ·intro b hb o hko;dsimp only at hb;rw [zy] at hb;simp_all
         exact⟨_,_,_,hrun,hd,by rw [hm];exact zL _ rfl⟩
    ·exact h.elim
   ·rename_i id off n cap;split at h
    ·rename_i cs hl;obtain⟨hn,hk⟩:=h;refine⟨_,_,hk,fun w0 K0 g w u v hp hu hv=>?_⟩
     obtain⟨b,vs,T1,hμ,hB,hb,hsz,hr,hK⟩:=hp.obs _ _ hl;obtain⟨hy1,hcase⟩:=zaS hp hys hv;have hy1':∀ y ∈ ys.take n,y.length=1:=fun y hy=>hy1 y (List.mem_of_mem_take hy)
     have hfl:((ys.take n).flatten.map SV.d).length=min ys.length n:=by
      rw [List.length_map,ziA hy1',List.length_take];omega
     cases hu with
     | sb _ _ _ _ cs' kb hl' hμ' hnc hcc=>
      rw [hμ] at hμ';cases hμ';have none_:min ys.length n=0→∀ a1 c1,v=.slice a1 ys.length c1→Gives P w0 K0 σ g w (Builtin.copy_ #[T,T'] ty #[.slice (some ⟨b,off,none⟩) n cap,v]) (iv .i64 (min ys.length n:Nat)) (zat id (.box (seg cs off ((ys.take n).flatten.map .d))) σ):=by
       intro h0 a1 c1 hv1;have e1:seg cs off ((ys.take n).flatten.map SV.d)=cs:=by
        have:(ys.take n).flatten.map SV.d=[]:=List.eq_nil_of_length_eq_zero (by rw [hfl,h0]);rw [this];simp [seg]
       rw [e1,zeO hl,h0,hv1];exact Gives.same hp (run_copy_none (P:=P) w T T' ty e _ a1 n cap ys.length c1 hty hinfo h0) (zL _ rfl)
      rcases hcase with ⟨hnil,hv0⟩|⟨a1,c1,hv1,hane,us,hul,huc,hu1,hup⟩
      ·simp_all
      ·by_cases h0:min ys.length n=0
       ·grind
       ·subst hv1;have hyne:ys≠[]:=by intro e;subst e;simp at h0
        obtain⟨ad,rfl⟩:∃ ad,a1=some ad:=by
         cases a1 with
         | none=>exact absurd rfl (hane hyne)
         | some ad=>exact⟨ad,rfl⟩
        have hm:(us.take n).length=min ys.length n:=by rw [List.length_take,hul];omega
        have hvl:vs.toList.length=cs.length:=by simpa using hsz
        have hrun:=run_copy_row (P:=P) w T T' ty e b off n cap ad ys.length c1 vs T1 (us.take n) hty hinfo hb hm
         (fun j x hj=>by
          rw [List.getElem?_take] at hj;by_cases c:j < n
          ·rw [if_pos c] at hj;exact huc j x hj ad rfl
          ·rw [if_neg c] at hj;cases hj)
         (by rw [hm];omega) (fun x hx=>hu1 x (List.mem_of_mem_take hx))
        have hother:∀ k,k≠b→(w.setRow b (seg vs.toList off (us.take n)).toArray).heap[k]?=w.heap[k]?:=fun k hk=>setRow_other w b k _ hk
        have hheap:=setRow_heap w b vs (seg vs.toList off (us.take n)).toArray T1 (0,0) hb;have hd:Did w0 K0 σ g w (zat id (.box (seg cs off ((ys.take n).flatten.map .d))) σ) ⟨g.K,upd g.μ id (.pointer (some ⟨b,0,none⟩))⟩ (w.setRow b (seg vs.toList off (us.take n)).toArray):=by
         refine hp.setObj id (.box cs) _ hl _ ⟨rfl,rfl,rfl,?_⟩ ?_ ?_ ?_ ?_
         ·simp [World.setRow]
         ·intro k _ hk;exact hother k (fun e=>hk (by rw [hμ,e];rfl))
         ·simp_all
         ·constructor
          ·intro i ci hi;by_cases e:i=id
           ·subst e;exact⟨by rw [hμ];exact zy _ _ _,_,zab _ _ _ (by rw [hl];rfl)⟩
           ·exact⟨zo _ _ e,ci,by rw [zt _ _ _ _ e];exact hi⟩
          ·intro i e0 sz st xs hi;by_cases e:i=id
           ·simp_all
           ·exact .inr ⟨zo _ _ e,xs,by rw [zt _ _ _ _ e];exact hi,rfl⟩
          ·intro i o hi;by_cases e:i=id
           ·simp_all
           ·exact⟨zo _ _ e,o,by rw [zt _ _ _ _ e];exact hi,rfl⟩
         ·intro σ' g' hσ hg hk hee;subst hg;refine⟨b,(seg vs.toList off (us.take n)).toArray,T1,zy _ _ _,hB,hheap,?_,?_,hK⟩
          ·simp only [List.size_toArray];rw [zam _ _ _ (by rw [hm];omega),zam _ _ _ (by rw [hfl];omega)];exact hvl
          ·intro i s hi;rw [zbX _ _ _ (by rw [hfl];omega)] at hi;have hg2:=zbX vs.toList off (us.take n) (by rw [hm];omega) i;simp only [List.getElem?_toArray,hg2,hm];rw [hfl] at hi;by_cases c1:i < off
           ·grind
           ·rw [if_neg c1] at hi ⊢;by_cases c2:i < off+min ys.length n
            ·rw [if_pos c2] at hi ⊢;rw [List.getElem?_map] at hi;cases hf:(ys.take n).flatten[i - off]? with
             | none=>rw [hf] at hi;cases hi
             | some p=>
              rw [hf] at hi;cases hi;have h1:=ziB hy1' _ _ hf;rw [List.getElem?_take,if_pos (by omega)] at h1;obtain⟨u,hu,hpu⟩:=hup (i - off) [p] h1 0 p rfl;refine⟨u,?_,.d _ _ (hpu.mono hee)⟩
              grind
            ·grind
        exact⟨_,_,_,hrun,hd,by rw [hm];exact zL _ rfl⟩
    ·exact h.elim
   ·exact h.elim
  ·exact h.elim
 ·exact h.elim
def kClear (tt:TT) (σ:Sg) (T:TypeId) (x:AV) (k:Sg→Prop):Prop:=
 match tt T,x with
 | some ⟨.sl e,_,_,_⟩,.x (.os c st lo n)=>
  (match tt e,lk c σ with
  | some ei,some (.chain e' sz st' xs)=>(st'=st∧ei.size=sz∧0 < sz)∧k (zat c (.chain e' sz st' (seg xs lo (List.replicate (n - lo) (ei.zero.map .v)))) σ)
  | _,_=>False)
 | some ⟨.sl _,_,_,_⟩,.x (.d (.s _ []))=>k σ
 | _,_=>False
theorem kClear_ok {tt:TT} (htt:tt.ok P) {T:TypeId} {x:AV} {k:Sg→Prop} (h:kClear tt σ T x k) :
  ∃ σ',k σ'∧∀ (w0:World) (K0:Bs) (g:Gh) (w:World) (ty:TypeId) u,Hp w0 K0 σ g w→VR2 σ g w x u →
   ∃ w' g',(Builtin.clear_ #[T] ty #[u]).run P w=.ok (.tuple #[]) w'∧Did w0 K0 σ g w σ' g' w':=by
 unfold kClear at h;split at h
 ·rename_i e _ _ _ c st lo n heq;have hty:P.underlying T=some (.slice e):=(htt _ _ heq).desc;split at h
  ·rename_i ei e' sz st' xs hei hl;obtain⟨⟨rfl,hsz,hpos⟩,hk⟩:=h;refine⟨_,hk,fun w0 K0 g w ty u hp h1=>?_⟩
   have hti:=htt _ _ hei;obtain⟨info,z,i1,i2,i3,i4,i5⟩:=hti.info;have hzl:z.cells.size=ei.size:=by rw [i5];simpa using hti.zlen
   have hone:=hti.one;rw [List.all_eq_true] at hone;have hzv:(zeroValue e).run P w=.ok z w:=by simp [zeroValue,typeInfo,i1,i4]
   obtain⟨vs,hown,⟨a0,cap0,hμ0,hcap0,hmax0⟩,hszs,hpr,hnK⟩:=hp.obs _ _ hl;have h1:SR σ g w (.os c st' lo n) u:=h1;cases h1 with
   | osold _ _ _ _ e1 sz1 st1 xs1 v hl1 hlt _=>rw [hl] at hl1;cases hl1;omega
   | os _ _ _ _ e1 sz1 xs1 kb cap hl1 hμ hn=>
    rw [hl] at hl1;cases hl1;rcases hown.2 with ⟨hnil,hz⟩|⟨gb,cap',cur,hv',hB,hg,q1,q2,q3,q4⟩
    ·omega
    ·rw [hμ] at hv';cases hv';subst hsz;have hzs:(Builtin.zeroCells z.cells (n - lo)).toList.length=(n - lo) * ei.size:=by rw [Array.length_toList,size_zeroCells,hzl]
     have hcurl:cur.toList.length=cap * ei.size:=by simpa using q3
     have hnl:(n - lo) * ei.size+lo * ei.size=n * ei.size:=by rw [← Nat.add_mul];congr 1;omega
     have hnx:n * ei.size≤xs.length * ei.size:=Nat.mul_le_mul_right _ hn.2;have hcx:xs.length * ei.size≤cap * ei.size:=Nat.mul_le_mul_right _ q1;have hst:=run_storeCells_at P kb (lo * ei.size) e' (Builtin.zeroCells z.cells (n - lo)).toList 0 cur w hg (by rw [hzs];have:=hcurl;simp at this;omega) (fun u hu=>by
      simp only [Builtin.zeroCells,Array.toList_map,List.mem_map] at hu;obtain⟨j,_,rfl⟩:=hu;have hlt:j % z.cells.size < z.cells.size:=Nat.mod_lt _ (by omega);rw [getElem!_pos z.cells _ hlt];exact hone _ (by rw [← show z.cells.toList=ei.zero from by rw [i5]];simp))
     have hvl:=hown.1;have hxsl:(seg xs lo (List.replicate (n - lo) (ei.zero.map PV.v))).length=xs.length:=zam _ _ _ (by simp;omega);have hseg1:(seg vs (lo * ei.size) (Builtin.zeroCells z.cells (n - lo)).toList).length=vs.length:=zam _ _ _ (by omega);have hseg2:(seg cur.toList (lo * ei.size) (Builtin.zeroCells z.cells (n - lo)).toList).length=cur.toList.length:=zam _ _ _ (by omega);have hother:∀ k,k≠kb→(w.setRow kb (seg cur.toList (lo * ei.size) (Builtin.zeroCells z.cells (n - lo)).toList).toArray).heap[k]?=w.heap[k]?:=fun k hk=>setRow_other w kb k _ hk
     have hheap:=setRow_heap w kb cur (seg cur.toList (lo * ei.size) (Builtin.zeroCells z.cells (n - lo)).toList).toArray e' (0,0) hg;refine⟨w.setRow kb (seg cur.toList (lo * ei.size) (Builtin.zeroCells z.cells (n - lo)).toList).toArray,⟨g.K,upd g.μ c (.slice (some ⟨kb,0,none⟩) xs.length cap)⟩,?_,?_⟩
     ·have hn0:n - lo≠0:=by omega
      obtain⟨m,hm⟩:∃ m,n - lo=m+1:=⟨n - lo - 1,by omega⟩;have hst':(storeCells ⟨kb,lo * ei.size,none⟩ (Builtin.zeroCells z.cells (n - lo)).toList 0).run P w=.ok () (w.setRow kb (seg cur.toList (lo * ei.size) (Builtin.zeroCells z.cells (n - lo)).toList).toArray):=by simpa [seg] using hst
      rw [hm] at hst' ⊢;unfold Builtin.clear_;simp [run_underlying hty,hzv,hst']
     ·refine hp.setObj c (.chain e' ei.size st' xs) (.chain e' ei.size st' (seg xs lo (List.replicate (n - lo) (ei.zero.map .v)))) hl _ ⟨rfl,rfl,rfl,by simp [World.setRow]⟩ ?_ ?_ ?_ ?_
      ·intro k _ hk;exact hother k (fun e=>hk (by rw [hμ,e];rfl))
      ·simp_all
      ·constructor
       ·intro j ci hj;by_cases ej:j=c
        ·simp_all
        ·exact⟨zo _ _ ej,ci,by rw [zt _ _ _ _ ej];exact hj⟩
       ·intro j e0 sz0 st0 xs0 hj;by_cases ej:j=c
        ·subst ej;rw [hl] at hj;cases hj;exact .inr ⟨by rw [hμ];exact zy _ _ _,_,zab _ _ _ (by rw [hl];rfl),hxsl⟩
        ·exact .inr ⟨zo _ _ ej,xs0,by rw [zt _ _ _ _ ej];exact hj,rfl⟩
       ·intro j o hj;by_cases ej:j=c
        ·simp_all
        ·exact⟨zo _ _ ej,o,by rw [zt _ _ _ _ ej];exact hj,rfl⟩
      ·intro σ' g' hσ hg' hkk hee;subst hg';refine⟨seg vs (lo * ei.size) (Builtin.zeroCells z.cells (n - lo)).toList,?_,⟨_,cap,by rw [hxsl];exact zy _ _ _,by rw [hxsl];exact q1,q2⟩,?_,?_,?_⟩
       ·dsimp only;rw [zy,hxsl];refine⟨by rw [hseg1];exact hvl,.inr ⟨kb,cap,(seg cur.toList (lo * ei.size) (Builtin.zeroCells z.cells (n - lo)).toList).toArray,rfl,hB,hheap,q1,q2,?_,?_⟩⟩
        ·simp only [List.size_toArray];rw [hseg2];exact hcurl
        ·simp only [];rw [zj0 _ _ _ _ (by omega) (by omega),q4]
       ·intro y hy;obtain⟨i,hi,hy'⟩:=List.getElem_of_mem hy;have hg3:=zbX xs lo (List.replicate (n - lo) (ei.zero.map PV.v)) (by simp;omega) i;rw [List.getElem?_eq_getElem hi,hy'] at hg3;simp only [List.length_replicate] at hg3;by_cases c1:i < lo
        ·rw [if_pos c1] at hg3;exact hszs y (List.mem_of_getElem? hg3.symm)
        ·rw [if_neg c1] at hg3;by_cases c2:i < lo+(n - lo)
         ·rw [if_pos c2,List.getElem?_replicate,if_pos (by omega)] at hg3;cases hg3;simpa using hti.zlen
         ·rw [if_neg c2] at hg3;exact hszs y (List.mem_of_getElem? hg3.symm)
       ·intro j y hj j' p hp';have hsv:=zbX vs (lo * ei.size) (Builtin.zeroCells z.cells (n - lo)).toList (by omega) (j * ei.size+j');rw [zbX xs lo (List.replicate (n - lo) (ei.zero.map PV.v)) (by simp;omega) j] at hj;simp only [List.length_replicate] at hj;rw [hsv,hzs];by_cases c1:j < lo
        ·rw [if_pos c1] at hj;have hyl:=hszs y (List.mem_of_getElem? hj);have hj':j' < ei.size:=by rw [← hyl];exact (List.getElem?_eq_some_iff.1 hp').1
         have:j * ei.size+ei.size≤lo * ei.size:=by
          have:=Nat.mul_le_mul_right ei.size c1;rw [Nat.succ_mul] at this;exact this
         rw [if_pos (by omega)];obtain⟨v0,a,b⟩:=hpr j y hj j' p hp';exact⟨v0,a,b.mono hee⟩
        ·rw [if_neg c1] at hj;have hge:lo * ei.size≤j * ei.size:=Nat.mul_le_mul_right _ (by omega);rw [if_neg (by omega)];by_cases c2:j < lo+(n - lo)
         ·rw [if_pos c2,List.getElem?_replicate,if_pos (by omega)] at hj;cases hj;rw [List.getElem?_map] at hp';cases hz:ei.zero[j']? with
          | none=>rw [hz] at hp';cases hp'
          | some u=>
           rw [hz] at hp';cases hp';have hj2:j' < ei.size:=by rw [← hti.zlen];exact (List.getElem?_eq_some_iff.1 hz).1
           have hsub:j * ei.size+j' - lo * ei.size=(j - lo) * ei.size+j':=by
            have:(j - lo) * ei.size+lo * ei.size=j * ei.size:=by rw [← Nat.add_mul];congr 1;omega
            omega
           have hlt:(j - lo) * ei.size+j' < (n - lo) * ei.size:=by
            have:=Nat.mul_le_mul_right ei.size (show j - lo+1≤n - lo by omega);rw [Nat.add_mul,Nat.one_mul] at this;omega
           rw [if_pos (by omega),hsub];refine⟨u,?_,.v u (hone u (List.mem_of_getElem? hz))⟩
           have e1:((j - lo) * ei.size+j') % ei.size=j':=by rw [Nat.mul_comm,Nat.mul_add_mod,Nat.mod_eq_of_lt hj2]
           have e2:z.cells[j']?=some u:=by rw [i5];simpa using hz
           obtain⟨hj3,e3⟩:=Array.getElem?_eq_some_iff.1 e2;simp [Builtin.zeroCells,hzl,hlt,e1];rw [getElem!_pos z.cells j' hj3,e3]
         ·rw [if_neg c2] at hj;have:n * ei.size≤j * ei.size:=Nat.mul_le_mul_right _ (by omega);rw [if_neg (by omega)];obtain⟨v0,a,b⟩:=hpr j y hj j' p hp';exact⟨v0,a,b.mono hee⟩
       ·intro b hb o hko;dsimp only at hb;rw [zy] at hb;simp_all
  ·exact h.elim
 ·rename_i e _ _ _ sz heq;have hty:P.underlying T=some (.slice e):=(htt _ _ heq).desc;refine⟨_,h,fun w0 K0 g w ty u hp h1=>⟨w,g,?_,Did.refl hp⟩⟩
  have h1:SR σ g w (.d (.s sz [])) u:=h1;cases h1 with
  | d _ _ hpr=>cases hpr with
   | s _ _ a cap b off vs hcap hmax hszs ha hK hc hr=>
    cases a <;> simp [Builtin.clear_,run_underlying hty]
 ·exact h.elim
end
end Go.QL
namespace Go.QL
open Go Go.RowKit
section
variable {P:Program} {σ:Sg}
def nq (op:BinOp) (p:Prop) (k:AV→Prop):Prop:=
 match op with
 | .eql=>∀ b:Bool,(b=true→p)→k (bv b)
 | .neq=>∀ b:Bool,(b=false→p)→k (bv b)
 | _=>False
def zp1 (tt:TT) (σ:Sg) (op:BinOp) (T:TypeId) (x:AV) (u:Bool) (k:AV→Prop):Prop:=
 match u with
 | false=>False
 | true=>
  match tt T with
  | some ⟨.sl _,_,_,_⟩=>
   (match x with
   | .x (.d (.s _ xs))=>nq op (xs=[]) k
   | .x (.o c st n)=>(match lk c σ with
    | some (.chain _ _ st' _)=>st'=st∧nq op (n=0) k
    | _=>False)
   | .x (.d (.v (.slice none 0 0)))=>nq op True k
   | _=>False)
  | _=>False
theorem zlW {T e:TypeId} (hu:P.underlying T=some (.slice e)) {op:BinOp} {p:Prop} {k:AV→Prop} (h:nq op p k) (a:Option Addr) (n c:Nat) (ha:a=none→p) (X Y:Operand) (w:World) :
  ∃ b,k (bv b)∧((do eqGuard op T X Y (.slice a n c) (.slice none 0 0);binOp op T (.slice a n c) (.slice none 0 0)):Sem Value).run P w=.ok (.bool b) w:=by
 have hg:(eqGuard op T X Y (.slice a n c) (.slice none 0 0)).run P w=.ok () w:=by
  unfold eqGuard;cases op <;> rfl
 have he:(Op.equalIn 10000 T (.slice a n c) (.slice none 0 0)).run P w=.ok a.isNone w:=by
  have h0:∀ d,(Op.equalIn (d+1) T (.slice a n c) (.slice none 0 0)).run P w=.ok a.isNone w:=fun d=>by
   simp only [Op.equalIn,Sem.run_bind,run_underlying hu,Result.andThen_ok];cases a <;> rfl
  exact h0 9999
 unfold nq at h;split at h
 ·refine⟨a.isNone,h _ (fun e=>ha (by simpa using e)),?_⟩
  rw [Sem.run_bind,hg,Result.andThen_ok];simp only [binOp,Op.equal,Op.maxDepth,Sem.run_bind,he,Result.andThen_ok,Sem.run_pure]
 ·refine⟨!a.isNone,h _ (fun e=>ha (by simpa using e)),?_⟩
  rw [Sem.run_bind,hg,Result.andThen_ok];simp only [binOp,Op.equal,Op.maxDepth,Sem.run_bind,he,Result.andThen_ok,Sem.run_pure]
 ·exact h.elim
theorem zn4 {tt:TT} (htt:tt.ok P) {op:BinOp} {T:TypeId} {x:AV} {u:Bool} {k:AV→Prop} (h:zp1 tt σ op T x u k) :
  u=true∧∀ (w0:World) (K0:Bs) (g:Gh) (w:World) (X Y:Operand) u1,Hp w0 K0 σ g w→VR2 σ g w x u1 →
   ∃ b,k (bv b)∧((do eqGuard op T X Y u1 (.slice none 0 0);binOp op T u1 (.slice none 0 0)):Sem Value).run P w=.ok (.bool b) w:=by
 unfold zp1 at h;split at h
 ·exact h.elim
 ·refine⟨rfl,fun w0 K0 g w X Y u1 hp hv=>?_⟩
  split at h
  ·rename_i e _ _ _ heq;have hu:P.underlying T=some (.slice e):=(htt _ _ heq).desc;split at h
   ·rename_i sz0 xs;cases hv with
    | d _ _ hpr=>cases hpr with
     | s _ _ a cap b off vs hcap hmax hszs ha hK hc hr=>
      exact zlW hu h a _ _ (fun e=>by
       cases xs with
       | nil=>rfl
       | cons y r=>have:=ha (by simp);rw [e] at this;cases this) X Y w
   ·split at h
    ·rename_i e' sz' st' xs' hl;obtain⟨rfl,h⟩:=h;cases hv with
     | old _ _ _ e1 sz1 st1 xs1 v hl1 hlt1 h1=>rw [hl] at hl1;cases hl1;omega
     | o _ _ _ e1 sz1 xs1 a cap hl1 hn1 hμ1=>
      obtain⟨vs,hown,_⟩:=hp.obs _ _ hl1;refine zlW hu h a _ _ (fun e=>?_) X Y w
      subst e;rcases hown.2 with ⟨_,hz⟩|⟨gb,cap',cur,hv',_⟩
      ·omega
      ·simp_all
    ·exact h.elim
   ·cases zm hv;exact zlW hu h none 0 0 (fun _=>trivial) X Y w
   ·exact h.elim
  ·exact h.elim
end
end Go.QL
namespace Go.QL
open Go Go.RowKit
def zgg (op:BinOp) (u:AV) (k:AV→Prop):Prop:=
 match op,u with
 | .eql,.x (.d (.v (.iface _ _)))=>k (bv false)
 | .neq,.x (.d (.v (.iface _ _)))=>k (bv true)
 | .eql,.x (.d (.v .nilIface))=>k (bv true)
 | .neq,.x (.d (.v .nilIface))=>k (bv false)
 | .eql,.x (.d .e)=>k (bv false)
 | .neq,.x (.d .e)=>k (bv true)
 | _,_=>False
def zp0 (fr:Fr) (gd:Option Bool) (c a b:Operand) (k:AV→Prop):Prop:=
 match ev fr c,ev fr a,ev fr b with
 | some (cc,.x (.d (.v (.bool x)))),some (ca,.x (.d (.v (.bool y)))),some (cb,.x (.d (.v (.bool z))))=>
  (match cc with|none=>True|some c'=>Gd gd (c'=true)) ∧
  (match ca with|none=>True|some c'=>Gd gd (x=true→c'=true)) ∧
  (match cb with|none=>True|some c'=>Gd gd (x=false→c'=true)) ∧
  k (bv (bif x then y else z))
 | _,_,_=>False
def live (σ:Sg):AV→Prop
 | .x (.oe c st _ _)=>match lk c σ with
  | some (.chain _ _ st' _)=>st'=st
  | _=>False
 | _=>True
def mmL (mx:Bool) (a:Int):List AV→Option Int
 | []=>some a
 | .x (.d (.v (.int _ b)))::r=>mmL mx (bif mx then (if b > a then b else a) else (if b < a then b else a)) r
 | _=>none
def kMM (mx:Bool) (vs:List AV) (k:AV→Prop):Prop:=
 match vs with
 | .x (.d (.v (.int k1 a)))::r=>(match mmL mx a r with|some m=>k (iv k1 m)|none=>False)
 | _=>False
def zo3 (x:AV) (k:AV→Prop):Prop:=
 ∃ l:List UInt8,l≠[]∧(x=.x (.d (.c 1 (l.map fun c=>[.v (.int .u8 c.toNat)])))∨x=.x (.d (.s 1 (l.map fun c=>[.v (.int .u8 c.toNat)]))))∧k (sv ⟨l.toArray⟩)
def cAV:Value→AV
 | .agg cs=>.a (cs.toList.map fun c=>.d (.v c))
 | v=>.x (.d (.v v))
def cOK1:Value→Bool
 | .agg cs=>cs.toList.all (·.oneCell')
 | .tuple _=>false
 | _=>true
def cOK (l:List Value):Bool:=l.all cOK1
def plainVs:List SV→Option (List Value)
 | []=>some []
 | .d (.v c)::r=>(plainVs r).map (c :: ·)
 | _=>none
def zmU:AV→Option Value
 | .a cs=>(plainVs cs).map fun l=>.agg l.toArray
 | .x (.d (.v c))=>some c
 | _=>none
def zkw:List AV→Option (List Value)
 | []=>some []
 | x::r=>match zmU x,zkw r with
  | some c,some l=>some (c::l)
  | _,_=>none
def stepP (tt:TT) (bd:Bool) (fr:Fr) (σ:Sg) (gd:Option Bool) (o:Op) (k:AV→Prop):Prop:=
 match o with
 | .move x|.assign x=>ev1 fr gd x k
 | .pick c a b=>zp0 fr gd c a b k
 | .binOp op xT x (.const (.slice none 0 0)) _=>ev1 fr gd x fun u=>zp1 tt σ op xT u (match gd with|none=>bd|some _=>false) k
 | .binOp op xT x (.const .nilIface) _=>(match tt xT with|some ⟨.ifc,_,_,_⟩=>ev1 fr gd x fun u=>zgg op u k|_=>False)
 | .binOp op xT x y _=>ev1 fr gd x fun u=>ev1 fr gd y fun v=>kBin tt op xT u v (Gd gd) k
 | .unOp op _ x=>ev1 fr gd x fun u=>kUn op u k
 | .convert src dst x=>(match tt src with
  | some ⟨.int _,_,_,_⟩=>ev1 fr gd x fun u=>zn8 tt dst u k
  | some ⟨.str,_,_,_⟩=>ev1 fr gd x fun u=>zn8 tt dst u k
  | some ⟨.sl e,_,_,_⟩=>(match tt e,tt dst with
   | some ⟨.int .u8,_,_,_⟩,some ⟨.str,_,_,_⟩=>ev1 fr gd x fun u=>zo3 u k
   | _,_=>False)
  | _=>False)
 | .load T x=>ev1 fr gd x fun u=>(match u with
  | .x (.oe c st i off)=>zjB tt σ T c st i off (Gd gd) k
  | u=>zmj tt σ T u k)
 | .fieldAddr T x f=>ev1 fr gd x fun u=>live σ u∧zeY tt T u f k
 | .field T x f=>ev1 fr gd x fun u=>zmp tt T u f k
 | .indexAddr T x i=>ev1 fr gd x fun u=>ev1 fr gd i fun v=>zeX tt σ T u v (Gd gd) k
 | .index T x i=>ev1 fr gd x fun u=>ev1 fr gd i fun v=>zmn tt T u v (Gd gd) k
 | .slice T x lo hi none=>ev1 fr gd x fun u=>evO fr gd lo fun l=>evO fr gd hi fun h=>zme tt σ T u l h (Gd gd) k
 | .slice T x lo hi (some mx)=>ev1 fr gd x fun u=>evO fr gd lo fun l=>evO fr gd hi fun h=>evO fr gd (some mx) fun m=>zjw tt T u l h m (Gd gd) k
 | .extract x n=>ev1 fr gd x fun u=>zhC u n k
 | .nilCheck x=>ev1 fr gd x fun u=>(match u with
  | .x (.b id off)=>k (.x (.b id off))
  | .x (.se e off)=>k (.x (.se e off))
  | .x (.oe c st i off)=>(match lk c σ with
   | some (.chain _ _ st' _)=>st'=st∧k (.x (.oe c st i off))
   | _=>False)
  | _=>False)
 | .build T parts=>evL fr gd (parts.toList.map (·.2)) fun vs=>zmw tt T ((parts.toList.map (·.1)).zip vs) k
 | .makeFunc fn first captured=>evL fr gd first.toList fun vs=>evL fr gd captured.toList fun us=>(match scalars vs,scalars us with
  | some ss,some ts=>k (.x (.f fn ss ts))
  | none,some []=>(match zkw vs with|some l=>k (.x (.d (.v (.func fn l.toArray #[]))))|none=>False)
  | _,_=>False)
 | .call ⟨.builtin .max,args,_⟩=>evL fr gd args.toList fun vs=>kMM true vs k
 | .call ⟨.builtin .min,args,_⟩=>evL fr gd args.toList fun vs=>kMM false vs k
 | .lookup T x i ok=>ev1 fr gd x fun u=>ev1 fr gd i fun v=>zjA tt σ T u v ok k
 | .entry x=>ev1 fr gd x fun u=>zmr σ u k
 | .call ⟨.builtin .len,args,ts⟩=>(match args.toList,ts.toList with
  | [x],[T]=>ev1 fr gd x fun u=>kLen tt σ T u (match gd with|none=>bd|some _=>false) k
  | _,_=>False)
 | _=>False
where
 scalars:List AV→Option (List SV)
  | []=>some []
  | .x s::r=>(match scalars r with|some l=>some (s::l)|none=>none)
  | _::_=>none
def zhE (σ:Sg) (d:Option Tmp) (k:Nat→Prop):Prop:=
 match d with
 | some d=>(match lk d σ with|none=>k d|some _=>k (zaZ σ))
 | none=>k (zaZ σ)
theorem zfA {σ:Sg} {d:Option Tmp} {k:Nat→Prop} (h:zhE σ d k):∃ id,lk id σ=none∧k id:=by
 unfold zhE at h;split at h
 ·split at h
  ·grind
  ·exact⟨_,zhx σ,h⟩
 ·exact⟨_,zhx σ,h⟩
def stepM (tt:TT) (fr:Fr) (σ:Sg) (id:Nat) (o:Op) (k:Option AV→Sg→Prop):Prop:=
 match o with
 | .alloc T=>zgi tt σ id T fun v σ'=>k (some v) σ'
 | .box _ x=>ev1 fr none x fun u=>kBox σ id u fun v σ'=>k (some v) σ'
 | .store T p x=>ev1 fr none p fun q=>ev1 fr none x fun u=>(match q with
  | .x (.b ib off)=>zjv tt σ T ib off u fun σ'=>k none σ'
  | .x (.oe c st i off)=>zhy tt σ T c st i off u fun σ'=>k none σ'
  | _=>False)
 | .makeMap T none=>zhz tt σ id T none fun v σ'=>k (some v) σ'
 | .mapUpdate T m i x=>ev1 fr none m fun u=>ev1 fr none i fun v=>ev1 fr none x fun y=>zdr tt σ T u v y fun σ'=>k none σ'
 | .insert T m i x=>ev1 fr none m fun u=>ev1 fr none i fun v=>ev1 fr none x fun y=>zdr tt σ T u v (fnD y) fun σ'=>k none σ'
 | .range T x=>ev1 fr none x fun u=>zmg tt σ id T u fun v σ'=>k (some v) σ'
 | .mapEntry T m i=>ev1 fr none m fun u=>ev1 fr none i fun v=>kSlot tt σ T u v fun r σ'=>k (some r) σ'
 | .entryStore _ m i x=>ev1 fr none m fun u=>ev1 fr none i fun v=>ev1 fr none x fun y=>kSlotSet σ u v y fun σ'=>k none σ'
 | .buildSlice T n parts=>evL fr none (parts.toList.map (·.2)) fun vs=>zaQ tt σ id T n ((parts.toList.map (·.1)).zip vs) fun v σ'=>k (some v) σ'
 | .makeSlice T l c=>ev1 fr none l fun u=>ev1 fr none c fun v=>zjz tt σ id T u v fun r σ'=>k (some r) σ'
 | .call ⟨.builtin .append,args,ts⟩=>(match args.toList,ts.toList with
  | [x,y],[T,T']=>ev1 fr none x fun u=>ev1 fr none y fun v=>if T=T' then zjE tt σ T u v fun r σ'=>k (some r) σ' else ztt tt σ T T' u v fun r σ'=>k (some r) σ'
  | _,_=>False)
 | .call ⟨.builtin .clear,args,ts⟩=>(match args.toList,ts.toList with
  | [x],[T]=>ev1 fr none x fun u=>kClear tt σ T u fun σ'=>k (some (.t [])) σ'
  | _,_=>False)
 | .call ⟨.builtin .copy,args,ts⟩=>(match args.toList,ts.toList with
  | [x,y],[T,_]=>ev1 fr none x fun u=>ev1 fr none y fun v=>zp5 tt σ T u v fun r σ'=>k (some r) σ'
  | _,_=>False)
 | _=>False
section
variable {P:Program} {fr:Fr} {σ:Sg}
theorem zeP {g:Gh} {w:World}:∀ (vs:List AV) (ss:List SV),stepP.scalars vs=some ss→vs=ss.map .x
 | [],ss,h=>by cases h;rfl
 | v::r,ss,h=>by
  cases v with
  | x s=>
   simp only [stepP.scalars] at h;cases hr:stepP.scalars r with
   | none=>rw [hr] at h;cases h
   | some l=>rw [hr] at h;cases h;rw [zeP (g:=g) (w:=w) r l hr];rfl
  | _=>simp [stepP.scalars] at h
def ziX (P:Program) (fr:Fr) (σ:Sg) (o:Oper) (av:AV):Prop:=
 ∀ (Γ:Cx) (g:Gh) (a:Act) (w:World),Rel Γ fr σ g a w→∃ v,(execOp a.eval o).run P w=.ok (.value v) w∧VR2 σ g w av v
theorem zll {tt:TT} (htt:tt.ok P) {bd:Bool} {gd:Option Bool} {o:Oper} {k:AV→Prop} (x:Operand) (T:TypeId) (ho:o.op=.call ⟨.builtin .len,#[x],#[T]⟩)
  (h:ev1 fr gd x fun u=>kLen tt σ T u (match gd with|none=>bd|some _=>false) k) :
  (On gd→∀ (Γ:Cx) (g:Gh) (a:Act) (w:World),Rel Γ fr σ g a w→∃ av,k av∧∃ v,(execOp a.eval o).run P w=.ok (.value v) w∧VR2 σ g w av v)∧(gd≠none→∃ av,k av)∧(bd=false→∃ av,k av∧(On gd→ziX P fr σ o av)):=by
 obtain⟨u,hk,hu⟩:=zK h;refine⟨fun hon Γ g a w hr=>?_,fun hne=>?_,fun hbd=>?_⟩
 ·obtain⟨r,hr1,v,hv,hvr⟩:=zml htt hk _ _ g w (a.eval x) o.type hr.hp (hu hon Γ σ g a w hr);exact⟨r,hr1,v,by simp [execOp,ho,resolve,invoke,builtin,hv],hvr⟩
 ·cases gd with
  | none=>exact absurd rfl hne
  | some c=>exact zmk hk
 ·subst hbd;have hk':kLen tt σ T u false k:=by cases gd <;> exact hk
  obtain⟨r,hr1,hr2⟩:=zn6 htt hk';refine⟨r,hr1,fun hon Γ g a w hr=>?_⟩
  obtain⟨v,hv,hvr⟩:=hr2 _ _ g w (a.eval x) o.type hr.hp (hu hon Γ σ g a w hr);exact⟨v,by simp [execOp,ho,resolve,invoke,builtin,hv],hvr⟩
theorem zb2 {α β : Type} (xs:List (α × Operand)) (vs:List β) (hl:vs.length=(xs.map (·.2)).length) (j:Nat) (i : α) (x : β) (h:((xs.map (·.1)).zip vs)[j]?=some (i,x)) :
  ∃ y,xs[j]?=some (i,y)∧vs[j]?=some x∧(xs.map (·.2))[j]?=some y:=by
 rw [List.getElem?_zip_eq_some] at h;obtain⟨h1,h2⟩:=h;rw [List.getElem?_map] at h1;cases hx:xs[j]? with
 | none=>rw [hx] at h1;cases h1
 | some p=>
  grind
theorem zcW {tt:TT} (htt:tt.ok P) {src:TypeId} (h:(∃ k s b z,tt src=some ⟨.int k,s,b,z⟩)∨(∃ s b z,tt src=some ⟨.str,s,b,z⟩)) :
  ∃ d,P.underlying src=some d∧flat d=true∧∀ e,d≠.slice e:=by
 rcases h with ⟨k,s,b,z,h⟩|⟨s,b,z,h⟩
 ·exact⟨.int k,(htt _ _ h).desc,rfl,fun e he=>by cases he⟩
 ·exact⟨.string,(htt _ _ h).desc,rfl,fun e he=>by cases he⟩
theorem znF {K:Nat→Nat→Prop} {w:World} {l:List UInt8} (hl:l≠[]) {v:Value} (h:PR K w (.s 1 (l.map fun c=>[.v (.int .u8 c.toNat)])) v) :
  ∃ a cap,v=.slice (some a) l.length cap∧∀ j (hj:j < l.length),w.cell? (a.add j)=some (.int .u8 (l[j].toNat:Int)):=by
 generalize hx:PV.s 1 (l.map fun c=>[PV.v (.int .u8 c.toNat)])=x at h;cases h with
 | v _ _=>cases hx
 | c _ _ _ _=>cases hx
 | e=>cases hx
 | s sz xs a cap b off vs h1 h2 h3 h4 h5 h6 h7=>
  cases hx;have ha:=h4 (by simpa using hl);subst ha;refine⟨_,cap,by rw [List.length_map],fun j hj=>?_⟩
  have he:(l.map fun c=>[PV.v (.int .u8 (c.toNat:Int))])[j]?=some [PV.v (.int .u8 (l[j].toNat:Int))]:=by rw [List.getElem?_map,List.getElem?_eq_getElem hj];rfl
  have hc:=h6 j _ he 0 (by simp);have hr:=h7 j _ he 0 _ rfl;have hv:vs j 0=.int .u8 (l[j].toNat:Int):=by
   generalize vs j 0=u at hr;cases hr;rfl
  rw [hv,Nat.mul_one,Nat.add_zero] at hc;have hadd:(⟨b,off,none⟩:Addr).add j=⟨b,off+j,none⟩:=by
   by_cases hk:j=0
   ·subst hk;simp [Addr.add]
   ·simp [Addr.add,hk]
  rw [hadd];exact hc
theorem zmu {tt:TT} (htt:tt.ok P) {src dst e:TypeId} {s1 b1 z1 s2 b2 z2 s3 b3 z3} (hs:tt src=some ⟨.sl e,s1,b1,z1⟩) (he:tt e=some ⟨.int .u8,s2,b2,z2⟩) (hd:tt dst=some ⟨.str,s3,b3,z3⟩) {x:AV} {k:AV→Prop} (h:zo3 x k) :
  ∃ v,k (.x (.d (.v v)))∧v.oneCell'=true∧(∀ (σ:Sg) (g:Gh) (w:World) u,VR2 σ g w x u→(convert src dst u).run P w=.ok v w):=by
 obtain⟨l,hl,hx,hk⟩:=h;refine⟨_,hk,rfl,fun σ g w u hu=>?_⟩
 have key:∃ K,PR K w (.s 1 (l.map fun c=>[.v (.int .u8 c.toNat)])) u:=by
  rcases hx with rfl|rfl
  ·cases hu with
   | d _ _ h=>cases h with
    | c _ _ a h=>exact⟨_,h⟩
  ·cases hu with
   | d _ _ h=>exact⟨_,h⟩
 obtain⟨K,hp⟩:=key;obtain⟨a,cap,rfl,hc⟩:=znF hl hp;exact run_convert_bytes_back w src dst e a cap l (htt _ _ hs).desc (htt _ _ he).desc (htt _ _ hd).desc hc
theorem zn3 {gd:Option Bool} {c a b:Operand} {k:AV→Prop} (h:zp0 fr gd c a b k) :
  ∃ av,k av∧(On gd→∀ (Γ:Cx) (g:Gh) (ac:Act) (w:World),Rel Γ fr σ g ac w→∃ v,((do pure (.value (if ← asBool (ac.eval c) then ac.eval a else ac.eval b)):Sem Next)).run P w=.ok (.value v) w∧VR2 σ g w av v):=by
 unfold zp0 at h;split at h
 ·rename_i cc x ca y cb z h1 h2 h3;obtain⟨hc,ha,hb,hk⟩:=h;refine⟨_,hk,fun hon Γ g ac w hr=>?_⟩
  have evr:∀ (X:Operand) (cx:Option Bool) (q:Bool),ev fr X=some (cx,bv q)→(∀ c',cx=some c'→c'=true)→ac.eval X=.bool q:=by
   intro X cx q he hcx;have h':ev1 fr none X (fun v=>v=bv q):=by
    unfold ev1;rw [he];cases cx with
    | none=>rfl
    | some c'=>exact⟨hcx c' rfl,rfl⟩
   obtain⟨v,hv,hvr⟩:=zK h';subst hv;exact zm (hvr (.inl rfl) Γ σ g ac w hr)
  have ho:=hon.open;have e1:=evr c cc x h1 (fun c' he=>by subst he;exact ho _ hc);cases x with
  | true=>
   have e2:=evr a ca y h2 (fun c' he=>by subst he;exact ho _ ha rfl);exact⟨.bool y,by simp [e1,asBool,e2],zL _ rfl⟩
  | false=>
   have e2:=evr b cb z h3 (fun c' he=>by subst he;exact ho _ hb rfl);exact⟨.bool z,by simp [e1,asBool,e2],zL _ rfl⟩
 ·exact h.elim
theorem zl5 {g:Gh} {w:World} {mx:Bool} {k1:IntKind}:∀ {vs:List AV} {us:List Value} {a m:Int},mmL mx a vs=some m→us.length=vs.length→(∀ (i:Nat) (x:AV) (u:Value),vs[i]?=some x→us[i]?=some u→VR2 σ g w x u) →
  (us.foldlM (m:=Sem) (bif mx then Builtin.max2 else Builtin.min2) (.int k1 a)).run P w=.ok (.int k1 m) w
 | [],us,a,m,h,hl,_=>by cases h;cases us with|nil=>rfl|cons _ _=>cases hl
 | v::r,us,a,m,h,hl,hv=>by
  cases us with
  | nil=>cases hl
  | cons u us=>
   unfold mmL at h;split at h
   ·cases ‹_::_=[]›
   ·rename_i k2 b r' he;cases he;have e:=zm (hv 0 _ u rfl rfl);subst e;have ih:=zl5 (k1:=k1) (us:=us) h (by simpa using hl) (fun i x u hi hu=>hv (i+1) x u hi hu);rw [List.foldlM_cons,Sem.run_bind];cases mx with
    | true=>simpa [Builtin.max2] using ih
    | false=>simpa [Builtin.min2] using ih
   ·cases h
theorem zqZ {gd:Option Bool} {o:Oper} {args:Array Operand} {vs:List AV} (mx:Bool) {k:AV→Prop} (h:kMM mx vs k)
  (hvs:On gd→∀ (Γ:Cx) (g:Gh) (a:Act) (w:World),Rel Γ fr σ g a w→∀ (i:Nat) (v:AV) (x:Operand),vs[i]?=some v→args.toList[i]?=some x→VR2 σ g w v (a.eval x))
  (hex:∀ a:Act,execOp a.eval o=(do pure (.value (← (bif mx then Builtin.max_ #[] 0 (args.map a.eval) else Builtin.min_ #[] 0 (args.map a.eval)))):Sem Next)) (hl:vs.length=args.toList.length) :
  ∃ av,k av∧(On gd→ziX P fr σ o av):=by
 unfold kMM at h;split at h
 ·rename_i k1 a r;split at h
  ·rename_i m hm;refine⟨_,h,fun hon Γ g ac w hr=>⟨.int k1 m,?_,zL _ rfl⟩⟩
   have hv:=hvs hon Γ g ac w hr;rw [hex];cases hargs:args.toList with
   | nil=>rw [hargs] at hl;cases hl
   | cons x0 xs=>
    rw [hargs] at hv hl;have e0:=zm (hv 0 _ x0 rfl rfl);have hml:(args.map ac.eval).toList=.int k1 a::xs.map ac.eval:=by rw [Array.toList_map,hargs,List.map_cons,e0]
    have hfold:=zl5 (P:=P) (σ:=σ) (g:=g) (w:=w) (k1:=k1) (us:=xs.map ac.eval) hm (by simpa using hl.symm) (fun i x u hi hu=>by
     rw [List.getElem?_map] at hu;cases hx:xs[i]? with
     | none=>rw [hx] at hu;cases hu
     | some y=>rw [hx] at hu;cases hu;exact hv (i+1) x y hi hx)
    cases mx with
    | true=>
     have:(Builtin.max_ #[] 0 (args.map ac.eval)).run P w=.ok (.int k1 m) w:=by
      unfold Builtin.max_;rw [hml];exact hfold
     simp_all
    | false=>
     have:(Builtin.min_ #[] 0 (args.map ac.eval)).run P w=.ok (.int k1 m) w:=by
      unfold Builtin.min_;rw [hml];exact hfold
     simp_all
  ·exact h.elim
 ·exact h.elim
theorem znm {g:Gh} {w:World} {id off:Nat} {v:Value} (h:SR σ g w (.b id off) v):∃ ad,v=.pointer (some ad):=by
 cases h with|b _ _ cs k h hμ=>exact⟨_,rfl⟩
theorem zlm {g:Gh} {w:World} {e:List PV} {off:Nat} {v:Value} (h:SR σ g w (.se e off) v):∃ ad,v=.pointer (some ad):=by
 cases h with|se _ _ k l vs h1 h2 h3=>exact⟨_,rfl⟩
theorem sr_oe_ptr {g:Gh} {w:World} {c st i off e sz:Nat} {xs:List (List PV)} {v:Value} (hl:lk c σ=some (.chain e sz st xs)) (h:SR σ g w (.oe c st i off) v):∃ ad,v=.pointer (some ad):=by
 cases h with
 | oeold _ _ _ _ _ _ _ _ _ h hlt=>rw [hl] at h;cases h;omega
 | oe _ _ _ _ _ _ _ k cap h hμ=>exact⟨_,rfl⟩
theorem plainVs_ok:∀ {cs:List SV} {l:List Value},plainVs cs=some l→cs.length=l.length∧∀ (i:Nat) (c:Value),l[i]?=some c→cs[i]?=some (.d (.v c))
 | [],l,h=>by cases h;exact⟨rfl,fun i c hi=>by simp at hi⟩
 | s::r,l,h=>by
  unfold plainVs at h;split at h
  ·rename_i e;cases e
  ·rename_i c r' e;cases e;cases hp:plainVs r with
   | none=>rw [hp] at h;cases h
   | some l'=>
    rw [hp] at h;cases h;obtain⟨h1,h2⟩:=plainVs_ok hp;refine⟨by simp [h1],fun i x hi=>?_⟩
    cases i with
    | zero=>cases hi;rfl
    | succ i=>exact h2 i x (by simpa using hi)
  ·cases h
theorem zmT {σ:Sg} {g:Gh} {w:World} {x:AV} {c v:Value} (h:zmU x=some c) (hv:VR2 σ g w x v):v=c:=by
 unfold zmU at h;split at h
 ·rename_i cs;obtain⟨vs,rfl,hs,hr⟩:=hv;cases hp:plainVs cs with
  | none=>rw [hp] at h;cases h
  | some l=>
   rw [hp] at h;cases h;obtain⟨h1,h2⟩:=plainVs_ok hp;congr 1
   apply Array.ext (by rw [hs,h1];simp);intro i hi1 hi2;have hi:i < l.length:=by simpa using hi2
   have:=hr i _ _ (h2 i _ (List.getElem?_eq_getElem hi)) (Array.getElem?_eq_getElem hi1);generalize hu:vs[i]=u at this;generalize hc:l[i]=c at this;cases this with|d _ _ h=>cases h;simp [hc]
 ·cases h;exact zm hv
 ·cases h
theorem ziM {σ:Sg} {g:Gh} {w:World}:∀ {vs:List AV} {l us:List Value},zkw vs=some l→us.length=vs.length→(∀ (i:Nat) (x:AV) (v:Value),vs[i]?=some x→us[i]?=some v→VR2 σ g w x v)→us=l
 | [],l,us,h,hl,_=>by cases h;simpa using hl
 | x::r,l,us,h,hl,hv=>by
  unfold zkw at h;split at h
  ·rename_i c l' hc hl';cases h;cases us with
   | nil=>cases hl
   | cons u us=>
    have e1:=zmT hc (hv 0 x u rfl rfl);have e2:=ziM (us:=us) hl' (by simpa using hl) (fun i x v hx hv'=>hv (i+1) x v (by simpa using hx) (by simpa using hv'));rw [e1,e2]
  ·cases h
theorem zje {us:List AV} (h:stepP.scalars us=some []):us=[]:=by
 cases us with
 | nil=>rfl
 | cons x r=>
  cases x with
  | x s=>
   simp only [stepP.scalars] at h;grind
  | _=>simp [stepP.scalars] at h
theorem zrr {σ:Sg} {g:Gh} {w:World} {v:Value} (h:cOK1 v=true):VR2 σ g w (cAV v) v:=by
 cases v with
 | agg cs=>
  refine⟨cs,rfl,by simp,fun i s u hs hu=>?_⟩
  rw [List.getElem?_map,Array.getElem?_toList,hu] at hs;cases hs;have h:cs.toList.all (·.oneCell')=true:=h;rw [List.all_eq_true] at h;exact .d _ _ (.v u (h u (by simpa using Array.mem_of_getElem? hu)))
 | tuple _=>cases h
 | _=>exact zL _ rfl
theorem zg5 {σ:Sg} {g:Gh} {w:World} {a us:Array Value} {vs:List AV} (ha:cOK a.toList=true) (hvl:vs.length=us.size) (hvs:∀ (i:Nat) (x:AV) (v:Value),vs[i]?=some x→us[i]?=some v→VR2 σ g w x v) :
  ∀ (i:Nat) (x:AV) (v:Value),(a.toList.map cAV ++ vs)[i]?=some x→(a ++ us ++ #[])[i]?=some v→VR2 σ g w x v:=by
 intro i x v hx hv;rw [Array.append_empty] at hv;by_cases c:i < a.size
 ·rw [List.getElem?_append_left (by simpa using c),List.getElem?_map] at hx;rw [Array.getElem?_append_left c] at hv;have hv':a.toList[i]?=some v:=by simpa using hv
  rw [hv'] at hx;cases hx;exact zrr (List.all_eq_true.1 ha v (List.mem_of_getElem? hv'))
 ·grind
theorem vr_e {g:Gh} {w:World} {v:Value} (hv:VR2 σ g w (.x (.d .e)) v):∃ T x,v=.iface T x:=by
 cases hv with
 | d _ _ h=>cases h;exact⟨_,_,rfl⟩
theorem zj1 {op:BinOp} {xT:TypeId} {ms:Array (String × TypeId)} (hu:P.underlying xT=some (.interface ms)) {X:Operand} {u:AV} {k:AV→Prop} (h:zgg op u k) {g:Gh} {w:World} {v:Value} (hv:VR2 σ g w u v) :
  ∃ b,k (bv b)∧(do eqGuard op xT X (.const .nilIface) v .nilIface;binOp op xT v .nilIface:Sem Value).run P w=.ok (.bool b) w:=by
 have hun:=run_underlying hu w;have e1:∀ T v,(Op.equal xT (.iface T v) .nilIface).run P w=.ok false w:=fun T v=>by
  show (Op.equalIn (Op.maxDepth - 1+1) xT (.iface T v) .nilIface).run P w=_
  rw [Op.equalIn,Sem.run_bind,hun];rfl
 have e2:(Op.equal xT .nilIface .nilIface).run P w=.ok true w:=by
  show (Op.equalIn (Op.maxDepth - 1+1) xT .nilIface .nilIface).run P w=_
  rw [Op.equalIn,Sem.run_bind,hun];rfl
 unfold zgg at h;split at h
 ·have:=zm hv;subst this;refine⟨_,h,?_⟩
  show ((do pure (.bool (← Op.equal xT _ .nilIface)):Sem Value)).run P w=_
  simp_all
 ·have:=zm hv;subst this;refine⟨_,h,?_⟩
  show ((do pure (.bool (!(← Op.equal xT _ .nilIface))):Sem Value)).run P w=_
  simp_all
 ·have:=zm hv;subst this;refine⟨_,h,?_⟩
  rw [eqGuard_nil_constR];show ((do pure (.bool (← Op.equal xT .nilIface .nilIface)):Sem Value)).run P w=_
  simp_all
 ·have:=zm hv;subst this;refine⟨_,h,?_⟩
  rw [eqGuard_nil_constR];show ((do pure (.bool (!(← Op.equal xT .nilIface .nilIface))):Sem Value)).run P w=_
  simp_all
 ·obtain⟨T,x,rfl⟩:=vr_e hv;refine⟨_,h,?_⟩
  show ((do pure (.bool (← Op.equal xT _ .nilIface)):Sem Value)).run P w=_
  simp_all
 ·obtain⟨T,x,rfl⟩:=vr_e hv;refine⟨_,h,?_⟩
  show ((do pure (.bool (!(← Op.equal xT _ .nilIface))):Sem Value)).run P w=_
  simp_all
 ·exact h.elim
theorem zmh {op:BinOp} {xT:TypeId} {ms:Array (String × TypeId)} (hu:P.underlying xT=some (.interface ms)) {X:Operand} {u:AV} {k:AV→Prop} (h:zgg op u k) :
  ∃ b,k (bv b)∧∀ (w:World) (g:Gh) (v:Value),VR2 σ g w u v→(do eqGuard op xT X (.const .nilIface) v .nilIface;binOp op xT v .nilIface:Sem Value).run P w=.ok (.bool b) w:=by
 have key:∀ b:Bool,zgg op u (fun r=>r=bv b)→∀ (w:World) (g:Gh) (v:Value),VR2 σ g w u v→(do eqGuard op xT X (.const .nilIface) v .nilIface;binOp op xT v .nilIface:Sem Value).run P w=.ok (.bool b) w:=by
  intro b hb w g v hv;obtain⟨b',he,hrun⟩:=zj1 (X:=X) hu hb hv;cases he;exact hrun
 unfold zgg at h;split at h
 ·exact⟨_,h,key false (by unfold zgg;rfl)⟩
 ·exact⟨_,h,key true (by unfold zgg;rfl)⟩
 ·exact⟨_,h,key true (by unfold zgg;rfl)⟩
 ·exact⟨_,h,key false (by unfold zgg;rfl)⟩
 ·exact⟨_,h,key false (by unfold zgg;rfl)⟩
 ·exact⟨_,h,key true (by unfold zgg;rfl)⟩
 ·exact h.elim
theorem zd6 {tt:TT} (htt:tt.ok P) {bd:Bool} {gd:Option Bool} {o:Oper} {k:AV→Prop} (h:stepP tt bd fr σ gd o.op k) :
  (On gd→∀ (Γ:Cx) (g:Gh) (a:Act) (w:World),Rel Γ fr σ g a w→∃ av,k av∧∃ v,(execOp a.eval o).run P w=.ok (.value v) w∧VR2 σ g w av v)∧(gd≠none→∃ av,k av)∧(bd=false→∃ av,k av∧(On gd→ziX P fr σ o av)):=by
 have simple:(∃ av,k av∧(On gd→ziX P fr σ o av)) →
   (On gd→∀ (Γ:Cx) (g:Gh) (a:Act) (w:World),Rel Γ fr σ g a w→∃ av,k av∧∃ v,(execOp a.eval o).run P w=.ok (.value v) w∧VR2 σ g w av v)∧(gd≠none→∃ av,k av)∧(bd=false→∃ av,k av∧(On gd→ziX P fr σ o av)):=
  fun⟨av,hk,hp⟩=>⟨fun hon Γ g a w hr=>⟨av,hk,hp hon Γ g a w hr⟩,fun _=>⟨av,hk⟩,fun _=>⟨av,hk,hp⟩⟩
 unfold stepP at h;split at h <;> rename_i ho
 ·-- move
  obtain⟨u,hk,hu⟩:=zK h;exact simple ⟨u,hk,fun hon Γ g a w hr=>⟨_,by simp [execOp,ho],hu hon Γ σ g a w hr⟩⟩
 ·obtain⟨u,hk,hu⟩:=zK h;exact simple ⟨u,hk,fun hon Γ g a w hr=>⟨_,by simp [execOp,ho],hu hon Γ σ g a w hr⟩⟩
 ·-- pick
  obtain⟨av,hk,hp⟩:=zn3 (P:=P) (σ:=σ) h;exact simple ⟨av,hk,fun hon Γ g a w hr=>by
   obtain⟨v,hv,hvr⟩:=hp hon Γ g a w hr;exact⟨v,by rw [← hv];simp [execOp,ho],hvr⟩⟩
 ·-- a slice against nil
  rename_i op xT X yT;obtain⟨u,hk,hu⟩:=zK h;obtain⟨htrue,hr0⟩:=zn4 htt hk;refine⟨fun hon Γ g a w hr=>?_,fun hne=>?_,fun hbd=>?_⟩
  ·obtain⟨b,hk,hrun⟩:=hr0 _ _ g w X (.const (.slice none 0 0)) _ hr.hp (hu hon Γ σ g a w hr);exact⟨_,hk,.bool b,by
    simp only [execOp,ho];show ((do eqGuard op xT X (.const (.slice none 0 0)) (a.eval X) (.slice none 0 0);binOp op xT (a.eval X) (.slice none 0 0)) >>= fun x=>pure (Next.value x):Sem Next).run P w=_
    rw [Sem.run_bind,hrun];rfl,zL _ rfl⟩
  ·grind
  ·grind
 ·-- an interface value against nil
  rename_i op xT X yT;split at h
  ·rename_i hti;obtain⟨ms,hms⟩:=(htt _ _ hti).desc;obtain⟨u,hk,hu⟩:=zK h;have hb:∃ b,k (bv b)∧∀ (w:World) (g:Gh) (v:Value),VR2 σ g w u v→(do eqGuard op xT X (.const .nilIface) v .nilIface;binOp op xT v .nilIface:Sem Value).run P w=.ok (.bool b) w:=zmh hms hk;obtain⟨b,hkb,hrun⟩:=hb;exact simple ⟨_,hkb,fun hon Γ g a w hr=>⟨.bool b,by
    simp only [execOp,ho];show ((do eqGuard op xT X (.const .nilIface) (a.eval X) .nilIface;binOp op xT (a.eval X) .nilIface) >>= fun x=>pure (Next.value x):Sem Next).run P w=_
    rw [Sem.run_bind,hrun w g _ (hu hon Γ σ g a w hr)];rfl,zL _ rfl⟩⟩
  ·exact h.elim
 ·-- binOp
  rename_i op xT X Y yT hno hno2;obtain⟨u,hk,hu⟩:=zK h;obtain⟨v,hk,hv⟩:=zK hk;obtain⟨r,hk,h1,hr0⟩:=zp6 htt hk;exact simple ⟨_,hk,fun hon Γ g a w hr=>⟨r,by
   have:=hr0 hon.open σ g w X Y _ _ (hu hon Γ σ g a w hr) (hv hon Γ σ g a w hr);simp only [execOp,ho];rw [Sem.run_bind,this];rfl,zL _ h1⟩⟩
 ·-- unOp
  obtain⟨u,hk,hu⟩:=zK h;obtain⟨r,hk,h1,hr0⟩:=zq4 (P:=P) hk;exact simple ⟨_,hk,fun hon Γ g a w hr=>⟨r,by
   have:=hr0 σ g w _ (hu hon Γ σ g a w hr);simp only [execOp,ho];rw [Sem.run_bind,this];rfl,zL _ h1⟩⟩
 ·-- convert
  split at h
  ·rename_i heq;obtain⟨u,hk,hu⟩:=zK h;obtain⟨r,hk,h1,hr0⟩:=zki htt hk (zcW htt (.inl ⟨_,_,_,_,heq⟩));exact simple ⟨_,hk,fun hon Γ g a w hr=>⟨r,by
    have:=hr0 σ g w _ (hu hon Γ σ g a w hr);simp only [execOp,ho];rw [Sem.run_bind,this];rfl,zL _ h1⟩⟩
  ·rename_i heq;obtain⟨u,hk,hu⟩:=zK h;obtain⟨r,hk,h1,hr0⟩:=zki htt hk (zcW htt (.inr ⟨_,_,_,heq⟩));exact simple ⟨_,hk,fun hon Γ g a w hr=>⟨r,by
    have:=hr0 σ g w _ (hu hon Γ σ g a w hr);simp only [execOp,ho];rw [Sem.run_bind,this];rfl,zL _ h1⟩⟩
  ·rename_i heq;split at h
   ·rename_i heq2 heq3;obtain⟨u,hk,hu⟩:=zK h;obtain⟨r,hk,h1,hr0⟩:=zmu htt heq heq2 heq3 hk;exact simple ⟨_,hk,fun hon Γ g a w hr=>⟨r,by
     have:=hr0 σ g w _ (hu hon Γ σ g a w hr);simp only [execOp,ho];rw [Sem.run_bind,this];rfl,zL _ h1⟩⟩
   ·exact h.elim
  ·exact h.elim
 ·-- load
  obtain⟨u,hk,hu⟩:=zK h;split at hk
  ·obtain⟨av,hk,hr0⟩:=zkS htt hk;exact simple ⟨_,hk,fun hon Γ g a w hr=>by
    obtain⟨v,hv,hvr⟩:=hr0 hon.open _ _ g w _ hr.hp (hu hon Γ σ g a w hr);exact⟨v,by simp only [execOp,ho];rw [Sem.run_bind,hv];rfl,hvr⟩⟩
  ·obtain⟨av,hk,hr0⟩:=zkh htt hk;exact simple ⟨_,hk,fun hon Γ g a w hr=>by
    obtain⟨v,hv,hvr⟩:=hr0 _ _ g w _ hr.hp (hu hon Γ σ g a w hr);exact⟨v,by simp only [execOp,ho];rw [Sem.run_bind,hv];rfl,hvr⟩⟩
 ·-- fieldAddr
  obtain⟨u,hk,hu⟩:=zK h;obtain⟨hl,hk⟩:=hk;obtain⟨av,hk,hr0⟩:=zhB (σ:=σ) htt hk (fun c st i off e=>by
   subst e;unfold live at hl;simp only at hl;split at hl
   ·rename_i e0 sz0 st' xs0 hlk;subst hl;exact⟨_,_,_,hlk⟩
   ·exact hl.elim)
  exact simple ⟨_,hk,fun hon Γ g a w hr=>by
   obtain⟨v,hv,hvr⟩:=hr0 _ _ g w _ hr.hp (hu hon Γ σ g a w hr);exact⟨v,by simp only [execOp,ho];rw [Sem.run_bind,hv];rfl,hvr⟩⟩
 ·-- field
  obtain⟨u,hk,hu⟩:=zK h;obtain⟨av,hk,hr0⟩:=zmo htt hk;exact simple ⟨_,hk,fun hon Γ g a w hr=>by
   obtain⟨v,hv,hvr⟩:=hr0 σ g w _ (hu hon Γ σ g a w hr);exact⟨v,by simp only [execOp,ho];rw [Sem.run_bind,hv];rfl,hvr⟩⟩
 ·-- indexAddr
  obtain⟨u,hk,hu⟩:=zK h;obtain⟨i,hk,hi⟩:=zK hk;obtain⟨av,hk,hr0⟩:=zhA htt hk;exact simple ⟨_,hk,fun hon Γ g a w hr=>by
   obtain⟨v,hv,hvr⟩:=hr0 hon.open _ _ g w _ _ hr.hp (hu hon Γ σ g a w hr) (hi hon Γ σ g a w hr);exact⟨v,by simp only [execOp,ho];rw [Sem.run_bind,hv];rfl,hvr⟩⟩
 ·-- index
  obtain⟨u,hk,hu⟩:=zK h;obtain⟨i,hk,hi⟩:=zK hk;obtain⟨av,hk,hr0⟩:=zmm htt hk;exact simple ⟨_,hk,fun hon Γ g a w hr=>by
   obtain⟨v,hv,hvr⟩:=hr0 hon.open σ g w _ _ (hu hon Γ σ g a w hr) (hi hon Γ σ g a w hr);exact⟨v,by simp only [execOp,ho];rw [Sem.run_bind,hv];rfl,hvr⟩⟩
 ·-- slice
  obtain⟨u,hk,hu⟩:=zK h;obtain⟨l,hk,hl⟩:=ziF hk;obtain⟨hh,hk,hhh⟩:=ziF hk;obtain⟨av,hk,hr0⟩:=zmd htt hk;exact simple ⟨_,hk,fun hon Γ g a w hr=>by
   obtain⟨v,hv,hvr⟩:=hr0 hon.open _ _ g w _ _ _ hr.hp (hu hon Γ σ g a w hr) (hl hon Γ σ g a w hr) (hhh hon Γ σ g a w hr);exact⟨v,by simp only [execOp,ho,Option.map_none];rw [Sem.run_bind,hv];rfl,hvr⟩⟩
 ·-- slice,three bounds
  obtain⟨u,hk,hu⟩:=zK h;obtain⟨l,hk,hl⟩:=ziF hk;obtain⟨hh,hk,hhh⟩:=ziF hk;obtain⟨mm,hk,hmm⟩:=ziF hk;obtain⟨av,hk,hr0⟩:=zkQ (σ:=σ) htt hk;exact simple ⟨_,hk,fun hon Γ g a w hr=>by
   obtain⟨v,hv,hvr⟩:=hr0 hon.open _ _ g w _ _ _ _ hr.hp (hu hon Γ σ g a w hr) (hl hon Γ σ g a w hr) (hhh hon Γ σ g a w hr) (hmm hon Γ σ g a w hr);exact⟨v,by simp only [execOp,ho];rw [Sem.run_bind,hv];rfl,hvr⟩⟩
 ·-- extract
  obtain⟨u,hk,hu⟩:=zK h;obtain⟨av,hk,hr0⟩:=zjD (P:=P) hk;exact simple ⟨_,hk,fun hon Γ g a w hr=>by
   obtain⟨v,hv,hvr⟩:=hr0 σ g w _ (hu hon Γ σ g a w hr);exact⟨v,by simp only [execOp,ho];rw [Sem.run_bind,hv];rfl,hvr⟩⟩
 ·-- nilCheck
  obtain⟨u,hk,hu⟩:=zK h;split at hk
  ·rename_i id off;exact simple ⟨_,hk,fun hon Γ g a w hr=>by
    have hv:=hu hon Γ σ g a w hr;have hv':SR σ g w (.b id off) (a.eval _):=hv;obtain⟨ad,had⟩:=znm hv';exact⟨_,by simp only [execOp,ho];rw [had];rfl,by rw [← had];exact hv⟩⟩
  ·rename_i e off;exact simple ⟨_,hk,fun hon Γ g a w hr=>by
    have hv:=hu hon Γ σ g a w hr;have hv':SR σ g w (.se e off) (a.eval _):=hv;obtain⟨ad,had⟩:=zlm hv';exact⟨_,by simp only [execOp,ho];rw [had];rfl,by rw [← had];exact hv⟩⟩
  ·rename_i c st i off;split at hk
   ·rename_i hl0;obtain⟨rfl,hk⟩:=hk;exact simple ⟨_,hk,fun hon Γ g a w hr=>by
     have hv:=hu hon Γ σ g a w hr;have hv':SR σ g w (.oe c _ i off) (a.eval _):=hv;obtain⟨ad,had⟩:=sr_oe_ptr hl0 hv';exact⟨_,by simp only [execOp,ho];rw [had];rfl,by rw [← had];exact hv⟩⟩
   ·exact hk.elim
  ·exact hk.elim
 ·-- build
  rename_i T parts;obtain⟨vs,hk,hl,hvs⟩:=zbE h;obtain⟨av,hk,hr0⟩:=zmv htt hk;exact simple ⟨_,hk,fun hon Γ g a w hr=>by
   obtain⟨v,hv,hvr⟩:=hr0 σ g w (parts.map fun (i,x)=>(i,a.eval x)) (by simp [hl]) (fun j i x hj=>by
    obtain⟨y,h1,h2,h3⟩:=zb2 parts.toList vs hl j i x hj;refine⟨a.eval y,?_,hvs hon Γ σ g a w hr j x y h2 h3⟩
    have:parts[j]?=some (i,y):=by simpa using h1
    simp [this])
   exact⟨v,by simp only [execOp,ho];rw [Sem.run_bind,hv];rfl,hvr⟩⟩
 ·-- makeFunc
  rename_i fn first captured
  obtain⟨vs,hk,hl1,hvs⟩:=zbE h;obtain⟨us,hk,hl2,hus⟩:=zbE hk;split at hk
  ·rename_i ss ts hss hts;exact simple ⟨_,hk,fun hon Γ g a w hr=>by
    have e1:=zeP (g:=g) (w:=w) vs ss hss;have e2:=zeP (g:=g) (w:=w) us ts hts;refine⟨.func fn (first.map a.eval) (captured.map a.eval),by simp [execOp,ho,Instr.makeFunc],.f fn ss ts _ _ ?_ ?_ ?_ ?_⟩
    ·simp_all
    ·simp_all
    ·intro i s v hi hv;have hi':vs[i]?=some (.x s):=by rw [e1,List.getElem?_map,hi];rfl
     rw [Array.getElem?_map] at hv;cases hf:first[i]? with
     | none=>rw [hf] at hv;cases hv
     | some x=>rw [hf] at hv;cases hv;exact hvs hon Γ σ g a w hr i (.x s) x hi' (by simpa using hf)
    ·intro i s v hi hv;have hi':us[i]?=some (.x s):=by rw [e2,List.getElem?_map,hi];rfl
     rw [Array.getElem?_map] at hv;cases hf:captured[i]? with
     | none=>rw [hf] at hv;cases hv
     | some x=>rw [hf] at hv;cases hv;exact hus hon Γ σ g a w hr i (.x s) x hi' (by simpa using hf)⟩
  ·rename_i hss hts;split at hk
   ·rename_i l hl;have hus0:us=[]:=zje hts;subst hus0;exact simple ⟨_,hk,fun hon Γ g a w hr=>by
     refine⟨.func fn (first.map a.eval) (captured.map a.eval),by simp [execOp,ho,Instr.makeFunc],?_⟩
     have e2:captured.map a.eval = #[]:=by
      grind
     have e1:first.map a.eval=l.toArray:=by
      apply Array.ext';simp only [Array.toList_map];refine ziM (σ:=σ) (g:=g) (w:=w) hl (by simpa using hl1.symm) fun i x v hx hv=>?_
      grind
     rw [e1,e2];exact zL _ rfl⟩
   ·exact hk.elim
  ·exact hk.elim
 ·-- max
  rename_i args ts;obtain⟨vs,hk,hl,hvs⟩:=zbE h;exact simple (zqZ (P:=P) (σ:=σ) (o:=o) true hk (fun hon Γ g a w hr i v x=>hvs hon Γ σ g a w hr i v x) (fun a=>by simp [execOp,ho,resolve,invoke,builtin];rfl) hl)
 ·-- min
  rename_i args ts;obtain⟨vs,hk,hl,hvs⟩:=zbE h;exact simple (zqZ (P:=P) (σ:=σ) (o:=o) false hk (fun hon Γ g a w hr i v x=>hvs hon Γ σ g a w hr i v x) (fun a=>by simp [execOp,ho,resolve,invoke,builtin];rfl) hl)
 ·-- lookup
  obtain⟨u,hk,hu⟩:=zK h;obtain⟨i,hk,hi⟩:=zK hk;obtain⟨av,hk,hr0⟩:=zkR htt hk;exact simple ⟨_,hk,fun hon Γ g a w hr=>by
   obtain⟨v,hv,hvr⟩:=hr0 _ _ g w _ _ hr.hp (hu hon Γ σ g a w hr) (hi hon Γ σ g a w hr);exact⟨v,by simp only [execOp,ho];rw [Sem.run_bind,hv];rfl,hvr⟩⟩
 ·-- entry
  obtain⟨u,hk,hu⟩:=zK h;obtain⟨av,hk,hr0⟩:=zmq (P:=P) hk;exact simple ⟨_,hk,fun hon Γ g a w hr=>by
   obtain⟨v,hv,hvr⟩:=hr0 _ _ g w _ hr.hp (hu hon Γ σ g a w hr);exact⟨v,by simp only [execOp,ho];rw [Sem.run_bind,hv];rfl,hvr⟩⟩
 ·-- len
  rename_i args ts;split at h
  ·rename_i x T hargs hts;have ea:args = #[x]:=by rw [← Array.toArray_toList (xs:=args),hargs]
   have et:ts = #[T]:=by rw [← Array.toArray_toList (xs:=ts),hts]
   subst ea;subst et;exact zll htt x T ho h
  ·exact h.elim
 ·exact h.elim
end
end Go.QL
namespace Go.QL
open Go Go.RowKit
section
variable {P:Program} {fr:Fr} {σ:Sg}
theorem znl {tt:TT} (htt:tt.ok P) {id:Nat} (hid:lk id σ=none) {o:Oper} {k:Option AV→Sg→Prop} (h:stepM tt fr σ id o.op k) :
  ∃ (av:Option AV) (σ':Sg),k av σ'∧∀ (Γ:Cx) (g:Gh) (a:Act) (w:World),Rel Γ fr σ g a w→∃ nx w' g',(execOp a.eval o).run P w=.ok nx w'∧Did Γ.w0 Γ.K0 σ g w σ' g' w' ∧
   (match av with|some x=>∃ v,nx=.value v∧VR2 σ' g' w' x v|none=>nx=.skip):=by
 have val:∀ (x:AV) (σ':Sg),k (some x) σ'→(∀ (Γ:Cx) (g:Gh) (a:Act) (w:World),Rel Γ fr σ g a w→∃ m:Sem Value,(execOp a.eval o).run P w=(m.run P w).andThen (fun v w'=>.ok (.value v) w')∧Gives P Γ.w0 Γ.K0 σ g w m x σ') →
   ∃ (av:Option AV) (σ':Sg),k av σ'∧∀ (Γ:Cx) (g:Gh) (a:Act) (w:World),Rel Γ fr σ g a w→∃ nx w' g',(execOp a.eval o).run P w=.ok nx w'∧Did Γ.w0 Γ.K0 σ g w σ' g' w' ∧
    (match av with|some x=>∃ v,nx=.value v∧VR2 σ' g' w' x v|none=>nx=.skip):=by
  intro x σ' hk hg;refine⟨some x,σ',hk,fun Γ g a w hr=>?_⟩
  obtain⟨m,hm,v,w',g',h1,h2,h3⟩:=hg Γ g a w hr;exact⟨_,w',g',by rw [hm,h1];rfl,h2,v,rfl,h3⟩
 unfold stepM at h;split at h <;> rename_i ho
 ·obtain⟨av,σ',hk,hg⟩:=zit htt hid h;exact val av σ' hk fun Γ g a w hr=>⟨_,by simp only [execOp,ho];rw [Sem.run_bind];rfl,hg _ _ g w hr.hp⟩
 ·rename_i T x;obtain⟨u,hk,hu⟩:=zK h;obtain⟨av,σ',hk,hg⟩:=zmx (P:=P) hid hk T;exact val av σ' hk fun Γ g a w hr=>⟨_,by simp only [execOp,ho];rw [Sem.run_bind];rfl,hg _ _ g w _ hr.hp (hu (.inl rfl) Γ σ g a w hr)⟩
 ·rename_i T p x;obtain⟨q,hk,hq⟩:=zK h;obtain⟨u,hk,hu⟩:=zK hk;split at hk
  ·rename_i id off;obtain⟨σ',hk,hg⟩:=zkP htt hk;refine⟨none,σ',hk,fun Γ g a w hr=>?_⟩
   obtain⟨w',g',h1,h2⟩:=hg _ _ g w _ _ hr.hp (hq (.inl rfl) Γ σ g a w hr) (hu (.inl rfl) Γ σ g a w hr);exact⟨.skip,w',g',by simp only [execOp,ho];rw [Sem.run_bind,h1];rfl,h2,rfl⟩
  ·rename_i c st i off;obtain⟨σ',hk,hg⟩:=zju htt hk;refine⟨none,σ',hk,fun Γ g a w hr=>?_⟩
   obtain⟨w',g',h1,h2⟩:=hg _ _ g w _ _ hr.hp (hq (.inl rfl) Γ σ g a w hr) (hu (.inl rfl) Γ σ g a w hr);exact⟨.skip,w',g',by simp only [execOp,ho];rw [Sem.run_bind,h1];rfl,h2,rfl⟩
  ·exact hk.elim
 ·rename_i T;obtain⟨_,av,σ',hk,hg⟩:=zjx (P:=P) hid h;exact val av σ' hk fun Γ g a w hr=>⟨_,by simp only [execOp,ho,Option.map_none];rw [Sem.run_bind];rfl,hg _ _ g w hr.hp⟩
 ·rename_i T m i x;obtain⟨u,hk,hu⟩:=zK h;obtain⟨v,hk,hv⟩:=zK hk;obtain⟨y,hk,hy⟩:=zK hk;obtain⟨σ',hk,hg⟩:=zep htt hk;refine⟨none,σ',hk,fun Γ g a w hr=>?_⟩
  obtain⟨w',g',h1,h2⟩:=hg _ _ g w _ _ _ hr.hp (hu (.inl rfl) Γ σ g a w hr) (hv (.inl rfl) Γ σ g a w hr) (hy (.inl rfl) Γ σ g a w hr);exact⟨.skip,w',g',by simp only [execOp,ho];rw [Sem.run_bind,h1];rfl,h2,rfl⟩
 ·rename_i T m i x;obtain⟨u,hk,hu⟩:=zK h;obtain⟨v,hk,hv⟩:=zK hk;obtain⟨y,hk,hy⟩:=zK hk;obtain⟨σ',hk,hg⟩:=zep htt hk;refine⟨none,σ',hk,fun Γ g a w hr=>?_⟩
  obtain⟨w',g',h1,h2⟩:=hg _ _ g w _ _ _ hr.hp (hu (.inl rfl) Γ σ g a w hr) (hv (.inl rfl) Γ σ g a w hr) (fnD_ok (hy (.inl rfl) Γ σ g a w hr));exact⟨.skip,w',g',by simp only [execOp,ho];rw [Sem.run_bind,h1];rfl,h2,rfl⟩
 ·rename_i T x;obtain⟨u,hk,hu⟩:=zK h;obtain⟨av,σ',hk,hg⟩:=zmf htt hid hk;exact val av σ' hk fun Γ g a w hr=>⟨_,by simp only [execOp,ho];rw [Sem.run_bind];rfl,hg _ _ g w _ hr.hp (hu (.inl rfl) Γ σ g a w hr)⟩
 ·rename_i T m i;obtain⟨u,hk,hu⟩:=zK h;obtain⟨v,hk,hv⟩:=zK hk;obtain⟨av,σ',hk,hg⟩:=kSlot_ok htt hk;exact val av σ' hk fun Γ g a w hr=>⟨_,by simp only [execOp,ho];rw [Sem.run_bind];rfl,hg _ _ g w _ _ hr.hp (hu (.inl rfl) Γ σ g a w hr) (hv (.inl rfl) Γ σ g a w hr)⟩
 ·rename_i T m i x;obtain⟨u,hk,hu⟩:=zK h;obtain⟨v,hk,hv⟩:=zK hk;obtain⟨y,hk,hy⟩:=zK hk;obtain⟨σ',hk,hg⟩:=kSlotSet_ok (P:=P) (T:=T) hk;refine⟨none,σ',hk,fun Γ g a w hr=>?_⟩
  obtain⟨w',g',h1,h2⟩:=hg _ _ g w _ _ _ hr.hp (hu (.inl rfl) Γ σ g a w hr) (hv (.inl rfl) Γ σ g a w hr) (hy (.inl rfl) Γ σ g a w hr);exact⟨.skip,w',g',by simp only [execOp,ho];rw [Sem.run_bind,h1];rfl,h2,rfl⟩
 ·rename_i T n parts;obtain⟨vs,hk,hl,hvs⟩:=zbE h;obtain⟨av,σ',hk,hg⟩:=zdE htt hid hk;exact val av σ' hk fun Γ g a w hr=>⟨_,by simp only [execOp,ho];rw [Sem.run_bind];rfl,hg _ _ g w _ hr.hp (by simp [hl]) (fun j i x hj=>by
   obtain⟨y,h1,h2,h3⟩:=zb2 parts.toList vs hl j i x hj;refine⟨a.eval y,?_,hvs (.inl rfl) Γ σ g a w hr j x y h2 h3⟩
   have:parts[j]?=some (i,y):=by simpa using h1
   simp [this])⟩
 ·rename_i T l c;obtain⟨u,hk,hu⟩:=zK h;obtain⟨v,hk,hv⟩:=zK hk;obtain⟨av,σ',hk,hg⟩:=zkg htt hid hk;exact val av σ' hk fun Γ g a w hr=>⟨_,by simp only [execOp,ho];rw [Sem.run_bind];rfl,hg _ _ g w _ _ hr.hp (hu (.inl rfl) Γ σ g a w hr) (hv (.inl rfl) Γ σ g a w hr)⟩
 ·rename_i args ts;split at h
  ·rename_i x y T T' hargs hts;have ea:args = #[x,y]:=by rw [← Array.toArray_toList (xs:=args),hargs]
   have et:ts = #[T,T']:=by rw [← Array.toArray_toList (xs:=ts),hts]
   subst ea;subst et;obtain⟨u,hk,hu⟩:=zK h;obtain⟨v,hk2,hv⟩:=zK hk;obtain⟨av,σ',hk,hg⟩:∃ av σ',k (some av) σ'∧(∀ (w0:World) (K0:Bs) (g:Gh) (w:World) u1 u2,Hp w0 K0 σ g w→VR2 σ g w u u1→VR2 σ g w v u2→Gives P w0 K0 σ g w (Builtin.append_ #[T,T'] o.type #[u1,u2]) av σ'):=by
    split at hk2
    ·rename_i hT;subst hT;exact zkU htt hk2 o.type
    ·exact ztu htt hk2 o.type
   exact val av σ' hk fun Γ g a w hr=>⟨Builtin.append_ #[T,T'] o.type #[a.eval x,a.eval y],by
    simp [execOp,ho,resolve,invoke,builtin],hg _ _ g w _ _ hr.hp (hu (.inl rfl) Γ σ g a w hr) (hv (.inl rfl) Γ σ g a w hr)⟩
  ·exact h.elim
 ·rename_i args ts;split at h
  ·rename_i x T hargs hts;have ea:args = #[x]:=by rw [← Array.toArray_toList (xs:=args),hargs]
   have et:ts = #[T]:=by rw [← Array.toArray_toList (xs:=ts),hts]
   subst ea;subst et;obtain⟨u,hk,hu⟩:=zK h;obtain⟨σ',hk,hg⟩:=kClear_ok htt hk;exact val _ σ' hk fun Γ g a w hr=>⟨Builtin.clear_ #[T] o.type #[a.eval x],by
    simp [execOp,ho,resolve,invoke,builtin],by
    obtain⟨w',g',h1,h2⟩:=hg _ _ g w o.type _ hr.hp (hu (.inl rfl) Γ σ g a w hr);exact⟨_,w',g',h1,h2,⟨#[],rfl,rfl,fun i y q hi hq=>by simp at hi⟩⟩⟩
  ·exact h.elim
 ·rename_i args ts;split at h
  ·rename_i x y T T' hargs hts;have ea:args = #[x,y]:=by rw [← Array.toArray_toList (xs:=args),hargs]
   have et:ts = #[T,T']:=by rw [← Array.toArray_toList (xs:=ts),hts]
   subst ea;subst et;obtain⟨u,hk,hu⟩:=zK h;obtain⟨v,hk,hv⟩:=zK hk;obtain⟨av,σ',hk,hg⟩:=zn7 htt hk o.type;exact val av σ' hk fun Γ g a w hr=>⟨Builtin.copy_ #[T,T'] o.type #[a.eval x,a.eval y],by
    simp [execOp,ho,resolve,invoke,builtin],hg _ _ g w _ _ hr.hp (hu (.inl rfl) Γ σ g a w hr) (hv (.inl rfl) Γ σ g a w hr)⟩
  ·exact h.elim
 ·exact h.elim
end
def zeI (gd:Option Bool) (v:AV):AV:=
 match gd with
 | none=>v
 | some c=>.g c v
def zba (nt:Nat) (dst:Option Tmp) (gd:Option Bool) (v:AV) (fr:Fr) (k:Fr→Prop):Prop:=
 match dst with
 | none=>k fr
 | some d=>bif Nat.blt d nt then (match gd with|none=>k ((d,v)::fr)|some c=>k ((d,.g c v)::fr)) else False
def zix (all:List Oper) (fr:Fr) (gd:Option (Nat × Bool)) (k:Option Bool→Prop):Prop:=
 match gd with
 | none=>k none
 | some (j,want)=>
  match (all[j]?).bind (·.dst) with
  | none=>False
  | some dj=>
   match lk dj fr with
   | some (.x (.d (.v (.bool b))))=>(match want with|true=>k (some b)|false=>k (some (!b)))
   | some (.g c (.x (.d (.v (.bool b)))))=>(match want with|true=>k (some (c && b))|false=>k (some (c && !b)))
   | _=>False
def isM:Op→Bool
 | .alloc _|.box .. | .store .. | .buildSlice .. | .makeSlice .. | .call ⟨.builtin .append,_,_⟩|.call ⟨.builtin .copy,_,_⟩|.call ⟨.builtin .clear,_,_⟩|.makeMap .. | .mapUpdate .. | .insert .. | .range .. | .mapEntry .. | .entryStore ..=>true
 | _=>false
def zid (all:List Oper) (dst:Option Tmp) (n:Nat):Bool:=
 match n,dst with
 | 0,_=>true
 | _,none=>true
 | _,some d=>all.any fun o=>(match o.op with
  | .assign (.tmp t)=>Nat.beq t d
  | .call ⟨.builtin .append,args,_⟩=>(match args.toList with|.tmp t::_=>Nat.beq t d|_=>false)
  | _=>false)
def zah (P:Program) (tt:TT) (nt:Nat) (all:List Oper) (k:Fr→Sg→Prop):List Oper→Fr→Sg→Prop
 | [],fr,σ=>k fr σ
 | o::r,fr,σ=>zix all fr o.guard fun gd=>
  match o.op with
  | .call ⟨.value f,args,_⟩=>ev1 fr gd f fun fv=>evL fr gd args.toList fun vs=>
   (match fv with
   | .x (.f (.func fid) first captured)=>
    (match gd with
    | none=>∃ R,ACall P fid (first.map .x ++ vs ++ captured.map .x) σ R∧∀ rv σ',R rv σ'→zba nt o.dst none rv fr fun fr'=>zah P tt nt all k r fr' σ'
    | some c=>∃ rv,(c=true→ACall P fid (first.map .x ++ vs ++ captured.map .x) σ fun r' σ'=>r'=rv∧σ'=σ)∧zba nt o.dst (some c) rv fr fun fr'=>zah P tt nt all k r fr' σ)
   | .x (.d (.v (.func (.func fid) a b)))=>
    (match gd with
    | none=>(cOK a.toList && b.isEmpty)=true∧∃ R,ACall P fid (a.toList.map cAV ++ vs) σ R∧∀ rv σ',R rv σ'→zba nt o.dst none rv fr fun fr'=>zah P tt nt all k r fr' σ'
    | some _=>False)
   | .x (.h id)=>
    (match gd with
    | none=>∃ R,YC P id vs σ R∧∀ rv σ',R rv σ'→zba nt o.dst none rv fr fun fr'=>zah P tt nt all k r fr' σ'
    | some c=>(c=true→∃ R,YC P id vs σ R∧∀ rv σ',R rv σ'→zba nt o.dst none rv fr fun fr'=>zah P tt nt all k r fr' σ') ∧
      (c=false→zba nt o.dst (some false) (bv false) fr fun fr'=>zah P tt nt all k r fr' σ))
   | _=>False)
  | .next it isS=>
   (match gd with
   | none=>ev1 fr none it fun u=>zp3 σ u isS fun v σ'=>zba nt o.dst none v fr fun fr'=>zah P tt nt all k r fr' σ'
   | some _=>False)
  | .buildSlice T n parts=>
   bif zid all o.dst n then
    (match gd with
    | none=>zhE σ o.dst fun id=>stepM tt fr σ id (.buildSlice T n parts) fun av σ'=>(match av with
     | some v=>zba nt o.dst none v fr fun fr'=>zah P tt nt all k r fr' σ'
     | none=>(match o.dst with|none=>zah P tt nt all k r fr σ'|some _=>False))
    | some _=>False)
   else evL fr gd (parts.toList.map (·.2)) fun vs=>zds tt T n ((parts.toList.map (·.1)).zip vs) fun v=>zba nt o.dst gd v fr fun fr'=>zah P tt nt all k r fr' σ
  | .convert src dst x=>
   bif isSB tt src dst then (match gd with|none=>ev1 fr none x fun u=>zmt tt dst u fun v=>zba nt o.dst none v fr fun fr'=>zah P tt nt all k r fr' σ|some _=>False)
   else stepP tt true fr σ gd (.convert src dst x) fun v=>zba nt o.dst gd v fr fun fr'=>zah P tt nt all k r fr' σ
  | op=>
   bif isM op then
    (match gd with
    | none=>zhE σ o.dst fun id=>stepM tt fr σ id op fun av σ'=>(match av with
     | some v=>zba nt o.dst none v fr fun fr'=>zah P tt nt all k r fr' σ'
     | none=>(match o.dst with|none=>zah P tt nt all k r fr σ'|some _=>False))
    | some c=>c=true∧zhE σ o.dst fun id=>stepM tt fr σ id op fun av σ'=>(match av with
     | some v=>zba nt o.dst (some c) v fr fun fr'=>zah P tt nt all k r fr' σ'
     | none=>(match o.dst with|none=>zah P tt nt all k r fr σ'|some _=>False)))
   else stepP tt true fr σ gd op fun v=>zba nt o.dst gd v fr fun fr'=>zah P tt nt all k r fr' σ
section
variable {P:Program} {Γ:Cx} {fr:Fr} {σ:Sg} {g:Gh} {a:Act} {w:World}
theorem Rel.did (h:Rel Γ fr σ g a w) {σ':Sg} {g':Gh} {w':World} (hd:Did Γ.w0 Γ.K0 σ g w σ' g' w'):Rel Γ fr σ' g' a w':=
 ⟨hd.hp,fun t v ht=>⟨(h.fr t v ht).1,(h.fr t v ht).2.keep hd.keep⟩,h.size,h.defers.keep hd.keep,fun s v hb=>⟨hd.keep _ _ (h.base s v hb).1,(h.base s v hb).2⟩⟩
theorem Rel.put (h:Rel Γ fr σ g a w) {d:Nat} (hd:d < Γ.nt) {x:AV} {v:Value} (hv:VR σ g w x v):Rel Γ ((d,x)::fr) σ g (a.put (some d) v) w:=by
 refine⟨h.hp,fun t y ht=>?_,by simp [Act.put,h.size],h.defers,h.base⟩
 rw [zr] at ht;have hsz:d < a.tmps.size:=by rw [h.size];exact hd
 by_cases e:d=t
 ·subst e;rw [if_pos rfl] at ht;cases ht;refine⟨hd,?_⟩
  have:(a.put (some d) v).tmps.getD d undef=v:=by simp [Act.put,hsz]
  rw [this];exact hv
 ·rw [if_neg e] at ht;refine⟨(h.fr t y ht).1,?_⟩
  have:(a.put (some d) v).tmps.getD t undef=a.tmps.getD t undef:=by
   simp [Act.put,e]
  rw [this];exact (h.fr t y ht).2
theorem zcf (h:Rel Γ fr σ g a w) {dst:Option Tmp} {gd:Option Bool} {x:AV} {k:Fr→Prop} (hk:zba Γ.nt dst gd x fr k) {v:Value}
  (hv:VR σ g w (zeI gd x) v):∃ fr',k fr'∧Rel Γ fr' σ g (a.put dst v) w:=by
 unfold zba at hk;cases dst with
 | none=>exact⟨fr,hk,by simpa [Act.put] using h⟩
 | some d=>
  simp only at hk;cases hb:Nat.blt d Γ.nt with
  | true=>
   rw [hb] at hk;have hlt:d < Γ.nt:=Nat.le_of_ble_eq_true hb;cases gd with
   | none=>exact⟨_,hk,h.put hlt hv⟩
   | some c=>exact⟨_,hk,h.put hlt hv⟩
  | false=>rw [hb] at hk;exact hk.elim
theorem zeH {all:List Oper} {j dj:Nat} (h:(all[j]?).bind (·.dst)=some dj) (tmps:Array Value) :
  yielded all.toArray tmps j=(match tmps[dj]? with|some (.bool b)=>some b|_=>none):=by
 have e:(all.toArray[j]?).bind (·.dst)=some dj:=by rw [List.getElem?_toArray];exact h
 unfold yielded;rw [e];rfl
theorem zgl {all:List Oper} {gd:Option (Nat × Bool)} {k:Option Bool→Prop} (h:zix all fr gd k) :
  ∃ c,k c∧∀ (Γ:Cx) (σ:Sg) (g:Gh) (a:Act) (w:World),Rel Γ fr σ g a w→∀ o:Oper,o.guard=gd→(Region.wanted o (yielded all.toArray a.tmps)=true↔On c)∧(c=some false∨On c):=by
 unfold zix at h;split at h
 ·exact⟨none,h,fun Γ σ g a w _ o ho=>by simp [Region.wanted,ho,On]⟩
 ·rename_i j want;split at h
  ·exact h.elim
  ·rename_i dj hdj;split at h
   ·rename_i b hl;have h:k (some (bif want then b else !b)):=by cases want <;> exact h
    refine⟨_,h,fun Γ σ g a w hr o ho=>?_⟩
    have hv:=hr.fr dj _ hl;have e1:a.tmps.getD dj undef=.bool b:=zm hv.2;have hlt:dj < a.tmps.size:=by rw [hr.size];exact hv.1
    have hy:yielded all.toArray a.tmps j=some b:=by
     have e2:a.tmps[dj]?=some (.bool b):=by
      simp_all
     rw [zeH hdj];simp [e2]
    simp only [Region.wanted,ho,hy,On];cases want <;> cases b <;> simp
   ·rename_i c b hl;have h:k (some (c && (bif want then b else !b))):=by cases want <;> exact h
    refine⟨_,h,fun Γ σ g a w hr o ho=>?_⟩
    have hv:=hr.fr dj _ hl;have hlt:dj < a.tmps.size:=by rw [hr.size];exact hv.1
    have e4:a.tmps[dj]?=some (a.tmps.getD dj undef):=by
     simp_all
    cases c with
    | true=>
     have e1:a.tmps.getD dj undef=.bool b:=zm (hv.2.1 rfl);rw [e1] at e4;have hy:yielded all.toArray a.tmps j=some b:=by rw [zeH hdj];simp [e4]
     simp only [Region.wanted,ho,hy,On];cases want <;> cases b <;> simp
    | false=>
     have e1:a.tmps.getD dj undef=undef:=hv.2.2 rfl;rw [e1] at e4;have hy:yielded all.toArray a.tmps j=none:=by rw [zeH hdj];simp [e4,undef]
     simp [Region.wanted,ho,hy,On]
   ·exact h.elim
end
end Go.QL
namespace Go.QL
open Go Go.RowKit
abbrev FX (ro:Option Nat):Fence:={ Fence.wide with round:=ro }
theorem zbi {ro:Option Nat} {n:Nat} {P:Program} {f:FuncId} {args:Array Value} {w:World} {R:Ending→World→Prop}:CallsIn (FX ro) n P f args w R↔Calls P f args w R:=
 (show CallsIn (FX ro) n P f args w R↔CallsIn Fence.wide n P f args w R from Iff.rfl).trans callsIn_wide
theorem zfc {ro:Option Nat} {n:Nat}:(FX ro).depth.isSome=true→1≤n:=fun h=>by cases h
def wpLk (ro:Option Nat) (P:Program) (ops:Array Oper) (Q:Exit→Act→World→Prop) (K:Act→World→Prop):List Oper→Act→World→Prop
 | [],a,w=>K a w
 | o::rest,a,w=>
  if Region.wanted o (yielded ops a.tmps) then o.wpIn (FX ro) 0 P a w (wpLk ro P ops Q K rest) Q else wpLk ro P ops Q K rest (a.put o.dst undef) w
abbrev wpLs (ro:Option Nat) (P:Program) (ops:Array Oper) (Q:Exit→Act→World→Prop):List Oper→Act→World→Prop:=wpLk ro P ops Q (Q .normal)
theorem zcU {ro:Option Nat} {P:Program} {ops:Array Oper} {Q:Exit→Act→World→Prop} (l:List Oper):∀ k,(∀ j,l[j]?=ops[k+j]?)→∀ a w,wpLs ro P ops Q l a w→wpOpsIn (FX ro) 0 P ops Q (List.range' k l.length) a w:=by
 induction l with
 | nil=>intro k _ a w h;exact h
 | cons o l ih=>
  intro k h a w hh;have h0:ops[k]?=some o:=by simpa using (h 0).symm
  have ih':=ih (k+1) (fun j=>by have:=h (j+1);simpa [Nat.add_assoc,Nat.add_comm 1 j] using this);simp only [List.length_cons,List.range'_succ,wpOpsIn,h0];unfold wpLs wpLk at hh;split
  ·rename_i hw;rw [if_pos hw] at hh;exact Oper.wpIn_mono (fun a w=>ih' a w) hh
  ·rename_i hw;rw [if_neg hw] at hh;exact⟨fun _ _=>trivial,ih' _ _ hh⟩
theorem wpIn_region_lit {ro:Option Nat} {P:Program} {Q:Exit→Act→World→Prop} {a:Act} {w:World} {id:Nat} {l:List Oper} (h:wpLs ro P l.toArray Q l a w):(Code.region id l.toArray false).wpIn (FX ro) 0 P Q a w:=
 wpIn_region (by
  have:=zcU (ro:=ro) (P:=P) (ops:=l.toArray) (Q:=Q) l 0 (by simp) a w h;rw [List.range_eq_range'];simpa using this)
def Lift (Γ:Cx) (Q:Exit→Fr→Sg→Prop):Exit→Act→World→Prop:=
 fun e a w=>∃ fr σ g,Rel Γ fr σ g a w∧Q e fr σ
def AW (P:Program) (Γ:Cx) (c:Code) (Q:Exit→Fr→Sg→Prop) (fr:Fr) (σ:Sg):Prop:=
 Laid P Γ.K0.K Γ.w0→∀ g a w,Rel Γ fr σ g a w→c.wpIn (FX Γ.ro) 0 P (Lift Γ Q) a w
section
variable {P:Program} {Γ:Cx} {fr:Fr} {σ:Sg} {Q:Exit→Fr→Sg→Prop}
theorem zdl {o:Oper} {f:Operand} {args:Array Operand} {ts:Array TypeId} (ho:o.op=.call ⟨.value f,args,ts⟩) {a:Act} {fid:FuncId} {v1 v2:Array Value} (hf:a.eval f=.func (.func fid) v1 v2) (hg:Good P fid) (w:World) :
  (execOp a.eval o).run P w=.ok (.enter fid (v1 ++ args.map a.eval ++ v2)) w:=by
 obtain⟨fn,h1,h2,h3⟩:=hg;have hb:¬ fn.body=none:=fun e=>by rw [e] at h2;cases h2
 have h3':¬ fn.name = "runtime.NumGoroutine" :=by simpa using h3
 simp [execOp,ho,resolve,Deferred.ofValue,hf,invoke,callFunc,h1,h3',hb]
theorem zaJ {tt:TT} (htt:tt.ok P) (hL:Laid P Γ.K0.K Γ.w0) {all:List Oper} {k:Fr→Sg→Prop} {Qx:Exit→Act→World→Prop} {K:Act→World→Prop} (hk:∀ fr σ g a w,Rel Γ fr σ g a w→k fr σ→K a w):∀ (rest:List Oper) (fr:Fr) (σ:Sg),zah P tt Γ.nt all k rest fr σ →
  ∀ (g:Gh) (a:Act) (w:World),Rel Γ fr σ g a w→wpLk Γ.ro P all.toArray Qx K rest a w
 | [],fr,σ,h,g,a,w,hr=>hk _ _ _ _ _ hr h
 | o::rest,fr,σ,h,g,a,w,hr=>by
  have ih:=fun fr σ=>zaJ htt hL (all:=all) (k:=k) (Qx:=Qx) hk rest fr σ
  simp only [zah] at h;obtain⟨gd,h,hgd⟩:=zgl h;obtain⟨hwant,hcase⟩:=hgd Γ σ g a w hr o rfl;by_cases hon:On gd
  ·-- it is carried out
   have hw:Region.wanted o (yielded all.toArray a.tmps)=true:=hwant.2 hon;unfold wpLk;rw [if_pos hw];refine⟨fun _ _=>trivial,?_⟩
   rw [Oper.semAt_eq _ _ o (by
    intro c hc;rw [hc] at h;exact h)]
   have hval:∀ (x:AV) (σ':Sg) (g':Gh) (w':World) (v:Value),(execOp a.eval o).run P w=.ok (.value v) w'→Did Γ.w0 Γ.K0 σ g w σ' g' w'→VR2 σ' g' w' x v →
     zba Γ.nt o.dst gd x fr (fun fr'=>zah P tt Γ.nt all k rest fr' σ')→o.uponIn (FX Γ.ro) 0 P a (wpLk Γ.ro P all.toArray Qx K rest) Qx ((execOp a.eval o).run P w):=by
    intro x σ' g' w' v hrun hd hv hput;rw [hrun];show wpLk Γ.ro P all.toArray Qx K rest (a.put o.dst v) w'
    have hr':=hr.did hd;obtain⟨fr',hk',hr''⟩:=zcf hr' hput (v:=v) (by
     rcases hon with rfl|rfl
     ·exact zZ hv
     ·exact⟨fun _=>hv,fun e=>by cases e⟩)
    exact ih fr' σ' hk' g' _ w' hr''
   have hmm:∀ (op:Op),o.op=op→(zhE σ o.dst fun id=>stepM tt fr σ id op (fun av σ'=>(match av with
     | some v=>zba Γ.nt o.dst gd v fr fun fr'=>zah P tt Γ.nt all k rest fr' σ'
     | none=>(match o.dst with|none=>zah P tt Γ.nt all k rest fr σ'|some _=>False)))) →
     o.uponIn (FX Γ.ro) 0 P a (wpLk Γ.ro P all.toArray Qx K rest) Qx ((execOp a.eval o).run P w):=by
    intro op hop hst;subst hop;obtain⟨id,hid,hst⟩:=zfA hst;obtain⟨av,σ',hk',hgo⟩:=znl htt hid hst;obtain⟨nx,w',g',hrun,hd,hav⟩:=hgo Γ g a w hr;cases av with
    | some x=>
     grind
    | none=>
     subst hav;rw [hrun];show wpLk Γ.ro P all.toArray Qx K rest (a.put o.dst undef) w'
     simp only at hk';split at hk'
     ·rename_i hdst;rw [hdst];exact ih fr σ' hk' g' a w' (hr.did hd)
     ·exact hk'.elim
   split at h
   ·-- a call
    rename_i f args ts hop;obtain⟨fv,h2,hfv⟩:=zK h;clear h;obtain⟨vs,h,hl,hvs⟩:=zbE h2;clear h2;split at h
    ·rename_i fid first captured
     have hf:=hfv hon Γ σ g a w hr;have hsr:SR σ g w (.f (.func fid) first captured) (a.eval f):=hf;generalize hae:a.eval f=fval at hsr;cases hsr with
     | f _ _ _ v1 v2 s1 s2 r1 r2=>
      have hargs:∀ (i:Nat) (x:AV) (v:Value),(first.map AV.x ++ vs ++ captured.map AV.x)[i]?=some x→(v1 ++ args.map a.eval ++ v2)[i]?=some v→VR2 σ g w x v:=by
       intro i x v hx hv;have hvl:vs.length=args.size:=by simpa using hl
       by_cases c1:i < first.length
       ·rw [List.append_assoc,List.getElem?_append_left (by simpa using c1)] at hx;rw [Array.append_assoc,Array.getElem?_append_left (by omega)] at hv;rw [List.getElem?_map] at hx;cases hs:first[i]? with
        | none=>rw [hs] at hx;cases hx
        | some s=>rw [hs] at hx;cases hx;exact r1 i s v hs hv
       ·by_cases c2:i < first.length+vs.length
        ·grind
        ·rw [List.getElem?_append_right (by simp;omega)] at hx;rw [Array.getElem?_append_right (by simp;omega)] at hv;simp only [List.length_append,List.length_map] at hx;simp only [Array.size_append,Array.size_map,s1,← hvl] at hv;rw [List.getElem?_map] at hx;cases hs:captured[i - (first.length+vs.length)]? with
         | none=>rw [hs] at hx;cases hx
         | some s=>rw [hs] at hx;cases hx;exact r2 _ s v hs hv
      have hsize:(v1 ++ args.map a.eval ++ v2).size=(first.map AV.x ++ vs ++ captured.map AV.x).length:=by
       simp_all
      have fin:∀ R,ACall P fid (first.map .x ++ vs ++ captured.map .x) σ R→(∀ rv σ',R rv σ'→zba Γ.nt o.dst gd rv fr fun fr'=>zah P tt Γ.nt all k rest fr' σ') →
        o.uponIn (FX Γ.ro) 0 P a (wpLk Γ.ro P all.toArray Qx K rest) Qx ((execOp a.eval o).run P w):=by
       intro R hac hcont;rw [zdl hop hae hac.1 w];refine⟨zfc,zbi.2 ?_⟩
       refine (hac.2 Γ.w0 Γ.K0 g w _ hL hr.hp hsize hargs).mono fun e w' ⟨v,g',σ',r,he,hd,hv,hR⟩=>?_
       subst he;show wpLk Γ.ro P all.toArray Qx K rest (a.put o.dst v) w'
       have hr':=hr.did hd;obtain⟨fr',hk',hr''⟩:=zcf hr' (hcont r σ' hR) (v:=v) (by
        rcases hon with rfl|rfl
        ·exact zZ hv
        ·exact⟨fun _=>hv,fun e=>by cases e⟩)
       exact ih fr' σ' hk' g' _ w' hr''
      rcases hon with rfl|rfl
      ·grind
      ·grind
    ·-- a function value that is data
     rename_i fid fa fb;have hae:a.eval f=.func (.func fid) fa fb:=zm (hfv hon Γ σ g a w hr);split at h
     ·obtain⟨hok,R,hac,hcont⟩:=h;simp only [Bool.and_eq_true] at hok;obtain⟨hok,hb0⟩:=hok;obtain rfl:fb = #[]:=by simpa using hb0
      have hvl:vs.length=(args.map a.eval).size:=by simpa using hl
      have hargs:=zg5 (us:=args.map a.eval) hok hvl (fun i x v hx hv=>by
       rw [Array.getElem?_map] at hv;cases ha:args[i]? with
       | none=>rw [ha] at hv;cases hv
       | some y=>rw [ha] at hv;cases hv;exact hvs hon Γ σ g a w hr i x y hx (by simpa using ha))
      have hsize:(fa ++ args.map a.eval ++ #[]).size=(fa.toList.map cAV ++ vs).length:=by simp at hvl;simp [hvl]
      rw [zdl hop hae hac.1 w];refine⟨zfc,zbi.2 ?_⟩
      refine (hac.2 Γ.w0 Γ.K0 g w _ hL hr.hp hsize hargs).mono fun e w' ⟨v,g',σ',r,he,hd,hv,hR⟩=>?_
      subst he;show wpLk Γ.ro P all.toArray Qx K rest (a.put o.dst v) w'
      have hr':=hr.did hd;obtain⟨fr',hk',hr''⟩:=zcf hr' (hcont r σ' hR) (v:=v) (zZ hv);grind
     ·exact h.elim
    ·-- a loop's yield
     rename_i id;have hf:=hfv hon Γ σ g a w hr;have hsr:SR σ g w (.h id) (a.eval f):=hf;have fin:∀ R,YC P id vs σ R→(∀ rv σ',R rv σ'→zba Γ.nt o.dst none rv fr fun fr'=>zah P tt Γ.nt all k rest fr' σ') →
       o.uponIn (FX Γ.ro) 0 P a (wpLk Γ.ro P all.toArray Qx K rest) Qx ((execOp a.eval o).run P w):=by
      intro R hyc hcont;obtain⟨l,f1,tmps,assign,body,ob,hlk,hkd,hμ,hy,hround⟩:=hyc Γ.w0 Γ.K0 g w (args.map a.eval) hL hr.hp (by simpa using hl.symm) (fun i x v hx hv=>by
       rw [Array.getElem?_map] at hv;cases ha:args[i]? with
       | none=>rw [ha] at hv;cases hv
       | some y=>rw [ha] at hv;cases hv;exact hvs hon Γ σ g a w hr i x y hx (by simpa using ha))
      have hae:a.eval f=.func (.yield l) #[] #[]:=by
       generalize a.eval f=fval at hsr;cases hsr with
       | h _ o' k hl' hμ'=>
        rw [hlk] at hl';cases hl';rw [hμ] at hμ';cases hμ';rw [hkd];rfl
      have hrun:(execOp a.eval o).run P w=.ok (.round l f1 tmps assign body) w:=by
       simp [execOp,hop,resolve,Deferred.ofValue,hae,invoke,hy]
      rw [hrun];refine⟨zfc,RoundIn.mono (show RoundIn (FX Γ.ro) (0 - 1) P l f1 tmps assign body w _ from hround) fun e w' ⟨v,g',σ',r,he,hd,hv,hR⟩=>?_⟩
      subst he;show wpLk Γ.ro P all.toArray Qx K rest (a.put o.dst v) w'
      have hr':=hr.did hd;obtain⟨fr',hk',hr''⟩:=zcf hr' (hcont r σ' hR) (v:=v) (zZ hv);exact ih fr' σ' hk' g' _ w' hr''
     rcases hon with rfl|rfl
     ·grind
     ·grind
    ·exact h.elim
   ·-- the next one
    rename_i it isS hop;split at h
    ·obtain⟨u,hk,hu⟩:=zK h;obtain⟨av,σ',v,w',g',hk',hrun,hd,hv⟩:=zn5 (P:=P) (T:=o.type) hk Γ.w0 Γ.K0 g w _ hr.hp (hu (.inl rfl) Γ σ g a w hr);exact hval av σ' g' w' v (by simp only [execOp,hop];rw [Sem.run_bind,hrun];rfl) hd hv hk'
    ·exact h.elim
   ·-- a literal
    rename_i T n parts hop;generalize hown:zid all o.dst n=own at h;cases own with
    | true=>
     grind
    | false=>
     simp only [cond_false] at h;obtain⟨vs,hk,hl,hvs⟩:=zbE h;obtain⟨av,hk',hgo⟩:=zcH htt hk;obtain⟨v,w',g',h1,h2,h3⟩:=hgo σ _ _ g w (parts.map fun (i,x)=>(i,a.eval x)) hr.hp (by simp [hl]) (fun j i x hj=>by
      obtain⟨y,h1,h2,h3⟩:=zb2 parts.toList vs hl j i x hj;refine⟨a.eval y,?_,hvs hon Γ σ g a w hr j x y h2 h3⟩
      have:parts[j]?=some (i,y):=by simpa using h1
      simp [this])
     exact hval av σ g' w' v (by simp only [execOp,hop];rw [Sem.run_bind,h1];rfl) h2 h3 hk'
   ·-- a conversion
    rename_i src dst x hop;generalize hsb:isSB tt src dst=sb at h;cases sb with
    | true=>
     simp only [cond_true] at h;split at h
     ·obtain⟨u,hk,hu⟩:=zK h;obtain⟨av,hk',hgo⟩:=zms htt hsb hk;obtain⟨v,w',g',h1,h2,h3⟩:=hgo σ _ _ g w _ hr.hp (hu (.inl rfl) Γ σ g a w hr);exact hval av σ g' w' v (by simp only [execOp,hop];rw [Sem.run_bind,h1];rfl) h2 h3 hk'
     ·exact h.elim
    | false=>
     simp only [cond_false] at h;rw [← hop] at h;obtain⟨hgo,_,_⟩:=zd6 htt h;obtain⟨av,hk',v,hrun,hv⟩:=hgo hon Γ g a w hr;exact hval av σ g w v hrun (.refl hr.hp) hv hk'
   ·-- no call
    rename_i op hncall hnlit _ _;generalize hM:isM o.op=m at h;cases m with
    | true=>
     grind
    | false=>
     simp only [cond_false] at h;obtain⟨hgo,_,_⟩:=zd6 htt h;obtain⟨av,hk',v,hrun,hv⟩:=hgo hon Γ g a w hr;exact hval av σ g w v hrun (.refl hr.hp) hv hk'
  ·-- it is passed over
   have hw:Region.wanted o (yielded all.toArray a.tmps)=false:=by
    simp_all
   have hgf:gd=some false:=hcase.resolve_right hon;subst hgf;unfold wpLk;rw [hw];simp only [Bool.false_eq_true,if_false];have hskip:∀ (x:AV),zba Γ.nt o.dst (some false) x fr (fun fr'=>zah P tt Γ.nt all k rest fr' σ)→wpLk Γ.ro P all.toArray Qx K rest (a.put o.dst undef) w:=by
    intro x hput;obtain⟨fr',hk',hr''⟩:=zcf hr hput (v:=undef) ⟨(fun e=>by cases e),fun _=>rfl⟩;grind
   split at h
   ·obtain⟨fv,h,_⟩:=zK h;obtain⟨vs,h,_,_⟩:=zbE h;grind
   ·exact h.elim
   ·rename_i T n parts hop;generalize hown:zid all o.dst n=own at h;cases own with
    | true=>exact h.elim
    | false=>
     simp only [cond_false] at h;obtain⟨vs,hk,hl,hvs⟩:=zbE h;obtain⟨av,hk',_⟩:=zcH htt hk;exact hskip av hk'
   ·rename_i src dst x hop;generalize hsb:isSB tt src dst=sb at h;cases sb with
    | true=>exact h.elim
    | false=>
     simp only [cond_false] at h;rw [← hop] at h;obtain⟨_,hgo,_⟩:=zd6 htt h;grind
   ·generalize hM:isM o.op=m at h;cases m with
    | true=>simp only [cond_true] at h;exact absurd h.1 (by decide)
    | false=>
     simp only [cond_false] at h;obtain⟨_,hgo,_⟩:=zd6 htt h;grind
theorem zcc {tt:TT} (htt:tt.ok P) (hL:Laid P Γ.K0.K Γ.w0) {all:List Oper} {k:Fr→Sg→Prop} (hk:∀ fr σ,k fr σ→Q .normal fr σ) (rest:List Oper) (fr:Fr) (σ:Sg) (h:zah P tt Γ.nt all k rest fr σ)
  (g:Gh) (a:Act) (w:World) (hr:Rel Γ fr σ g a w):wpLs Γ.ro P all.toArray (Lift Γ Q) rest a w:=
 zaJ htt hL (fun fr σ g _ _ hr h=>⟨fr,σ,g,hr,hk _ _ h⟩) rest fr σ h g a w hr
theorem zb {tt:TT} (htt:tt.ok P) {id:Nat} {ops:List Oper} (h:zah P tt Γ.nt ops (Q .normal) ops fr σ):AW P Γ (.region id ops.toArray false) Q fr σ:=
 fun hL g a w hr=>wpIn_region_lit (zcc htt hL (fun _ _ h=>h) ops fr σ h g a w hr)
theorem zf (h:Q .normal fr σ):AW P Γ .skip Q fr σ:=fun _ g a w hr=>wpIn_skip ⟨fr,σ,g,hr,h⟩
theorem zk {id:Nat} (h:Q (.exit id) fr σ):AW P Γ (.exit id) Q fr σ:=fun _ g a w hr=>wpIn_exit ⟨fr,σ,g,hr,h⟩
theorem zi (h:Q .ret fr σ):AW P Γ .ret Q fr σ:=fun _ g a w hr=>wpIn_ret ⟨fr,σ,g,hr,h⟩
def Exit.thn (K:Fr→Sg→Prop) (Q:Exit→Fr→Sg→Prop):Exit→Fr→Sg→Prop
 | .normal,fr,σ=>K fr σ
 | e,fr,σ=>Q e fr σ
theorem zd {x y:Code} (h:AW P Γ x (Exit.thn (AW P Γ y Q) Q) fr σ):AW P Γ (.seq x y) Q fr σ:=by
 intro hL g a w hr;refine wpIn_seq (wpIn_mono (h hL g a w hr) ?_)
 intro e a w ⟨fr,σ,g,r,q⟩;cases e with
 | normal=>exact q hL g a w r
 | _=>exact⟨fr,σ,g,r,q⟩
theorem za {c:Operand} {x y:Code} {b:Bool} (hc:ev fr c=some (none,bv b)) (ht:b=true→AW P Γ x Q fr σ) (hf:b=false→AW P Γ y Q fr σ):AW P Γ (.cond c x y) Q fr σ:=by
 intro hL g a w hr;have h1:a.eval c=.bool b:=by
  have h':ev1 fr none c (fun v=>v=bv b):=by unfold ev1;rw [hc]
  obtain⟨v,hv,hvr⟩:=zK h';subst hv;exact zm (hvr (.inl rfl) Γ σ g a w hr)
 exact wpIn_cond_split h1 (fun h=>ht h hL g a w hr) (fun h=>hf h hL g a w hr)
def Exit.blk (id:Nat) (Q:Exit→Fr→Sg→Prop):Exit→Fr→Sg→Prop
 | .exit id',fr,σ=>if id'=id then Q .normal fr σ else Q (.exit id') fr σ
 | e,fr,σ=>Q e fr σ
theorem zc {id:Nat} {c:Code} (h:AW P Γ c (Exit.blk id Q) fr σ):AW P Γ (.block id c) Q fr σ:=by
 intro hL g a w hr;refine wpIn_block (wpIn_mono (h hL g a w hr) ?_)
 intro e a w ⟨fr,σ,g,r,q⟩;cases e with
 | exit id'=>
  simp only [Exit.blk] at q;show (if id'=id then Lift Γ Q .normal a w else Lift Γ Q (.exit id') a w)
  by_cases hid:id'=id
  ·rw [if_pos hid] at q ⊢;exact⟨fr,σ,g,r,q⟩
  ·rw [if_neg hid] at q ⊢;exact⟨fr,σ,g,r,q⟩
 | _=>exact⟨fr,σ,g,r,q⟩
def Imp (Γ:Cx) (fr:Fr) (σ:Sg) (fr':Fr) (σ':Sg):Prop:=∀ g a w,Rel Γ fr σ g a w→∃ g',Rel Γ fr' σ' g' a w
theorem zaq {c:Code} {fr':Fr} {σ':Sg} (hi:Imp Γ fr σ fr' σ') (h:AW P Γ c Q fr' σ'):AW P Γ c Q fr σ:=
 fun hL g a w hr=>let ⟨g',hr'⟩:=hi g a w hr;h hL g' a w hr'
theorem zJ {c:Code} {X:Type} (F:X→Fr) (S:X→Sg) (ok:X→Prop) (μ:X→Nat) (x0:X) (h0:ok x0) (hi:Imp Γ fr σ (F x0) (S x0))
  (round:∀ x,ok x→AW P Γ c (Exit.thn (fun fr σ=>∃ y,ok y∧μ y < μ x∧Imp Γ fr σ (F y) (S y)) Q) (F x) (S x)):AW P Γ (.loop c) Q fr σ:=by
 intro hL g a w hr b k cs hro hb hrm;obtain⟨g0,hr0⟩:=hi g a w hr;have key:∀ n x g a w,ok x→μ x=n→Rel Γ (F x) (S x) g a w→∃ e a' w',Lift Γ Q e a' w'∧ArrivesIn (Machine.fenced P (FX Γ.ro)) P (lone (b.atR a (.code c::.inLoop c::k)) cs w) b k cs e a' w':=by
  intro n;induction n using Nat.strongRecOn with
  | _ n ih=>
   intro x g a w hx hn hr;obtain⟨e,a₁,w₁,⟨fr1,σ1,g1,r1,hq⟩,harr⟩:=round x hx hL g a w hr b (.inLoop c::k) cs hro hb hrm;cases e with
   | normal=>
    obtain⟨y,hy,hm,himp⟩:=hq;obtain⟨g2,r2⟩:=himp g1 a₁ w₁ r1;obtain⟨e₂,a₂,w₂,hq₂,harr₂⟩:=ih (μ y) (hn ▸ hm) y g2 a₁ w₁ hy rfl r2;exact⟨e₂,a₂,w₂,hq₂,.of_steps (StepsIn.trans harr (.one (fenced_calm hb hrm rfl) stepR_inLoop)) harr₂⟩
   | exit id=>exact⟨_,a₁,w₁,⟨fr1,σ1,g1,r1,hq⟩,.pass (x:=.inLoop c) rfl (fun _ _=>.inl (by simp)) harr⟩
   | goto l=>exact⟨_,a₁,w₁,⟨fr1,σ1,g1,r1,hq⟩,.pass (x:=.inLoop c) rfl (fun _ _=>.inl (by simp)) harr⟩
   | ret=>exact⟨_,a₁,w₁,⟨fr1,σ1,g1,r1,hq⟩,.pass (x:=.inLoop c) rfl (fun _ _=>.inl (by simp)) harr⟩
   | panic ch=>exact⟨_,a₁,w₁,⟨fr1,σ1,g1,r1,hq⟩,.pass (x:=.inLoop c) rfl (fun _ _=>.inl (by simp)) harr⟩
   | outgrown=>exact⟨_,a₁,w₁,⟨fr1,σ1,g1,r1,hq⟩,.pass (x:=.inLoop c) rfl (fun _ _=>.inl (by simp)) harr⟩
 obtain⟨e,a',w',hq,harr⟩:=key (μ x0) x0 g0 a w h0 rfl hr0;exact⟨e,a',w',hq,.of_steps (.one (fenced_calm hb hrm rfl) stepR_loop) harr⟩
theorem AW.use {c:Code} (h:AW P Γ c Q fr σ) (hL:Laid P Γ.K0.K Γ.w0) {g:Gh} {a:Act} {w:World} (hr:Rel Γ fr σ g a w):c.wpIn (FX Γ.ro) 0 P (Lift Γ Q) a w:=h hL g a w hr
theorem AW.mk {c:Code} (h:Laid P Γ.K0.K Γ.w0→∀ g a w,Rel Γ fr σ g a w→c.wpIn (FX Γ.ro) 0 P (Lift Γ Q) a w):AW P Γ c Q fr σ:=h
end
attribute [irreducible] AW
end Go.QL
namespace Go.QL
open Go Go.RowKit
def zlI:SV→Bool
 | .d _=>true
 | .f _ [] []=>true
 | _=>false
def zhr:AV→Bool
 | .x s=>zlI s
 | .a cs=>cs.all zlI
 | _=>false
def zf6:AV→Bool
 | .t xs=>xs.all zhr
 | x=>zhr x
section
variable {σ σ':Sg} {g g':Gh} {w w':World}
theorem zh9 {s:SV} (hs:zlI s=true) (he:Ext g.K w g'.K w') {v:Value} (h:SR σ g w s v):SR σ' g' w' s v:=by
 cases s with
 | d p=>cases h with|d _ _ h=>exact .d _ _ (h.mono he)
 | f fn first captured=>
  cases first with
  | cons _ _=>cases hs
  | nil=>
   cases captured with
   | cons _ _=>cases hs
   | nil=>
    cases h with
    | f _ _ _ v1 v2 h1 h2 _ _=>exact .f fn [] [] v1 v2 h1 h2 (fun i s v hi=>by cases hi) (fun i s v hi=>by cases hi)
 | _=>cases hs
theorem zeU {x:AV} (hx:zhr x=true) (he:Ext g.K w g'.K w') {v:Value} (h:VR1 σ g w x v):VR1 σ' g' w' x v:=by
 cases x with
 | x s=>exact zh9 hx he h
 | a cs=>
  obtain⟨vs,rfl,hs,hr⟩:=h;refine⟨vs,rfl,hs,fun i s u hi hu=>zh9 ?_ he (hr i s u hi hu)⟩
  simp only [zhr,List.all_eq_true] at hx;grind
 | t _=>exact h.elim
 | g _ _=>exact h.elim
theorem zcY {x:AV} (hx:zf6 x=true) (he:Ext g.K w g'.K w') {v:Value} (h:VR2 σ g w x v):VR2 σ' g' w' x v:=by
 cases x with
 | t xs=>
  obtain⟨vs,rfl,hs,hr⟩:=h;refine⟨vs,rfl,hs,fun i s u hi hu=>zeU ?_ he (hr i s u hi hu)⟩
  simp only [zf6,List.all_eq_true] at hx;grind
 | x s=>exact zeU (x:=.x s) hx he h
 | a cs=>exact zeU (x:=.a cs) hx he h
 | g _ _=>exact h.elim
end
def FnC (P:Program) (f:FuncId) (args:List AV) (r:AV):Prop:=
 Good P f∧∀ (K:Nat→Nat→Prop) (w:World) (vs:Array Value),Laid P K w→(∀ b o,K b o→b < w.heap.size)→vs.size=args.length →
  (∀ (i:Nat) (x:AV) (v:Value),args[i]?=some x→vs[i]?=some v→VR2 [] ⟨K,fun _=>undef⟩ w x v) →
  Calls P f vs w (fun e w'=>∃ v K',e=.returned v∧Below w.heap.size w w'∧Ext K w K' w'∧(∀ b o,b < w.heap.size→K' b o→K b o)∧(∀ b o,K' b o→b < w'.heap.size)∧VR2 [] ⟨K',fun _=>undef⟩ w' r v)
theorem FnC.call {P:Program} {f:FuncId} {args:List AV} {r:AV} (h:FnC P f args r) {σ:Sg} (hp:args.all zf6=true) (hr:zf6 r=true):ACall P f args σ (fun r' σ'=>r'=r∧σ'=σ):=by
 refine⟨h.1,fun w0 K0 g w vs hL hhp hs hv=>?_⟩
 rw [List.all_eq_true] at hp;refine (h.2 g.K w vs (hL.mono hhp.ext) hhp.val hs fun i x v hi hu=>zcY (g:=g) (g':=⟨g.K,fun _=>undef⟩) (hp x (List.mem_of_getElem? hi)) (Ext.refl _ _) (hv i x v hi hu)).mono ?_
 intro e w' ⟨v,K',he,hb,hext,hold,hval,hvr⟩;exact⟨v,⟨K',g.μ⟩,σ,r,he,hhp.grow hb hext hold hval,zcY hr (Ext.refl K' w') hvr,rfl,rfl⟩
theorem PR.nil {K:Nat→Nat→Prop} {w:World} (sz:Nat) {v:Value} (h:PR K w (.v (.slice none 0 0)) v):PR K w (.s sz []) v:=by
 cases h with
 | v _ _=>
  have:=PR.s (K:=K) (w:=w) sz ([]:List (List PV)) none 0 0 0 (fun _ _=>undef) (Nat.zero_le _) (Nat.zero_le _) (by simp) (fun h=>absurd rfl h) (fun i e hi=>by simp at hi) (fun i e hi=>by simp at hi) (fun i e hi=>by simp at hi);simpa using this
def LeSV (s t:SV):Prop:=s=t∨(s=.d (.v (.slice none 0 0))∧∃ sz,t=.d (.s sz []))
def LeAV1:AV→AV→Prop
 | .x s,y=>∃ t,y=.x t∧LeSV s t
 | x,y=>x=y
def LeAVs:List AV→List AV→Prop
 | [],[]=>True
 | x::r,y::s=>LeAV1 x y∧LeAVs r s
 | _,_=>False
def LeAV:AV→AV→Prop
 | .t xs,y=>∃ ys,y=.t ys∧LeAVs xs ys
 | x,y=>LeAV1 x y
section
variable {σ:Sg} {g:Gh} {w:World}
theorem LeSV.ok {s t:SV} (h:LeSV s t) {v:Value} (hv:SR σ g w s v):SR σ g w t v:=by
 rcases h with rfl|⟨rfl,sz,rfl⟩
 ·exact hv
 ·cases hv with|d _ _ h=>exact .d _ _ (h.nil sz)
theorem LeAV1.ok {x y:AV} (h:LeAV1 x y) {v:Value} (hv:VR1 σ g w x v):VR1 σ g w y v:=by
 cases x with
 | x s=>obtain⟨t,rfl,h⟩:=h;exact h.ok hv
 | a _=>cases h;exact hv
 | t _=>exact hv.elim
 | g _ _=>exact hv.elim
theorem LeAVs.get:∀ {xs ys:List AV},LeAVs xs ys→xs.length=ys.length∧∀ (i:Nat) (y:AV),ys[i]?=some y→∃ x,xs[i]?=some x∧LeAV1 x y
 | [],[],_=>⟨rfl,fun i y h=>by simp at h⟩
 | x::r,y::s,h=>by
  obtain⟨e,ih⟩:=LeAVs.get h.2;refine⟨by simp [e],fun i z hi=>?_⟩
  cases i with
  | zero=>cases hi;exact⟨x,rfl,h.1⟩
  | succ i=>exact ih i z hi
 | [],_::_,h=>h.elim
 | _::_,[],h=>h.elim
theorem LeAV1.vr2 {x y:AV} (h:LeAV1 x y) {v:Value} (hv:VR2 σ g w x v):VR2 σ g w y v:=by
 cases x with
 | x s=>obtain⟨t,rfl,h⟩:=h;exact h.ok hv
 | a _=>cases h;exact hv
 | t _=>cases h;exact hv
 | g _ _=>exact hv.elim
theorem LeAV.ok {x y:AV} (h:LeAV x y) {v:Value} (hv:VR2 σ g w x v):VR2 σ g w y v:=by
 cases x with
 | t xs=>
  obtain⟨ys,rfl,h⟩:=h;obtain⟨vs,rfl,hs,hr⟩:=hv;obtain⟨e,hg⟩:=h.get;refine⟨vs,rfl,by omega,fun i y u hi hu=>?_⟩
  obtain⟨x,h1,h2⟩:=hg i y hi;exact h2.ok (hr i x u h1 hu)
 | x s=>exact LeAV1.vr2 (x:=.x s) h hv
 | a cs=>exact LeAV1.vr2 (x:=.a cs) h hv
 | g c x=>exact hv.elim
theorem LeAV1.refl (x:AV):LeAV1 x x:=by
 cases x with
 | x s=>exact⟨s,rfl,.inl rfl⟩
 | _=>rfl
theorem LeAV1.nil (sz:Nat):LeAV1 (.x (.d (.v (.slice none 0 0)))) (.x (.d (.s sz []))):=⟨_,rfl,.inr ⟨rfl,sz,rfl⟩⟩
end
theorem FnC.le {P:Program} {f:FuncId} {args:List AV} {r r':AV} (h:FnC P f args r) (hr:LeAV r r'):FnC P f args r':=
 ⟨h.1,fun K w vs hL hK hs hv=>(h.2 K w vs hL hK hs hv).mono fun e w' ⟨v,K',a,b,c,d,f,g⟩=>⟨v,K',a,b,c,d,f,hr.ok g⟩⟩
theorem FnC.leA {P:Program} {f:FuncId} {args args':List AV} {r:AV} (h:FnC P f args r) (ha:LeAVs args' args):FnC P f args' r:=by
 obtain⟨e,hg⟩:=ha.get;refine⟨h.1,fun K w vs hL hK hs hv=>h.2 K w vs hL hK (by omega) fun i y v hi hu=>?_⟩
 obtain⟨x,h1,h2⟩:=hg i y hi;exact h2.vr2 (hv i x v h1 hu)
theorem ACall.leA {P:Program} {f:FuncId} {args args':List AV} {σ:Sg} {R:AV→Sg→Prop} (h:ACall P f args σ R) (ha:LeAVs args' args):ACall P f args' σ R:=by
 obtain⟨e,hg⟩:=ha.get;refine⟨h.1,fun w0 K0 g w vs hL hp hs hv=>h.2 w0 K0 g w vs hL hp (by omega) fun i y v hi hu=>?_⟩
 obtain⟨x,h1,h2⟩:=hg i y hi;exact h2.vr2 (hv i x v h1 hu)
theorem ACall.le {P:Program} {f:FuncId} {args:List AV} {σ:Sg} {R R':AV→Sg→Prop} (h:ACall P f args σ R) (hr:∀ r σ',R r σ'→∃ r',LeAV r r'∧R' r' σ'):ACall P f args σ R':=
 ⟨h.1,fun w0 K0 g w vs hL hp hs hv=>(h.2 w0 K0 g w vs hL hp hs hv).mono fun e w' ⟨v,g',σ',r,a,b,c,d⟩=>
  let ⟨r',h1,h2⟩:=hr r σ' d
  ⟨v,g',σ',r',a,b,h1.ok c,h2⟩⟩
def zbq (σ:Sg):SV→Option SV
 | .d p=>some (.d p)
 | .o c st n=>match lk c σ with
  | some (.chain _ sz st' xs)=>if st'=st∧n≤xs.length then some (.d (.s sz (xs.take n))) else none
  | _=>none
 | _=>none
def zkD (σ:Sg):List SV→Option (List SV)
 | []=>some []
 | s::r=>match zbq σ s,zkD σ r with|some t,some l=>some (t::l)|_,_=>none
def zbW (σ:Sg):AV→Option AV
 | .x s=>match zbq σ s with|some t=>some (.x t)|none=>none
 | .a cs=>match zkD σ cs with|some l=>some (.a l)|none=>none
 | _=>none
def zbV (σ:Sg):List AV→Option (List AV)
 | []=>some []
 | x::r=>match zbW σ x,zbV σ r with|some y,some l=>some (y::l)|_,_=>none
def zd1 (σ:Sg):AV→Option AV
 | .t xs=>match zbV σ xs with|some l=>some (.t l)|none=>none
 | x=>zbW σ x
section
variable {w0:World} {K0:Bs} {σ:Sg} {g:Gh} {w:World}
def Kall (σ:Sg) (g:Gh) (w:World):Nat→Nat→Prop:=fun b o=>g.K b o∨∃ c e sz st xs,lk c σ=some (.chain e sz st xs)∧blk (g.μ c)=some b∧w.heap.size > b
theorem zcM:Ext g.K w (Kall σ g w) w:=⟨fun _ _ h=>.inl h,fun _ _ _=>rfl⟩
theorem zfN (hp:Hp w0 K0 σ g w) {s t:SV} (h:zbq σ s=some t) {v:Value} (hv:SR σ g w s v) {μ:Nat→Value}:SR [] ⟨Kall σ g w,μ⟩ w t v:=by
 cases s with
 | d p=>cases h;cases hv with|d _ _ h=>exact .d _ _ (h.mono zcM)
 | o c st n=>
  simp only [zbq] at h;cases hl:lk c σ with
  | none=>rw [hl] at h;cases h
  | some ob=>
   rw [hl] at h;cases ob with
   | box cs=>cases h
   | x _=>cases h
   | chain e sz st' xs=>
    simp only at h;by_cases hc:st'=st∧n≤xs.length
    ·rw [if_pos hc] at h;cases h;obtain⟨rfl,hn⟩:=hc;obtain⟨vs,hown,⟨a0,cap0,hμ0,hcap0,hmax0⟩,hsz,hpr,_⟩:=hp.obs _ _ hl;cases hv with
     | old _ _ _ e1 sz1 st1 xs1 v hl1 hlt1 _=>rw [hl] at hl1;cases hl1;omega
     | o _ _ _ e1 sz1 xs1 a cap hl1 hn1 hμ1=>
      rw [hl] at hl1;cases hl1;have hmax1:cap≤maxLen:=by rw [hμ1] at hμ0;cases hμ0;exact hmax0
      have hcap1:xs.length≤cap:=by rw [hμ1] at hμ0;cases hμ0;exact hcap0
      have htl:(xs.take n).length=n:=by simp;omega
      rcases hown.2 with ⟨hnil,hz⟩|⟨gb,cap',cur,hv',hB,hg,_⟩
      ·have hx:xs=[]:=List.eq_nil_of_length_eq_zero hz;subst hx;have hn0:n=0:=by simpa using hn
       subst hn0;have:=PR.s (K:=Kall σ g w) (w:=w) sz ([]:List (List PV)) a cap 0 0 (fun _ _=>undef) (Nat.zero_le _) hmax1 (by simp) (fun h=>absurd rfl h) (fun i e hi=>by simp at hi) (fun i e hi=>by simp at hi) (fun i e hi=>by simp at hi);exact .d _ _ (by simpa using this)
      ·rw [hμ1] at hv';cases hv';have hbl:blk (g.μ c)=some gb:=by rw [hμ1];rfl
       have hlt:gb < w.heap.size:=(hp.obs _ _ hl).blk_lt hbl |>.2
       have hcell:=hown.cells (g:=gb) (by rw [hμ1];rfl);have:=PR.s (K:=Kall σ g w) (w:=w) sz (xs.take n) (some ⟨gb,0,none⟩) cap gb 0 (fun i j=>vs.getD (i * sz+j) undef) (by rw [htl];omega) hmax1 (fun x hx=>hsz x (List.mem_of_mem_take hx)) (fun _=>rfl)
        (fun i e hi j hj=>.inr ⟨c,_,_,_,_,hl,hbl,hlt⟩) (fun i e hi j hj=>by
         rw [List.getElem?_take] at hi;by_cases hin:i < n
         ·rw [if_pos hin] at hi;obtain⟨u,hu,_⟩:=hpr i e hi j _ (List.getElem?_eq_getElem hj);have:=hcell _ _ hu;rw [zad] at this;rw [this];simp [hu]
         ·rw [if_neg hin] at hi;cases hi) (fun i e hi j p hp'=>by
         rw [List.getElem?_take] at hi;by_cases hin:i < n
         ·rw [if_pos hin] at hi;obtain⟨u,hu,hpu⟩:=hpr i e hi j p hp';have e2:vs.getD (i * sz+j) undef=u:=by simp [hu]
          rw [e2];exact hpu.mono zcM
         ·rw [if_neg hin] at hi;cases hi)
       rw [htl] at this;exact .d _ _ this
    ·simp_all
 | _=>cases h
theorem zhN:∀ {l t:List SV},zkD σ l=some t→t.length=l.length∧∀ (i:Nat) (y:SV),t[i]?=some y→∃ s,l[i]?=some s∧zbq σ s=some y
 | [],t,h=>by cases h;exact⟨rfl,fun i y hi=>by simp at hi⟩
 | s::r,t,h=>by
  simp only [zkD] at h;cases h1:zbq σ s with
  | none=>rw [h1] at h;cases h
  | some y=>
   cases h2:zkD σ r with
   | none=>rw [h1,h2] at h;cases h
   | some l=>
    rw [h1,h2] at h;cases h;obtain⟨e,ih⟩:=zhN h2;grind
theorem zdj (hp:Hp w0 K0 σ g w) {x y:AV} (h:zbW σ x=some y) {v:Value} (hv:VR1 σ g w x v) {μ:Nat→Value}:VR1 [] ⟨Kall σ g w,μ⟩ w y v:=by
 cases x with
 | x s=>
  simp only [zbW] at h;cases h1:zbq σ s with
  | none=>rw [h1] at h;cases h
  | some t=>rw [h1] at h;cases h;exact zfN hp h1 hv
 | a cs=>
  simp only [zbW] at h;cases h1:zkD σ cs with
  | none=>rw [h1] at h;cases h
  | some l=>
   rw [h1] at h;cases h;obtain⟨vs,rfl,hs,hr⟩:=hv;obtain⟨hl,hg⟩:=zhN h1;refine⟨vs,rfl,by rw [hl,hs],fun i s u hi hu=>?_⟩
   obtain⟨s',h1',h2'⟩:=hg i s hi;exact zfN hp h2' (hr i s' u h1' hu)
 | t _=>exact hv.elim
 | g _ _=>exact hv.elim
theorem zcD:∀ {l t:List AV},zbV σ l=some t→t.length=l.length∧∀ (i:Nat) (y:AV),t[i]?=some y→∃ s,l[i]?=some s∧zbW σ s=some y
 | [],t,h=>by cases h;exact⟨rfl,fun i y hi=>by simp at hi⟩
 | s::r,t,h=>by
  simp only [zbV] at h;cases h1:zbW σ s with
  | none=>rw [h1] at h;cases h
  | some y=>
   cases h2:zbV σ r with
   | none=>rw [h1,h2] at h;cases h
   | some l=>
    rw [h1,h2] at h;cases h;obtain⟨e,ih⟩:=zcD h2;grind
theorem zfO (hp:Hp w0 K0 σ g w) {x y:AV} (h:zd1 σ x=some y) {v:Value} (hv:VR2 σ g w x v) {μ:Nat→Value}:VR2 [] ⟨Kall σ g w,μ⟩ w y v:=by
 cases x with
 | t xs=>
  simp only [zd1] at h;cases h1:zbV σ xs with
  | none=>rw [h1] at h;cases h
  | some l=>
   rw [h1] at h;cases h;obtain⟨vs,rfl,hs,hr⟩:=hv;obtain⟨hl,hg⟩:=zcD h1;refine⟨vs,rfl,by rw [hl,hs],fun i s u hi hu=>?_⟩
   obtain⟨s',h1',h2'⟩:=hg i s hi;exact zdj hp h2' (hr i s' u h1' hu)
 | x s=>
  have:=zdj hp (x:=.x s) h hv (μ:=μ);cases y with
  | t _=>exact this.elim
  | g _ _=>exact this.elim
  | _=>exact this
 | a cs=>
  have:=zdj hp (x:=.a cs) h hv (μ:=μ);cases y with
  | t _=>exact this.elim
  | g _ _=>exact this.elim
  | _=>exact this
 | g _ _=>exact hv.elim
theorem zfH (hp:Hp w0 K0 σ g w):∀ b o,K0.F b→Kall σ g w b o→K0.K b o:=by
 intro b o hb hk;rcases hk with hk|⟨c,e,sz,st,xs,hl,hbl,_⟩
 ·exact hp.old b o hb hk
 ·exact absurd hb (hp.own c b (by rw [hl];rfl) hbl)
theorem zeF (hp:Hp w0 K0 σ g w):∀ b o,Kall σ g w b o→b < w.heap.size:=by
 intro b o hk;rcases hk with hk|⟨c,e,sz,st,xs,hl,hbl,h⟩
 ·exact hp.val b o hk
 ·exact h
end
def zhp (tt:TT) (σ:Sg) (fr:Fr):ResultVar→Option AV
 | .tmp t=>match lk t fr with
  | some (.g _ _)=>none
  | x=>x
 | .cell t T=>match lk t fr,tt T with
  | some (.x s),some ti=>(match zdd σ s ti.size with
   | some cs=>bif ti.d.agg then some (.a cs) else (match cs with|[c]=>some (.x c)|_=>none)
   | none=>none)
  | _,_=>none
def zbY (tt:TT) (σ:Sg) (fr:Fr):List ResultVar→Option (List AV)
 | []=>some []
 | v::r=>match zhp tt σ fr v,zbY tt σ fr r with|some x,some l=>some (x::l)|_,_=>none
def za6 (tt:TT) (res:List ResultVar) (fr:Fr) (σ:Sg):Option AV:=
 match zbY tt σ fr res with
 | some [x]=>zd1 σ x
 | some xs=>zd1 σ (.t xs)
 | none=>none
def Post (tt:TT) (res:List ResultVar) (r:AV):Exit→Fr→Sg→Prop
 | .normal,fr,σ|.ret,fr,σ=>za6 tt res fr σ=some r
 | _,_,_=>False
def entry:Nat→List AV→Fr
 | _,[]=>[]
 | i,x::r=>(i,x)::entry (i+1) r
theorem zbm:∀ (xs:List AV) (k t:Nat) (x:AV),lk t (entry k xs)=some x→k≤t∧xs[t - k]?=some x
 | [],k,t,x,h=>by cases h
 | y::r,k,t,x,h=>by
  simp only [entry] at h;rw [zr] at h;by_cases e:k=t
  ·simp_all
  ·rw [if_neg e] at h;obtain⟨h1,h2⟩:=zbm r (k+1) t x h;grind
section
variable {P:Program} {Γ:Cx} {fr:Fr} {σ:Sg} {g:Gh} {a:Act} {w:World}
def zgM (tmps:Array Value):ResultVar→Sem Value
 | .tmp t=>pure (tmps.getD t undef)
 | .cell b t=>do loadVar t (← asAddr (tmps.getD b undef))
theorem zeS (fn:Func) (tmps:Array Value):results fn tmps=(do let vs ← fn.results.mapM (zgM tmps);pure (if h:vs.size=1 then vs[0] else .tuple vs):Sem Value):=rfl
theorem znC {tt:TT} (htt:tt.ok P) (hr:Rel Γ fr σ g a w) {v:ResultVar} {x:AV} (h:zhp tt σ fr v=some x) :
  ∃ u,(zgM a.tmps v).run P w=.ok u w∧VR2 σ g w x u:=by
 cases v with
 | tmp t=>
  simp only [zhp] at h;split at h
  ·cases h
  ·rename_i hne;have hv:=(hr.fr t x h).2;refine⟨_,rfl,?_⟩
   cases x with
   | g c y=>exact (hne c y h).elim
   | _=>exact hv
 | cell t T=>
  simp only [zhp] at h;split at h
  ·rename_i s ti hl hti;have h':zmj tt σ T (.x s) (fun y=>y=x):=by
    unfold zmj;grind
   obtain⟨av,hav,hrun⟩:=zkh htt h';subst hav;obtain⟨u,hu,hvr⟩:=hrun _ _ g w (a.tmps.getD t undef) hr.hp (hr.fr t _ hl).2;refine⟨u,?_,hvr⟩
   unfold Instr.loadAt Instr.sureAddr at hu;cases hp:a.tmps.getD t undef with
   | pointer ad=>
    cases ad with
    | none=>rw [hp] at hu;simp at hu
    | some ad=>
     rw [hp] at hu;show (asAddr (a.tmps.getD t undef) >>= fun x=>loadVar T x).run P w=_
     rw [hp];exact hu
   | _=>rw [hp] at hu;simp at hu
  ·cases h
theorem zef {tt:TT} (htt:tt.ok P) (hr:Rel Γ fr σ g a w):∀ {res:List ResultVar} {xs:List AV},zbY tt σ fr res=some xs →
  ∃ us:List Value,(res.mapM (m:=Sem) (zgM a.tmps)).run P w=.ok us w∧us.length=xs.length ∧
   ∀ (i:Nat) (x:AV) (u:Value),xs[i]?=some x→us[i]?=some u→VR2 σ g w x u
 | [],xs,h=>by cases h;exact⟨[],rfl,rfl,fun i x u hi=>by simp at hi⟩
 | v::r,xs,h=>by
  simp only [zbY] at h;cases h1:zhp tt σ fr v with
  | none=>rw [h1] at h;cases h
  | some x=>
   cases h2:zbY tt σ fr r with
   | none=>rw [h1,h2] at h;cases h
   | some l=>
    rw [h1,h2] at h;cases h;obtain⟨u,hu,hvr⟩:=znC htt hr h1;obtain⟨us,hus,hl,hrs⟩:=zef htt hr h2;refine⟨u::us,?_,by simp [hl],fun i y z hi hz=>?_⟩
    ·simp_all
    ·grind
theorem zeW {tt:TT} (htt:tt.ok P) (hr:Rel Γ fr σ g a w) {fn:Func} {res:List ResultVar} (hres:fn.results=res.toArray) {r:AV} (h:za6 tt res fr σ=some r) {μ:Nat→Value} :
  ∃ v,(results fn a.tmps).run P w=.ok v w∧VR2 [] ⟨Kall σ g w,μ⟩ w r v:=by
 unfold za6 at h;cases hx:zbY tt σ fr res with
 | none=>rw [hx] at h;cases h
 | some xs=>
  rw [hx] at h;obtain⟨us,hus,hl,hrs⟩:=zef htt hr hx;have hm:(res.toArray.mapM (m:=Sem) (zgM a.tmps)).run P w=.ok us.toArray w:=by
   simp_all
  have hrun:(results fn a.tmps).run P w=.ok (if h:us.toArray.size=1 then us.toArray[0] else .tuple us.toArray) w:=by
   rw [zeS,hres,Sem.run_bind,hm];rfl
  refine⟨_,hrun,?_⟩
  cases xs with
  | nil=>
   cases us with
   | cons _ _=>cases hl
   | nil=>exact zfO hr.hp (x:=.t []) h ⟨#[],rfl,rfl,fun i x u hi=>by simp at hi⟩
  | cons x xs=>
   cases us with
   | nil=>cases hl
   | cons u us=>
    cases xs with
    | nil=>
     cases us with
     | cons _ _=>cases hl
     | nil=>exact zfO hr.hp (x:=x) h (hrs 0 x u rfl rfl)
    | cons y xs=>
     cases us with
     | nil=>cases hl
     | cons v us=>
      have hne:¬ (u::v::us).toArray.size=1:=by simp
      rw [dif_neg hne];refine zfO hr.hp (x:=.t (x::y::xs)) h ⟨_,rfl,by simpa using hl,fun i z q hi hq=>?_⟩
      have h2:=hrs i z q hi (by simpa using hq);have:∃ y',zbW σ z=some y':=by
       replace h:zd1 σ (.t (x::y::xs))=some r:=h;simp only [zd1] at h;cases hv:zbV σ (x::y::xs) with
       | none=>rw [hv] at h;cases h
       | some l=>
        obtain⟨hll,hg⟩:=zcD hv;have hil:i < l.length:=by rw [hll];exact (List.getElem?_eq_some_iff.1 hi).1
        obtain⟨s,h1',h2'⟩:=hg i _ (List.getElem?_eq_getElem hil);simp_all
      obtain⟨y',hy'⟩:=this;cases z with
      | x _=>exact h2
      | a _=>exact h2
      | t _=>cases hy'
      | g _ _=>cases hy'
theorem zj {tt:TT} (htt:tt.ok P) {f:FuncId} {fn:Func} {c:Code} {args:List AV} {r:AV} {res:List ResultVar} (hf:P.funcs[f]?=some fn) (hb:fn.body=some c)
  (hname:(fn.name == "runtime.NumGoroutine")=false) (hres:fn.results=res.toArray) {nt:Nat} (hnt:fn.ntmps=nt) (hle:args.length≤nt)
  (h:∀ w0 K0,AW P (Cx.lone w0 K0 nt) c (Post tt res r) (entry 0 args) []):FnC P f args r:=by
 refine⟨⟨fn,hf,by rw [hb];rfl,hname⟩,fun K w vs hL hK hs hv=>?_⟩
 refine calls_of_wp hf hb ((wpIn_wide (n:=0)).1 ?_)
 have hrel:Rel (Cx.lone w ⟨K,(· < w.heap.size)⟩ nt) (entry 0 args) [] ⟨K,fun _=>undef⟩ ⟨vs ++ Array.replicate (fn.ntmps - vs.size) undef,[]⟩ w:=by
  refine⟨⟨.refl _ _,fun _ h=>h,.refl _ _,fun _ _ _ h=>h,hK,(fun id ob hid=>by cases hid),(fun id b hi=>by cases hi),(fun i j b hi=>by cases hi)⟩,fun t x ht=>?_,by simp;omega,DRb.empty,fun s v hb=>hb.elim⟩
  obtain⟨_,hx⟩:=zbm args 0 t x ht;rw [Nat.sub_zero] at hx;have hlt:t < args.length:=(List.getElem?_eq_some_iff.1 hx).1;refine⟨by show t < nt;omega,?_⟩
  have hvt:vs[t]?=some (vs[t]'(by omega)):=Array.getElem?_eq_getElem (by omega);have e:(vs ++ Array.replicate (fn.ntmps - vs.size) undef).getD t undef=vs[t]'(by omega):=by
   rw [Array.getD_eq_getD_getElem?,Array.getElem?_append_left (by omega),hvt];rfl
  show VR _ _ _ _ ((vs ++ Array.replicate (fn.ntmps - vs.size) undef).getD t undef)
  rw [e];exact zZ (hv t x _ hx hvt)
 refine wpIn_mono ((h w ⟨K,(· < w.heap.size)⟩).use hL hrel) ?_
 intro e a' w' ⟨fr,σ,g,hr,hq⟩;have fin:za6 tt res fr σ=some r→a'.defers=[]∧∃ v,(results fn a'.tmps).run P w'=.ok v w'∧∃ v_1 K',Ending.returned v=.returned v_1∧Below w.heap.size w w'∧Ext K w K' w' ∧
   (∀ b o,b < w.heap.size→K' b o→K b o)∧(∀ b o,K' b o→b < w'.heap.size)∧VR2 [] ⟨K',fun _=>undef⟩ w' r v_1:=by
  intro ho;obtain⟨v,hrun,hvr⟩:=zeW htt hr hres ho (μ:=fun _=>undef);exact⟨hr.defers.nil,v,hrun,v,Kall σ g w',rfl,hr.hp.kept.below,hr.hp.ext.trans zcM,zfH hr.hp,zeF hr.hp,hvr⟩
 cases e with
 | normal=>exact fin hq
 | ret=>exact fin hq
 | _=>exact hq.elim
end
end Go.QL
namespace Go.QL
open Go Go.RowKit
def tdOf (P:Program) (T:TypeId):TypeDesc→TD
 | .bool=>.bool
 | .int k=>.int k
 | .string=>.str
 | .slice e=>.sl e
 | .struct fs=>.st (fs.toList.map fun f=>(f.offset,f.type)) (eqOf P T)
 | .array n e=>.ar n e
 | .map k e=>.mp k e
 | .interface _=>.ifc
 | _=>.other
def tiOf (P:Program) (T:TypeId):Option TI:=
 match P.info? T,P.underlying T with
 | some info,some d=>(match info.zero with
  | some z=>bif zOk (tdOf P T d) z then some ⟨tdOf P T d,info.size,info.bytes,z.cells.toList⟩ else none
  | none=>none)
 | _,_=>none
def zjU (i:TI):Bool:=i.zero.all (·.oneCell') && Nat.beq i.zero.length i.size
theorem zpq {P:Program} {T:TypeId} {d:TypeDesc} (h:P.underlying T=some d):(tdOf P T d).ok P T:=by
 cases d <;> first
  | exact h
  | exact⟨_,h⟩
  | exact⟨_,h,rfl,zqg⟩
  | exact⟨_,h,rfl⟩
theorem zpp {P:Program} {T:TypeId} {i:TI} (h:tiOf P T=some i) (hg:zjU i=true):i.ok P T:=by
 unfold tiOf at h;split at h
 ·rename_i info d hi hd;split at h
  ·rename_i z hz;cases hzo:zOk (tdOf P T d) z with
   | false=>rw [hzo] at h;cases h
   | true=>
    rw [hzo] at h;cases h;simp only [zjU,Bool.and_eq_true] at hg;exact⟨⟨info,z,hi,rfl,rfl,hz,by simp⟩,zpq hd,hg.1,Nat.eq_of_beq_eq_true hg.2,fun info' z' h1 h2=>by rw [hi] at h1;cases h1;rw [hz] at h2;cases h2;exact hzo⟩
  ·cases h
 ·cases h
theorem zo2 {α : Type} {k:Nat} {l:List (Nat × α)} {x : α} (h:lk k l=some x):(k,x) ∈ l:=by
 induction l with
 | nil=>cases h
 | cons p r ih=>
  obtain⟨j,y⟩:=p;rw [zr] at h;grind
theorem zqH {P:Program} {tab:List (Nat × TI)} (h:tab.map (fun p=>tiOf P p.1)=tab.map (fun p=>some p.2)) (hg:tab.all (fun p=>zjU p.2)=true):TT.ok P (fun T=>lk T tab):=by
 intro T i hi;have hm:=zo2 hi;refine zpp (P:=P) ?_ ?_
 ·obtain⟨n,hn,he⟩:=List.getElem_of_mem hm;have h1:=congrArg (fun l=>l[n]?) h;simp_all
 ·grind
theorem zg {n:Int} (h : -9223372036854775808≤n∧n≤9223372036854775807):IntKind.i64.wrap n=n:=by
 rw [IntKind.wrap_i64];omega
end Go.QL
namespace Go.QL
open Go Go.RowKit
def rs1 (σ:Sg):SV→Bool
 | .d _|.se .. | .j=>true
 | .o c _ _|.oe c _ _ _|.os c _ _ _=>(lk c σ).isSome
 | .b id _|.h id|.sb id _ _ _=>(lk id σ).isSome
 | .f ..=>false
def rsSV (σ:Sg):SV→Bool
 | .f _ a b=>a.all (rs1 σ) && b.all (rs1 σ)
 | s=>rs1 σ s
def zec (σ:Sg):AV→Bool
 | .x s=>rsSV σ s
 | .a cs=>cs.all (rsSV σ)
 | _=>false
def zeR (σ:Sg):AV→Bool
 | .t xs=>xs.all (zec σ)
 | x=>zec σ x
def rsAV (σ:Sg):AV→Bool
 | .g _ x=>zeR σ x
 | x=>zeR σ x
def rsFr (σ:Sg):Fr→Bool
 | []=>true
 | (_,v)::r=>rsAV σ v && rsFr σ r
def rsKv (σ:Sg):List (Value × AV)→Bool
 | []=>true
 | (_,x)::r=>zec σ x && rsKv σ r
def rsO2 (σ:Sg):Ob2→Bool
 | .map (.oone _) kvs=>rsKv σ kvs
 | .map (.ost _) kvs=>rsKv σ kvs
 | .mapIter (some m) _ _ _=>(lk m σ).isSome
 | .loop _ _ _ _ _ _ fr dfr=>rsFr σ fr && (lk dfr σ).isSome
 | _=>true
def rsOb (σ:Sg):Ob→Bool
 | .box cs=>cs.all (rsSV σ)
 | .chain ..=>true
 | .x o=>rsO2 σ o
def rsSg (σ:Sg):Sg→Bool
 | []=>true
 | (_,o)::r=>rsOb σ o && rsSg σ r
def Sup {α : Type} (l' l:List (Nat × α)):Prop:=∀ t v,lk t l'=some v→lk t l=some v
def SubF (fr:Fr):Fr→Prop
 | []=>True
 | (t,v)::r=>lk t fr=some v∧SubF fr r
def SubS (σ:Sg):Sg→Prop
 | []=>True
 | (i,o)::r=>lk i σ=some o∧SubS σ r
theorem ze8 {fr:Fr}:∀ {fr':Fr},SubF fr fr'→∀ t v,lk t fr'=some v→lk t fr=some v
 | [],_,t,v,h=>by cases h
 | (s,x)::r,hs,t,v,h=>by
  rw [zr] at h;by_cases e:s=t
  ·subst e;rw [if_pos rfl] at h;cases h;exact hs.1
  ·rw [if_neg e] at h;exact ze8 hs.2 t v h
theorem za9 {σ:Sg}:∀ {σ':Sg},SubS σ σ'→∀ t v,lk t σ'=some v→lk t σ=some v
 | [],_,t,v,h=>by cases h
 | (s,x)::r,hs,t,v,h=>by
  rw [zr] at h;by_cases e:s=t
  ·subst e;rw [if_pos rfl] at h;cases h;exact hs.1
  ·rw [if_neg e] at h;exact za9 hs.2 t v h
section
variable {P:Program} {Γ:Cx} {fr fr':Fr} {σ σ':Sg} {g:Gh} {a:Act} {w:World} {Q:Exit→Fr→Sg→Prop}
theorem zdx {s:SV} (hs:Sup σ' σ) {c:Nat} (h:(lk c σ').isSome=true) {ob:Ob} (hl:lk c σ=some ob):lk c σ'=some ob:=by
 obtain⟨ob',h'⟩:=Option.isSome_iff_exists.1 h;have:=hs _ _ h';simp_all
theorem za3 (hs:Sup σ' σ) {s:SV} (h:rs1 σ' s=true) {v:Value} (hv:SR σ g w s v):SR σ' g w s v:=by
 cases hv with
 | d x v h=>exact .d x v h
 | old c st n e sz st' xs v hl hlt h1=>exact .old c st n e sz st' xs v (zdx (s:=.j) hs h hl) hlt h1
 | o c st n e sz xs a cap hl hn hμ=>exact .o c st n e sz xs a cap (zdx (s:=.j) hs h hl) hn hμ
 | b id off cs k hl hμ=>exact .b id off cs k (zdx (s:=.j) hs h hl) hμ
 | se e off k l vs h1 h2 h3=>exact .se e off k l vs h1 h2 h3
 | oeold c st i off e sz st' xs v hl hlt h1=>exact .oeold c st i off e sz st' xs v (zdx (s:=.j) hs h hl) hlt h1
 | osold c st i off e sz st' xs v hl hlt h1=>exact .osold c st i off e sz st' xs v (zdx (s:=.j) hs h hl) hlt h1
 | oe c st i off e sz xs k cap hl hμ=>exact .oe c st i off e sz xs k cap (zdx (s:=.j) hs h hl) hμ
 | os c st i off e sz xs k cap hl hμ hn=>exact .os c st i off e sz xs k cap (zdx (s:=.j) hs h hl) hμ hn
 | f=>cases h
 | j v h1=>exact .j v h1
 | h id o k hl hμ=>exact .h id o k (zdx (s:=.j) hs h hl) hμ
 | sb id off n cap cs k hl hμ hn hc=>exact .sb id off n cap cs k (zdx (s:=.j) hs h hl) hμ hn hc
theorem zhn (hs:Sup σ' σ) {s:SV} (h:rsSV σ' s=true) {v:Value} (hv:SR σ g w s v):SR σ' g w s v:=by
 cases s with
 | f fn a b=>
  simp only [rsSV,Bool.and_eq_true,List.all_eq_true] at h;cases hv with
  | f _ _ _ v1 v2 h1 h2 r1 r2=>
   exact .f fn a b v1 v2 h1 h2 (fun i s v hi hv=>za3 hs (h.1 s (List.mem_of_getElem? hi)) (r1 i s v hi hv)) (fun i s v hi hv=>za3 hs (h.2 s (List.mem_of_getElem? hi)) (r2 i s v hi hv))
 | d x=>exact za3 hs (s:=.d x) h hv
 | o c st n=>exact za3 hs (s:=.o c st n) h hv
 | b id off=>exact za3 hs (s:=.b id off) h hv
 | se e off=>exact za3 hs (s:=.se e off) h hv
 | oe c st i off=>exact za3 hs (s:=.oe c st i off) h hv
 | os c st i off=>exact za3 hs (s:=.os c st i off) h hv
 | j=>exact za3 hs (s:=.j) h hv
 | h id=>exact za3 hs (s:=.h id) h hv
 | sb id off n cap=>exact za3 hs (s:=.sb id off n cap) h hv
theorem zfo (hs:Sup σ' σ) {x:AV} (h:zec σ' x=true) {v:Value} (hv:VR1 σ g w x v):VR1 σ' g w x v:=by
 cases x with
 | x s=>exact zhn hs h hv
 | a cs=>
  obtain⟨vs,rfl,hl,hr⟩:=hv;simp only [zec,List.all_eq_true] at h;exact⟨vs,rfl,hl,fun i s u hi hu=>zhn hs (h s (List.mem_of_getElem? hi)) (hr i s u hi hu)⟩
 | _=>exact hv.elim
theorem zfn (hs:Sup σ' σ) {x:AV} (h:zeR σ' x=true) {v:Value} (hv:VR2 σ g w x v):VR2 σ' g w x v:=by
 cases x with
 | t xs=>
  obtain⟨vs,rfl,hl,hr⟩:=hv;simp only [zeR,List.all_eq_true] at h;exact⟨vs,rfl,hl,fun i s u hi hu=>zfo hs (h s (List.mem_of_getElem? hi)) (hr i s u hi hu)⟩
 | x s=>exact zfo (x:=.x s) hs h hv
 | a cs=>exact zfo (x:=.a cs) hs h hv
 | g _ _=>exact hv.elim
theorem zeQ (hs:Sup σ' σ) {x:AV} (h:rsAV σ' x=true) {v:Value} (hv:VR σ g w x v):VR σ' g w x v:=by
 cases x with
 | g c y=>exact⟨fun hc=>zfn hs h (hv.1 hc),hv.2⟩
 | x s=>exact zfn (x:=.x s) hs h hv
 | a cs=>exact zfn (x:=.a cs) hs h hv
 | t xs=>exact zfn (x:=.t xs) hs h hv
theorem zaO:∀ {fr:Fr},rsFr σ fr=true→∀ t v,lk t fr=some v→rsAV σ v=true
 | [],_,t,v,h=>by cases h
 | (s,x)::r,hs,t,v,h=>by
  simp only [rsFr,Bool.and_eq_true] at hs;rw [zr] at h;by_cases e:s=t
  ·simp_all
  ·rw [if_neg e] at h;exact zaO hs.2 t v h
theorem za2:∀ {τ : Sg},rsSg σ τ = true→∀ t v,lk t τ = some v→rsOb σ v=true
 | [],_,t,v,h=>by cases h
 | (s,x)::r,hs,t,v,h=>by
  simp only [rsSg,Bool.and_eq_true] at hs;rw [zr] at h;by_cases e:s=t
  ·simp_all
  ·rw [if_neg e] at h;exact za2 hs.2 t v h
theorem znr:∀ {kvs:List (Value × AV)},rsKv σ kvs=true→∀ (i:Nat) (k:Value) (x:AV),kvs[i]?=some (k,x)→zec σ x=true
 | [],_,i,k,x,h=>by simp at h
 | (k0,x0)::r,hs,i,k,x,h=>by
  simp only [rsKv,Bool.and_eq_true] at hs;cases i with
  | zero=>cases h;exact hs.1
  | succ i=>exact znr hs.2 i k x h
theorem zj3 {σ:Sg} {s:SV} (h:datS s=true):rsSV σ s=true:=by cases s <;> first|rfl|cases h
theorem zeb {σ:Sg} {x:AV} (h:zkZ x=true):zec σ x=true:=by
 cases x with
 | x s=>exact zj3 h
 | a cs=>
  simp only [zkZ,zec,List.all_eq_true] at *;exact fun s hs=>zj3 (h s hs)
 | _=>cases h
theorem rsMap {σ':Sg} {kt:KT} {kvs:List (Value × AV)} (h:rsO2 σ' (.map kt kvs)=true) (hh:∀ (i:Nat) (k:Value) (x:AV),kvs[i]?=some (k,x)→kt.holds x=true) (i:Nat) (k:Value) (x:AV) (hi:kvs[i]?=some (k,x)):zec σ' x=true:=by
 have h5:=hh i k x hi;cases kt with
 | one _=>exact zeb h5
 | st _=>exact zeb h5
 | oone _=>exact znr h i k x hi
 | ost _=>exact znr h i k x hi
theorem zpw (hs:Sup σ' σ) {b:Nat} {o:Ob2} (h:rsO2 σ' o=true) (ho:O2 σ g w b o):O2 σ' g w b o:=by
 cases o with
 | map kt kvs=>
  obtain⟨es,h1,h2,h3,h4⟩:=ho;exact⟨es,h1,h2,fun i k x hi=>let ⟨e,a,c,d,f⟩:=h3 i k x hi;⟨e,a,c,d,zfo hs (rsMap h h4.2.2 i k x hi) f⟩,h4⟩
 | mapIter m since seen last=>
  cases m with
  | some m=>obtain⟨mb,h1,h2⟩:=ho;exact⟨mb,h1,za3 hs (s:=.h m) h h2⟩
  | none=>exact ho
 | strIter s pos=>exact ho
 | loop st pend params assign body nt fr dfr=>
  simp only [rsO2,Bool.and_eq_true] at h;obtain⟨f,tmps,d,h1,h2,h3,h4⟩:=ho;exact⟨f,tmps,d,h1,h2,fun t v ht=>⟨(h3 t v ht).1,zeQ hs (zaO h.1 t v ht) (h3 t v ht).2⟩,za3 hs (s:=.h dfr) h.2 h4⟩
 | dfr=>exact ho
theorem Hp.weaken {w0:World} {K0:Bs} (h:Hp w0 K0 σ g w) (hs:Sup σ' σ) (ho:rsSg σ' σ'=true):Hp w0 K0 σ' g w:=by
 refine⟨h.kept,h.flt,h.ext,h.old,h.val,fun id ob hid=>?_,fun i b hi hb=>h.own i b ?_ hb,fun i j b hi hj=>h.inj i j b ?_ ?_⟩
 ·have hO:=h.obs id ob (hs _ _ hid);cases ob with
  | box cs=>
   have hb:=za2 ho _ _ hid;simp only [rsOb,List.all_eq_true] at hb;obtain⟨b,vs,T,h1,h2,h3,h4,h5,h6⟩:=hO;exact⟨b,vs,T,h1,h2,h3,h4,fun i s hi=>let ⟨v,a,c⟩:=h5 i s hi;⟨v,a,zhn hs (hb s (List.mem_of_getElem? hi)) c⟩,h6⟩
  | chain e sz st xs=>exact hO
  | x o=>obtain⟨b,h1,h2,h3,h4⟩:=hO;exact⟨b,h1,h2,zpw hs (za2 ho _ _ hid) h3,h4⟩
 ·obtain⟨x,hx⟩:=Option.isSome_iff_exists.1 hi;rw [hs _ _ hx];rfl
 ·obtain⟨x,hx⟩:=Option.isSome_iff_exists.1 hi;rw [hs _ _ hx];rfl
 ·obtain⟨x,hx⟩:=Option.isSome_iff_exists.1 hj;rw [hs _ _ hx];rfl
def zbC (ids:List Nat) (σ:Sg):Bool:=ids.all fun i=>(lk i σ).isSome
theorem zbJ {ids:List Nat} (h:zbC ids σ'=true) {i:Nat} (hi:i ∈ ids):(lk i σ').isSome=true:=by
 unfold zbC at h;rw [List.all_eq_true] at h;exact h i hi
theorem zai {ids:List Nat} (hs:Sup σ' σ) (hi:zbC ids σ'=true) {s:SV} {v:Value} (hv:SR σ g w s v):InI ids s→SR σ' g w s v:=by
 induction hv with
 | d x v h=>exact fun _=>.d x v h
 | old c st n e sz st' xs v hl hlt h1=>intro h;cases h with|o _ _ _ h=>exact .old c st n e sz st' xs v (zdx (s:=.j) hs (zbJ hi h) hl) hlt h1
 | o c st n e sz xs a cap hl hn hμ=>intro h;cases h with|o _ _ _ h=>exact .o c st n e sz xs a cap (zdx (s:=.j) hs (zbJ hi h) hl) hn hμ
 | b id off cs k hl hμ=>intro h;cases h with|b _ _ h=>exact .b id off cs k (zdx (s:=.j) hs (zbJ hi h) hl) hμ
 | se e off k l vs h1 h2 h3=>exact fun _=>.se e off k l vs h1 h2 h3
 | oeold c st i off e sz st' xs v hl hlt h1=>intro h;cases h with|oe _ _ _ _ h=>exact .oeold c st i off e sz st' xs v (zdx (s:=.j) hs (zbJ hi h) hl) hlt h1
 | osold c st i off e sz st' xs v hl hlt h1=>intro h;cases h with|os _ _ _ _ h=>exact .osold c st i off e sz st' xs v (zdx (s:=.j) hs (zbJ hi h) hl) hlt h1
 | oe c st i off e sz xs k cap hl hμ=>intro h;cases h with|oe _ _ _ _ h=>exact .oe c st i off e sz xs k cap (zdx (s:=.j) hs (zbJ hi h) hl) hμ
 | os c st i off e sz xs k cap hl hμ hn=>intro h;cases h with|os _ _ _ _ h=>exact .os c st i off e sz xs k cap (zdx (s:=.j) hs (zbJ hi h) hl) hμ hn
 | f fn a b v1 v2 h1 h2 _ _ ih1 ih2=>
  intro h;cases h with
  | f _ _ _ k1 k2=>exact .f fn a b v1 v2 h1 h2 (fun i s v hi hv=>ih1 i s v hi hv (k1 s (List.mem_of_getElem? hi))) (fun i s v hi hv=>ih2 i s v hi hv (k2 s (List.mem_of_getElem? hi)))
 | j v h1=>exact fun _=>.j v h1
 | h id o k hl hμ=>intro h;cases h with|h _ h=>exact .h id o k (zdx (s:=.j) hs (zbJ hi h) hl) hμ
 | sb id off n cap cs k hl hμ hn hc=>intro h;cases h with|sb _ _ _ _ h=>exact .sb id off n cap cs k (zdx (s:=.j) hs (zbJ hi h) hl) hμ hn hc
theorem Rel.weaken (h:Rel Γ fr σ g a w) (hf:Sup fr' fr) (hs:Sup σ' σ) (hr:(rsFr σ' fr' && rsSg σ' σ')=true) (hB:zbC Γ.ids σ'=true) (hD:ziL Γ.dfs σ σ'=true):Rel Γ fr' σ' g a w:=by
 simp only [Bool.and_eq_true] at hr;exact⟨h.hp.weaken hs hr.2,fun t v ht=>⟨(h.fr t v (hf t v ht)).1,zeQ hs (zaO hr.1 t v ht) (h.fr t v (hf t v ht)).2⟩,h.size,h.defers.map (fun i d hi hl hμ=>⟨zdx (s:=.j) hs (zfE hD hi hl) hl,hμ⟩),fun s v hb=>⟨zai hs hB (h.base s v hb).1 (h.base s v hb).2,(h.base s v hb).2⟩⟩
theorem Imp.forget {fr':Fr} {σ':Sg} (hf:SubF fr fr') (hs:SubS σ σ') (hr:(rsFr σ' fr' && rsSg σ' σ')=true) (hB:zbC Γ.ids σ'=true:=by rfl) (hD:ziL Γ.dfs σ σ'=true:=by rfl):Imp Γ fr σ fr' σ':=
 fun g _ _ hrel=>⟨g,hrel.weaken (ze8 hf) (za9 hs) hr hB hD⟩
theorem Imp.trans {fr1 fr2 fr3:Fr} {σ1 σ2 σ3:Sg} (h:Imp Γ fr1 σ1 fr2 σ2) (k:Imp Γ fr2 σ2 fr3 σ3):Imp Γ fr1 σ1 fr3 σ3:=
 fun g a w hr=>let ⟨g',hr'⟩:=h g a w hr;k g' a w hr'
def FzOK (c sz st:Nat) (xs:List (List PV)) (v v':AV):Prop:=
 v=v'∨∃ n,v=.x (.o c st n)∧n≤xs.length∧v'=.x (.d (.s sz (xs.take n)))
def FzF (c sz st:Nat) (xs:List (List PV)) (fr:Fr):Fr→Prop
 | []=>True
 | (t,v')::r=>(∃ v,lk t fr=some v∧FzOK c sz st xs v v')∧FzF c sz st xs fr r
theorem zm7 {c sz st:Nat} {xs:List (List PV)}:∀ {fr':Fr},FzF c sz st xs fr fr'→∀ t v',lk t fr'=some v'→∃ v,lk t fr=some v∧FzOK c sz st xs v v'
 | [],_,t,v,h=>by cases h
 | (s,x)::r,hs,t,v,h=>by
  rw [zr] at h;by_cases e:s=t
  ·subst e;rw [if_pos rfl] at h;cases h;exact hs.1
  ·rw [if_neg e] at h;exact zm7 hs.2 t v h
theorem Imp.freeze {fr':Fr} {σ':Sg} (c:Nat) {e sz st:Nat} {xs:List (List PV)} (hc:lk c σ=some (.chain e sz st xs)) (hf:FzF c sz st xs fr fr') (hs:SubS σ σ') (hn:lk c σ'=none)
  (hr:(rsFr σ' fr' && rsSg σ' σ')=true) (hB:zbC Γ.ids σ'=true:=by rfl) (hD:ziL Γ.dfs σ σ'=true:=by rfl):Imp Γ fr σ fr' σ':=by
 intro g a w hrel;simp only [Bool.and_eq_true] at hr;have hs:=za9 hs;have hw:=hrel.hp.weaken hs hr.2;let K':Nat→Nat→Prop:=fun b o=>g.K b o∨(blk (g.μ c)=some b∧b < w.heap.size)
 have hO:=hrel.hp.obs _ _ hc;have hext:Ext g.K w K' w:=⟨fun _ _ h=>.inl h,fun _ _ _=>rfl⟩;have hcompat:Compat σ' g σ' ⟨K',g.μ⟩:=⟨fun _ cs h=>⟨rfl,cs,h⟩,fun _ _ _ _ xs h=>.inr ⟨rfl,xs,h,rfl⟩,fun _ o h=>⟨rfl,o,h,rfl⟩⟩;have hkeep:∀ s u,SR σ' g w s u→SR σ' ⟨K',g.μ⟩ w s u:=fun s u h=>h.keep hcompat hext
 have hap:∀ i,(lk i σ').isSome→∀ b,blk (g.μ i)=some b→blk (g.μ c)≠some b:=by
  intro i hi b hb hb';obtain⟨ob,hob⟩:=Option.isSome_iff_exists.1 hi;have:=hrel.hp.inj i c b (by rw [hs _ _ hob];rfl) (by rw [hc];rfl) hb hb';simp_all
 refine⟨⟨K',g.μ⟩,⟨⟨hw.kept,hw.flt,hw.ext.trans hext,?_,?_,?_,hw.own,hw.inj⟩,?_,hrel.size,hrel.defers.map (fun i d hi hl hμ=>⟨zdx (s:=.j) hs (zfE hD hi hl) hl,hμ⟩),fun s v hb=>⟨hkeep _ _ (zai hs hB (hrel.base s v hb).1 (hrel.base s v hb).2),(hrel.base s v hb).2⟩⟩⟩
 ·intro b o hb hk;rcases hk with hk|⟨hk,_⟩
  ·exact hrel.hp.old b o hb hk
  ·exact absurd hb (hrel.hp.own c b (by rw [hc];rfl) hk)
 ·intro b o hk;rcases hk with hk|⟨_,hk⟩
  ·exact hrel.hp.val b o hk
  ·exact hk
 ·intro id ob hid;have hO':=hw.obs id ob hid;refine hO'.keep hkeep hext rfl (fun _ _=>rfl) (fun b hb o hk=>?_)
  rcases hk with hk|⟨hk,_⟩
  ·exact hw.notK hid hb o hk
  ·grind
 ·intro t v' ht;obtain⟨v,hv,hfz⟩:=zm7 hf t v' ht;obtain⟨hlt,hvr⟩:=hrel.fr t v hv;refine⟨hlt,?_⟩
  rcases hfz with rfl|⟨n,rfl,hn',rfl⟩
  ·exact (zeQ hs (zaO hr.1 t v ht) hvr).keep hkeep
  ·have h1:zbq σ (.o c st n)=some (.d (.s sz (xs.take n))):=by simp [zbq,hc,hn']
   have h2:=zfN hrel.hp h1 (show SR σ g w (.o c st n) _ from hvr) (μ:=g.μ);exact freeze_one hrel.hp hc hn' hvr
where
 freeze_one {w0:World} {K0:Bs} {a:Act} {t:Nat} {c e sz st n:Nat} {xs:List (List PV)} {σ σ':Sg} {g:Gh} {w:World} (hp:Hp w0 K0 σ g w) (hl:lk c σ=some (.chain e sz st xs)) (hn:n≤xs.length)
   (hv:VR σ g w (.x (.o c st n)) (a.tmps.getD t undef)):VR σ' ⟨fun b o=>g.K b o∨(blk (g.μ c)=some b∧b < w.heap.size),g.μ⟩ w (.x (.d (.s sz (xs.take n)))) (a.tmps.getD t undef):=by
  generalize a.tmps.getD t undef=v at hv;have hv:SR σ g w (.o c st n) v:=hv;show SR σ' _ w _ v
  have hext:Ext g.K w (fun b o=>g.K b o∨(blk (g.μ c)=some b∧b < w.heap.size)) w:=⟨fun _ _ h=>.inl h,fun _ _ _=>rfl⟩;obtain⟨vs,hown,⟨a0,cap0,hμ0,hcap0,hmax0⟩,hsz,hpr,_⟩:=hp.obs _ _ hl;cases hv with
  | old _ _ _ e1 sz1 st1 xs1 v hl1 hlt1 _=>rw [hl] at hl1;cases hl1;omega
  | o _ _ _ e1 sz1 xs1 a cap hl1 hn1 hμ1=>
   rw [hl] at hl1;cases hl1;have hmax1:cap≤maxLen:=by rw [hμ1] at hμ0;cases hμ0;exact hmax0
   have hcap1:xs.length≤cap:=by rw [hμ1] at hμ0;cases hμ0;exact hcap0
   have htl:(xs.take n).length=n:=by simp;omega
   rcases hown.2 with ⟨hnil,hz⟩|⟨gb,cap',cur,hv',hB,hg,_⟩
   ·have hx:xs=[]:=List.eq_nil_of_length_eq_zero hz;subst hx;have hn0:n=0:=by simpa using hn
    subst hn0;have:=PR.s (K:=fun b o=>g.K b o∨(blk (g.μ c)=some b∧b < w.heap.size)) (w:=w) sz ([]:List (List PV)) a cap 0 0 (fun _ _=>undef) (Nat.zero_le _) hmax1 (by simp) (fun h=>absurd rfl h) (fun i e hi=>by simp at hi) (fun i e hi=>by simp at hi) (fun i e hi=>by simp at hi);exact .d _ _ (by simpa using this)
   ·rw [hμ1] at hv';cases hv';have hbl:blk (g.μ c)=some gb:=by rw [hμ1];rfl
    have hlt:gb < w.heap.size:=(hp.obs _ _ hl).blk_lt hbl |>.2
    have hcell:=hown.cells (g:=gb) (by rw [hμ1];rfl);have:=PR.s (K:=fun b o=>g.K b o∨(blk (g.μ c)=some b∧b < w.heap.size)) (w:=w) sz (xs.take n) (some ⟨gb,0,none⟩) cap gb 0 (fun i j=>vs.getD (i * sz+j) undef) (by rw [htl];omega) hmax1 (fun x hx=>hsz x (List.mem_of_mem_take hx)) (fun _=>rfl)
     (fun i e hi j hj=>.inr ⟨hbl,hlt⟩) (fun i e hi j hj=>by
      rw [List.getElem?_take] at hi;by_cases hin:i < n
      ·rw [if_pos hin] at hi;obtain⟨u,hu,_⟩:=hpr i e hi j _ (List.getElem?_eq_getElem hj);have:=hcell _ _ hu;rw [zad] at this;rw [this];simp [hu]
      ·rw [if_neg hin] at hi;cases hi) (fun i e hi j p hp'=>by
      rw [List.getElem?_take] at hi;by_cases hin:i < n
      ·rw [if_pos hin] at hi;obtain⟨u,hu,hpu⟩:=hpr i e hi j p hp';have e2:vs.getD (i * sz+j) undef=u:=by simp [hu]
       rw [e2];exact hpu.mono hext
      ·rw [if_neg hin] at hi;cases hi)
    rw [htl] at this;exact .d _ _ this
end
end Go.QL
namespace Go.QL
open Go Go.RowKit
abbrev nilS:SV:=.d (.v (.slice none 0 0))
def NlSV (c:Nat) (s s':SV):Prop:=s=s'∨(s=nilS∧s'=.o c 0 0)
def NlAV (c:Nat) (v v':AV):Prop:=v=v'∨(v=.x nilS∧v'=.x (.o c 0 0))
def NlF (c:Nat) (fr:Fr):Fr→Prop
 | []=>True
 | (t,v')::r=>(∃ v,lk t fr=some v∧NlAV c v v')∧NlF c fr r
def zjO (c:Nat):List SV→List SV→Prop
 | [],[]=>True
 | s::r,s'::r'=>NlSV c s s'∧zjO c r r'
 | _,_=>False
def NlOb (c:Nat) (o o':Ob):Prop:=o=o'∨∃ cs cs',o=.box cs∧o'=.box cs'∧zjO c cs cs'
def NlS (c:Nat) (σ:Sg):Sg→Prop
 | []=>True
 | (i,o')::r=>(∃ o,lk i σ=some o∧NlOb c o o')∧NlS c σ r
theorem zpd {c:Nat} {fr:Fr}:∀ {fr':Fr},NlF c fr fr'→∀ t v',lk t fr'=some v'→∃ v,lk t fr=some v∧NlAV c v v'
 | [],_,t,v,h=>by cases h
 | (s,x)::r,hs,t,v,h=>by
  rw [zr] at h;by_cases e:s=t
  ·subst e;rw [if_pos rfl] at h;cases h;exact hs.1
  ·rw [if_neg e] at h;exact zpd hs.2 t v h
theorem zgw {c:Nat} {σ:Sg}:∀ {σ':Sg},NlS c σ σ'→∀ t v',lk t σ'=some v'→∃ v,lk t σ=some v∧NlOb c v v'
 | [],_,t,v,h=>by cases h
 | (s,x)::r,hs,t,v,h=>by
  rw [zr] at h;by_cases e:s=t
  ·subst e;rw [if_pos rfl] at h;cases h;exact hs.1
  ·rw [if_neg e] at h;exact zgw hs.2 t v h
theorem zgx {c:Nat}:∀ {cs cs':List SV},zjO c cs cs'→cs.length=cs'.length∧∀ (i:Nat) (s':SV),cs'[i]?=some s'→∃ s,cs[i]?=some s∧NlSV c s s'
 | [],[],_=>⟨rfl,fun i s h=>by simp at h⟩
 | s::r,s'::r',h=>by
  obtain⟨h1,h2⟩:=zgx h.2;refine⟨by simp [h1],fun i x hx=>?_⟩
  cases i with
  | zero=>cases hx;exact⟨s,rfl,h.1⟩
  | succ i=>exact h2 i x hx
 | [],_::_,h=>h.elim
 | _::_,[],h=>h.elim
section
variable {P:Program} {Γ:Cx} {fr fr':Fr} {σ σ':Sg} {g:Gh} {a:Act} {w:World} {Q:Exit→Fr→Sg→Prop}
theorem Imp.nil {fr':Fr} {σ':Sg} (c e sz:Nat) (hc:lk c σ=none) (hf:NlF c fr fr') (hs:NlS c σ σ') (hn:lk c σ'=none)
  (hr:(rsFr ((c,.chain e sz 0 []) :: σ') fr' && rsSg ((c,.chain e sz 0 []) :: σ') σ')=true) (hB:zbC Γ.ids σ'=true:=by rfl) (hD:ziL Γ.dfs σ σ'=true:=by rfl):Imp Γ fr σ fr' ((c,.chain e sz 0 []) :: σ'):=by
 intro g a w hrel;simp only [Bool.and_eq_true] at hr;let g':Gh:=⟨g.K,upd g.μ c (.slice none 0 0)⟩
 have hbox:∀ i cs,lk i σ=some (.box cs)→(lk i σ').isSome→∃ cs',lk i σ'=some (.box cs'):=by
  intro i cs hi hi';obtain⟨o',ho'⟩:=Option.isSome_iff_exists.1 hi';obtain⟨o,ho,hnl⟩:=zgw hs i o' ho';rw [hi] at ho;cases ho;rcases hnl with rfl|⟨cs1,cs',h1,h2,_⟩
  ·exact⟨cs,ho'⟩
  ·simp_all
 have hch:∀ i e0 sz0 st xs,lk i σ=some (.chain e0 sz0 st xs)→(lk i σ').isSome→lk i σ'=some (.chain e0 sz0 st xs):=by
  intro i e0 sz0 st xs hi hi';obtain⟨o',ho'⟩:=Option.isSome_iff_exists.1 hi';obtain⟨o,ho,hnl⟩:=zgw hs i o' ho';rw [hi] at ho;cases ho;rcases hnl with rfl|⟨cs1,cs',h1,_⟩
  ·exact ho'
  ·cases h1
 have hoth:∀ i o,lk i σ=some (.x o)→(lk i σ').isSome→lk i σ'=some (.x o):=by
  intro i o hi hi';obtain⟨o',ho'⟩:=Option.isSome_iff_exists.1 hi';obtain⟨o1,ho,hnl⟩:=zgw hs i o' ho';rw [hi] at ho;cases ho;rcases hnl with rfl|⟨cs1,cs',h1,_⟩
  ·exact ho'
  ·cases h1
 have hlk:∀ i,i≠c→lk i ((c,.chain e sz 0 []) :: σ')=lk i σ':=fun i hi=>by rw [zr,if_neg (fun h=>hi h.symm)]
 have hic:∀ i,(lk i σ).isSome→i≠c:=fun i hi e=>by rw [e,hc] at hi;cases hi
 have sr1:∀ s v,rs1 ((c,.chain e sz 0 []) :: σ') s=true→SR σ g w s v→SR ((c,.chain e sz 0 []) :: σ') g' w s v:=by
  intro s v hrs hv;have up:∀ i,(lk i σ).isSome→(lk i ((c,.chain e sz 0 []) :: σ')).isSome=true→(lk i σ').isSome∧g'.μ i=g.μ i:=fun i hi hi'=>by
   have:=hic i hi;rw [hlk i this] at hi';exact⟨hi',zo _ _ this⟩
  cases hv with
  | d x v h=>exact .d x v h
  | old c0 st n e0 sz0 st' xs v hl hlt h1=>
   have hs0:(lk c0 σ).isSome:=by rw [hl];rfl
   obtain⟨h2,h3⟩:=up c0 hs0 hrs;exact .old c0 st n e0 sz0 st' xs v (by rw [hlk _ (hic _ hs0)];exact hch _ _ _ _ _ hl h2) hlt h1
  | o c0 st n e0 sz0 xs a cap hl hn hμ=>
   have hs0:(lk c0 σ).isSome:=by rw [hl];rfl
   obtain⟨h2,h3⟩:=up c0 hs0 hrs;exact .o c0 st n e0 sz0 xs a cap (by rw [hlk _ (hic _ hs0)];exact hch _ _ _ _ _ hl h2) hn (by rw [h3,hμ])
  | b id off cs k hl hμ=>
   have hs0:(lk id σ).isSome:=by rw [hl];rfl
   obtain⟨h2,h3⟩:=up id hs0 hrs;obtain⟨cs',hcs'⟩:=hbox _ _ hl h2;exact .b id off cs' k (by rw [hlk _ (hic _ hs0)];exact hcs') (by rw [h3,hμ])
  | se e off k l vs h1 h2 h3=>exact .se e off k l vs h1 h2 h3
  | oeold c0 st i off e0 sz0 st' xs v hl hlt h1=>
   have hs0:(lk c0 σ).isSome:=by rw [hl];rfl
   obtain⟨h2,h3⟩:=up c0 hs0 hrs;exact .oeold c0 st i off e0 sz0 st' xs v (by rw [hlk _ (hic _ hs0)];exact hch _ _ _ _ _ hl h2) hlt h1
  | osold c0 st i off e0 sz0 st' xs v hl hlt h1=>
   have hs0:(lk c0 σ).isSome:=by rw [hl];rfl
   obtain⟨h2,h3⟩:=up c0 hs0 hrs;exact .osold c0 st i off e0 sz0 st' xs v (by rw [hlk _ (hic _ hs0)];exact hch _ _ _ _ _ hl h2) hlt h1
  | oe c0 st i off e0 sz0 xs k cap hl hμ=>
   have hs0:(lk c0 σ).isSome:=by rw [hl];rfl
   obtain⟨h2,h3⟩:=up c0 hs0 hrs;exact .oe c0 st i off e0 sz0 xs k cap (by rw [hlk _ (hic _ hs0)];exact hch _ _ _ _ _ hl h2) (by rw [h3,hμ])
  | os c0 st i off e0 sz0 xs k cap hl hμ hn=>
   have hs0:(lk c0 σ).isSome:=by rw [hl];rfl
   obtain⟨h2,h3⟩:=up c0 hs0 hrs;exact .os c0 st i off e0 sz0 xs k cap (by rw [hlk _ (hic _ hs0)];exact hch _ _ _ _ _ hl h2) (by rw [h3,hμ]) hn
  | f=>cases hrs
  | j v h1=>exact .j v h1
  | h id o k hl hμ=>
   have hs0:(lk id σ).isSome:=by rw [hl];rfl
   obtain⟨h2,h3⟩:=up id hs0 hrs;exact .h id o k (by rw [hlk _ (hic _ hs0)];exact hoth _ _ hl h2) (by rw [h3,hμ])
  | sb id off n cap cs k hl hμ hn hcc=>
   have hs0:(lk id σ).isSome:=by rw [hl];rfl
   obtain⟨h2,h3⟩:=up id hs0 hrs;obtain⟨cs',hcs'⟩:=hbox _ _ hl h2;exact .sb id off n cap cs' k (by rw [hlk _ (hic _ hs0)];exact hcs') (by rw [h3,hμ]) hn hcc
 have sr:∀ s v,rsSV ((c,.chain e sz 0 []) :: σ') s=true→SR σ g w s v→SR ((c,.chain e sz 0 []) :: σ') g' w s v:=by
  intro s v hrs hv;cases s with
  | f fn a b=>
   simp only [rsSV,Bool.and_eq_true,List.all_eq_true] at hrs;cases hv with
   | f _ _ _ v1 v2 h1 h2 r1 r2=>
    exact .f fn a b v1 v2 h1 h2 (fun i s v hi hv=>sr1 _ _ (hrs.1 s (List.mem_of_getElem? hi)) (r1 i s v hi hv)) (fun i s v hi hv=>sr1 _ _ (hrs.2 s (List.mem_of_getElem? hi)) (r2 i s v hi hv))
  | d x=>exact sr1 _ _ hrs hv
  | o c st n=>exact sr1 _ _ hrs hv
  | b id off=>exact sr1 _ _ hrs hv
  | se e off=>exact sr1 _ _ hrs hv
  | oe c st i off=>exact sr1 _ _ hrs hv
  | os c st i off=>exact sr1 _ _ hrs hv
  | j=>exact sr1 _ _ hrs hv
  | h id=>exact sr1 _ _ hrs hv
  | sb id off n cap=>exact sr1 _ _ hrs hv
 have hself:lk c ((c,.chain e sz 0 []) :: σ')=some (.chain e sz 0 []):=by rw [zr,if_pos rfl]
 have srnil:∀ v,SR σ g w nilS v→SR ((c,.chain e sz 0 []) :: σ') g' w (.o c 0 0) v:=by
  intro v hv;obtain rfl:v=.slice none 0 0:=by cases hv with|d _ _ h=>cases h;rfl
  exact .o c 0 0 e sz [] none 0 hself (Nat.le_refl _) (zy _ _ _)
 have vr1:∀ x v,zec ((c,.chain e sz 0 []) :: σ') x=true→VR1 σ g w x v→VR1 ((c,.chain e sz 0 []) :: σ') g' w x v:=by
  intro x v hrs hv;cases x with
  | x s=>exact sr _ _ hrs hv
  | a cs=>
   obtain⟨vs,rfl,hl,hr⟩:=hv;simp only [zec,List.all_eq_true] at hrs;exact⟨vs,rfl,hl,fun i s u hi hu=>sr _ _ (hrs s (List.mem_of_getElem? hi)) (hr i s u hi hu)⟩
  | _=>exact hv.elim
 have vr2:∀ x v,zeR ((c,.chain e sz 0 []) :: σ') x=true→VR2 σ g w x v→VR2 ((c,.chain e sz 0 []) :: σ') g' w x v:=by
  intro x v hrs hv;cases x with
  | t xs=>
   obtain⟨vs,rfl,hl,hr⟩:=hv;simp only [zeR,List.all_eq_true] at hrs;exact⟨vs,rfl,hl,fun i s u hi hu=>vr1 _ _ (hrs s (List.mem_of_getElem? hi)) (hr i s u hi hu)⟩
  | x s=>exact vr1 (.x s) _ hrs hv
  | a cs=>exact vr1 (.a cs) _ hrs hv
  | g _ _=>exact hv.elim
 have vr:∀ x v,rsAV ((c,.chain e sz 0 []) :: σ') x=true→VR σ g w x v→VR ((c,.chain e sz 0 []) :: σ') g' w x v:=by
  intro x v hrs hv;cases x with
  | g c0 y=>exact⟨fun hc0=>vr2 _ _ hrs (hv.1 hc0),hv.2⟩
  | x s=>exact vr2 (.x s) _ hrs hv
  | a cs=>exact vr2 (.a cs) _ hrs hv
  | t xs=>exact vr2 (.t xs) _ hrs hv
 have upI:∀ i,(lk i σ).isSome→i ∈ Γ.ids→(lk i σ').isSome∧g'.μ i=g.μ i:=fun i hi hi'=>⟨zbJ hB hi',zo _ _ (hic i hi)⟩
 have srI:∀ s v,SR σ g w s v→InI Γ.ids s→SR ((c,.chain e sz 0 []) :: σ') g' w s v:=by
  intro s v hv;induction hv with
  | d x v h=>exact fun _=>.d x v h
  | old c0 st n e0 sz0 st' xs v hl hlt h1=>
   intro h;cases h with
   | o _ _ _ h=>
    have hs0:(lk c0 σ).isSome:=by rw [hl];rfl
    obtain⟨h2,h3⟩:=upI c0 hs0 h;exact .old c0 st n e0 sz0 st' xs v (by rw [hlk _ (hic _ hs0)];exact hch _ _ _ _ _ hl h2) hlt h1
  | o c0 st n e0 sz0 xs a cap hl hn hμ=>
   intro h;cases h with
   | o _ _ _ h=>
    have hs0:(lk c0 σ).isSome:=by rw [hl];rfl
    obtain⟨h2,h3⟩:=upI c0 hs0 h;exact .o c0 st n e0 sz0 xs a cap (by rw [hlk _ (hic _ hs0)];exact hch _ _ _ _ _ hl h2) hn (by rw [h3,hμ])
  | b id off cs k hl hμ=>
   intro h;cases h with
   | b _ _ h=>
    have hs0:(lk id σ).isSome:=by rw [hl];rfl
    obtain⟨h2,h3⟩:=upI id hs0 h;obtain⟨cs',hcs'⟩:=hbox _ _ hl h2;exact .b id off cs' k (by rw [hlk _ (hic _ hs0)];exact hcs') (by rw [h3,hμ])
  | se e off k l vs h1 h2 h3=>exact fun _=>.se e off k l vs h1 h2 h3
  | oeold c0 st i off e0 sz0 st' xs v hl hlt h1=>
   intro h;cases h with
   | oe _ _ _ _ h=>
    have hs0:(lk c0 σ).isSome:=by rw [hl];rfl
    obtain⟨h2,h3⟩:=upI c0 hs0 h;exact .oeold c0 st i off e0 sz0 st' xs v (by rw [hlk _ (hic _ hs0)];exact hch _ _ _ _ _ hl h2) hlt h1
  | osold c0 st i off e0 sz0 st' xs v hl hlt h1=>
   intro h;cases h with
   | os _ _ _ _ h=>
    have hs0:(lk c0 σ).isSome:=by rw [hl];rfl
    obtain⟨h2,h3⟩:=upI c0 hs0 h;exact .osold c0 st i off e0 sz0 st' xs v (by rw [hlk _ (hic _ hs0)];exact hch _ _ _ _ _ hl h2) hlt h1
  | oe c0 st i off e0 sz0 xs k cap hl hμ=>
   intro h;cases h with
   | oe _ _ _ _ h=>
    have hs0:(lk c0 σ).isSome:=by rw [hl];rfl
    obtain⟨h2,h3⟩:=upI c0 hs0 h;exact .oe c0 st i off e0 sz0 xs k cap (by rw [hlk _ (hic _ hs0)];exact hch _ _ _ _ _ hl h2) (by rw [h3,hμ])
  | os c0 st i off e0 sz0 xs k cap hl hμ hn=>
   intro h;cases h with
   | os _ _ _ _ h=>
    have hs0:(lk c0 σ).isSome:=by rw [hl];rfl
    obtain⟨h2,h3⟩:=upI c0 hs0 h;exact .os c0 st i off e0 sz0 xs k cap (by rw [hlk _ (hic _ hs0)];exact hch _ _ _ _ _ hl h2) (by rw [h3,hμ]) hn
  | f fn a b v1 v2 h1 h2 _ _ ih1 ih2=>
   intro h;cases h with
   | f _ _ _ k1 k2=>exact .f fn a b v1 v2 h1 h2 (fun i s v hi hv=>ih1 i s v hi hv (k1 s (List.mem_of_getElem? hi))) (fun i s v hi hv=>ih2 i s v hi hv (k2 s (List.mem_of_getElem? hi)))
  | j v h1=>exact fun _=>.j v h1
  | h id o k hl hμ=>
   intro h;cases h with
   | h _ h=>
    have hs0:(lk id σ).isSome:=by rw [hl];rfl
    obtain⟨h2,h3⟩:=upI id hs0 h;exact .h id o k (by rw [hlk _ (hic _ hs0)];exact hoth _ _ hl h2) (by rw [h3,hμ])
  | sb id off n cap cs k hl hμ hn hcc=>
   intro h;cases h with
   | sb _ _ _ _ h=>
    have hs0:(lk id σ).isSome:=by rw [hl];rfl
    obtain⟨h2,h3⟩:=upI id hs0 h;obtain⟨cs',hcs'⟩:=hbox _ _ hl h2;exact .sb id off n cap cs' k (by rw [hlk _ (hic _ hs0)];exact hcs') (by rw [h3,hμ]) hn hcc
 refine⟨g',⟨⟨hrel.hp.kept,hrel.hp.flt,hrel.hp.ext,hrel.hp.old,hrel.hp.val,?_,?_,?_⟩,?_,hrel.size,hrel.defers.map (fun i d hi hl hμ=>⟨by rw [hlk _ (hic _ (by rw [hl];rfl))];exact hoth _ _ hl (zfE hD hi hl),by rw [← hμ];exact zo _ _ (hic _ (by rw [hl];rfl))⟩),fun s v hb=>⟨srI _ _ (hrel.base s v hb).1 (hrel.base s v hb).2,(hrel.base s v hb).2⟩⟩⟩
 ·intro id ob hid;rw [zr] at hid;by_cases e1:c=id
  ·subst e1;rw [if_pos rfl] at hid;cases hid;refine⟨[],?_,⟨none,0,zy _ _ _,Nat.le_refl _,by simp [maxLen]⟩,fun x hx=>by simp at hx,fun i x hi=>by simp at hi,fun b hb=>?_⟩
   ·show World.ownsRow w 0 e sz (upd g.μ c (.slice none 0 0) c) 0 []
    rw [zy];exact World.ownsRow_nil w _ _ _
   ·replace hb:blk (upd g.μ c (.slice none 0 0) c)=some b:=hb;rw [zy] at hb;cases hb
  ·rw [if_neg e1] at hid;obtain⟨o,ho,hnl⟩:=zgw hs id ob hid;have hO:=hrel.hp.obs id o ho;have hμ:g'.μ id=g.μ id:=zo _ _ (fun h=>e1 h.symm);cases ob with
   | x o1=>
    have:o=.x o1:=by
     rcases hnl with h|⟨cs1,cs',_,h2,_⟩
     ·exact h
     ·cases h2
    subst this;have hrb:=za2 hr.2 _ _ hid;obtain⟨b,k1,k2,k3,k4⟩:=hO;refine⟨b,by rw [hμ];exact k1,k2,?_,k4⟩
    cases o1 with
    | map kt kvs=>obtain⟨es,h1,h2,h3,h4⟩:=k3;exact⟨es,h1,h2,fun i k x hi=>let ⟨e,a,c,d,f⟩:=h3 i k x hi;⟨e,a,c,d,vr1 _ _ (rsMap hrb h4.2.2 i k x hi) f⟩,h4⟩
    | mapIter m since seen last=>
     cases m with
     | some m=>obtain⟨mb,h1,h2⟩:=k3;exact⟨mb,h1,sr1 (.h m) _ hrb h2⟩
     | none=>exact k3
    | strIter s pos=>exact k3
    | loop st pend params assign body nt fr dfr=>
     simp only [rsOb,rsO2,Bool.and_eq_true] at hrb;obtain⟨f,tmps,d,h1,h2,h3,h4⟩:=k3;exact⟨f,tmps,d,h1,h2,fun t v ht=>⟨(h3 t v ht).1,vr _ _ (zaO hrb.1 t v ht) (h3 t v ht).2⟩,sr1 (.h dfr) _ hrb.2 h4⟩
    | dfr=>exact k3
   | chain e0 sz0 st xs=>
    have:o=.chain e0 sz0 st xs:=by
     rcases hnl with h|⟨cs1,cs',_,h2,_⟩
     ·exact h
     ·cases h2
    subst this;obtain⟨vs,h1,h2,h3,h4,h5⟩:=hO;exact⟨vs,by rw [hμ];exact h1,by rw [hμ];exact h2,h3,h4,fun b hb=>h5 b (by rw [← hμ];exact hb)⟩
   | box cs'=>
    have hrb:=za2 hr.2 _ _ hid;simp only [rsOb,List.all_eq_true] at hrb;rcases hnl with h|⟨cs,cs1,h1,h2,h3⟩
    ·subst h;obtain⟨b,vs,T,k1,k2,k3,k4,k5,k6⟩:=hO;exact⟨b,vs,T,by rw [hμ];exact k1,k2,k3,k4,fun i s hi=>let ⟨v,p,q⟩:=k5 i s hi;⟨v,p,sr _ _ (hrb s (List.mem_of_getElem? hi)) q⟩,k6⟩
    ·subst h1;cases h2;obtain⟨b,vs,T,k1,k2,k3,k4,k5,k6⟩:=hO;obtain⟨hl,hg⟩:=zgx h3;refine⟨b,vs,T,by rw [hμ];exact k1,k2,k3,by rw [k4,hl],fun i s hi=>?_,k6⟩
     obtain⟨s0,hs0,hnl0⟩:=hg i s hi;obtain⟨v,p,q⟩:=k5 i s0 hs0;refine⟨v,p,?_⟩
     rcases hnl0 with rfl|⟨rfl,rfl⟩
     ·grind
     ·exact srnil _ q
 ·intro i b hi hb;replace hb:blk (upd g.μ c (.slice none 0 0) i)=some b:=hb;by_cases e1:i=c
  ·subst e1;rw [zy] at hb;cases hb
  ·rw [hlk i e1] at hi;rw [zo _ _ e1] at hb;obtain⟨o',ho'⟩:=Option.isSome_iff_exists.1 hi;obtain⟨o,ho,_⟩:=zgw hs i o' ho';exact hrel.hp.own i b (by rw [ho];rfl) hb
 ·intro i j b hi hj hbi hbj;replace hbi:blk (upd g.μ c (.slice none 0 0) i)=some b:=hbi;replace hbj:blk (upd g.μ c (.slice none 0 0) j)=some b:=hbj;have key:∀ i,(lk i ((c,Ob.chain e sz 0 []) :: σ')).isSome→blk (upd g.μ c (.slice none 0 0) i)=some b→(lk i σ).isSome∧blk (g.μ i)=some b:=by
   intro i hi hb;by_cases e1:i=c
   ·subst e1;rw [zy] at hb;cases hb
   ·rw [hlk i e1] at hi;rw [zo _ _ e1] at hb;obtain⟨o',ho'⟩:=Option.isSome_iff_exists.1 hi;obtain⟨o,ho,_⟩:=zgw hs i o' ho';simp_all
  obtain⟨a1,a2⟩:=key i hi hbi;obtain⟨b1,b2⟩:=key j hj hbj;exact hrel.hp.inj i j b a1 b1 a2 b2
 ·intro t v' ht;obtain⟨v,hv,hnl⟩:=zpd hf t v' ht;obtain⟨hlt,hvr⟩:=hrel.fr t v hv;refine⟨hlt,?_⟩
  rcases hnl with rfl|⟨rfl,rfl⟩
  ·exact vr _ _ (zaO hr.1 t v ht) hvr
  ·exact srnil _ hvr
end
end Go.QL
namespace Go.QL
open Go Go.RowKit
section
variable {P:Program} {ro:Option Nat} {ops:Array Oper} {Q:Exit→Act→World→Prop}
def zci (ms:List Nat):List Edge→Nat
 | []=>0
 | e::r=>bif Region.binds .any e then Nat.lor (Nat.lor (Nat.shiftLeft 1 e.on) (ms.getD e.on 0)) (zci ms r) else zci ms r
def zcA (i:Nat):List Edge→Bool
 | []=>true
 | e::r=>bif Region.binds .any e then Nat.blt e.on i && zcA i r else zcA i r
def zbe (ms:List Nat) (m:Nat):List Oper→Nat→Bool
 | [],_=>true
 | o::r,i=>zcA i o.after.toList && Nat.beq (ms.getD i 0) (zci ms o.after.toList) &&
   (bif Nat.blt i m then true else Nat.beq (ms.getD i 0) (Nat.sub (Nat.pow 2 i) 1)) && zbe ms m r (i+1)
theorem zdb {ms:List Nat}:∀ {es:List Edge} {b:Nat},(zci ms es).testBit b=true→∃ e ∈ es,Region.binds .any e=true∧(b=e.on∨(ms.getD e.on 0).testBit b=true)
 | [],b,h=>by simp [zci] at h
 | e::r,b,h=>by
  unfold zci at h;cases hb:Region.binds .any e with
  | false=>
   rw [hb] at h;obtain⟨e',he,h'⟩:=zdb (es:=r) h;exact⟨e',List.mem_cons_of_mem _ he,h'⟩
  | true=>
   rw [hb] at h;simp only [cond_true] at h;have h:(((1 <<< e.on) ||| ms.getD e.on 0) ||| zci ms r).testBit b=true:=h;rw [Nat.testBit_or,Nat.testBit_or] at h;simp only [Bool.or_eq_true] at h;rcases h with (h|h)|h
   ·refine⟨e,List.mem_cons_self,hb,.inl ?_⟩
    rw [Nat.one_shiftLeft,Nat.testBit_two_pow] at h;simpa using (of_decide_eq_true h).symm
   ·exact⟨e,List.mem_cons_self,hb,.inr h⟩
   ·obtain⟨e',he,h'⟩:=zdb (es:=r) h;exact⟨e',List.mem_cons_of_mem _ he,h'⟩
theorem zda {i:Nat}:∀ {es:List Edge},zcA i es=true→∀ e ∈ es,Region.binds .any e=true→e.on < i
 | [],_,e,he,_=>by simp at he
 | x::r,h,e,he,hb=>by
  unfold zcA at h;rcases List.mem_cons.1 he with rfl|he
  ·rw [hb] at h;simp only [cond_true,Bool.and_eq_true] at h;exact Nat.le_of_ble_eq_true h.1
  ·cases hx:Region.binds .any x with
   | false=>rw [hx] at h;exact zda h e he hb
   | true=>
    rw [hx] at h;simp only [cond_true,Bool.and_eq_true] at h;exact zda h.2 e he hb
structure MaskOK (ops:Array Oper) (ms:List Nat) (m:Nat):Prop where
 back:∀ i o,ops[i]?=some o→∀ e ∈ o.after,Region.binds .any e=true→e.on < i
 bit:∀ i o,ops[i]?=some o→∀ b,(ms.getD i 0).testBit b=true→∃ e ∈ o.after,Region.binds .any e=true∧(b=e.on∨(ms.getD e.on 0).testBit b=true)
 tail:∀ i o,ops[i]?=some o→m≤i→∀ b,b < i→(ms.getD i 0).testBit b=true
theorem zgT {ms:List Nat} {m:Nat}:∀ (all:List Oper) (i:Nat),zbe ms m all i=true→∀ j o,all[j]?=some o →
  zcA (i+j) o.after.toList=true∧ms.getD (i+j) 0=zci ms o.after.toList∧(m≤i+j→ms.getD (i+j) 0=2 ^ (i+j) - 1)
 | [],i,_,j,o,hj=>by simp at hj
 | x::r,i,h,j,o,hj=>by
  unfold zbe at h;simp only [Bool.and_eq_true] at h;obtain⟨⟨⟨h1,h2⟩,h3⟩,h4⟩:=h;cases j with
  | zero=>
   cases hj;refine⟨h1,Nat.eq_of_beq_eq_true h2,fun hm=>?_⟩
   cases hb:Nat.blt i m with
   | true=>have:i < m:=Nat.le_of_ble_eq_true hb;omega
   | false=>rw [hb] at h3;exact Nat.eq_of_beq_eq_true h3
  | succ j=>
   have:=zgT r (i+1) h4 j o hj;rwa [Nat.add_assoc,Nat.add_comm 1 j] at this
theorem MaskOK.of {ms:List Nat} {m:Nat} {all:List Oper} (h:zbe ms m all 0=true):MaskOK all.toArray ms m:=by
 have key:=zgT all 0 h;simp only [Nat.zero_add] at key;refine⟨fun i o hi e he hb=>?_,fun i o hi b hbit=>?_,fun i o hi hm b hb=>?_⟩
 ·exact zda (key i o (by simpa using hi)).1 e (by simpa using he) hb
 ·rw [(key i o (by simpa using hi)).2.1] at hbit;obtain⟨e,he,h1⟩:=zdb hbit;exact⟨e,by simpa using he,h1⟩
 ·rw [(key i o (by simpa using hi)).2.2 hm,Nat.testBit_two_pow_sub_one];simpa using hb
def unl (n:Nat) (listed:Array Bool):Nat:=((List.range n).filter fun i=>!listed.getD i true).length
theorem ziD {p q:Nat→Bool}:∀ (l:List Nat) (i:Nat),(∀ x,q x=true→p x=true)→i ∈ l→p i=true→q i=false→(l.filter q).length < (l.filter p).length
 | [],i,_,hi,_,_=>by simp at hi
 | x::r,i,h,hi,hp,hq=>by
  have hle:∀ l:List Nat,(l.filter q).length≤(l.filter p).length:=fun l=>by
   induction l with
   | nil=>simp
   | cons y s ih=>
    cases hy:q y with
    | true=>simp [hy,h y hy,ih]
    | false=>
     cases hy':p y with
     | true=>simp [hy,hy'];omega
     | false=>simp [hy,hy',ih]
  rcases List.mem_cons.1 hi with rfl|hi
  ·have:=hle r;simp [hp,hq];omega
  ·have ih:=ziD r i h hi hp hq;cases hx:q x with
   | true=>simp [hx,h x hx,ih]
   | false=>
    cases hx':p x with
    | true=>simp [hx,hx'];omega
    | false=>simp [hx,hx',ih]
theorem zbU {ms:List Nat} {m:Nat} (hm:MaskOK ops ms m) (Inv:(Nat→Prop)→Act→World→Prop)
  (hstep:∀ L a w,Inv L a w→∀ i,i < ops.size→¬ L i→(∀ b,(ms.getD i 0).testBit b=true→L b)→wpOpIn (FX ro) 0 P ops Q i (Inv (fun j=>L j∨j=i)) a w)
  (hend:∀ L a w,Inv L a w→(∀ j,j < ops.size→L j)→Q .normal a w) :
  ∀ (fuel:Nat) (listed:Array Bool) (a:Act) (w:World),listed.size=ops.size→(∀ i,listed.getD i false=true→∀ b,(ms.getD i 0).testBit b=true→listed.getD b false=true) →
   unl ops.size listed≤fuel→Inv (fun j=>listed.getD j false=true) a w→wpAnyIn (FX ro) 0 P .any ops Q fuel listed a w:=by
 have allDone:∀ listed:Array Bool,listed.size=ops.size→Region.ready .any ops listed=[]→∀ j,j < ops.size→listed.getD j false=true:=by
  intro listed hs hr j;induction j using Nat.strongRecOn with
  | _ j ih=>
   intro hj;cases hl:listed.getD j false with
   | true=>rfl
   | false=>
    have:j ∈ Region.ready .any ops listed:=by
     rw [mem_ready];refine⟨?_,ops[j],Array.getElem?_eq_getElem hj,fun e he hb=>?_⟩
     ·simp [hs,hj] at hl ⊢;exact hl
     ·have:=hm.back j _ (Array.getElem?_eq_getElem hj) e he hb;exact ih e.on this (by omega)
    rw [hr] at this;cases this
 have readyOk:∀ listed:Array Bool,listed.size=ops.size→(∀ i,listed.getD i false=true→∀ b,(ms.getD i 0).testBit b=true→listed.getD b false=true) →
   ∀ i ∈ Region.ready .any ops listed,i < ops.size∧listed.getD i false=false∧(∀ b,(ms.getD i 0).testBit b=true→listed.getD b false=true):=by
  intro listed hs hcl i hi;rw [mem_ready] at hi;obtain⟨h0,o,ho,hall⟩:=hi;have hlt:i < ops.size:=(Array.getElem?_eq_some_iff.1 ho).1;refine⟨hlt,?_,fun b hb=>?_⟩
  ·simp [hs,hlt] at h0 ⊢;exact h0
  ·obtain⟨e,he,hbd,h1⟩:=hm.bit i o ho b hb;have:=hall e he hbd;rcases h1 with rfl|h1
   ·exact this
   ·exact hcl e.on this b h1
 intro fuel;induction fuel with
 | zero=>
  intro listed a w hs hcl hf hinv;have hall:∀ j,j < ops.size→listed.getD j false=true:=by
   intro j hj;cases hl:listed.getD j false with
   | true=>rfl
   | false=>
    have:j ∈ (List.range ops.size).filter fun i=>!listed.getD i true:=by
     rw [List.mem_filter];refine⟨by simpa using hj,?_⟩
     simp [hs,hj] at hl ⊢;exact hl
    have:=List.length_pos_of_mem this;unfold unl at hf;omega
  refine⟨?_,hend _ a w hinv hall⟩
  cases hr:Region.ready .any ops listed with
  | nil=>rfl
  | cons i r=>
   have:=readyOk listed hs hcl i (by rw [hr];exact List.mem_cons_self);rw [hall i this.1] at this;cases this.2.1
 | succ fuel ih=>
  intro listed a w hs hcl hf hinv;refine⟨fun hr=>hend _ a w hinv (allDone listed hs hr),fun i hi=>?_⟩
  obtain⟨hlt,hun,hms⟩:=readyOk listed hs hcl i hi;refine wpOpIn_mono (fun a w hI=>?_) (hstep _ a w hinv i hlt (by rw [hun];simp) hms)
  have hset:∀ j,((listed.setIfInBounds i true).getD j false=true)=(listed.getD j false=true∨j=i):=by
   intro j;by_cases hij:i=j
   ·subst hij;simp [hs,hlt]
   ·rw [getD_set_ne false hij];simp only [eq_iff_iff];exact⟨.inl,fun h=>h.resolve_right (fun e=>hij e.symm)⟩
  refine ih _ a w (by simpa using hs) ?_ ?_ ?_
  ·intro j hj b hb;rw [hset] at hj ⊢;rcases hj with hj|rfl
   ·exact .inl (hcl j hj b hb)
   ·exact .inl (hms b hb)
  ·have:unl ops.size (listed.setIfInBounds i true) < unl ops.size listed:=by
    refine ziD _ i ?_ (by simpa using hlt) ?_ ?_
    ·intro x hx;by_cases hix:i=x
     ·subst hix;simp [hs,hlt] at hx
     ·rw [getD_set_ne true hix] at hx;exact hx
    ·simp [hs,hlt] at hun ⊢;exact hun
    ·simp [hs,hlt]
   omega
  ·have:(fun j=>(listed.setIfInBounds i true).getD j false=true)=(fun j=>listed.getD j false=true∨j=i):=funext hset;rw [this];exact hI
end
end Go.QL
namespace Go.QL
open Go Go.RowKit
variable {P:Program} {σ:Sg} {g:Gh} {w w0:World} {K0:Bs}
def zeZ (tt:TT) (id:Nat) (T:TypeId) (dst src:AV) (k:AV→Option (Nat × Ob)→Prop):Prop:=
 match tt T with
 | some ⟨.sl e,_,_,_⟩=>
  (match tt e with
  | some ei=>
   (match zby [] ei.size src with
   | some ys=>
    0 < ei.size ∧
    (match dst with
    | .x (.d (.c sz []))=>sz=ei.size ∧
     ((ys.length=0∧k (.x (.d (.c sz []))) none)∨(0 < ys.length∧(ys.length≤maxLen∧ys.length * ei.bytes≤140737488355328)∧k (.x (.o id 0 ys.length)) (some (id,.chain e ei.size 0 ys))))
    | _=>False)
   | none=>False)
  | none=>False)
 | _=>False
theorem zfY {sz:Nat} {src:AV} {ys:List (List PV)} (h:zby [] sz src=some ys) (σ:Sg):zby σ sz src=some ys:=by
 unfold zby at *;split at h <;> first|exact h|skip
 rename_i c st n;cases h
def zr3 (ob:Option (Nat × Ob)) (σ:Sg):Sg:=match ob with|some p=>p :: σ|none=>σ
theorem zhD {tt:TT} (htt:tt.ok P) {id:Nat} {T:TypeId} {dst src:AV} {k:AV→Option (Nat × Ob)→Prop} (h:zeZ tt id T dst src k) (ty:TypeId) :
  ∃ av nob,k av nob∧(nob=none∨∃ b,nob=some (id,b))∧∀ (σ:Sg) (w0:World) (K0:Bs) (g:Gh) (w:World) u1 u2,(nob≠none→lk id σ=none)→Hp w0 K0 σ g w→VR2 σ g w dst u1→VR2 σ g w src u2 →
   Gives P w0 K0 σ g w (Builtin.append_ #[T,T] ty #[u1,u2]) av (zr3 nob σ):=by
 unfold zeZ at h;split at h
 ·rename_i e _ _ _ heq;have hty:P.underlying T=some (.slice e):=(htt _ _ heq).desc;split at h
  ·rename_i ei hei;have hti:=htt _ _ hei;split at h
   ·rename_i ys hys;obtain⟨hs0,h⟩:=h;split at h
    ·rename_i sz;obtain⟨rfl,h⟩:=h;obtain⟨info,z,i1,i2,i3,i4,i5⟩:=hti.info;have hzl:z.cells.size=ei.size:=by rw [i5];simpa using hti.zlen
     rcases h with ⟨hy,hk⟩|⟨hy,⟨hb1,hb2⟩,hk⟩
     ·have hy:ys=[]:=List.eq_nil_of_length_eq_zero hy;subst hy;refine⟨_,_,hk,.inl rfl,fun σ w0 K0 g w u1 u2 _ hp hv1 hv2=>?_⟩
      have h2:=(zaS hp (zfY hys σ) hv2).2;have hv1':=hv1;cases hv1 with
      | d _ _ hc1=>
       cases hc1 with
       | c _ _ a hs=>
        refine .same hp ?_ hv1'
        rcases h2 with ⟨_,rfl⟩|⟨a2,c2,rfl,_⟩
        ·cases a with
         | none=>simp [Builtin.append_,run_underlying hty,sizeOf,typeInfo,i1,Builtin.lenOf,Builtin.firstCells,loadCells,loadCellsFrom]
         | some ad=>simp [Builtin.append_,run_underlying hty,sizeOf,typeInfo,i1,Builtin.lenOf,Builtin.firstCells,loadCells,loadCellsFrom,storeCells]
        ·cases a with
         | none=>cases a2 <;> simp [Builtin.append_,run_underlying hty,sizeOf,typeInfo,i1,Builtin.lenOf,Builtin.firstCells,loadCells,loadCellsFrom]
         | some ad=>cases a2 <;> simp [Builtin.append_,run_underlying hty,sizeOf,typeInfo,i1,Builtin.lenOf,Builtin.firstCells,loadCells,loadCellsFrom,storeCells]
     ·refine⟨_,_,hk,.inr ⟨_,rfl⟩,fun σ w0 K0 g w u1 u2 hid hp hv1 hv2=>?_⟩
      have hid:=hid (by simp);have hys:=zfY hys σ;obtain⟨hysz,hcase⟩:=zaS hp hys hv2;cases hv1 with
      | d _ _ hc1=>
       cases hc1 with
       | c _ _ a hs=>
        cases a with
        | none=>
         obtain⟨v',w',us,hr,ho,hg,hb,hul,hup⟩:=ze7 (ty:=ty) hp hty hti hs0 (World.ownsRow_nil w 0 e ei.size) hys hv2 (by omega) (by rw [Nat.zero_add];exact hb2);simp only [Nat.zero_add,List.nil_append] at ho;exact ziP hp hid hr ho hg (fun b h=>(hb b h).imp (fun h=>h) (fun h=>by omega)) hysz hup
        | some ad=>
         rcases hcase with ⟨hy0,_⟩|⟨a2,c2,rfl,hane,us,hul,huc,hu1,hup⟩
         ·simp_all
         obtain⟨ad2,rfl⟩:∃ ad2,a2=some ad2:=Option.ne_none_iff_exists'.1 (hane (by intro e;subst e;simp at hy));obtain⟨v',w',hr,ho,hg⟩:=run_append_arg_grows (P:=P) (w:=w) T ty e info z ei.size ei.bytes hty i1 i4 i2 i3 hzl hs0 ad 0 0 [] (by simp) (fun j u hj=>by simp at hj) ad2 ys.length c2 us hul (fun j u hj=>huc j u hj ad2 rfl) (by omega) (by omega) (by rw [Nat.zero_add];exact hb2);simp only [Nat.zero_add,List.nil_append] at ho;refine ziP hp hid hr ⟨ho.1,?_⟩ hg (fun b hb=>.inr ?_) hysz hup
         ·rcases ho.2 with h|⟨g',cap,cur,h1,h2,h3⟩
          ·exact .inl h
          ·grind
         ·rcases ho.2 with ⟨rfl,_⟩|⟨g',cap,cur,rfl,h2,_⟩
          ·cases hb
          ·cases hb;exact h2
    ·exact h.elim
   ·exact h.elim
  ·exact h.elim
 ·exact h.elim
def zjC (tt:TT) (T:TypeId) (k:AV→Prop):Prop:=
 match tt T with
 | some ⟨.sl e,_,_,_⟩=>(match tt e with|some ei=>k (.x (.d (.c ei.size [])))|none=>False)
 | _=>False
theorem zkT {tt:TT} (htt:tt.ok P) {T:TypeId} {k:AV→Prop} (h:zjC tt T k) :
  ∃ av,k av∧∀ (σ:Sg) (w0:World) (K0:Bs) (g:Gh) (w:World) (vs:Array (Nat × Value)),Hp w0 K0 σ g w→vs.size=0→Gives P w0 K0 σ g w (Instr.buildSlice T 0 vs) av σ:=by
 unfold zjC at h;split at h
 ·rename_i e _ _ _ heq;have hty:P.underlying T=some (.slice e):=(htt _ _ heq).desc;split at h
  ·rename_i ei hei;have hti:=htt _ _ hei;refine⟨_,h,fun σ w0 K0 g w vs hp hsz=>?_⟩
   obtain rfl:=Array.eq_empty_of_size_eq_zero hsz;have hext:Ext g.K w g.K (w.alloc (.cells #[] e)):=⟨fun _ _ x=>x,(zex hp _).cell⟩;have hd:=hp.grow (w':=w.alloc (.cells #[] e)) (K':=g.K) ((Below.refl _ _).alloc (Nat.le_refl _) _) hext (fun b o hb hk=>hk) (fun b o hk=>by
    have:=hp.val b o hk;simp;omega)
   refine⟨.slice (some ⟨w.heap.size,0,none⟩) 0 0,_,_,?_,hd,?_⟩
   ·have h3:=zX hti w;have hr0:Array.range 0=(#[]:Array Nat):=Array.eq_empty_of_size_eq_zero (by simp);simp [Instr.buildSlice,Sem.run_bind,run_underlying hty,Result.andThen_ok,h3,Instr.fill,newRow,hr0]
   ·exact .d _ _ (.c _ _ _ (.s _ [] _ 0 0 0 (fun _ _=>undef) (by simp) (by simp [maxLen]) (by simp) (by simp) (by simp) (by simp) (by simp)))
  ·exact h.elim
 ·exact h.elim
end Go.QL
namespace Go.QL
open Go Go.RowKit
structure En where
 i:Nat
 d:Option Tmp
 x:AV
 ob:Option (Nat × Ob)
def frs:List En→Fr
 | []=>[]
 | ⟨_,d,x,_⟩::r=>match d with|some d=>(d,x)::frs r|none=>frs r
def obs:List En→Sg
 | []=>[]
 | ⟨_,_,_,ob⟩::r=>match ob with|some p=>p::obs r|none=>obs r
def zm3 (m i:Nat):Bool:=Nat.beq (Nat.land (Nat.shiftRight m i) 1) 1
theorem zeC (m i:Nat):zm3 m i=m.testBit i:=by
 rw [Nat.testBit_eq_decide_div_mod_eq];unfold zm3;have:Nat.land (Nat.shiftRight m i) 1=m / 2 ^ i % 2:=by
  show (m >>> i) &&& 1=_
  rw [Nat.and_one_is_mod,Nat.shiftRight_eq_div_pow]
 rw [this];cases h:Nat.beq (m / 2 ^ i % 2) 1 with
 | true=>simp [Nat.eq_of_beq_eq_true h]
 | false=>
  refine (decide_eq_false ?_).symm
  intro h';rw [h'] at h;cases h
def zaK (m:Nat):List En→List En
 | []=>[]
 | ⟨i,d,x,ob⟩::r=>bif zm3 m i then ⟨i,d,x,ob⟩::zaK m r else zaK m r
def zhR:List Operand→List Nat
 | []=>[]
 | .tmp t::r=>t::zhR r
 | _::r=>zhR r
def looks (all:List Oper) (o:Oper):List Nat:=
 match o.guard with
 | none=>zhR o.op.operands.toList
 | some (j,_)=>match (all[j]?).bind (·.dst) with
  | some d=>d::zhR o.op.operands.toList
  | none=>zhR o.op.operands.toList
def selF (F:Fr):List Nat→Fr
 | []=>[]
 | t::r=>match lk t F with
  | some v=>(t,v)::selF F r
  | none=>selF F r
theorem zbF {F:Fr}:∀ {ts:List Nat} {t:Nat} {v:AV},lk t (selF F ts)=some v→t ∈ ts∧lk t F=some v
 | [],t,v,h=>by cases h
 | s::r,t,v,h=>by
  unfold selF at h;cases hs:lk s F with
  | none=>rw [hs] at h;have:=zbF (ts:=r) h;exact⟨List.mem_cons_of_mem _ this.1,this.2⟩
  | some x=>
   rw [hs] at h;simp only at h;rw [zr] at h;by_cases e:s=t
   ·simp_all
   ·rw [if_neg e] at h;have:=zbF (ts:=r) h;exact⟨List.mem_cons_of_mem _ this.1,this.2⟩
def zdZ (ob:Option (Nat × Ob)) (σ:Sg):Sg:=match ob with|some p=>p :: σ|none=>σ
def zbl (d:Option Tmp) (x:AV) (fr:Fr):Fr:=match d with|some t=>(t,x)::fr|none=>fr
def zru (all:List Oper) (dst:Option Tmp):Bool:=
 match dst with
 | none=>false
 | some d=>all.any fun o=>(match o.op with
  | .call ⟨.builtin .append,args,_⟩=>(match args.toList with|.tmp t::_=>Nat.beq t d|_=>false)
  | _=>false)
def zgH (on:Bool) (id:Nat):Sg→(Ob→Prop)→Prop
 | [(i,b)],k=>bif on && Nat.beq i id then k b else False
 | _,_=>False
def chkR (ob:Bool) (fr:Fr) (σ:Sg):Prop:=(bif ob then rsFr σ fr && rsSg σ σ else true)=true
def opDr (P:Program) (tt:TT) (all:List Oper) (ob:Bool) (fr:Fr) (σ:Sg) (id:Nat) (o:Oper) (kk:Option Bool→AV→Option (Nat × Ob)→Prop):Prop:=
 zix all fr o.guard fun gd=>
  match o.op with
  | .call ⟨.value f,args,_⟩=>ev1 fr gd f fun fv=>evL fr gd args.toList fun vs=>
   (match fv with
   | .x (.f (.func fid) first captured)=>∃ rv,(Gd gd (∀ σ,ACall P fid (first.map .x ++ vs ++ captured.map .x) σ fun r' σ'=>r'=rv∧σ'=σ))∧kk gd rv none
   | .x (.d (.v (.func (.func fid) a b)))=>(cOK a.toList && b.isEmpty)=true∧∃ rv,(Gd gd (∀ σ,ACall P fid (a.toList.map cAV ++ vs) σ fun r' σ'=>r'=rv∧σ'=σ))∧kk gd rv none
   | _=>False)
  | .alloc T=>(match gd with|none=>zgi tt [] id T fun v σ'=>zgH ob id σ' fun b=>kk none v (some (id,b))|some _=>False)
  | .box _ x=>(match gd with|none=>ev1 fr none x fun u=>kBox [] id u fun v σ'=>zgH ob id σ' fun b=>kk none v (some (id,b))|some _=>False)
  | .makeSlice T l c=>(match gd with|none=>ev1 fr none l fun u=>ev1 fr none c fun v=>zjz tt [] id T u v fun r σ'=>zgH ob id σ' fun b=>kk none r (some (id,b))|some _=>False)
  | .call ⟨.builtin .append,args,ts⟩=>(match gd,args.toList,ts.toList with
   | none,[x,y],[T,T']=>T=T'∧ev1 fr none x fun u=>ev1 fr none y fun v=>zeZ tt id T u v fun r nob=>(match nob with|some _=>ob=true|none=>True)∧kk none r nob
   | _,_,_=>False)
  | .buildSlice T n parts=>
   bif Nat.beq n 0 && parts.toList.isEmpty && zru all o.dst then (match gd with|none=>zjC tt T fun v=>kk none v none|some _=>False)
   else bif zid all o.dst n then
    (match gd with
    | none=>evL fr none (parts.toList.map (·.2)) fun vs=>zaQ tt [] id T n ((parts.toList.map (·.1)).zip vs) fun v σ'=>zgH ob id σ' fun b=>kk none v (some (id,b))
    | some _=>False)
   else evL fr gd (parts.toList.map (·.2)) fun vs=>zds tt T n ((parts.toList.map (·.1)).zip vs) fun v=>kk gd v none
  | op=>chkR ob fr σ∧stepP tt false fr σ gd op fun v=>kk gd v none
def putE (nt:Nat) (dst:Option Tmp) (gd:Option Bool) (v:AV) (k:AV→Prop):Prop:=
 match dst with
 | none=>(match gd with|none=>k v|some c=>k (.g c v))
 | some d=>bif Nat.blt d nt then (match gd with|none=>k v|some c=>k (.g c v)) else False
def vcDr (P:Program) (tt:TT) (nt:Nat) (all:List Oper) (ob:Bool) (ms:List Nat) (fr0:Fr) (σ0:Sg) (k:Fr→Sg→Prop):List Oper→List En→Nat→Fr→Sg→Prop
 | [],_,_,fr,σ=>k fr σ
 | o::r,es,i,fr,σ=>
  zhE σ o.dst fun id=>opDr P tt all ob (selF (frs (zaK (ms.getD i 0) es) ++ fr0) (looks all o)) (obs (zaK (ms.getD i 0) es) ++ σ0) id o fun gd v nob=>
   putE nt o.dst gd v fun x=>vcDr P tt nt all ob ms fr0 σ0 k r (⟨i,o.dst,x,nob⟩::es) (i+1) (zbl o.dst x fr) (zdZ nob σ)
section
variable {P:Program} {Γ:Cx} {Qq:Exit→Act→World→Prop}
theorem SR.sup {σ σE:Sg} {g:Gh} {w:World} (h:Sup σ σE) {s:SV} {v:Value} (hv:SR σ g w s v):SR σE g w s v:=
 hv.keep ⟨fun id cs hl=>⟨rfl,cs,h _ _ hl⟩,fun id e sz st xs hl=>.inr ⟨rfl,xs,h _ _ hl,rfl⟩,fun id o hl=>⟨rfl,o,h _ _ hl,rfl⟩⟩ (Ext.refl _ _)
def SemE (P:Program) (Γ:Cx) (all:List Oper) (ob:Bool) (fr:Fr) (σ:Sg) (i:Nat) (o:Oper) (x:AV) (nob:Option (Nat × Ob)):Prop:=
 ∀ (Qq:Exit→Act→World→Prop) (frE:Fr) (σE:Sg) (g:Gh) (a:Act) (w:World),Sup fr frE→Sup σ σE→(ob=false→σE=σ)→(∀ p,nob=some p→lk p.1 σE=none)→Rel Γ frE σE g a w →
  ∀ K:Act→World→Prop,(∀ v g' w',Rel Γ frE (zdZ nob σE) g' a w'→VR (zdZ nob σE) g' w' x v→K (a.put o.dst v) w')→all.toArray[i]?=some o→wpOpIn (FX Γ.ro) 0 P all.toArray Qq i K a w
theorem zd8 {on:Bool} {id:Nat} {σ:Sg} {k:Ob→Prop} (h:zgH on id σ k):on=true∧∃ b,σ=[(id,b)]∧k b:=by
 unfold zgH at h;split at h
 ·simp_all
 ·exact h.elim
theorem zkV {tt:TT} {id:Nat} {T:TypeId} {k:AV→Sg→Prop} (h:zgi tt [] id T k):∃ v b,k v [(id,b)]∧∀ σE,zgi tt σE id T fun v' σ'=>v'=v∧σ'=(id,b) :: σE:=by
 unfold zgi at *;grind
theorem zn9 {id:Nat} {u:AV} {k:AV→Sg→Prop} (h:kBox [] id u k):∃ v b,k v [(id,b)]∧∀ σE,kBox σE id u fun v' σ'=>v'=v∧σ'=(id,b) :: σE:=by
 unfold kBox at *;grind
theorem zdD {tt:TT} {id:Nat} {T:TypeId} {u v:AV} {k:AV→Sg→Prop} (h:zbg tt [] id T u v k):∃ r b,k r [(id,b)]∧∀ σE,zbg tt σE id T u v fun v' σ'=>v'=r∧σ'=(id,b) :: σE:=by
 unfold zbg at *;grind
theorem zmi {tt:TT} {id:Nat} {T:TypeId} {u v:AV} {k:AV→Sg→Prop} (h:zjz tt [] id T u v k):∃ r b,k r [(id,b)]∧∀ σE,zjz tt σE id T u v fun v' σ'=>v'=r∧σ'=(id,b) :: σE:=by
 unfold zjz at *;split at h
 ·split at h
  ·rcases h with h|h
   ·obtain⟨r,b,h1,h2⟩:=zdD h;grind
   ·unfold zfy at *;grind
  ·exact zdD h
 ·exact h.elim
theorem zgh {tt:TT} {id:Nat} {T:TypeId} {n:Nat} {parts:List (Nat × AV)} {k:AV→Sg→Prop} (h:zaQ tt [] id T n parts k) :
  ∃ r b,k r [(id,b)]∧∀ σE,zaQ tt σE id T n parts fun v' σ'=>v'=r∧σ'=(id,b) :: σE:=by
 unfold zaQ at *;split at h
 ·split at h
  ·grind
  ·exact h.elim
 ·exact h.elim
end
end Go.QL
namespace Go.QL
open Go Go.RowKit
section
variable {P:Program} {Γ:Cx}
theorem Rel.subF {fr fr':Fr} {σ:Sg} {g:Gh} {a:Act} {w:World} (h:Rel Γ fr σ g a w) (hf:Sup fr' fr):Rel Γ fr' σ g a w:=
 ⟨h.hp,fun t v ht=>h.fr t v (hf t v ht),h.size,h.defers,h.base⟩
theorem Rel.lone {fr:Fr} {σ:Sg} {g:Gh} {a:Act} {w:World} (h:Rel Γ fr σ g a w):Rel (Cx.lone Γ.w0 Γ.K0 Γ.nt) fr σ g { a with defers:=[] } w:=
 ⟨h.hp,h.fr,h.size,DRb.empty,fun s v hb=>hb.elim⟩
theorem SemE.mk {all:List Oper} {ob:Bool} {fr:Fr} {σ:Sg} {i:Nat} {o:Oper} {gd:Option Bool} {x:AV} {nob:Option (Nat × Ob)}
  (hg:∀ (Γ:Cx) (σ':Sg) (g:Gh) (a:Act) (w:World),Rel Γ fr σ' g a w→∀ o':Oper,o'.guard=o.guard→(Region.wanted o' (yielded all.toArray a.tmps)=true↔On gd)∧(gd=some false∨On gd))
  (hn:gd≠none→nob=none)
  (hrun:On gd→∀ (Qq:Exit→Act→World→Prop) (frE:Fr) (σE:Sg) (g:Gh) (a:Act) (w:World),Sup σ σE→(ob=false→σE=σ)→(∀ p,nob=some p→lk p.1 σE=none)→Rel Γ frE σE g a w→Sup fr frE →
   ∀ K:Act→World→Prop,(∀ v g' w',Did Γ.w0 Γ.K0 σE g w (zdZ nob σE) g' w'→VR2 (zdZ nob σE) g' w' x v→K (a.put o.dst v) w')→(o.wpIn (FX Γ.ro) 0 P a w K Qq)) :
  SemE P Γ all ob fr σ i o (zeI gd x) nob:=by
 intro Qq frE σE g a w hf hs hob hid hr K hK ho;obtain⟨hwant,hcase⟩:=hg Γ σE g a w (hr.subF hf) o rfl;unfold wpOpIn;simp only [ho];by_cases hon:On gd
 ·rw [if_pos (hwant.2 hon)];refine hrun hon Qq frE σE g a w hs hob hid hr hf K fun v g' w' hd hv=>hK v g' w' (hr.did hd) ?_
  rcases hon with rfl|rfl
  ·exact zZ hv
  ·exact⟨fun _=>hv,fun e=>by cases e⟩
 ·have hw:Region.wanted o (yielded all.toArray a.tmps)=false:=by
   cases h1:Region.wanted o (yielded all.toArray a.tmps) with
   | false=>rfl
   | true=>exact absurd (hwant.1 h1) hon
  rw [hw];simp only [Bool.false_eq_true,if_false];have hgf:gd=some false:=hcase.resolve_right hon;subst hgf;have hnn:=hn (by simp);subst hnn;exact⟨fun _ _=>trivial,hK undef g w hr ⟨(fun e=>by cases e),fun _=>rfl⟩⟩
theorem zcq {o:Oper} {a:Act} {K:Act→World→Prop} {Qq:Exit→Act→World→Prop} {w w':World} {v:Value} {ro:Option Nat} (hnd:∀ c,o.op≠.defer c) (h:(execOp a.eval o).run P w=.ok (.value v) w') (hk:K (a.put o.dst v) w'):o.wpIn (FX ro) 0 P a w K Qq:=by
 refine⟨fun _ _=>trivial,?_⟩
 rw [Oper.semAt_eq _ _ o hnd,h];exact hk
theorem zde {σ:Sg} {g:Gh} {w:World} {first captured:List SV} {vs:List AV} {v1 v2:Array Value} {us:Array Value} (s1:v1.size=first.length) (s2:v2.size=captured.length)
  (r1:∀ (i:Nat) (s:SV) (v:Value),first[i]?=some s→v1[i]?=some v→SR σ g w s v) (r2:∀ (i:Nat) (s:SV) (v:Value),captured[i]?=some s→v2[i]?=some v→SR σ g w s v)
  (hvl:vs.length=us.size) (hvs:∀ (i:Nat) (x:AV) (v:Value),vs[i]?=some x→us[i]?=some v→VR2 σ g w x v) :
  ∀ (i:Nat) (x:AV) (v:Value),(first.map AV.x ++ vs ++ captured.map AV.x)[i]?=some x→(v1 ++ us ++ v2)[i]?=some v→VR2 σ g w x v:=by
 intro i x v hx hv;by_cases c1:i < first.length
 ·rw [List.append_assoc,List.getElem?_append_left (by simpa using c1)] at hx;rw [Array.append_assoc,Array.getElem?_append_left (by omega)] at hv;rw [List.getElem?_map] at hx;cases hs:first[i]? with
  | none=>rw [hs] at hx;cases hx
  | some s=>rw [hs] at hx;cases hx;exact r1 i s v hs hv
 ·by_cases c2:i < first.length+vs.length
  ·grind
  ·rw [List.getElem?_append_right (by simp;omega)] at hx;rw [Array.getElem?_append_right (by simp;omega)] at hv;simp only [List.length_append,List.length_map] at hx;simp only [Array.size_append,s1,← hvl] at hv;rw [List.getElem?_map] at hx;cases hs:captured[i - (first.length+vs.length)]? with
   | none=>rw [hs] at hx;cases hx
   | some s=>rw [hs] at hx;cases hx;exact r2 _ s v hs hv
def noOb:Op→Bool
 | .alloc _|.box .. | .makeSlice .. | .buildSlice ..=>false
 | .call ⟨.builtin .append,_,_⟩=>false
 | _=>true
theorem zdM {tt:TT} (htt:tt.ok P) (hL:Laid P Γ.K0.K Γ.w0) {all:List Oper} {ob:Bool} {fr:Fr} {σ:Sg} {id:Nat} {o:Oper} {kk:Option Bool→AV→Option (Nat × Ob)→Prop}
  (h:opDr P tt all ob fr σ id o kk) (i:Nat) :
  ∃ gd x nob,kk gd x nob∧(nob=none∨(ob=true∧noOb o.op=false∧∃ b,nob=some (id,b)))∧SemE P Γ all ob fr σ i o (zeI gd x) nob:=by
 unfold opDr at h;obtain⟨gd,h,hgd⟩:=zgl h;have hnd:∀ c,o.op≠.defer c:=by
  intro c hc;rw [hc] at h;exact h.2
 have made:∀ (v:AV) (b:Ob),ob=true→noOb o.op=false→gd=none→kk none v (some (id,b)) →
   (∀ (frE:Fr) (σE:Sg) (g:Gh) (a:Act) (w:World),lk id σE=none→Rel Γ frE σE g a w→Sup fr frE→∃ u w' g',(execOp a.eval o).run P w=.ok (.value u) w'∧Did Γ.w0 Γ.K0 σE g w ((id,b) :: σE) g' w'∧VR2 ((id,b) :: σE) g' w' v u) →
   ∃ gd x nob,kk gd x nob∧(nob=none∨(ob=true∧noOb o.op=false∧∃ b,nob=some (id,b)))∧SemE P Γ all ob fr σ i o (zeI gd x) nob:=by
  intro v b hon hno hgn hk hrun;subst hgn;refine⟨none,v,some (id,b),hk,.inr ⟨hon,hno,b,rfl⟩,SemE.mk hgd (fun hne=>absurd rfl hne) ?_⟩
  intro _ Qq frE σE g a w hs hob hid hr hf K hK;obtain⟨u,w',g',h1,h2,h3⟩:=hrun frE σE g a w (hid _ rfl) hr hf;exact zcq hnd h1 (hK u g' w' h2 h3)
 split at h
 ·-- a call
  rename_i f args ts hop;obtain⟨fv,h2,hfv⟩:=zK h;clear h;obtain⟨vs,h,hl,hvs⟩:=zbE h2;clear h2;split at h
  ·rename_i fid first captured
   obtain⟨rv,hac,hk⟩:=h;refine⟨gd,rv,none,hk,.inl rfl,SemE.mk hgd (fun _=>rfl) ?_⟩
   intro hon Qq frE σE g a w hs hob hid hr hf K hK;have hac:=hon.open _ hac;have hrD:=hr.subF hf;have hsr:SR σE g w (.f (.func fid) first captured) (a.eval f):=hfv hon Γ σE g a w hrD;generalize hae:a.eval f=fval at hsr;cases hsr with
   | f _ _ _ v1 v2 s1 s2 r1 r2=>
    have hvl:vs.length=(args.map a.eval).size:=by simpa using hl
    have hargs:=zde (us:=args.map a.eval) s1 s2 r1 r2 hvl (fun j x v hx hv=>by
     rw [Array.getElem?_map] at hv;cases ha:args[j]? with
     | none=>rw [ha] at hv;cases hv
     | some y=>rw [ha] at hv;cases hv;exact hvs hon Γ σE g a w hrD _ x y hx (by simpa using ha))
    have hsize:(v1 ++ args.map a.eval ++ v2).size=(first.map AV.x ++ vs ++ captured.map AV.x).length:=by
     simp_all
    refine⟨fun _ _=>trivial,?_⟩
    rw [Oper.semAt_eq _ _ o hnd,zdl hop hae (hac σE).1 w];refine⟨zfc,zbi.2 ?_⟩
    refine ((hac σE).2 Γ.w0 Γ.K0 g w _ hL hr.hp hsize hargs).mono fun e w' ⟨v,g',σ',r,he,hd,hv,hR⟩=>?_
    obtain⟨rfl,rfl⟩:=hR;subst he;exact hK v g' w' hd hv
  ·rename_i fid fa fb;obtain⟨hok,rv,hac,hk⟩:=h;simp only [Bool.and_eq_true] at hok;obtain⟨hok,hb0⟩:=hok;obtain rfl:fb = #[]:=by simpa using hb0
   refine⟨gd,rv,none,hk,.inl rfl,SemE.mk hgd (fun _=>rfl) ?_⟩
   intro hon Qq frE σE g a w hs hob hid hr hf K hK;have hac:=hon.open _ hac;have hrD:=hr.subF hf;have hae:a.eval f=.func (.func fid) fa #[]:=zm (hfv hon Γ σE g a w hrD);have hvl:vs.length=(args.map a.eval).size:=by simpa using hl
   have hargs:=zg5 (us:=args.map a.eval) hok hvl (fun j x v hx hv=>by
    rw [Array.getElem?_map] at hv;cases ha:args[j]? with
    | none=>rw [ha] at hv;cases hv
    | some y=>rw [ha] at hv;cases hv;exact hvs hon Γ σE g a w hrD _ x y hx (by simpa using ha))
   have hsize:(fa ++ args.map a.eval ++ #[]).size=(fa.toList.map cAV ++ vs).length:=by simp at hvl;simp [hvl]
   refine⟨fun _ _=>trivial,?_⟩
   rw [Oper.semAt_eq _ _ o hnd,zdl hop hae (hac σE).1 w];refine⟨zfc,zbi.2 ?_⟩
   refine ((hac σE).2 Γ.w0 Γ.K0 g w _ hL hr.hp hsize hargs).mono fun e w' ⟨v,g',σ',r,he,hd,hv,hR⟩=>?_
   obtain⟨rfl,rfl⟩:=hR;subst he;exact hK v g' w' hd hv
  ·exact h.elim
 ·-- alloc
  rename_i T hop;split at h
  ·obtain⟨v,b0,hk,hu⟩:=zkV h;obtain⟨hon,b,hb,hk⟩:=zd8 hk;cases hb;refine made v _ hon (by rw [hop];rfl) rfl hk fun frE σE g a w hid hr hf=>?_
   obtain⟨av,σ',⟨rfl,rfl⟩,hg⟩:=zit htt hid (hu σE);obtain⟨u,w',g',h1,h2,h3⟩:=hg _ _ g w hr.hp;exact⟨u,w',g',by simp only [execOp,hop];rw [Sem.run_bind,h1];rfl,h2,h3⟩
  ·exact h.elim
 ·-- box
  rename_i T x hop;split at h
  ·obtain⟨u0,h,hu0⟩:=zK h;obtain⟨v,b0,hk,hu⟩:=zn9 h;obtain⟨hon,b,hb,hk⟩:=zd8 hk;cases hb;refine made v _ hon (by rw [hop];rfl) rfl hk fun frE σE g a w hid hr hf=>?_
   obtain⟨av,σ',⟨rfl,rfl⟩,hg⟩:=zmx (P:=P) hid (hu σE) T;obtain⟨u,w',g',h1,h2,h3⟩:=hg _ _ g w _ hr.hp (hu0 (.inl rfl) Γ σE g a w (hr.subF hf));exact⟨u,w',g',by simp only [execOp,hop];rw [Sem.run_bind,h1];rfl,h2,h3⟩
  ·exact h.elim
 ·-- makeSlice
  rename_i T l c hop;split at h
  ·obtain⟨u1,h,hu1⟩:=zK h;obtain⟨u2,h,hu2⟩:=zK h;obtain⟨v,b0,hk,hu⟩:=zmi h;obtain⟨hon,b,hb,hk⟩:=zd8 hk;cases hb;refine made v _ hon (by rw [hop];rfl) rfl hk fun frE σE g a w hid hr hf=>?_
   obtain⟨av,σ',⟨rfl,rfl⟩,hg⟩:=zkg htt hid (hu σE);obtain⟨u,w',g',h1,h2,h3⟩:=hg _ _ g w _ _ hr.hp (hu1 (.inl rfl) Γ σE g a w (hr.subF hf)) (hu2 (.inl rfl) Γ σE g a w (hr.subF hf));exact⟨u,w',g',by simp only [execOp,hop];rw [Sem.run_bind,h1];rfl,h2,h3⟩
  ·exact h.elim
 ·-- an append onto a literal of no elements
  rename_i args ts hop;split at h
  ·rename_i x y T T' hargs hts;obtain⟨rfl,h⟩:=h;obtain⟨u1,h,hu1⟩:=zK h;obtain⟨u2,h,hu2⟩:=zK h;obtain⟨v,nob,⟨hon,hk⟩,hn,hgo⟩:=zhD htt h o.type;have hargs':args = #[x,y]:=Array.toList_inj.1 (by simpa using hargs);have hts':ts = #[T,T]:=Array.toList_inj.1 (by simpa using hts);subst hargs';subst hts';refine⟨none,v,nob,hk,?_,SemE.mk hgd (fun hne=>absurd rfl hne) ?_⟩
   ·rcases hn with rfl|⟨b,rfl⟩
    ·exact .inl rfl
    ·exact .inr ⟨hon,by rw [hop];rfl,b,rfl⟩
   ·intro _ Qq frE σE g a w hs hob hid hr hf K hK;obtain⟨u,w',g',h1,h2,h3⟩:=hgo σE _ _ g w _ _ (fun hne=>by
     rcases hn with rfl|⟨b,rfl⟩
     ·exact absurd rfl hne
     ·exact hid _ rfl) hr.hp (hu1 (.inl rfl) Γ σE g a w (hr.subF hf)) (hu2 (.inl rfl) Γ σE g a w (hr.subF hf))
    exact zcq hnd (by simp [execOp,hop,resolve,invoke,builtin,h1]) (hK u g' w' h2 h3)
  ·exact h.elim
 ·-- a literal
  rename_i T n parts hop;generalize hap:(Nat.beq n 0 && parts.toList.isEmpty && zru all o.dst)=ap at h;cases ap with
  | true=>
   simp only [cond_true] at h;split at h
   ·simp only [Bool.and_eq_true] at hap;have hn0:=Nat.eq_of_beq_eq_true hap.1.1;subst hn0;obtain⟨av,hk,hgo⟩:=zkT htt h;refine⟨none,av,none,hk,.inl rfl,SemE.mk hgd (fun _=>rfl) ?_⟩
    intro hon Qq frE σE g a w hs hob hid hr hf K hK;have hp0:parts.size=0:=by have:=hap.1.2;simpa using this
    obtain⟨v,w',g',h1,h2,h3⟩:=hgo σE _ _ g w (parts.map fun (i,x)=>(i,a.eval x)) hr.hp (by simpa using hp0);exact zcq hnd (by simp only [execOp,hop];rw [Sem.run_bind,h1];rfl) (hK v g' w' h2 h3)
   ·exact h.elim
  | false=>
  simp only [cond_false] at h;generalize zid all o.dst n=own at h;cases own with
  | true=>
   simp only [cond_true] at h;split at h
   ·obtain⟨vs,hk,hl,hvs⟩:=zbE h;obtain⟨v,b0,hk,hu⟩:=zgh hk;obtain⟨hon,b,hb,hk⟩:=zd8 hk;cases hb;refine made v _ hon (by rw [hop];rfl) rfl hk fun frE σE g a w hid hr hf=>?_
    obtain⟨av,σ',⟨rfl,rfl⟩,hg⟩:=zdE htt hid (hu σE);obtain⟨u,w',g',h1,h2,h3⟩:=hg _ _ g w (parts.map fun (i,x)=>(i,a.eval x)) hr.hp (by simp [hl]) (fun j i x hj=>by
      obtain⟨y,h1,h2,h3⟩:=zb2 parts.toList vs hl j i x hj;refine⟨a.eval y,?_,hvs (.inl rfl) Γ σE g a w (hr.subF hf) j x y h2 h3⟩
      have:parts[j]?=some (i,y):=by simpa using h1
      simp [this])
    exact⟨u,w',g',by simp only [execOp,hop];rw [Sem.run_bind,h1];rfl,h2,h3⟩
   ·exact h.elim
  | false=>
   simp only [cond_false] at h;obtain⟨vs,hk,hl,hvs⟩:=zbE h;obtain⟨av,hk',hgo⟩:=zcH htt hk;refine⟨gd,av,none,hk',.inl rfl,SemE.mk hgd (fun _=>rfl) ?_⟩
   intro hon Qq frE σE g a w hs hob hid hr hf K hK;obtain⟨v,w',g',h1,h2,h3⟩:=hgo σE _ _ g w (parts.map fun (i,x)=>(i,a.eval x)) hr.hp (by simp [hl]) (fun j i x hj=>by
    obtain⟨y,h1,h2,h3⟩:=zb2 parts.toList vs hl j i x hj;refine⟨a.eval y,?_,hvs hon Γ σE g a w (hr.subF hf) j x y h2 h3⟩
    have:parts[j]?=some (i,y):=by simpa using h1
    simp [this])
   exact zcq hnd (by simp only [execOp,hop];rw [Sem.run_bind,h1];rfl) (hK v g' w' h2 h3)
 ·-- no object turned
  obtain⟨hchk,h⟩:=h;obtain⟨_,_,hu⟩:=zd6 htt h;obtain⟨av,hk,hgo⟩:=hu rfl;refine⟨gd,av,none,hk,.inl rfl,SemE.mk hgd (fun _=>rfl) ?_⟩
  intro hon Qq frE σE g a w hs hob hid hr hf K hK;have hrD:Rel (Cx.lone Γ.w0 Γ.K0 Γ.nt) fr σ g { a with defers:=[] } w:=by
   cases ob with
   | false=>rw [hob rfl] at hr;exact (hr.subF hf).lone
   | true=>exact hr.lone.weaken hf hs hchk rfl rfl
  obtain⟨v,hv,hvr⟩:=hgo hon _ g { a with defers:=[] } w hrD;have hev:({ a with defers:=[] }:Act).eval=a.eval:=funext fun x=>by cases x <;> rfl
  rw [hev] at hv;exact zcq hnd hv (hK v g w (.refl hr.hp) (hvr.keep fun s u h=>h.sup hs))
end
end Go.QL
namespace Go.QL
open Go Go.RowKit
section
variable {α : Type}
theorem zdB {L l0:List (Nat × α)} {t:Nat} {v : α}:lk t (L ++ l0)=some v→(t,v) ∈ L∨((∀ p ∈ L,p.1≠t)∧lk t l0=some v):=by
 induction L with
 | nil=>intro h;exact .inr ⟨fun p hp=>by simp at hp,h⟩
 | cons q r ih=>
  obtain⟨i,x⟩:=q;intro h;rw [List.cons_append,zr] at h;by_cases e:i=t
  ·subst e;rw [if_pos rfl] at h;cases h;exact .inl List.mem_cons_self
  ·rw [if_neg e] at h;rcases ih h with h|⟨h1,h2⟩
   ·exact .inl (List.mem_cons_of_mem _ h)
   ·refine .inr ⟨fun p hp=>?_,h2⟩
    rcases List.mem_cons.1 hp with rfl|hp
    ·exact e
    ·exact h1 p hp
theorem zas {L l0:List (Nat × α)} {t:Nat} {v : α} (hf:∀ p ∈ L,∀ q ∈ L,p.1=q.1→p=q) (h:(t,v) ∈ L):lk t (L ++ l0)=some v:=by
 induction L with
 | nil=>simp at h
 | cons q r ih=>
  obtain⟨i,x⟩:=q;rw [List.cons_append,zr];by_cases e:i=t
  ·rw [if_pos e];have:=hf (i,x) List.mem_cons_self (t,v) h e;cases this;rfl
  ·rw [if_neg e];rcases List.mem_cons.1 h with h|h
   ·cases h;exact absurd rfl e
   ·exact ih (fun p hp q hq=>hf p (List.mem_cons_of_mem _ hp) q (List.mem_cons_of_mem _ hq)) h
theorem zU {L l0:List (Nat × α)} {t:Nat} (h:∀ p ∈ L,p.1≠t):lk t (L ++ l0)=lk t l0:=by
 induction L with
 | nil=>rfl
 | cons q r ih=>
  obtain⟨i,x⟩:=q;rw [List.cons_append,zr,if_neg (h (i,x) List.mem_cons_self)];exact ih fun p hp=>h p (List.mem_cons_of_mem _ hp)
theorem zeM {Ls L D l0:List (Nat × α)} (hf:∀ p ∈ Ls,∀ q ∈ Ls,p.1=q.1→p=q) (h0:∀ p ∈ Ls,lk p.1 l0=none) (hDL:∀ p ∈ D,p ∈ L) (hL:∀ p ∈ L,p ∈ Ls):Sup (D ++ l0) (L ++ l0):=by
 intro t v h;rcases zdB h with h|⟨_,h⟩
 ·exact zas (fun p hp q hq=>hf p (hL p hp) q (hL q hq)) (hDL _ h)
 ·rw [zU (fun p hp e=>by
   have:=h0 p (hL p hp);rw [e,h] at this;cases this)]
  exact h
end
theorem zY {E:List En} {p:Nat × AV}:p ∈ frs E↔∃ e ∈ E,e.d=some p.1∧e.x=p.2:=by
 induction E with
 | nil=>simp [frs]
 | cons e r ih=>
  unfold frs;cases hd:e.d with
  | none=>
   simp only [ih,List.mem_cons];constructor
   ·rintro⟨e',h,h'⟩;exact⟨e',.inr h,h'⟩
   ·rintro⟨e',rfl|h,h'⟩
    ·rw [hd] at h';cases h'.1
    ·exact⟨e',h,h'⟩
  | some d=>
   simp only [List.mem_cons,ih];constructor
   ·rintro (rfl|⟨e',h,h'⟩)
    ·exact⟨e,.inl rfl,hd,rfl⟩
    ·exact⟨e',.inr h,h'⟩
   ·rintro⟨e',rfl|h,h1,h2⟩
    ·left;rw [hd] at h1;cases h1;obtain⟨a,b⟩:=p;cases h2;rfl
    ·exact .inr ⟨e',h,h1,h2⟩
theorem zF {E:List En} {p:Nat × Ob}:p ∈ obs E↔∃ e ∈ E,e.ob=some p:=by
 induction E with
 | nil=>simp [obs]
 | cons e r ih=>
  unfold obs;cases hd:e.ob with
  | none=>
   simp only [ih,List.mem_cons];constructor
   ·rintro⟨e',h,h'⟩;exact⟨e',.inr h,h'⟩
   ·rintro⟨e',rfl|h,h'⟩
    ·rw [hd] at h';cases h'
    ·exact⟨e',h,h'⟩
  | some d=>
   simp only [List.mem_cons,ih];constructor
   ·rintro (rfl|⟨e',h,h'⟩)
    ·exact⟨e,.inl rfl,hd⟩
    ·exact⟨e',.inr h,h'⟩
   ·rintro⟨e',rfl|h,h1⟩
    ·left;rw [hd] at h1;cases h1;rfl
    ·exact .inr ⟨e',h,h1⟩
theorem zap {m:Nat} {e:En}:∀ {E:List En},e ∈ zaK m E→e ∈ E∧m.testBit e.i=true
 | [],h=>by simp [zaK] at h
 | x::r,h=>by
  unfold zaK at h;rw [zeC] at h;cases hb:m.testBit x.i with
  | true=>
   rw [hb] at h;rcases List.mem_cons.1 h with rfl|h
   ·exact⟨List.mem_cons_self,hb⟩
   ·exact⟨List.mem_cons_of_mem _ (zap h).1,(zap h).2⟩
  | false=>
   rw [hb] at h;exact⟨List.mem_cons_of_mem _ (zap h).1,(zap h).2⟩
theorem zbt {m:Nat} {e:En}:∀ {E:List En},e ∈ E→m.testBit e.i=true→e ∈ zaK m E
 | [],h,_=>by simp at h
 | x::r,h,hb=>by
  unfold zaK;rw [zeC];rcases List.mem_cons.1 h with rfl|h
  ·rw [hb];exact List.mem_cons_self
  ·cases m.testBit x.i with
   | true=>exact List.mem_cons_of_mem _ (zbt h hb)
   | false=>exact zbt h hb
theorem zb4 {α : Type} {L D l0:List (Nat × α)} (hf:∀ p ∈ L,∀ q ∈ L,p.1=q.1→p=q) (h:∀ p,p ∈ D↔p ∈ L):Sup (D ++ l0) (L ++ l0):=by
 intro t v hl;rcases zdB hl with hl|⟨h1,hl⟩
 ·exact zas hf ((h _).1 hl)
 ·rw [zU (fun p hp=>h1 p ((h p).2 hp))];exact hl
theorem zbO (e:En) (E:List En) (fr0:Fr):zbl e.d e.x (frs E ++ fr0)=frs (e::E) ++ fr0:=by
 unfold zbl;simp only [frs];cases e.d <;> rfl
theorem zcL (e:En) (E:List En) (σ0:Sg):zdZ e.ob (obs E ++ σ0)=obs (e::E) ++ σ0:=by
 unfold zdZ;simp only [obs];cases e.ob <;> rfl
def zc2:List Oper→List Nat→Bool
 | [],_=>true
 | o::r,ds=>match o.dst with
  | none=>zc2 r ds
  | some d=>(ds.all fun e=>!Nat.beq d e) && zc2 r (d::ds)
theorem zb1:∀ {l:List Oper} {ds:List Nat},zc2 l ds=true→(∀ (i:Nat) (o:Oper) (d:Nat),l[i]?=some o→o.dst=some d→d ∉ ds) ∧
  (∀ (i j:Nat) (o o':Oper) (d:Nat),l[i]?=some o→l[j]?=some o'→o.dst=some d→o'.dst=some d→i=j)
 | [],ds,_=>⟨fun i o d h=>by simp at h,fun i j o o' d h=>by simp at h⟩
 | x::r,ds,h=>by
  unfold zc2 at h;cases hd:x.dst with
  | none=>
   rw [hd] at h;obtain⟨h1,h2⟩:=zb1 (l:=r) h;refine⟨fun i o d hi ho=>?_,fun i j o o' d hi hj ho ho'=>?_⟩
   ·cases i with
    | zero=>cases hi;rw [hd] at ho;cases ho
    | succ i=>exact h1 i o d hi ho
   ·cases i with
    | zero=>cases hi;rw [hd] at ho;cases ho
    | succ i=>
     cases j with
     | zero=>cases hj;rw [hd] at ho';cases ho'
     | succ j=>rw [h2 i j o o' d hi hj ho ho']
  | some d0=>
   rw [hd] at h;simp only [Bool.and_eq_true] at h;obtain⟨h3,h5⟩:=h;obtain⟨h1,h2⟩:=zb1 (l:=r) h5;have hin:d0 ∉ ds:=fun hm=>by
    rw [List.all_eq_true] at h3;have:=h3 d0 hm;simp at this
   refine⟨fun i o d hi ho=>?_,fun i j o o' d hi hj ho ho'=>?_⟩
   ·cases i with
    | zero=>cases hi;rw [hd] at ho;cases ho;exact hin
    | succ i=>exact fun hm=>h1 i o d hi ho (List.mem_cons_of_mem _ hm)
   ·cases i with
    | zero=>
     cases hi;rw [hd] at ho;cases ho;cases j with
     | zero=>rfl
     | succ j=>exact absurd List.mem_cons_self (h1 j o' d0 hj ho')
    | succ i=>
     cases j with
     | zero=>cases hj;rw [hd] at ho';cases ho';exact absurd List.mem_cons_self (h1 i o d0 hi ho)
     | succ j=>rw [h2 i j o o' d hi hj ho ho']
def zc1 (ms:List Nat) (j:Nat) (ts:List Nat):List Oper→Nat→Bool
 | [],_=>true
 | o::r,k=>(match o.dst with
  | none=>true
  | some d=>Nat.beq k j || !(ts.any (Nat.beq d)) || Nat.testBit (ms.getD j 0) k || Nat.testBit (ms.getD k 0) j) && zc1 ms j ts r (k+1)
def zcn (all:List Oper) (ms:List Nat) (pre:List Oper):List Oper→Nat→Bool
 | [],_=>true
 | o::r,j=>zc1 ms j (looks all o) pre 0 && zcn all ms pre r (j+1)
theorem zaV {ms:List Nat} {j:Nat} {ts:List Nat}:∀ {l:List Oper} {k0:Nat},zc1 ms j ts l k0=true→∀ (k:Nat) (o:Oper) (d:Nat),l[k]?=some o→o.dst=some d→d ∈ ts →
  k0+k=j∨(ms.getD j 0).testBit (k0+k)=true∨(ms.getD (k0+k) 0).testBit j=true
 | [],k0,_,k,o,d,hk,_,_=>by simp at hk
 | x::r,k0,h,k,o,d,hk,ho,hd=>by
  unfold zc1 at h;simp only [Bool.and_eq_true] at h;cases k with
  | zero=>
   cases hk;rw [ho] at h;simp only [Bool.or_eq_true] at h;rcases h.1 with ((h1|h1)|h1)|h1
   ·exact .inl (Nat.eq_of_beq_eq_true h1)
   ·have:ts.any (Nat.beq d)=true:=by rw [List.any_eq_true];exact⟨d,hd,by simp⟩
    rw [this] at h1;cases h1
   ·exact .inr (.inl h1)
   ·exact .inr (.inr h1)
  | succ k=>
   have:=zaV h.2 k o d hk ho hd;rwa [Nat.add_assoc,Nat.add_comm 1 k] at this
theorem zbR {all:List Oper} {ms:List Nat} {pre:List Oper}:∀ {l:List Oper} {j0:Nat},zcn all ms pre l j0=true→∀ (j:Nat) (o:Oper),l[j]?=some o→zc1 ms (j0+j) (looks all o) pre 0=true
 | [],j0,_,j,o,hj=>by simp at hj
 | x::r,j0,h,j,o,hj=>by
  unfold zcn at h;simp only [Bool.and_eq_true] at h;cases j with
  | zero=>cases hj;exact h.1
  | succ j=>
   have:=zbR h.2 j o hj;rwa [Nat.add_assoc,Nat.add_comm 1 j] at this
section
variable {P:Program} {Γ:Cx} {fr fr':Fr} {σ σ':Sg} {g:Gh} {a:Act} {w:World}
theorem Rel.same (h:Rel Γ fr σ g a w) (hf:Sup fr' fr) (h1:Sup σ σ') (h2:Sup σ' σ):Rel Γ fr' σ' g a w:=by
 have keep:∀ s v,SR σ g w s v→SR σ' g w s v:=fun s v hv=>hv.sup h1
 refine⟨⟨h.hp.kept,h.hp.flt,h.hp.ext,h.hp.old,h.hp.val,fun id ob hid=>?_,fun i b hi hb=>h.hp.own i b ?_ hb,fun i j b hi hj=>h.hp.inj i j b ?_ ?_⟩,fun t v ht=>⟨(h.fr t v (hf t v ht)).1,(h.fr t v (hf t v ht)).2.keep keep⟩,h.size,h.defers.map (fun i d _ hl hμ=>⟨h1 _ _ hl,hμ⟩),fun s v hb=>⟨keep _ _ (h.base s v hb).1,(h.base s v hb).2⟩⟩
 ·have hO:=h.hp.obs id ob (h2 _ _ hid);exact hO.keep keep (Ext.refl _ _) rfl (fun _ _=>rfl) (fun b hb o=>h.hp.notK (h2 _ _ hid) hb o)
 ·obtain⟨x,hx⟩:=Option.isSome_iff_exists.1 hi;rw [h2 _ _ hx];rfl
 ·obtain⟨x,hx⟩:=Option.isSome_iff_exists.1 hi;rw [h2 _ _ hx];rfl
 ·obtain⟨x,hx⟩:=Option.isSome_iff_exists.1 hj;rw [h2 _ _ hx];rfl
structure GoodE (P:Program) (Γ:Cx) (all:List Oper) (ob:Bool) (ms:List Nat) (fr0:Fr) (σ0:Sg) (es:List En):Prop where
 idx:∀ e ∈ es,∀ e' ∈ es,e.i=e'.i→e=e'
 ids:∀ e ∈ es,∀ e' ∈ es,∀ p q,e.ob=some p→e'.ob=some q→p.1=q.1→e=e'
 id0:∀ e ∈ es,∀ p,e.ob=some p→lk p.1 σ0=none∧ob=true
 obk:∀ e ∈ es,∀ p,e.ob=some p→∃ o,all[e.i]?=some o∧noOb o.op=false
 sem:∀ e ∈ es,∃ o D,all[e.i]?=some o∧e.d=o.dst∧(∀ t,o.dst=some t→t < Γ.nt)∧(∀ e' ∈ D,e' ∈ es∧(ms.getD e.i 0).testBit e'.i=true)∧(∀ e' ∈ es,(ms.getD e.i 0).testBit e'.i=true→e'.i < e.i→e' ∈ D) ∧
  SemE P Γ all ob (selF (frs D ++ fr0) (looks all o)) (obs D ++ σ0) e.i o e.x e.ob
theorem zdJ {nt:Nat} {dst:Option Tmp} {gd:Option Bool} {v:AV} {k:AV→Prop} (h:putE nt dst gd v k):k (zeI gd v)∧∀ t,dst=some t→t < nt:=by
 unfold putE at h;cases dst with
 | none=>cases gd <;> exact⟨h,fun t ht=>by cases ht⟩
 | some d=>
  simp only at h;cases hb:Nat.blt d nt with
  | false=>rw [hb] at h;exact h.elim
  | true=>
   rw [hb] at h;cases gd <;> exact⟨h,fun t ht=>by cases ht;exact Nat.le_of_ble_eq_true hb⟩
theorem zdH {tt:TT} (htt:tt.ok P) (hL:Laid P Γ.K0.K Γ.w0) {all:List Oper} {ob:Bool} {ms:List Nat} {fr0:Fr} {σ0:Sg} {k:Fr→Sg→Prop}:∀ (rest:List Oper) (es:List En) (i:Nat),
  vcDr P tt Γ.nt all ob ms fr0 σ0 k rest es i (frs es ++ fr0) (obs es ++ σ0)→(∀ (j:Nat) (o:Oper),rest[j]?=some o→all[i+j]?=some o)→(∀ e ∈ es,e.i < i)→(∀ j,j < i→∃ e ∈ es,e.i=j)→GoodE P Γ all ob ms fr0 σ0 es →
  ∃ es',k (frs es' ++ fr0) (obs es' ++ σ0)∧GoodE P Γ all ob ms fr0 σ0 es'∧(∀ e ∈ es',e.i < i+rest.length)∧(∀ j,j < i+rest.length→∃ e ∈ es',e.i=j)
 | [],es,i,h,_,hlt,hcov,hg=>⟨es,h,hg,hlt,hcov⟩
 | o::rest,es,i,h,hall,hlt,hcov,hg=>by
  unfold vcDr at h;obtain⟨id,hidn,h⟩:=zfA h;obtain⟨gd,x,nob,hk,hnob,hsem⟩:=zdM (Γ:=Γ) htt hL h i;obtain⟨hk,hd⟩:=zdJ hk;let en:En:=⟨i,o.dst,zeI gd x,nob⟩
  have e1:=zbO en es fr0;have e2:=zcL en es σ0;have hk:vcDr P tt Γ.nt all ob ms fr0 σ0 k rest (en::es) (i+1) (frs (en::es) ++ fr0) (obs (en::es) ++ σ0):=by
   rw [← e1,← e2];exact hk
  have hfresh:∀ b,nob=some (id,b)→(∀ e ∈ es,∀ q,e.ob=some q→q.1≠id)∧lk id σ0=none:=by
   intro b _;have hl:=hidn;have hno:∀ p ∈ obs es,p.1≠id:=by
    intro p hp he;have key:∀ (L l0:List (Nat × Ob)) (t:Nat),lk t (L ++ l0)=none→∀ p ∈ L,p.1≠t:=by
     intro L l0 t;induction L with
     | nil=>intro _ p hp;simp at hp
     | cons q r ih=>
      intro h p hp;obtain⟨j,y⟩:=q;rw [List.cons_append,zr] at h;by_cases ej:j=t
      ·rw [if_pos ej] at h;cases h
      ·rw [if_neg ej] at h;rcases List.mem_cons.1 hp with rfl|hp
       ·exact ej
       ·exact ih h p hp
    exact key _ _ _ hl p hp he
   refine⟨fun e he q hq=>hno q (zF.2 ⟨e,he,hq⟩),?_⟩
   rw [← zU hno];exact hl
  have:=zdH htt hL rest (en::es) (i+1) hk (fun j o' hj=>by
   have:=hall (j+1) o' hj;rwa [Nat.add_assoc,Nat.add_comm 1 j]) (fun e he=>by
   rcases List.mem_cons.1 he with rfl|he
   ·exact Nat.lt_succ_self _
   ·exact Nat.lt_succ_of_lt (hlt e he)) (fun j hj=>by
   by_cases hji:j=i
   ·exact⟨en,List.mem_cons_self,hji.symm⟩
   ·obtain⟨e,he,h'⟩:=hcov j (by omega);exact⟨e,List.mem_cons_of_mem _ he,h'⟩) ?_
  ·obtain⟨es',h1,h2,h3,h4⟩:=this;refine⟨es',h1,h2,fun e he=>?_,fun j hj=>?_⟩
   ·have:=h3 e he;simp;omega
   ·exact h4 j (by simp at hj;omega)
  ·refine⟨fun e he e' he' hii=>?_,fun e he e' he' p q hp hq hpq=>?_,fun e he p hp=>?_,fun e he p hp=>?_,fun e he=>?_⟩
   ·rcases List.mem_cons.1 he with rfl|he <;> rcases List.mem_cons.1 he' with rfl|he'
    ·rfl
    ·have:=hlt e' he';have:i=e'.i:=hii;omega
    ·have:=hlt e he;have:e.i=i:=hii;omega
    ·exact hg.idx e he e' he' hii
   ·rcases List.mem_cons.1 he with rfl|he <;> rcases List.mem_cons.1 he' with rfl|he'
    ·rfl
    ·have hp:nob=some p:=hp;rcases hnob with hn|⟨_,_,b,hb⟩
     ·rw [hn] at hp;cases hp
     ·rw [hb] at hp;cases hp;exact absurd hpq.symm ((hfresh b hb).1 e' he' q hq)
    ·have hq:nob=some q:=hq;rcases hnob with hn|⟨_,_,b,hb⟩
     ·rw [hn] at hq;cases hq
     ·rw [hb] at hq;cases hq;exact absurd hpq ((hfresh b hb).1 e he p hp)
    ·exact hg.ids e he e' he' p q hp hq hpq
   ·rcases List.mem_cons.1 he with rfl|he
    ·have hp:nob=some p:=hp;rcases hnob with hn|⟨hon,_,b,hb⟩
     ·rw [hn] at hp;cases hp
     ·rw [hb] at hp;cases hp;exact⟨(hfresh b hb).2,hon⟩
    ·exact hg.id0 e he p hp
   ·rcases List.mem_cons.1 he with rfl|he
    ·have hp:nob=some p:=hp;rcases hnob with hn|⟨hon,hno,b,hb⟩
     ·rw [hn] at hp;cases hp
     ·exact⟨o,by simpa using hall 0 o rfl,hno⟩
    ·exact hg.obk e he p hp
   ·rcases List.mem_cons.1 he with rfl|he
    ·refine⟨o,zaK (ms.getD i 0) es,by simpa using hall 0 o rfl,rfl,hd,fun e' he'=>⟨List.mem_cons_of_mem _ (zap he').1,(zap he').2⟩,fun e' he' hb hlt'=>?_,hsem⟩
     rcases List.mem_cons.1 he' with rfl|he'
     ·exact absurd hlt' (Nat.lt_irrefl _)
     ·exact zbt he' hb
    ·obtain⟨o',D,a1,a2,a3,a4,a6,a5⟩:=hg.sem e he;refine⟨o',D,a1,a2,a3,fun e' he'=>⟨List.mem_cons_of_mem _ (a4 e' he').1,(a4 e' he').2⟩,fun e' he' hb hlt'=>?_,a5⟩
     rcases List.mem_cons.1 he' with rfl|he'
     ·have:=hlt e he;have hlt':i < e.i:=hlt';omega
     ·exact a6 e' he' hb hlt'
end
end Go.QL
namespace Go.QL
open Go Go.RowKit
section
variable {P:Program} {Γ:Cx} {fr:Fr} {σ:Sg} {Q:Exit→Fr→Sg→Prop}
theorem zq {D E:List En} (h:∀ e ∈ D,e ∈ E):∀ p,p ∈ frs D→p ∈ frs E:=fun p hp=>by
 obtain⟨e,he,h'⟩:=zY.1 hp;exact zY.2 ⟨e,h e he,h'⟩
theorem MaskOK.lt {ops:Array Oper} {ms:List Nat} {m:Nat} (h:MaskOK ops ms m) (i:Nat):∀ (o:Oper),ops[i]?=some o→∀ b,(ms.getD i 0).testBit b=true→b < i:=by
 induction i using Nat.strongRecOn with
 | _ i ih=>
  intro o ho b hb;obtain⟨e,he,hbd,h1⟩:=h.bit i o ho b hb;have hlt:=h.back i o ho e he hbd;rcases h1 with rfl|h1
  ·exact hlt
  ·have hi:i < ops.size:=(Array.getElem?_eq_some_iff.1 ho).1;have:=ih e.on hlt _ (Array.getElem?_eq_getElem (by omega)) b h1;omega
theorem Rel.drawn {g:Gh} {a:Act} {w:World} (h:Rel Γ fr σ g a w) (n:Nat):Rel Γ fr σ g a { w with drawn:=n }:=by
 have hd:=h.hp.grow (w':={ w with drawn:=n }) (K':=g.K) ⟨rfl,rfl,rfl,Nat.le_refl _,fun _ _=>rfl⟩ ⟨fun _ _ x=>x,fun _ _ _=>rfl⟩ (fun _ _ _ x=>x) (fun b o hk=>h.hp.val b o hk);exact h.did hd
theorem zkB {tt:TT} (htt:tt.ok P) (hmix:P.follows .mixedOrders=true) (m:Nat) (ob:Bool) (ms:List Nat) {id:Nat} {ops:List Oper} (hms:zbe ms m ops 0=true) (hlen:Nat.ble m ops.length=true)
  (hds:zc2 (ops.take m) []=true) (hrd:zcn ops ms (ops.take m) (ops.take m) 0=true) {kk:Fr→Sg→Prop}
  (hkk:Laid P Γ.K0.K Γ.w0→∀ fr' σ',kk fr' σ'→∀ g a w,Rel Γ fr' σ' g a w→wpLs Γ.ro P ops.toArray (Lift Γ Q) (ops.drop m) a w)
  (h:vcDr P tt Γ.nt ops ob ms fr σ kk (ops.take m) [] 0 fr σ):AW P Γ (.region id ops.toArray true) Q fr σ:=by
 refine AW.mk fun hLd g a w hr=>?_
 have hm:=MaskOK.of hms;have hlen:m≤ops.length:=Nat.le_of_ble_eq_true hlen;have htake:(ops.take m).length=m:=by simp;omega
 obtain⟨es,hk,hg,hlt,hcov⟩:=zdH (Γ:=Γ) htt hLd (ops.take m) [] 0 h (fun j o hj=>by
   rw [List.getElem?_take] at hj;by_cases hjm:j < m
   ·rw [if_pos hjm] at hj;simpa using hj
   ·rw [if_neg hjm] at hj;cases hj) (fun e he=>by simp at he) (fun j hj=>by omega)
   ⟨fun e he=>by simp at he,fun e he=>by simp at he,fun e he=>by simp at he,fun e he=>by simp at he,fun e he=>by simp at he⟩
 rw [htake] at hlt hcov;simp only [Nat.zero_add] at hlt hcov;obtain⟨_,hd1⟩:=zb1 hds;have hrd:=fun j o h=>zaV (zbR hrd j o h)
 simp only [Nat.zero_add] at hrd;have hop:∀ e ∈ es,∃ o,(ops.take m)[e.i]?=some o∧e.d=o.dst:=fun e he=>by
  obtain⟨o,D,h1,h2,_⟩:=hg.sem e he;exact⟨o,by rw [List.getElem?_take,if_pos (hlt e he)];exact h1,h2⟩
 have hfF:∀ p ∈ frs es,∀ q ∈ frs es,p.1=q.1→p=q:=by
  intro p hp q hq hpq;obtain⟨e,he,h1,h2⟩:=zY.1 hp;obtain⟨e',he',h1',h2'⟩:=zY.1 hq;obtain⟨o,ho,hd⟩:=hop e he;obtain⟨o',ho',hd'⟩:=hop e' he';have:=hd1 e.i e'.i o o' p.1 ho ho' (by rw [← hd,h1]) (by rw [← hd',h1',hpq]);have:=hg.idx e he e' he' this;subst this;obtain⟨p1,p2⟩:=p;obtain⟨q1,q2⟩:=q;simp only at *;subst hpq;subst h2;subst h2';rfl
 have hfO:∀ p ∈ obs es,∀ q ∈ obs es,p.1=q.1→p=q:=by
  intro p hp q hq hpq;obtain⟨e,he,h1⟩:=zF.1 hp;obtain⟨e',he',h1'⟩:=zF.1 hq;have:=hg.ids e he e' he' p q h1 h1' hpq;subst this;rw [h1] at h1';cases h1';rfl
 have hfO0:∀ p ∈ obs es,lk p.1 σ=none:=by
  intro p hp;obtain⟨e,he,h1⟩:=zF.1 hp;exact (hg.id0 e he p h1).1
 have supO:∀ D E:List En,(∀ e ∈ D,e ∈ E)→(∀ e ∈ E,e ∈ es)→Sup (obs D ++ σ) (obs E ++ σ):=fun D E h1 h2=>
  zeM hfO hfO0 (fun p hp=>by obtain⟨e,he,h'⟩:=zF.1 hp;exact zF.2 ⟨e,h1 e he,h'⟩) (fun p hp=>by obtain⟨e,he,h'⟩:=zF.1 hp;exact zF.2 ⟨e,h2 e he,h'⟩)
 let InvA:(Nat→Prop)→Act→World→Prop:=fun L a w=>∃ (E:List En) (g:Gh),(∀ e ∈ E,e ∈ es)∧(∀ j,L j↔∃ e ∈ E,e.i=j)∧(∀ k,L k→∀ b,(ms.getD k 0).testBit b=true→L b)∧Rel Γ (frs E ++ fr) (obs E ++ σ) g a w
 let InvB:(Nat→Prop)→Act→World→Prop:=fun L a w=>∃ j,m≤j∧j≤ops.length∧(∀ b,L b↔b < j)∧wpLs Γ.ro P ops.toArray (Lift Γ Q) (ops.drop j) a w
 have conv:∀ L a w,InvA L a w→(∀ b,b < m→L b)→InvB L a w:=by
  intro L a w ⟨E,g,h1,h2,_,h3⟩ hall;refine⟨m,Nat.le_refl _,hlen,fun b=>⟨fun hb=>?_,hall b⟩,?_⟩
  ·obtain⟨e,he,hi⟩:=(h2 b).1 hb;rw [← hi];exact hlt e (h1 e he)
  ·have hsub:∀ e ∈ es,e ∈ E:=by
    intro e he;obtain⟨e',he',hi⟩:=(h2 e.i).1 (hall e.i (hlt e he));have:=hg.idx e' (h1 e' he') e he hi;subst this;exact he'
   have hr':Rel Γ (frs es ++ fr) (obs es ++ σ) g a w:=h3.same (zb4 (fun p hp q hq=>hfF p ((zq h1) p hp) q ((zq h1) q hq)) (fun p=>⟨zq hsub p,zq h1 p⟩)) (supO E es h1 (fun e he=>he)) (supO es E hsub h1);exact hkk hLd _ _ hk g a w hr'
 refine wpIn_region_any hmix ?_
 refine zbU hm (fun L a w=>InvA L a w∨InvB L a w) ?_ ?_ _ _ _ _ (by simp) ?_ ?_ ?_
 ·-- a step
  intro L a w hinv i hi hL hbits;have hi':i < ops.length:=by simpa using hi
  have stepB:InvB L a w→wpOpIn (FX Γ.ro) 0 P ops.toArray (Lift Γ Q) i (fun a w=>InvA (fun j=>L j∨j=i) a w∨InvB (fun j=>L j∨j=i) a w) a w:=by
   intro ⟨j,hj1,hj2,hj3,hj4⟩;have hji:j≤i:=by
    rcases Nat.lt_or_ge i j with h'|h'
    ·exact absurd ((hj3 i).2 h') hL
    ·exact h'
   have hij:i=j:=by
    rcases Nat.lt_or_ge j i with h'|h'
    ·have:=hm.tail i _ (Array.getElem?_eq_getElem (by simpa using hi')) (by omega) j h';have:=(hj3 j).1 (hbits j this);omega
    ·omega
   subst hij;rw [List.drop_eq_getElem_cons hi'] at hj4;have hoi:ops.toArray[i]?=some ops[i]:=by simp [hi']
   have hnew:∀ a w,wpLs Γ.ro P ops.toArray (Lift Γ Q) (ops.drop (i+1)) a w→InvA (fun j=>L j∨j=i) a w∨InvB (fun j=>L j∨j=i) a w:=by
    intro a w hw;refine .inr ⟨i+1,by omega,by omega,fun b=>?_,hw⟩
    show (L b∨b=i)↔b < i+1
    rw [hj3 b];omega
   unfold wpOpIn;simp only [hoi];unfold wpLs wpLk at hj4;split
   ·rename_i hwant;rw [if_pos hwant] at hj4;exact Oper.wpIn_mono hnew hj4
   ·rename_i hwant;rw [if_neg hwant] at hj4;exact⟨fun _ _=>trivial,hnew _ _ hj4⟩
  rcases hinv with hA|hB
  ·rcases Nat.lt_or_ge i m with him|him
   ·obtain⟨E,g,h1,h2,hcl,h3⟩:=hA;obtain⟨en,hen,heni⟩:=hcov i him;obtain⟨o,D,a1,a2,a3,a4,a6,a5⟩:=hg.sem en hen;rw [heni] at a1 a4 a5 a6;have hDE:∀ e ∈ D,e ∈ E:=by
     intro e he;obtain⟨he1,he2⟩:=a4 e he;obtain⟨e',he',hi'⟩:=(h2 e.i).1 (hbits e.i he2);have:=hg.idx e' (h1 e' he') e he1 hi';subst this;exact he'
    have hsup:Sup (selF (frs D ++ fr) (looks ops o)) (frs E ++ fr):=by
     intro t v hl;obtain⟨ht,hl⟩:=zbF hl;rcases zdB hl with hl|⟨hn,hl⟩
     ·exact zas (fun p hp q hq=>hfF p (zq h1 p hp) q (zq h1 q hq)) (zq hDE _ hl)
     ·rw [zU]
      ·exact hl
      ·intro p hp hpt;obtain⟨e,he,h1',h2'⟩:=zY.1 hp;obtain⟨oe,hoe,hde⟩:=hop e (h1 e he);have hLe:L e.i:=(h2 e.i).2 ⟨e,he,rfl⟩;rcases hrd i o (by rw [List.getElem?_take,if_pos him];exact a1) e.i oe t hoe (by rw [← hde,h1',hpt]) ht with hk|hk|hk
       ·exact hL (hk ▸ hLe)
       ·have hlt':e.i < i:=hm.lt i o (by simpa using a1) e.i hk;exact hn p (zY.2 ⟨e,a6 e (h1 e he) hk hlt',h1',h2'⟩) hpt
       ·exact hL (hcl e.i hLe i hk)
    refine a5 _ (frs E ++ fr) (obs E ++ σ) g a w hsup (supO D E hDE h1) ?_ ?_ h3 _ ?_ (by simpa using a1)
    ·intro hob;have hn:∀ X:List En,(∀ e ∈ X,e ∈ es)→obs X=[]:=by
      intro X hX;cases hx:obs X with
      | nil=>rfl
      | cons p r=>
       obtain⟨e,he,hp⟩:=zF.1 (show p ∈ obs X by rw [hx];exact List.mem_cons_self);have:=(hg.id0 e (hX e he) p hp).2;rw [hob] at this;cases this
     rw [hn E h1,hn D (fun e he=>h1 e (hDE e he))]
    ·intro p hp;rw [zU]
     ·exact (hg.id0 en hen p hp).1
     ·intro q hq he;obtain⟨e',he',hq'⟩:=zF.1 hq;have:=hg.ids e' (h1 e' he') en hen q p hq' hp he;subst this;exact hL ((h2 i).2 ⟨e',he',heni⟩)
    ·intro v g' w' hr' hv;left
     refine⟨en::E,g',fun e he=>?_,fun j=>?_,fun k hk b hb=>?_,?_⟩
     ·rcases List.mem_cons.1 he with rfl|he
      ·exact hen
      ·exact h1 e he
     ·show (L j∨j=i)↔_
      rw [h2 j];constructor
      ·rintro (⟨e,he,h'⟩|rfl)
       ·exact⟨e,List.mem_cons_of_mem _ he,h'⟩
       ·exact⟨en,List.mem_cons_self,heni⟩
      ·rintro⟨e,he,h'⟩;rcases List.mem_cons.1 he with rfl|he
       ·exact .inr (h'.symm.trans heni)
       ·exact .inl ⟨e,he,h'⟩
     ·rcases hk with hk|rfl
      ·exact .inl (hcl k hk b hb)
      ·exact .inl (hbits b hb)
     ·rw [← zbO,← zcL];rw [a2];cases hdd:o.dst with
      | none=>exact hr'
      | some d=>exact hr'.put (a3 d hdd) hv
   ·have hall:∀ b,b < i→L b:=fun b hb=>hbits b (hm.tail i _ (Array.getElem?_eq_getElem (by simpa using hi')) him b hb)
    exact stepB (conv L a w hA fun b hb=>hall b (by omega))
  ·exact stepB hB
 ·-- the end
  intro L a w hinv hall;have hB:InvB L a w:=by
   rcases hinv with hA|hB
   ·exact conv L a w hA fun b hb=>hall b (by simp;omega)
   ·exact hB
  obtain⟨j,hj1,hj2,hj3,hj4⟩:=hB;have:j=ops.length:=by
   rcases Nat.lt_or_ge j ops.length with h'|h'
   ·have:=(hj3 j).1 (hall j (by simpa using h'));omega
   ·omega
  subst this;rw [List.drop_length] at hj4;exact hj4
 ·intro i hi;have:(Array.replicate ops.length false)[i]?.getD false=false:=by
   rw [Array.getElem?_replicate];split <;> rfl
  simp [this] at hi
 ·unfold unl;refine Nat.le_trans (List.length_filter_le _ _) (by simp)
 ·left
  refine⟨[],g,fun e he=>by simp at he,fun j=>?_,fun k hk=>?_,hr.drawn _⟩
  rotate_left
  ·have:(Array.replicate ops.length false)[k]?.getD false=false:=by
    rw [Array.getElem?_replicate];split <;> rfl
   simp [this] at hk
  have:(Array.replicate ops.length false)[j]?.getD false=false:=by
   rw [Array.getElem?_replicate];split <;> rfl
  simp [this]
theorem zl {tt:TT} (htt:tt.ok P) (hmix:P.follows .mixedOrders=true) (m:Nat) (ob:Bool) (ms:List Nat) {id:Nat} {ops:List Oper} (hms:zbe ms m ops 0=true) (hlen:Nat.ble m ops.length=true)
  (hds:zc2 (ops.take m) []=true) (hrd:zcn ops ms (ops.take m) (ops.take m) 0=true)
  (h:vcDr P tt Γ.nt ops ob ms fr σ (fun fr' σ'=>zah P tt Γ.nt ops (Q .normal) (ops.drop m) fr' σ') (ops.take m) [] 0 fr σ):AW P Γ (.region id ops.toArray true) Q fr σ:=
 zkB htt hmix m ob ms hms hlen hds hrd (fun hLd _ _ hk g a w hr'=>zcc htt hLd (fun _ _ h=>h) (ops.drop m) _ _ hk g a w hr') h
end
end Go.QL
namespace Go.QL
open Go Go.RowKit
section
variable {P:Program} {Γ:Cx} {fr:Fr} {σ:Sg} {Q:Exit→Fr→Sg→Prop}
structure Both (A B:Prop):Prop where
 one:A
 two:B
end
end Go.QL
namespace Go.QL
open Go Go.RowKit
theorem zgd {α : Type} {k:Nat} {l:List (Nat × α)} {x : α} (h:lk k l=some x):k ∈ l.map (·.1):=by
 have:=zo2 h;exact List.mem_map.2 ⟨_,this,rfl⟩
theorem SR.inI {σ:Sg} {g:Gh} {w:World} {s:SV} {v:Value} (h:SR σ g w s v):InI (σ.map (·.1)) s:=by
 induction h with
 | d x v h=>exact .d x
 | old c st n e sz st' xs v h hlt h1=>exact .o c st n (zgd h)
 | o c st n e sz xs a cap h hn hμ=>exact .o c st n (zgd h)
 | b id off cs k h hμ=>exact .b id off (zgd h)
 | se e off k l vs hK hc hr=>exact .se e off
 | oeold c st i off e sz st' xs v h hlt h1=>exact .oe c st i off (zgd h)
 | osold c st i off e sz st' xs v h hlt h1=>exact .os c st i off (zgd h)
 | oe c st i off e sz xs k cap h hμ=>exact .oe c st i off (zgd h)
 | os c st i off e sz xs k cap h hμ hn=>exact .os c st i off (zgd h)
 | f fn first captured v1 v2 h1 h2 _ _ ih1 ih2=>
  refine .f fn first captured (fun s hs=>?_) (fun s hs=>?_)
  ·obtain⟨i,hi,he⟩:=List.getElem_of_mem hs;exact ih1 i s (v1[i]'(by omega)) (by rw [List.getElem?_eq_getElem hi,he]) (Array.getElem?_eq_getElem (by omega))
  ·obtain⟨i,hi,he⟩:=List.getElem_of_mem hs;exact ih2 i s (v2[i]'(by omega)) (by rw [List.getElem?_eq_getElem hi,he]) (Array.getElem?_eq_getElem (by omega))
 | j v h1=>exact .j
 | h id o k h hμ=>exact .h id (zgd h)
 | sb id off n cap cs k h hμ hn hc=>exact .sb id off n cap (zgd h)
section
variable {P:Program} {Γ:Cx} {fr:Fr} {σ:Sg} {g:Gh} {a:Act} {w:World}
theorem zk4 {x:AV} (h:ziC x=true) {v:Value} (hv:VR2 σ g w x v):VR1 σ g w x v:=by
 cases x with
 | x _=>exact hv
 | a _=>exact hv
 | t _=>cases h
 | g _ _=>cases h
def zfp (tt:TT) (res:List ResultVar) (fr:Fr) (σ:Sg):Option AV:=
 match zbY tt σ fr res with
 | some [x]=>some x
 | some xs=>bif xs.all ziC then some (.t xs) else none
 | none=>none
def zsl (tt:TT) (res:List ResultVar) (R:AV→Sg→Prop):Exit→Fr→Sg→Prop
 | .normal,fr,σ|.ret,fr,σ=>∃ r,zfp tt res fr σ=some r∧R r σ
 | _,_,_=>False
theorem zjg {tt:TT} (htt:tt.ok P) (hr:Rel Γ fr σ g a w) {fn:Func} {res:List ResultVar} (hres:fn.results=res.toArray) {r:AV} (h:zfp tt res fr σ=some r) :
  ∃ v,(results fn a.tmps).run P w=.ok v w∧VR2 σ g w r v:=by
 unfold zfp at h;cases hx:zbY tt σ fr res with
 | none=>rw [hx] at h;cases h
 | some xs=>
  rw [hx] at h;obtain⟨us,hus,hl,hrs⟩:=zef htt hr hx;have hm:(res.toArray.mapM (m:=Sem) (zgM a.tmps)).run P w=.ok us.toArray w:=by
   rw [Array.mapM_eq_mapM_toList,Sem.run_map,hus];rfl
  have hrun:(results fn a.tmps).run P w=.ok (if h:us.toArray.size=1 then us.toArray[0] else .tuple us.toArray) w:=by
   rw [zeS,hres,Sem.run_bind,hm];rfl
  refine⟨_,hrun,?_⟩
  have many:¬ us.toArray.size=1→(bif xs.all ziC then some (AV.t xs) else none)=some r→VR2 σ g w r (.tuple us.toArray):=by
   intro _ h;cases hall:xs.all ziC with
   | false=>rw [hall] at h;cases h
   | true=>
    rw [hall] at h;cases h;rw [List.all_eq_true] at hall;exact⟨_,rfl,by simpa using hl,fun i z q hi hq=>zk4 (hall z (List.mem_of_getElem? hi)) (hrs i z q hi (by simpa using hq))⟩
  match xs,us,hl,hrs,h,many with
  | [],[],_,_,h,many=>
   rw [dif_neg (by simp)];exact many (by simp) h
  | [x],[u],_,hrs,h,_=>cases h;exact hrs 0 _ u rfl rfl
  | x::y::xs,u::v::us,_,_,h,many=>
   have hne:¬ (u::v::us).toArray.size=1:=by simp
   rw [dif_neg hne];exact many hne h
theorem zcN {tt:TT} (htt:tt.ok P) {f:FuncId} {fn:Func} {c:Code} {args:List AV} {σ:Sg} {R:AV→Sg→Prop} {res:List ResultVar} (hf:P.funcs[f]?=some fn) (hb:fn.body=some c)
  (hname:(fn.name == "runtime.NumGoroutine")=false) (hres:fn.results=res.toArray) {nt:Nat} (hnt:fn.ntmps=nt) (hle:args.length≤nt)
  (h:∀ w0 K0 B,AW P ⟨w0,K0,nt,B,σ.map (·.1),none,[],[]⟩ c (zsl tt res R) (entry 0 args) σ):ACall P f args σ R:=by
 refine⟨⟨fn,hf,by rw [hb];rfl,hname⟩,fun w0 K0 g w vs hL hp hs hv=>?_⟩
 refine calls_of_wp hf hb ((wpIn_wide (n:=0)).1 ?_)
 have hrel:Rel ⟨w0,K0,nt,SR σ g w,σ.map (·.1),none,[],[]⟩ (entry 0 args) σ g ⟨vs ++ Array.replicate (fn.ntmps - vs.size) undef,[]⟩ w:=by
  refine⟨hp,fun t x ht=>?_,by simp;omega,DRb.empty,fun s v hb=>⟨hb,SR.inI hb⟩⟩
  obtain⟨_,hx⟩:=zbm args 0 t x ht;rw [Nat.sub_zero] at hx;have hlt:t < args.length:=(List.getElem?_eq_some_iff.1 hx).1;refine⟨by show t < nt;omega,?_⟩
  have hvt:vs[t]?=some (vs[t]'(by omega)):=Array.getElem?_eq_getElem (by omega);have e:(vs ++ Array.replicate (fn.ntmps - vs.size) undef).getD t undef=vs[t]'(by omega):=by
   rw [Array.getD_eq_getD_getElem?,Array.getElem?_append_left (by omega),hvt];rfl
  show VR _ _ _ _ ((vs ++ Array.replicate (fn.ntmps - vs.size) undef).getD t undef)
  rw [e];exact zZ (hv t x _ hx hvt)
 refine wpIn_mono ((h w0 K0 _).use hL hrel) ?_
 intro e a' w' ⟨fr,σ',g',hr,hq⟩;have fin:(∃ r,zfp tt res fr σ'=some r∧R r σ')→a'.defers=[]∧∃ v,(results fn a'.tmps).run P w'=.ok v w'∧∃ v_1 g'' σ'' r,Ending.returned v=.returned v_1∧Did w0 K0 σ g w σ'' g'' w'∧VR2 σ'' g'' w' r v_1∧R r σ'':=by
  rintro⟨r,ho,hR⟩;obtain⟨v,hrun,hvr⟩:=zjg htt hr hres ho;exact⟨hr.defers.nil,v,hrun,v,g',σ',r,rfl,⟨hr.hp,fun s u hs=>(hr.base s u hs).1⟩,hvr,hR⟩
 cases e with
 | normal=>exact fin hq
 | ret=>exact fin hq
 | _=>exact hq.elim
theorem Imp.slots {fr':Fr} (hf:SubF fr fr'):Imp Γ fr σ fr' σ:=fun g _ _ h=>⟨g,h.subF (ze8 hf)⟩
end
end Go.QL
end
