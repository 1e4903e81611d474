/- The logic of walks, and what the functions of the program return: part 0. No condition. -/
import Derived.WalkKit
import Derived.Laws.StructEq
import Derived.ChangeKeysEq
import Derived.Lib.AtoiErrMem
import Derived.Laws.AppendOwn
import Derived.Deep.AppendSrc
import GoSem.Core.Utf8
set_option linter.all false
noncomputable section
namespace Go.QL
open Go Go.RowKit
inductive LK where
 | int (k:IntKind)
 | bool
 | str
deriving DecidableEq
def LK.of:TypeDesc→Option LK
 | .int k=>some (.int k)
 | .bool=>some .bool
 | .string=>some .str
 | _=>none
def LK.fits:LK→Value→Bool
 | .int k,.int k' _=>k == k'
 | .bool,.bool _=>true
 | .str,.string _=>true
 | _,_=>false
def eqV:Value→Value→Bool
 | .int _ a,.int _ b=>a == b
 | .bool a,.bool b=>a == b
 | .string a,.string b=>a.toList == b.toList
 | _,_=>false
def zaR:List LK→List Value→Bool
 | [],[]=>true
 | k::r,v::s=>k.fits v && zaR r s
 | _,_=>false
def eqL:List Value→List Value→Bool
 | [],[]=>true
 | a::r,b::s=>eqV a b && eqL r s
 | _,_=>false
theorem zb7:∀ {ks:List LK} {vs:List Value},zaR ks vs=true→vs.length=ks.length
 | [],[],_=>rfl
 | k::r,v::s,h=>by simp only [zaR,Bool.and_eq_true] at h;simp [zb7 h.2]
 | [],_::_,h=>by cases h
 | _::_,[],h=>by cases h
theorem zev:∀ {ks ls:List LK} {vs:List Value},zaR (ks ++ ls) vs=true→zaR ks (vs.take ks.length)=true∧zaR ls (vs.drop ks.length)=true
 | [],ls,vs,h=>⟨rfl,h⟩
 | k::r,ls,[],h=>by cases h
 | k::r,ls,v::s,h=>by
  simp only [List.cons_append,zaR,Bool.and_eq_true] at h;have:=zev h.2;simp [zaR,h.1,this]
theorem zmO:∀ {vs us:List Value} (n:Nat),vs.length=us.length→eqL vs us=(eqL (vs.take n) (us.take n) && eqL (vs.drop n) (us.drop n))
 | [],[],n,_=>by simp [eqL]
 | v::vs,u::us,0,_=>by simp [eqL]
 | v::vs,u::us,n+1,h=>by simp [eqL,zmO n (by simpa using h),Bool.and_assoc]
 | [],_::_,_,h=>by cases h
 | _::_,[],_,h=>by cases h
inductive KT where
 | one (k:LK)
 | st (ks:List LK)
 | oone (k:LK)
 | ost (ks:List LK)
def KT.fits:KT→Value→Bool
 | .one k,v=>k.fits v
 | .st ks,.agg xs=>zaR ks xs.toList
 | .oone k,v=>k.fits v
 | .ost ks,.agg xs=>zaR ks xs.toList
 | _,_=>false
def KT.base:KT→KT
 | .oone k=>.one k
 | .ost ks=>.st ks
 | k=>k
def KT.own:KT→KT
 | .one k=>.oone k
 | .st ks=>.ost ks
 | k=>k
theorem KT.fits_base (kt:KT) (v:Value):kt.base.fits v=kt.fits v:=by cases kt <;> first|rfl|(cases v <;> rfl)
theorem KT.fits_own (kt:KT) (v:Value):kt.own.fits v=kt.fits v:=by cases kt <;> first|rfl|(cases v <;> rfl)
def zhG:Value→Value→Bool
 | .agg xs,.agg ys=>eqL xs.toList ys.toList
 | a,b=>eqV a b
theorem zmM {k:LK} {a b:Value} (ha:k.fits a=true) (hb:k.fits b=true):eqV a b=true↔a=b:=by
 cases k with
 | int k=>
  cases a <;> simp only [LK.fits] at ha <;> try cases ha
  cases b <;> simp only [LK.fits] at hb <;> try cases hb
  rename_i k1 n1 k2 n2;have h1:k=k1:=by simpa using ha
  have h2:k=k2:=by simpa using hb
  subst h1;subst h2;simp [eqV]
 | bool=>
  cases a <;> simp only [LK.fits] at ha <;> try cases ha
  cases b <;> simp only [LK.fits] at hb <;> try cases hb
  simp [eqV]
 | str=>
  cases a <;> simp only [LK.fits] at ha <;> try cases ha
  cases b <;> simp only [LK.fits] at hb <;> try cases hb
  rename_i x y;simp only [eqV,beq_iff_eq];constructor
  ·intro h;have:x=y:=by
    rw [ByteArray.toList_eq,ByteArray.toList_eq] at h;obtain⟨⟨x⟩⟩:=x;obtain⟨⟨y⟩⟩:=y;simp_all
   rw [this]
  ·simp_all
theorem zmN:∀ {ks:List LK} {xs ys:List Value},zaR ks xs=true→zaR ks ys=true→(eqL xs ys=true↔xs=ys)
 | [],[],[],_,_=>by simp [eqL]
 | k::r,x::xs,y::ys,h1,h2=>by
  simp only [zaR,Bool.and_eq_true] at h1 h2;simp only [eqL,Bool.and_eq_true,zmM h1.1 h2.1,zmN h1.2 h2.2,List.cons.injEq]
 | [],_::_,_,h,_=>by cases h
 | [],[],_::_,_,h=>by cases h
 | _::_,[],_,h,_=>by cases h
 | _::_,_::_,[],_,h=>by cases h
theorem zey {kt:KT} {a b:Value} (ha:kt.fits a=true) (hb:kt.fits b=true):zhG a b=true↔a=b:=by
 rw [← KT.fits_base] at ha hb;generalize hk:kt.base=kt0 at ha hb;cases kt0 with
 | oone _=>cases kt <;> cases hk
 | ost _=>cases kt <;> cases hk
 | one k=>
  have:zhG a b=eqV a b:=by
   cases k <;> cases a <;> simp only [KT.fits,LK.fits] at ha <;> try cases ha
   all_goals rfl
  rw [this];exact zmM ha hb
 | st ks=>
  cases a <;> simp only [KT.fits] at ha <;> try cases ha
  cases b <;> simp only [KT.fits] at hb <;> try cases hb
  rename_i xs ys;show eqL xs.toList ys.toList=true↔_
  rw [zmN ha hb];simp_all
end Go.QL
namespace Go.QL
open Go Go.RowKit
inductive PV where
 | v (x:Value)
 | s (sz:Nat) (xs:List (List PV))
 | c (sz:Nat) (xs:List (List PV))
 | e
inductive SV where
 | d (x:PV)
 | o (c st n:Nat)
 | b (id off:Nat)
 | se (e:List PV) (off:Nat)
 | oe (c st i off:Nat)
 | f (fn:Fn) (first captured:List SV)
 | j
 | h (id:Nat)
 | sb (id off n cap:Nat)
 | os (c st lo n:Nat)
inductive AV where
 | x (s:SV)
 | a (cells:List SV)
 | t (vs:List AV)
 | g (c:Bool) (v:AV)
abbrev Fr:=List (Nat × AV)
inductive Ob2 where
 | map (kt:KT) (kvs:List (Value × AV))
 | mapIter (m:Option Nat) (since:Nat) (seen:List Nat) (last:Nat)
 | strIter (s:ByteArray) (pos:Nat)
 | loop (st:LoopState) (pend:Option Code) (params:Array Tmp) (assign body:Code) (nt:Nat) (fr:Fr) (dfr:Nat)
 | dfr
inductive Kd where
 | map
 | ptr
 | loop
 | dfr
def Ob2.kd:Ob2→Kd
 | .map _ _=>.map
 | .loop ..=>.loop
 | .dfr=>.dfr
 | _=>.ptr
def Kd.val (k:Nat):Kd→Value
 | .map=>.map (some k)
 | .ptr=>.pointer (some ⟨k,0,none⟩)
 | .loop=>.func (.yield k) #[] #[]
 | .dfr=>.chan (some k)
theorem Kd.val_one (k:Nat) (d:Kd):(d.val k).oneCell'=true:=by cases d <;> rfl
inductive Ob where
 | box (cells:List SV)
 | chain (e:TypeId) (sz st:Nat) (xs:List (List PV))
 | x (o:Ob2)
abbrev Sg:=List (Nat × Ob)
noncomputable def lk {α : Type} (k:Nat) (l:List (Nat × α)):Option α:=List.rec (motive:=fun _=>Option α) none (fun x _ ih=>Prod.rec (motive:=fun _=>Option α) (fun j v=>Bool.rec (motive:=fun _=>Option α) ih (some v) (Nat.beq j k)) x) l
theorem zr {α : Type} (k j:Nat) (x : α) (r:List (Nat × α)):lk k ((j,x)::r)=if j=k then some x else lk k r:=by
 show Bool.rec (motive:=fun _=>Option α) (lk k r) (some x) (Nat.beq j k)=_
 cases h:Nat.beq j k with
 | true=>rw [if_pos (Nat.eq_of_beq_eq_true h)]
 | false=>rw [if_neg (fun e=>by subst e;rw [Nat.beq_refl] at h;cases h)]
inductive PR (K:Nat→Nat→Prop) (w:World):PV→Value→Prop
 | v (x:Value) (h:x.oneCell'=true):PR K w (.v x) x
 | s (sz:Nat) (xs:List (List PV)) (a:Option Addr) (cap b off:Nat) (vs:Nat→Nat→Value)
   (hcap:xs.length≤cap) (hmax:cap≤maxLen) (hsz:∀ e ∈ xs,e.length=sz)
   (ha:xs≠[]→a=some ⟨b,off,none⟩)
   (hK:∀ i e,xs[i]?=some e→∀ j,j < e.length→K b (off+(i * sz+j)))
   (hc:∀ i e,xs[i]?=some e→∀ j,j < e.length→w.cell? ⟨b,off+(i * sz+j),none⟩=some (vs i j))
   (hr:∀ i e,xs[i]?=some e→∀ j x,e[j]?=some x→PR K w x (vs i j)) :
   PR K w (.s sz xs) (.slice a xs.length cap)
 | c (sz:Nat) (xs:List (List PV)) (a:Option Addr) (h:PR K w (.s sz xs) (.slice a xs.length xs.length)):PR K w (.c sz xs) (.slice a xs.length xs.length)
 | e (T:TypeId) (v:Value):PR K w .e (.iface T v)
structure Ext (K:Nat→Nat→Prop) (w:World) (K':Nat→Nat→Prop) (w':World):Prop where
 sub:∀ b o,K b o→K' b o
 cell:∀ b o,K b o→w'.cell? ⟨b,o,none⟩=w.cell? ⟨b,o,none⟩
theorem Ext.refl (K:Nat→Nat→Prop) (w:World):Ext K w K w:=⟨fun _ _ h=>h,fun _ _ _=>rfl⟩
theorem Ext.trans {K K' K'':Nat→Nat→Prop} {w w' w'':World} (h:Ext K w K' w') (k:Ext K' w' K'' w''):Ext K w K'' w'':=
 ⟨fun _ _ x=>k.sub _ _ (h.sub _ _ x),fun _ _ x=>(k.cell _ _ (h.sub _ _ x)).trans (h.cell _ _ x)⟩
theorem PR.mono {K K':Nat→Nat→Prop} {w w':World} (h:Ext K w K' w') {x:PV} {v:Value} (hp:PR K w x v):PR K' w' x v:=by
 induction hp with
 | v x h1=>exact .v x h1
 | s sz xs a cap b off vs hcap hmax hsz ha hK hc hr ih=>
  refine .s sz xs a cap b off vs hcap hmax hsz ha (fun i e he j hj=>h.sub _ _ (hK i e he j hj)) (fun i e he j hj=>?_) (fun i e he j x hx=>ih i e he j x hx)
  rw [h.cell _ _ (hK i e he j hj)];exact hc i e he j hj
 | c sz xs a _ ih=>exact .c sz xs a ih
 | e T v=>exact .e T v
structure Gh where
 K:Nat→Nat→Prop
 μ:Nat→Value
def blk:Value→Option Nat
 | .pointer (some a)=>some a.block
 | .slice (some a) _ _=>some a.block
 | _=>none
inductive SR (σ:Sg) (g:Gh) (w:World):SV→Value→Prop
 | d (x:PV) (v:Value) (h:PR g.K w x v):SR σ g w (.d x) v
 | old (c st n:Nat) (e sz st':Nat) (xs:List (List PV)) (v:Value) (h:lk c σ=some (.chain e sz st' xs)) (hlt:st < st') (h1:v.oneCell'=true):SR σ g w (.o c st n) v
 | o (c st n:Nat) (e sz:Nat) (xs:List (List PV)) (a:Option Addr) (cap:Nat) (h:lk c σ=some (.chain e sz st xs)) (hn:n≤xs.length)
   (hμ:g.μ c=.slice a xs.length cap):SR σ g w (.o c st n) (.slice a n cap)
 | b (id off:Nat) (cs:List SV) (k:Nat) (h:lk id σ=some (.box cs)) (hμ:g.μ id=.pointer (some ⟨k,0,none⟩)):SR σ g w (.b id off) (.pointer (some ⟨k,off,none⟩))
 | se (e:List PV) (off k l:Nat) (vs:Nat→Value) (hK:∀ j,j < e.length→g.K k (l+j)) (hc:∀ j,j < e.length→w.cell? ⟨k,l+j,none⟩=some (vs j))
   (hr:∀ j x,e[j]?=some x→PR g.K w x (vs j)):SR σ g w (.se e off) (.pointer (some ⟨k,l+off,none⟩))
 | oeold (c st i off:Nat) (e sz st':Nat) (xs:List (List PV)) (v:Value) (h:lk c σ=some (.chain e sz st' xs)) (hlt:st < st') (h1:v.oneCell'=true):SR σ g w (.oe c st i off) v
 | oe (c st i off:Nat) (e sz:Nat) (xs:List (List PV)) (k cap:Nat) (h:lk c σ=some (.chain e sz st xs))
   (hμ:g.μ c=.slice (some ⟨k,0,none⟩) xs.length cap):SR σ g w (.oe c st i off) (.pointer (some ⟨k,i * sz+off,none⟩))
 | osold (c st lo n:Nat) (e sz st':Nat) (xs:List (List PV)) (v:Value) (h:lk c σ=some (.chain e sz st' xs)) (hlt:st < st') (h1:v.oneCell'=true):SR σ g w (.os c st lo n) v
 | os (c st lo n:Nat) (e sz:Nat) (xs:List (List PV)) (k cap:Nat) (h:lk c σ=some (.chain e sz st xs))
   (hμ:g.μ c=.slice (some ⟨k,0,none⟩) xs.length cap) (hn:lo < n∧n≤xs.length):SR σ g w (.os c st lo n) (.slice (some ⟨k,lo * sz,none⟩) (n - lo) (cap - lo))
 | f (fn:Fn) (first captured:List SV) (v1 v2:Array Value) (h1:v1.size=first.length) (h2:v2.size=captured.length)
   (r1:∀ (i:Nat) (s:SV) (v:Value),first[i]?=some s→v1[i]?=some v→SR σ g w s v) (r2:∀ (i:Nat) (s:SV) (v:Value),captured[i]?=some s→v2[i]?=some v→SR σ g w s v) :
   SR σ g w (.f fn first captured) (.func fn v1 v2)
 | j (v:Value) (h1:v.oneCell'=true):SR σ g w .j v
 | h (id:Nat) (o:Ob2) (k:Nat) (h:lk id σ=some (.x o)) (hμ:g.μ id=.pointer (some ⟨k,0,none⟩)):SR σ g w (.h id) (o.kd.val k)
 | sb (id off n cap:Nat) (cs:List SV) (k:Nat) (h:lk id σ=some (.box cs)) (hμ:g.μ id=.pointer (some ⟨k,0,none⟩)) (hn:n≤cap) (hc:cap≤maxLen):SR σ g w (.sb id off n cap) (.slice (some ⟨k,off,none⟩) n cap)
theorem PR.one {K:Nat→Nat→Prop} {w:World} {x:PV} {v:Value} (h:PR K w x v):v.oneCell'=true:=by
 cases h with
 | v _ h=>exact h
 | s=>rfl
 | c=>rfl
 | e=>rfl
theorem SR.one {σ:Sg} {g:Gh} {w:World} {s:SV} {v:Value} (h:SR σ g w s v):v.oneCell'=true:=by
 cases h with
 | d _ _ h=>exact h.one
 | old _ _ _ _ _ _ _ _ _ _ h=>exact h
 | oeold _ _ _ _ _ _ _ _ _ _ _ h=>exact h
 | osold _ _ _ _ _ _ _ _ _ _ _ h=>exact h
 | j _ h=>exact h
 | h=>exact Kd.val_one _ _
 | _=>rfl
structure Compat (σ:Sg) (g:Gh) (σ':Sg) (g':Gh):Prop where
 box:∀ id cs,lk id σ=some (.box cs)→g'.μ id=g.μ id∧∃ cs',lk id σ'=some (.box cs')
 chain:∀ id e sz st xs,lk id σ=some (.chain e sz st xs)→(∃ e' sz' st' xs',lk id σ'=some (.chain e' sz' st' xs')∧st < st') ∨
  (g'.μ id=g.μ id∧∃ xs',lk id σ'=some (.chain e sz st xs')∧xs'.length=xs.length)
 other:∀ id o,lk id σ=some (.x o)→g'.μ id=g.μ id∧∃ o',lk id σ'=some (.x o')∧o'.kd=o.kd
theorem Compat.refl (σ:Sg) (g:Gh):Compat σ g σ g:=⟨fun _ cs h=>⟨rfl,cs,h⟩,fun _ _ _ _ xs h=>.inr ⟨rfl,xs,h,rfl⟩,fun _ o h=>⟨rfl,o,h,rfl⟩⟩
theorem SR.keep {σ σ':Sg} {g g':Gh} {w w':World} (hc:Compat σ g σ' g') (he:Ext g.K w g'.K w') {s:SV} {v:Value} (h:SR σ g w s v):SR σ' g' w' s v:=by
 induction h with
 | d x v h=>exact .d x v (h.mono he)
 | old c st n e sz st' xs v h hlt h1=>
  rcases hc.chain c e sz st' xs h with ⟨e',sz',st'',xs',h',hlt'⟩|⟨hμ,xs',h',hl⟩
  ·exact .old c st n e' sz' st'' xs' v h' (by omega) h1
  ·exact .old c st n e sz st' xs' v h' hlt h1
 | o c st n e sz xs a cap h hn hμ=>
  rcases hc.chain c e sz st xs h with ⟨e',sz',st'',xs',h',hlt'⟩|⟨hμ',xs',h',hl⟩
  ·exact .old c st n e' sz' st'' xs' _ h' hlt' rfl
  ·exact .o c st n e sz xs' a cap h' (by omega) (by rw [hμ',hμ,hl])
 | b id off cs k h hμ=>
  obtain⟨hμ',cs',h'⟩:=hc.box id cs h;exact .b id off cs' k h' (hμ'.trans hμ)
 | se e off k l vs hK hc hr=>
  exact .se e off k l vs (fun j hj=>he.sub _ _ (hK j hj)) (fun j hj=>by rw [he.cell _ _ (hK j hj)];exact hc j hj) (fun j x hx=>(hr j x hx).mono he)
 | oeold c st i off e sz st' xs v h hlt h1=>
  rcases hc.chain c e sz st' xs h with ⟨e',sz',st'',xs',h',hlt'⟩|⟨hμ,xs',h',hl⟩
  ·exact .oeold c st i off e' sz' st'' xs' v h' (by omega) h1
  ·exact .oeold c st i off e sz st' xs' v h' hlt h1
 | osold c st i off e sz st' xs v h hlt h1=>
  rcases hc.chain c e sz st' xs h with ⟨e',sz',st'',xs',h',hlt'⟩|⟨hμ,xs',h',hl⟩
  ·exact .osold c st i off e' sz' st'' xs' v h' (by omega) h1
  ·exact .osold c st i off e sz st' xs' v h' hlt h1
 | oe c st i off e sz xs k cap h hμ=>
  rcases hc.chain c e sz st xs h with ⟨e',sz',st'',xs',h',hlt'⟩|⟨hμ',xs',h',hl⟩
  ·exact .oeold c st i off e' sz' st'' xs' _ h' hlt' rfl
  ·exact .oe c st i off e sz xs' k cap h' (by rw [hμ',hμ,hl])
 | os c st i off e sz xs k cap h hμ hn=>
  rcases hc.chain c e sz st xs h with ⟨e',sz',st'',xs',h',hlt'⟩|⟨hμ',xs',h',hl⟩
  ·exact .osold c st i off e' sz' st'' xs' _ h' hlt' rfl
  ·exact .os c st i off e sz xs' k cap h' (by rw [hμ',hμ,hl]) ⟨hn.1,by omega⟩
 | f fn first captured v1 v2 h1 h2 _ _ ih1 ih2=>exact .f fn first captured v1 v2 h1 h2 ih1 ih2
 | j v h1=>exact .j v h1
 | h id o k h hμ=>
  obtain⟨hμ',o',h',hk⟩:=hc.other id o h;rw [← hk];exact .h id o' k h' (hμ'.trans hμ)
 | sb id off n cap cs k h hμ hn hc'=>
  obtain⟨hμ',cs',h'⟩:=hc.box id cs h;exact .sb id off n cap cs' k h' (hμ'.trans hμ) hn hc'
def VR1 (σ:Sg) (g:Gh) (w:World):AV→Value→Prop
 | .x s,v=>SR σ g w s v
 | .a cs,v=>∃ vs:Array Value,v=.agg vs∧vs.size=cs.length∧∀ (i:Nat) (s:SV) (u:Value),cs[i]?=some s→vs[i]?=some u→SR σ g w s u
 | _,_=>False
def VR2 (σ:Sg) (g:Gh) (w:World):AV→Value→Prop
 | .t xs,v=>∃ vs:Array Value,v=.tuple vs∧vs.size=xs.length∧∀ (i:Nat) (x:AV) (u:Value),xs[i]?=some x→vs[i]?=some u→VR1 σ g w x u
 | x,v=>VR1 σ g w x v
def VR (σ:Sg) (g:Gh) (w:World):AV→Value→Prop
 | .g c x,v=>(c=true→VR2 σ g w x v)∧(c=false→v=undef)
 | x,v=>VR2 σ g w x v
theorem VR1.keep {σ σ':Sg} {g g':Gh} {w w':World} (k:∀ s v,SR σ g w s v→SR σ' g' w' s v) {x:AV} {v:Value} (h:VR1 σ g w x v):VR1 σ' g' w' x v:=by
 cases x with
 | x s=>exact k _ _ h
 | a cs=>obtain⟨vs,h1,h2,h3⟩:=h;exact⟨vs,h1,h2,fun i s u a b=>k _ _ (h3 i s u a b)⟩
 | t _=>exact h.elim
 | g _ _=>exact h.elim
theorem VR2.keep {σ σ':Sg} {g g':Gh} {w w':World} (k:∀ s v,SR σ g w s v→SR σ' g' w' s v) {x:AV} {v:Value} (h:VR2 σ g w x v):VR2 σ' g' w' x v:=by
 cases x with
 | t xs=>obtain⟨vs,h1,h2,h3⟩:=h;exact⟨vs,h1,h2,fun i s u a b=>VR1.keep k (h3 i s u a b)⟩
 | x s=>exact VR1.keep (x:=.x s) k h
 | a cs=>exact VR1.keep (x:=.a cs) k h
 | g _ _=>exact h.elim
theorem VR.keep {σ σ':Sg} {g g':Gh} {w w':World} (k:∀ s v,SR σ g w s v→SR σ' g' w' s v) {x:AV} {v:Value} (h:VR σ g w x v):VR σ' g' w' x v:=by
 cases x with
 | g c y=>exact⟨fun hc=>VR2.keep k (h.1 hc),h.2⟩
 | x s=>exact VR2.keep (x:=.x s) k h
 | a cs=>exact VR2.keep (x:=.a cs) k h
 | t xs=>exact VR2.keep (x:=.t xs) k h
def datS:SV→Bool
 | .d _=>true
 | _=>false
def zkZ:AV→Bool
 | .x s=>datS s
 | .a cs=>cs.all datS
 | _=>false
def ownAV:AV→Bool
 | .x (.o _ _ _)=>true
 | x=>zkZ x
def KT.holds:KT→AV→Bool
 | .oone _,x=>ownAV x
 | .ost _,x=>ownAV x
 | _,x=>zkZ x
def O2 (σ:Sg) (g:Gh) (w:World) (b:Nat):Ob2→Prop
 | .map kt kvs=>∃ es:Array MapEntry,w.heap[b]?=some (.map es es.size)∧es.size=kvs.length∧(∀ (i:Nat) (k:Value) (x:AV),kvs[i]?=some (k,x)→∃ e:MapEntry,es[i]?=some e∧e.key=k∧e.born=i∧VR1 σ g w x e.val) ∧
   (∀ (i:Nat) (k:Value) (x:AV),kvs[i]?=some (k,x)→kt.fits k=true)∧(∀ (i j:Nat) (k:Value) (x y:AV),kvs[i]?=some (k,x)→kvs[j]?=some (k,y)→i=j)∧(∀ (i:Nat) (k:Value) (x:AV),kvs[i]?=some (k,x)→kt.holds x=true)
 | .mapIter (some m) since seen last=>∃ mb,w.heap[b]?=some (.mapIter (some mb) since seen.toArray last)∧SR σ g w (.h m) (.map (some mb))
 | .mapIter none since seen last=>w.heap[b]?=some (.mapIter none since seen.toArray last)
 | .strIter s pos=>w.heap[b]?=some (.stringIter s pos)
 | .loop st pend params assign body nt fr dfr=>∃ (f:FuncId) (tmps:Array Value) (d:Nat),w.heap[b]?=some (.loop { state:=st,pending:=pend,fn:=f,tmps:=tmps,params:=params,assign:=assign,body:=body,defers:=d }) ∧
   tmps.size=nt∧(∀ t v,lk t fr=some v→t < nt∧VR σ g w v (tmps.getD t undef))∧SR σ g w (.h dfr) (.chan (some d))
 | .dfr=>w.heap[b]?=some (.deferred (some []))
theorem O2.keep {σ σ':Sg} {g g':Gh} {w w':World} {b:Nat} {o:Ob2} (hsr:∀ s v,SR σ g w s v→SR σ' g' w' s v) (hb:w'.heap[b]?=w.heap[b]?) (h:O2 σ g w b o):O2 σ' g' w' b o:=by
 cases o with
 | map kt kvs=>obtain⟨es,h1,h2,h3,h4⟩:=h;exact⟨es,by rw [hb,h1],h2,fun i k x hi=>let ⟨e,a,c,d,f⟩:=h3 i k x hi;⟨e,a,c,d,f.keep hsr⟩,h4⟩
 | mapIter m since seen last=>
  cases m with
  | some m=>obtain⟨mb,h1,h2⟩:=h;exact⟨mb,by rw [hb,h1],hsr _ _ h2⟩
  | none=>exact (hb.trans h:w'.heap[b]?=_)
 | strIter s pos=>exact (hb.trans h:w'.heap[b]?=_)
 | loop st pend params assign body nt fr dfr=>
  obtain⟨f,tmps,d,h1,h2,h3,h4⟩:=h;exact⟨f,tmps,d,by rw [hb,h1],h2,fun t v ht=>⟨(h3 t v ht).1,(h3 t v ht).2.keep hsr⟩,hsr _ _ h4⟩
 | dfr=>exact (hb.trans h:w'.heap[b]?=_)
def OR (B:Nat) (σ:Sg) (g:Gh) (w:World) (id:Nat):Ob→Prop
 | .box cs=>∃ (b:Nat) (vs:Array Value) (T:TypeId),g.μ id=.pointer (some ⟨b,0,none⟩)∧B≤b∧w.heap[b]?=some (.cells vs T (0,0))∧vs.size=cs.length ∧
   (∀ (i:Nat) (s:SV),cs[i]?=some s→∃ v,vs[i]?=some v∧SR σ g w s v)∧(∀ o,¬ g.K b o)
 | .chain e sz _ xs=>∃ vs:List Value,w.ownsRow B e sz (g.μ id) xs.length vs∧(∃ a cap,g.μ id=.slice a xs.length cap∧xs.length≤cap∧cap≤maxLen)∧(∀ x ∈ xs,x.length=sz) ∧
   (∀ (i:Nat) (x:List PV),xs[i]?=some x→∀ (j:Nat) (p:PV),x[j]?=some p→∃ v,vs[i * sz+j]?=some v∧PR g.K w p v)∧(∀ b,blk (g.μ id)=some b→∀ o,¬ g.K b o)
 | .x o=>∃ b,g.μ id=.pointer (some ⟨b,0,none⟩)∧b < w.heap.size∧O2 σ g w b o∧∀ o',¬ g.K b o'
structure Bs where
 K:Nat→Nat→Prop
 F:Nat→Prop
structure Kept (F:Nat→Prop) (w w':World):Prop where
 os:w'.os=w.os
 tape:w'.tape=w.tape
 output:w'.output=w.output
 size:w.heap.size≤w'.heap.size
 block:∀ k,F k→w'.heap[k]?=w.heap[k]?
theorem Kept.refl (F:Nat→Prop) (w:World):Kept F w w:=⟨rfl,rfl,rfl,Nat.le_refl _,fun _ _=>rfl⟩
theorem Kept.trans {F:Nat→Prop} {a b c:World} (h:Kept F a b) (k:Kept F b c):Kept F a c:=
 ⟨k.os.trans h.os,k.tape.trans h.tape,k.output.trans h.output,Nat.le_trans h.size k.size,fun i hi=>(k.block i hi).trans (h.block i hi)⟩
theorem Kept.of_below {B:Nat} {F:Nat→Prop} {w w':World} (h:Below B w w') (hF:∀ k,F k→k < B):Kept F w w':=⟨h.os,h.tape,h.output,h.size,fun k hk=>h.block k (hF k hk)⟩
theorem Kept.below {B:Nat} {w w':World} (h:Kept (· < B) w w'):Below B w w':=⟨h.os,h.tape,h.output,h.size,h.block⟩
structure Hp (w0:World) (K0:Bs) (σ:Sg) (g:Gh) (w:World):Prop where
 kept:Kept K0.F w0 w
 flt:∀ b,K0.F b→b < w0.heap.size
 ext:Ext K0.K w0 g.K w
 old:∀ b o,K0.F b→g.K b o→K0.K b o
 val:∀ b o,g.K b o→b < w.heap.size
 obs:∀ id ob,lk id σ=some ob→OR 0 σ g w id ob
 own:∀ id b,(lk id σ).isSome→blk (g.μ id)=some b→¬ K0.F b
 inj:∀ i j b,(lk i σ).isSome→(lk j σ).isSome→blk (g.μ i)=some b→blk (g.μ j)=some b→i=j
end Go.QL
namespace Go.QL
open Go Go.RowKit
structure Did (w0:World) (K0:Bs) (σ:Sg) (g:Gh) (w:World) (σ':Sg) (g':Gh) (w':World):Prop where
 hp:Hp w0 K0 σ' g' w'
 keep:∀ s v,SR σ g w s v→SR σ' g' w' s v
theorem Did.refl {w0:World} {K0:Bs} {σ:Sg} {g:Gh} {w:World} (h:Hp w0 K0 σ g w):Did w0 K0 σ g w σ g w:=⟨h,fun _ _ x=>x⟩
theorem Did.trans {w0:World} {K0:Bs} {σ σ' σ'':Sg} {g g' g'':Gh} {w w' w'':World} (h:Did w0 K0 σ g w σ' g' w') (k:Did w0 K0 σ' g' w' σ'' g'' w'') :
  Did w0 K0 σ g w σ'' g'' w'':=⟨k.hp,fun _ _ x=>k.keep _ _ (h.keep _ _ x)⟩
theorem OR.blk_lt {σ:Sg} {g:Gh} {w:World} {id:Nat} {ob:Ob} (h:OR 0 σ g w id ob) {b:Nat} (hb:blk (g.μ id)=some b):0≤b∧b < w.heap.size:=by
 cases ob with
 | box cs=>
  obtain⟨b',vs,T,h1,h2,h3,_⟩:=h;rw [h1] at hb;simp [blk] at hb;subst hb;grind
 | chain e sz st xs=>
  obtain⟨vs,h1,_⟩:=h;have:=h1.lt b (by revert hb;unfold blk Value.ownBlock;split <;> simp_all);exact this
 | x o=>
  obtain⟨b',h1,h2,_⟩:=h;rw [h1] at hb;simp [blk] at hb;subst hb;omega
theorem OR.keep {B:Nat} {σ σ':Sg} {g g':Gh} {w w':World} {id:Nat} {ob:Ob} (hsr:∀ s v,SR σ g w s v→SR σ' g' w' s v) (hext:Ext g.K w g'.K w') (hμ:g'.μ id=g.μ id)
  (hb:∀ b,blk (g.μ id)=some b→w'.heap[b]?=w.heap[b]?) (hK:∀ b,blk (g.μ id)=some b→∀ o,¬ g'.K b o) (h:OR B σ g w id ob):OR B σ' g' w' id ob:=by
 cases ob with
 | box cs=>
  obtain⟨b,vs,T,h1,h2,h3,h4,h5,h6⟩:=h;have hbb:blk (g.μ id)=some b:=by rw [h1];rfl
  exact⟨b,vs,T,by rw [hμ,h1],h2,by rw [hb b hbb,h3],h4,fun i s hs=>let ⟨v,a,c⟩:=h5 i s hs;⟨v,a,hsr _ _ c⟩,hK b hbb⟩
 | chain e sz st xs=>
  obtain⟨vs,h1,⟨a,cap,h2,h2',h2''⟩,h3,h4,h5⟩:=h;refine⟨vs,?_,⟨a,cap,by rw [hμ,h2],h2',h2''⟩,h3,fun i x hx j p hp=>let ⟨v,a,c⟩:=h4 i x hx j p hp;⟨v,a,c.mono hext⟩,fun b hbb=>hK b (by rw [← hμ];exact hbb)⟩
  rw [hμ];refine⟨h1.1,?_⟩
  rcases h1.2 with hn|⟨gb,cap',cur,hv,hB,hg,rest⟩
  ·exact .inl hn
  ·exact .inr ⟨gb,cap',cur,hv,hB,by rw [hb gb (by rw [hv];rfl),hg],rest⟩
 | x o=>
  obtain⟨b,h1,h2,h3,h4⟩:=h;have hbb:blk (g.μ id)=some b:=by rw [h1];rfl
  have hbs:=hb b hbb;refine⟨b,by rw [hμ,h1],?_,h3.keep hsr hbs,hK b hbb⟩
  grind
def upd (μ:Nat→Value) (id:Nat) (v:Value):Nat→Value:=fun i=>if i=id then v else μ i
theorem zy (μ:Nat→Value) (id:Nat) (v:Value):upd μ id v id=v:=by simp [upd]
theorem zo (μ:Nat→Value) {id i:Nat} (v:Value) (h:i≠id):upd μ id v i=μ i:=by simp [upd,h]
section
variable {w0:World} {K0:Bs} {σ:Sg} {g:Gh} {w:World}
theorem Hp.B_le (h:Hp w0 K0 σ g w):w0.heap.size≤w.heap.size:=h.kept.size
theorem Hp.F_lt (h:Hp w0 K0 σ g w) (b:Nat) (hb:K0.F b):b < w.heap.size:=Nat.lt_of_lt_of_le (h.flt b hb) h.B_le
theorem zex (h:Hp w0 K0 σ g w) (o:Obj):Ext g.K w g.K (w.alloc o):=
 ⟨fun _ _ x=>x,fun b _ hk=>World.cell?_alloc_lt w o ⟨b,_,none⟩ (h.val _ _ hk)⟩
theorem Hp.addObj (h:Hp w0 K0 σ g w) (id:Nat) (hid:lk id σ=none) (ob:Ob) (v:Value) (o:Obj) (hv:blk v=some w.heap.size)
  (hor:∀ σ' g' w',σ'=(id,ob) :: σ→g'=⟨g.K,upd g.μ id v⟩→w'=w.alloc o→(∀ s u,SR σ g w s u→SR σ' g' w' s u)→OR 0 σ' g' w' id ob) :
  Did w0 K0 σ g w ((id,ob) :: σ) ⟨g.K,upd g.μ id v⟩ (w.alloc o):=by
 have hne:∀ i,(lk i σ).isSome→i≠id:=fun i hi e=>by rw [e,hid] at hi;cases hi
 have hc:Compat σ g ((id,ob) :: σ) ⟨g.K,upd g.μ id v⟩:=by
  constructor
  ·intro i cs hi;have:i≠id:=hne i (by rw [hi];rfl);exact⟨zo _ _ this,cs,by rw [zr,if_neg (fun e=>this e.symm)];exact hi⟩
  ·intro i e sz st xs hi;have:i≠id:=hne i (by rw [hi];rfl);exact .inr ⟨zo _ _ this,xs,by rw [zr,if_neg (fun e=>this e.symm)];exact hi,rfl⟩
  ·intro i o hi;have:i≠id:=hne i (by rw [hi];rfl);exact⟨zo _ _ this,o,by rw [zr,if_neg (fun e=>this e.symm)];exact hi,rfl⟩
 have he:Ext g.K w g.K (w.alloc o):=zex h o;have hkeep:∀ s u,SR σ g w s u→SR ((id,ob) :: σ) ⟨g.K,upd g.μ id v⟩ (w.alloc o) s u:=fun s u hs=>hs.keep hc he
 refine⟨⟨h.kept.trans (.of_below ((Below.refl _ w).alloc (Nat.le_refl _) o) h.F_lt),h.flt,h.ext.trans he,h.old,fun b o' hk=>by have:=h.val b o' hk;simp;omega,?_,?_,?_⟩,hkeep⟩
 ·intro i ob' hi;rw [zr] at hi;by_cases hii:id=i
  ·simp_all
  ·rw [if_neg hii] at hi;have hO:=h.obs i ob' hi;exact hO.keep hkeep he (zo _ _ (fun e=>hii e.symm)) (fun b hb=>Below.heap_alloc _ _ _ (hO.blk_lt hb).2) (fun b hb o'=>by
    cases ob' with
    | box cs=>obtain⟨b',vs,T,h1,_,_,_,_,h6⟩:=hO;rw [h1] at hb;simp [blk] at hb;subst hb;exact h6 o'
    | chain e sz st xs=>obtain⟨vs,_,_,_,_,h5⟩:=hO;exact h5 b hb o'
    | x o=>obtain⟨b',h1,_,_,h6⟩:=hO;rw [h1] at hb;simp [blk] at hb;subst hb;exact h6 o')
 ·intro i b hi hb hF;replace hb:blk (upd g.μ id v i)=some b:=hb;rw [zr] at hi;by_cases e1:id=i
  ·subst e1;rw [zy,hv] at hb;cases hb;exact absurd (h.F_lt _ hF) (Nat.lt_irrefl _)
  ·rw [if_neg e1] at hi;rw [zo _ _ (fun e=>e1 e.symm)] at hb;exact h.own i b hi hb hF
 ·intro i j b hi hj hbi hbj;replace hbi:blk (upd g.μ id v i)=some b:=hbi;replace hbj:blk (upd g.μ id v j)=some b:=hbj;rw [zr] at hi hj;by_cases e1:id=i <;> by_cases e2:id=j
  ·omega
  ·subst e1;rw [if_neg e2] at hj;simp only [zy] at hbi;rw [zo _ _ (fun e=>e2 e.symm)] at hbj;obtain⟨ob',hob⟩:=Option.isSome_iff_exists.1 hj;have:=(h.obs j ob' hob).blk_lt hbj;simp_all
  ·subst e2;rw [if_neg e1] at hi;simp only [zy] at hbj;rw [zo _ _ (fun e=>e1 e.symm)] at hbi;obtain⟨ob',hob⟩:=Option.isSome_iff_exists.1 hi;have:=(h.obs i ob' hob).blk_lt hbi;simp_all
  ·rw [if_neg e1] at hi;rw [if_neg e2] at hj;rw [zo _ _ (fun e=>e1 e.symm)] at hbi;rw [zo _ _ (fun e=>e2 e.symm)] at hbj;exact h.inj i j b hi hj hbi hbj
theorem Hp.addBox (h:Hp w0 K0 σ g w) (id:Nat) (hid:lk id σ=none) (cs:List SV) (vs:Array Value) (T:TypeId) (hs:vs.size=cs.length)
  (hr:∀ (i:Nat) (s:SV),cs[i]?=some s→∃ v,vs[i]?=some v∧SR σ g w s v) :
  Did w0 K0 σ g w ((id,.box cs) :: σ) ⟨g.K,upd g.μ id (.pointer (some ⟨w.heap.size,0,none⟩))⟩ (w.alloc (.cells vs T)):=by
 refine h.addObj id hid (.box cs) _ _ rfl ?_
 intro σ' g' w' hσ hg hw hk;subst hg;subst hw;refine⟨w.heap.size,vs,T,zy _ _ _,Nat.zero_le _,heap_alloc_new w _,hs,fun i s hi=>let ⟨v,a,b⟩:=hr i s hi;⟨v,a,hk _ _ b⟩,fun o hk=>?_⟩
 exact absurd (h.val _ _ hk) (by omega)
theorem Hp.grow (h:Hp w0 K0 σ g w) {w':World} {K':Nat→Nat→Prop} (hb:Below w.heap.size w w') (he:Ext g.K w K' w') (ho:∀ b o,b < w.heap.size→K' b o→g.K b o)
  (hv:∀ b o,K' b o→b < w'.heap.size):Did w0 K0 σ g w σ ⟨K',g.μ⟩ w':=by
 have hc:Compat σ g σ ⟨K',g.μ⟩:=⟨fun _ cs h=>⟨rfl,cs,h⟩,fun _ _ _ _ xs h=>.inr ⟨rfl,xs,h,rfl⟩,fun _ o h=>⟨rfl,o,h,rfl⟩⟩;have hkeep:∀ s u,SR σ g w s u→SR σ ⟨K',g.μ⟩ w' s u:=fun s u hs=>hs.keep hc he
 refine⟨⟨h.kept.trans (.of_below hb h.F_lt),h.flt,h.ext.trans he,fun b o hF hk=>h.old b o hF (ho b o (h.F_lt b hF) hk),hv,?_,fun i b hi hb=>h.own i b hi hb,fun i j b hi hj=>h.inj i j b hi hj⟩,hkeep⟩
 intro i ob hi;have hO:=h.obs i ob hi;refine hO.keep hkeep he rfl (fun b hbb=>hb.block b (hO.blk_lt hbb).2) (fun b hbb o hk=>?_)
 have hk':=ho b o (hO.blk_lt hbb).2 hk;cases ob with
 | box cs=>obtain⟨b',vs,T,h1,_,_,_,_,h6⟩:=hO;rw [h1] at hbb;simp [blk] at hbb;subst hbb;exact h6 o hk'
 | chain e sz st xs=>obtain⟨vs,_,_,_,_,h5⟩:=hO;exact h5 b hbb o hk'
 | x o=>obtain⟨b',h1,_,_,h6⟩:=hO;rw [h1] at hbb;simp [blk] at hbb;subst hbb;exact h6 _ hk'
theorem Hp.notK (h:Hp w0 K0 σ g w) {id:Nat} {ob:Ob} (hid:lk id σ=some ob) {b:Nat} (hb:blk (g.μ id)=some b) (o:Nat):¬ g.K b o:=by
 have hO:=h.obs id ob hid;cases ob with
 | box cs=>obtain⟨b',vs,T,h1,_,_,_,_,h6⟩:=hO;rw [h1] at hb;simp [blk] at hb;subst hb;exact h6 o
 | chain e sz st xs=>obtain⟨vs,_,_,_,_,h5⟩:=hO;exact h5 b hb o
 | x o'=>obtain⟨b',h1,_,_,h6⟩:=hO;rw [h1] at hb;simp [blk] at hb;subst hb;exact h6 o
def zat (id:Nat) (ob:Ob):Sg→Sg
 | []=>[]
 | (j,x)::r=>bif Nat.beq j id then (j,ob)::r else (j,x)::zat id ob r
theorem zab (id:Nat) (ob:Ob) (σ:Sg) (h:(lk id σ).isSome):lk id (zat id ob σ)=some ob:=by
 induction σ with
 | nil=>cases h
 | cons p r ih=>
  obtain⟨j,x⟩:=p;rw [zr] at h;by_cases e:j=id
  ·subst e;show lk j (bif Nat.beq j j then _ else _)=_;simp [zr]
  ·have:Nat.beq j id=false:=by
    cases hb:Nat.beq j id with
    | false=>rfl
    | true=>exact absurd (Nat.eq_of_beq_eq_true hb) e
   show lk id (bif Nat.beq j id then _ else _)=_
   rw [this];simp only [cond_false];rw [zr,if_neg e];simp_all
theorem zt (id i:Nat) (ob:Ob) (σ:Sg) (h:i≠id):lk i (zat id ob σ)=lk i σ:=by
 induction σ with
 | nil=>rfl
 | cons p r ih=>
  obtain⟨j,x⟩:=p;by_cases e:j=id
  ·subst e;show lk i (bif Nat.beq j j then _ else _)=_;simp [zr,if_neg (fun e:j=i=>h e.symm)]
  ·have:Nat.beq j id=false:=by
    cases hb:Nat.beq j id with
    | false=>rfl
    | true=>exact absurd (Nat.eq_of_beq_eq_true hb) e
   show lk i (bif Nat.beq j id then _ else _)=_
   rw [this];simp only [cond_false];rw [zr,zr,ih]
theorem Hp.setObj (h:Hp w0 K0 σ g w) (id:Nat) (ob ob':Ob) (hid:lk id σ=some ob) {w':World} (v':Value) (hsame:w'.os=w.os∧w'.tape=w.tape∧w'.output=w.output∧w.heap.size≤w'.heap.size)
  (hother:∀ b,b < w.heap.size→blk (g.μ id)≠some b→w'.heap[b]?=w.heap[b]?)
  (hblk:∀ b,blk v'=some b→blk (g.μ id)=some b∨b=w.heap.size)
  (hc:Compat σ g (zat id ob' σ) ⟨g.K,upd g.μ id v'⟩)
  (hor:∀ σ' g',σ'=zat id ob' σ→g'=⟨g.K,upd g.μ id v'⟩→(∀ s u,SR σ g w s u→SR σ' g' w' s u)→Ext g.K w g.K w'→OR 0 σ' g' w' id ob') :
  Did w0 K0 σ g w (zat id ob' σ) ⟨g.K,upd g.μ id v'⟩ w':=by
 have he:Ext g.K w g.K w':=⟨fun _ _ x=>x,fun b o hk=>World.cell?_of_block (w:=w) (a:=⟨b,o,none⟩) (hother b (h.val b o hk) (fun e=>h.notK hid e o hk))⟩;have hkeep:∀ s u,SR σ g w s u→SR (zat id ob' σ) ⟨g.K,upd g.μ id v'⟩ w' s u:=fun s u hs=>hs.keep hc he
 have hsome:(lk id σ).isSome:=by rw [hid];rfl
 have hkp:Kept K0.F w w':=⟨hsame.1,hsame.2.1,hsame.2.2.1,hsame.2.2.2,fun k hk=>hother k (h.F_lt k hk) (fun e=>h.own id k hsome e hk)⟩;refine⟨⟨h.kept.trans hkp,h.flt,h.ext.trans he,h.old,fun b o hk=>Nat.lt_of_lt_of_le (h.val b o hk) hsame.2.2.2,?_,?_,?_⟩,hkeep⟩
 ·intro i ob'' hi;by_cases e:i=id
  ·subst e;rw [zab _ _ _ hsome] at hi;cases hi;simp_all
  ·rw [zt _ _ _ _ e] at hi;have hO:=h.obs i ob'' hi;exact hO.keep hkeep he (zo _ _ e) (fun b hb=>hother b (hO.blk_lt hb).2 (fun hb'=>e (h.inj i id b (by rw [hi];rfl) hsome hb hb'))) (fun b hb o=>h.notK hi hb o)
 ·intro i b hi hb hF;replace hb:blk (upd g.μ id v' i)=some b:=hb;by_cases e1:i=id
  ·subst e1;rw [zy] at hb;rcases hblk b hb with hb|hb
   ·exact h.own i b hsome hb hF
   ·exact absurd (h.F_lt _ hF) (by omega)
  ·rw [zt _ _ _ _ e1] at hi;rw [zo _ _ e1] at hb;exact h.own i b hi hb hF
 ·intro i j b hi hj hbi hbj;replace hbi:blk (upd g.μ id v' i)=some b:=hbi;replace hbj:blk (upd g.μ id v' j)=some b:=hbj;by_cases e1:i=id <;> by_cases e2:j=id
  ·omega
  ·subst e1;rw [zt _ _ _ _ e2] at hj;simp only [zy] at hbi;rw [zo _ _ e2] at hbj;rcases hblk b hbi with hb|hb
   ·exact h.inj i j b hsome hj hb hbj
   ·obtain⟨ob'',hob⟩:=Option.isSome_iff_exists.1 hj;have:=(h.obs j ob'' hob).blk_lt hbj;omega
  ·subst e2;rw [zt _ _ _ _ e1] at hi;simp only [zy] at hbj;rw [zo _ _ e1] at hbi;rcases hblk b hbj with hb|hb
   ·exact h.inj i j b hi hsome hbi hb
   ·obtain⟨ob'',hob⟩:=Option.isSome_iff_exists.1 hi;have:=(h.obs i ob'' hob).blk_lt hbi;omega
  ·rw [zt _ _ _ _ e1] at hi;rw [zt _ _ _ _ e2] at hj;rw [zo _ _ e1] at hbi;rw [zo _ _ e2] at hbj;exact h.inj i j b hi hj hbi hbj
end
end Go.QL
namespace Go.QL
open Go Go.RowKit
def eqKs (P:Program):Nat→List Field→Nat→Option (List LK)
 | _,[],_=>some []
 | 0,_::_,_=>none
 | d+1,f::fs,off=>
  bif f.name == "_" || !(Nat.beq f.offset off) then none else
  match P.underlying f.type,P.info? f.type with
  | some (.struct gs),some info=>
   bif P.stoodInHeld f.type then none else
   (match eqKs P d gs.toList 0 with
   | some ks=>bif Nat.beq info.size ks.length then (match eqKs P d fs (off+ks.length) with|some ls=>some (ks ++ ls)|none=>none) else none
   | none=>none)
  | some desc,_=>(match LK.of desc with
   | some k=>(match eqKs P d fs (off+1) with|some ls=>some (k::ls)|none=>none)
   | none=>none)
  | none,_=>none
def eqOf (P:Program) (T:TypeId):List LK:=
 match P.underlying T with
 | some (.struct fs)=>bif P.stoodInHeld T || P.eqGuardType P.depth T then [] else (eqKs P 20 fs.toList 0).getD []
 | _=>[]
structure EqOK (P:Program) (T:TypeId) (ks:List LK):Prop where
 guard:P.eqGuardType P.depth T=false
 run:∀ (d:Nat) (w:World) (xs ys:Array Value),zaR ks xs.toList=true→zaR ks ys.toList=true→(Op.equalIn (d+100) T (.agg xs) (.agg ys)).run P w=.ok (eqL xs.toList ys.toList) w
 chk:∀ (d:Nat) (w:World) (em:Bool) (xs:Array Value),zaR ks xs.toList=true→(Instr.checkKey em (d+100) T (.agg xs)).run P w=.ok () w
section
variable {P:Program} (w:World)
theorem zdA {T:TypeId} {desc:TypeDesc} {k:LK} (hu:P.underlying T=some desc) (hk:LK.of desc=some k) (d:Nat) {a b:Value} (ha:k.fits a=true) (hb:k.fits b=true) :
  (Op.equalIn (d+1) T a b).run P w=.ok (eqV a b) w:=by
 cases desc <;> simp only [LK.of] at hk <;> cases hk;case bool=>
  cases a <;> simp only [LK.fits] at ha <;> try cases ha
  cases b <;> simp only [LK.fits] at hb <;> try cases hb
  exact run_equalIn_bool' w d T _ _ hu
 case int k'=>
  cases a <;> simp only [LK.fits] at ha <;> try cases ha
  cases b <;> simp only [LK.fits] at hb <;> try cases hb
  rename_i k1 n1 k2 n2;have h1:k'=k1:=by simpa using ha
  have h2:k'=k2:=by simpa using hb
  subst h1;subst h2;exact run_equalIn_int w d T _ _ _ _ hu
 case string=>
  cases a <;> simp only [LK.fits] at ha <;> try cases ha
  cases b <;> simp only [LK.fits] at hb <;> try cases hb
  exact run_equalIn_string w d T _ _ hu
theorem zbr {T:TypeId} {desc:TypeDesc} {k:LK} (hu:P.underlying T=some desc) (hk:LK.of desc=some k) (cs:Array Value) (off:Nat) {v:Value} (hv:cs[off]?=some v):(part T cs off).run P w=.ok v w:=by
 have:(isAgg T).run P w=.ok false w:=by
  cases desc <;> simp only [LK.of] at hk <;> cases hk <;> simp [isAgg,run_underlying hu]
 simp [part,this,hv]
theorem zf1 {T:TypeId} {gs:Array Field} {info:TypeInfo} (hu:P.underlying T=some (.struct gs)) (hi:P.info? T=some info) (cs:Array Value) (off:Nat):(part T cs off).run P w=.ok (.agg (cs.extract off (off+info.size))) w:=by
 have:(isAgg T).run P w=.ok true w:=by simp [isAgg,run_underlying hu]
 simp [part,this,sizeOf,typeInfo,hi]
theorem zce:∀ (n:Nat) (fs:List Field) (off:Nat) (ks:List LK),eqKs P n fs off=some ks→∀ (d:Nat),n≤d→∀ (w:World) (xs ys:Array Value),
  zaR ks (xs.toList.drop off)=true→zaR ks (ys.toList.drop off)=true→(Op.eqFields (d+1) xs ys fs).run P w=.ok (eqL (xs.toList.drop off) (ys.toList.drop off)) w
 | n,[],off,ks,h,d,_,w,xs,ys,h1,h2=>by
  have:ks=[]:=by cases n <;> (simp only [eqKs] at h;cases h;rfl)
  subst this;have e1:xs.toList.drop off=[]:=List.eq_nil_of_length_eq_zero (zb7 h1);have e2:ys.toList.drop off=[]:=List.eq_nil_of_length_eq_zero (zb7 h2);rw [e1,e2];simp [Op.eqFields,eqL]
 | 0,f::fs,off,ks,h,_,_,_,_,_,_,_=>by simp [eqKs] at h
 | n+1,f::fs,off,ks,h,d,hd,w,xs,ys,h1,h2=>by
  obtain⟨d,rfl⟩:∃ d',d=d'+1:=⟨d - 1,by omega⟩;simp only [eqKs] at h;cases hc:(f.name == "_" || !(Nat.beq f.offset off)) with
  | true=>rw [hc] at h;cases h
  | false=>
   rw [hc] at h;simp only [cond_false] at h;simp only [Bool.or_eq_false_iff,Bool.not_eq_false',beq_eq_false_iff_ne,ne_eq] at hc;obtain⟨hname,hoff⟩:=hc;have hoff:=Nat.eq_of_beq_eq_true hoff;unfold Op.eqFields;rw [if_pos hname];split at h
   ·-- a struct
    rename_i gs info hu hi;cases hs:P.stoodInHeld f.type with
    | true=>rw [hs] at h;cases h
    | false=>
     rw [hs] at h;simp only [cond_false] at h;cases hk1:eqKs P n gs.toList 0 with
     | none=>rw [hk1] at h;cases h
     | some k1=>
      rw [hk1] at h;simp only at h;cases hsz:Nat.beq info.size k1.length with
      | false=>rw [hsz] at h;cases h
      | true=>
       rw [hsz] at h;simp only [cond_true] at h;have hsz:=Nat.eq_of_beq_eq_true hsz;cases hk2:eqKs P n fs (off+k1.length) with
       | none=>rw [hk2] at h;cases h
       | some k2=>
        rw [hk2] at h;cases h;obtain⟨a1,a2⟩:=zev h1;obtain⟨b1,b2⟩:=zev h2;have ex:∀ zs:Array Value,(zs.extract f.offset (f.offset+info.size)).toList=(zs.toList.drop off).take k1.length:=fun zs=>by
         simp_all
        have hst:P.underlying f.type=some (.struct (P.fieldsOf f.type)):=by rw [hu];simp [Program.fieldsOf,hu]
        have hfo:P.fieldsOf f.type=gs:=by simp [Program.fieldsOf,hu]
        have ih:=zce n gs.toList 0 k1 hk1 d (by omega) w (xs.extract f.offset (f.offset+info.size)) (ys.extract f.offset (f.offset+info.size))
         (by rw [List.drop_zero,ex];exact a1) (by rw [List.drop_zero,ex];exact b1)
        have hin:(Op.equalIn (d+1+1) f.type (.agg (xs.extract f.offset (f.offset+info.size))) (.agg (ys.extract f.offset (f.offset+info.size)))).run P w=.ok (eqL ((xs.toList.drop off).take k1.length) ((ys.toList.drop off).take k1.length)) w:=by
         rw [run_equalIn_struct w (d+1) f.type _ _ hst hs,hfo,ih,List.drop_zero,List.drop_zero,ex,ex]
        have ih2:=zce n fs (off+k1.length) k2 hk2 (d+1) (by omega) w xs ys (by rw [← List.drop_drop];exact a2) (by rw [← List.drop_drop];exact b2);have hl:(xs.toList.drop off).length=(ys.toList.drop off).length:=by rw [zb7 h1,zb7 h2]
        rw [zmO k1.length hl,List.drop_drop,List.drop_drop];simp only [Sem.run_bind,zf1 _ hu hi,Result.andThen_ok,hin];cases eqL ((xs.toList.drop off).take k1.length) ((ys.toList.drop off).take k1.length) with
        | true=>simp only [Bool.not_true,Bool.false_eq_true,if_false,ih2,Bool.true_and]
        | false=>simp
   ·rename_i desc hu hne;cases hk:LK.of desc with
    | none=>rw [hk] at h;cases h
    | some k=>
     rw [hk] at h;simp only at h;cases hk2:eqKs P n fs (off+1) with
     | none=>rw [hk2] at h;cases h
     | some k2=>
      rw [hk2] at h;cases h;cases hx:xs.toList.drop off with
      | nil=>rw [hx] at h1;cases h1
      | cons x xr=>
       cases hy:ys.toList.drop off with
       | nil=>rw [hy] at h2;cases h2
       | cons y yr=>
        rw [hx] at h1;rw [hy] at h2;simp only [zaR,Bool.and_eq_true] at h1 h2;have gx:xs[f.offset]?=some x:=by
         have:xs.toList[off]?=some x:=by rw [← List.head?_drop,hx];rfl
         simp_all
        have gy:ys[f.offset]?=some y:=by
         have:ys.toList[off]?=some y:=by rw [← List.head?_drop,hy];rfl
         simp_all
        have tx:xs.toList.drop (off+1)=xr:=by rw [← List.drop_drop,hx];rfl
        have ty:ys.toList.drop (off+1)=yr:=by rw [← List.drop_drop,hy];rfl
        have ih2:=zce n fs (off+1) k2 hk2 (d+1) (by omega) w xs ys (by rw [tx];exact h1.2) (by rw [ty];exact h2.2);rw [tx,ty] at ih2;have hin:=zdA w hu hk (d+1) h1.1 h2.1;simp only [Sem.run_bind,zbr _ hu hk xs f.offset gx,zbr _ hu hk ys f.offset gy,Result.andThen_ok,hin,eqL];cases eqV x y with
        | true=>simp only [Bool.not_true,Bool.false_eq_true,if_false,ih2,Bool.true_and]
        | false=>simp
   ·cases h
theorem zgs {T:TypeId} {gs:Array Field} (hu:P.underlying T=some (.struct gs)) (d:Nat) (em:Bool) (xs:Array Value):(Instr.checkKey em (d+1) T (.agg xs)).run P w =
  (forIn (m:=Sem) gs.toList PUnit.unit fun f _=>do
   if f.name≠ "_" then do
    let v ← part f.type xs f.offset
    Instr.checkKey em d f.type v
    pure (ForInStep.yield PUnit.unit)
   else pure (ForInStep.yield PUnit.unit)).run P w:=by
 simp only [Instr.checkKey,Sem.run_bind,run_underlying hu,Result.andThen_ok];rw [← Array.forIn_toList];generalize (forIn (m:=Sem) gs.toList PUnit.unit _).run P w=r;cases r <;> rfl
theorem zgt {T:TypeId} {desc:TypeDesc} {k:LK} (hu:P.underlying T=some desc) (hk:LK.of desc=some k) (d:Nat) (em:Bool) (x:Value):(Instr.checkKey em (d+1) T x).run P w=.ok () w:=by
 simp only [Instr.checkKey,Sem.run_bind,run_underlying hu,Result.andThen_ok];cases desc <;> simp only [LK.of] at hk <;> cases hk <;> rfl
theorem zck:∀ (n:Nat) (fs:List Field) (off:Nat) (ks:List LK),eqKs P n fs off=some ks→∀ (d:Nat),n≤d→∀ (w:World) (em:Bool) (xs:Array Value),zaR ks (xs.toList.drop off)=true →
  (forIn (m:=Sem) fs PUnit.unit fun f _=>do
   if f.name≠ "_" then do
    let v ← part f.type xs f.offset
    Instr.checkKey em (d+1) f.type v
    pure (ForInStep.yield PUnit.unit)
   else pure (ForInStep.yield PUnit.unit)).run P w=.ok PUnit.unit w
 | n,[],off,ks,h,d,_,w,em,xs,h1=>by simp
 | 0,f::fs,off,ks,h,_,_,_,_,_,_=>by simp [eqKs] at h
 | n+1,f::fs,off,ks,h,d,hd,w,em,xs,h1=>by
  obtain⟨d,rfl⟩:∃ d',d=d'+1:=⟨d - 1,by omega⟩;simp only [eqKs] at h;cases hc:(f.name == "_" || !(Nat.beq f.offset off)) with
  | true=>rw [hc] at h;cases h
  | false=>
   rw [hc] at h;simp only [cond_false] at h;simp only [Bool.or_eq_false_iff,Bool.not_eq_false',beq_eq_false_iff_ne,ne_eq] at hc;obtain⟨hname,hoff⟩:=hc;have hoff:=Nat.eq_of_beq_eq_true hoff;rw [List.forIn_cons];simp only [ne_eq,hname,not_false_eq_true,if_true];split at h
   ·rename_i gs info hu hi;cases hs:P.stoodInHeld f.type with
    | true=>rw [hs] at h;cases h
    | false=>
     rw [hs] at h;simp only [cond_false] at h;cases hk1:eqKs P n gs.toList 0 with
     | none=>rw [hk1] at h;cases h
     | some k1=>
      rw [hk1] at h;simp only at h;cases hsz:Nat.beq info.size k1.length with
      | false=>rw [hsz] at h;cases h
      | true=>
       rw [hsz] at h;simp only [cond_true] at h;have hsz:=Nat.eq_of_beq_eq_true hsz;cases hk2:eqKs P n fs (off+k1.length) with
       | none=>rw [hk2] at h;cases h
       | some k2=>
        rw [hk2] at h;cases h;obtain⟨a1,a2⟩:=zev h1;have ex:(xs.extract f.offset (f.offset+info.size)).toList=(xs.toList.drop off).take k1.length:=by
         simp_all
        have ih:=zck n gs.toList 0 k1 hk1 d (by omega) w em (xs.extract f.offset (f.offset+info.size)) (by rw [List.drop_zero,ex];exact a1);have ih2:=zck n fs (off+k1.length) k2 hk2 (d+1) (by omega) w em xs (by rw [← List.drop_drop];exact a2);have hin:(Instr.checkKey em (d+1+1) f.type (.agg (xs.extract f.offset (f.offset+info.size)))).run P w=.ok () w:=by
         rw [zgs w hu];exact ih
        simp only [Sem.run_bind,zf1 _ hu hi,Result.andThen_ok,hin,Sem.run_pure];exact ih2
   ·rename_i desc hu hne;cases hk:LK.of desc with
    | none=>rw [hk] at h;cases h
    | some k=>
     rw [hk] at h;simp only at h;cases hk2:eqKs P n fs (off+1) with
     | none=>rw [hk2] at h;cases h
     | some k2=>
      rw [hk2] at h;cases h;cases hx:xs.toList.drop off with
      | nil=>rw [hx] at h1;cases h1
      | cons x xr=>
       rw [hx] at h1;simp only [zaR,Bool.and_eq_true] at h1;have gx:xs[f.offset]?=some x:=by
        have:xs.toList[off]?=some x:=by rw [← List.head?_drop,hx];rfl
        simp_all
       have tx:xs.toList.drop (off+1)=xr:=by rw [← List.drop_drop,hx];rfl
       have ih2:=zck n fs (off+1) k2 hk2 (d+1) (by omega) w em xs (by rw [tx];exact h1.2);have hin:=zgt w hu hk (d+1) em x;simp only [Sem.run_bind,zbr _ hu hk xs f.offset gx,Result.andThen_ok,hin,Sem.run_pure];exact ih2
   ·cases h
theorem zqg {T:TypeId} (h:eqOf P T≠[]):EqOK P T (eqOf P T):=by
 unfold eqOf at *;split at h
 ·rename_i fs hu;cases hc:(P.stoodInHeld T || P.eqGuardType P.depth T) with
  | true=>rw [hc] at h;exact absurd rfl h
  | false=>
   rw [hc] at h;simp only [cond_false] at h ⊢;rw [Bool.or_eq_false_iff] at hc;cases hk:eqKs P 20 fs.toList 0 with
   | none=>rw [hk] at h;exact absurd rfl h
   | some ks=>
    refine⟨hc.2,fun d w xs ys h1 h2=>?_,fun d w em xs h1=>by
     rw [show d+100=(d+99)+1 by omega,zgs w hu];exact zck 20 fs.toList 0 ks hk (d+98) (by omega) w em xs (by simpa using h1)⟩
    have hst:P.underlying T=some (.struct (P.fieldsOf T)):=by rw [hu];simp [Program.fieldsOf,hu]
    have hfo:P.fieldsOf T=fs:=by simp [Program.fieldsOf,hu]
    rw [show d+100=(d+99)+1 by omega,run_equalIn_struct w (d+99) T xs ys hst hc.1,hfo];have:=zce 20 fs.toList 0 ks hk (d+98) (by omega) w xs ys h1 h2;simpa using this
 ·exact absurd rfl h
end
def zoX:SV→Option Value
 | .d (.v v)=>some v
 | _=>none
def ze9:List SV→Option (List Value)
 | []=>some []
 | s::r=>match zoX s,ze9 r with|some v,some l=>some (v::l)|_,_=>none
theorem zia {σ:Sg} {g:Gh} {w:World}:∀ {cs:List SV} {l:List Value},ze9 cs=some l→∀ {vs:List Value},vs.length=cs.length→(∀ (i:Nat) (s:SV) (u:Value),cs[i]?=some s→vs[i]?=some u→SR σ g w s u)→vs=l
 | [],l,h,vs,hl,_=>by cases h;exact List.eq_nil_of_length_eq_zero hl
 | s::r,l,h,vs,hl,hr=>by
  cases vs with
  | nil=>cases hl
  | cons v vs=>
   simp only [ze9] at h;cases h1:zoX s with
   | none=>rw [h1] at h;cases h
   | some x=>
    cases h2:ze9 r with
    | none=>rw [h1,h2] at h;cases h
    | some l'=>
     rw [h1,h2] at h;cases h;have ih:=zia h2 (vs:=vs) (by simpa using hl) (fun i s u hi hu=>hr (i+1) s u hi hu);have h0:=hr 0 s v rfl rfl;cases s with
     | d p=>
      cases p with
      | v y=>cases h1;cases h0 with|d _ _ hp=>cases hp;rw [ih]
      | s _ _=>cases h1
      | c _ _=>cases h1
      | e=>cases h1
     | _=>cases h1
theorem za4 {σ:Sg} {g:Gh} {w:World} {cs:List SV} {l:List Value} (h:ze9 cs=some l) {v:Value} (hv:VR2 σ g w (.a cs) v):v=.agg l.toArray:=by
 obtain⟨vs,rfl,hs,hr⟩:=(show ∃ vs:Array Value,v=.agg vs∧vs.size=cs.length∧∀ (i:Nat) (s:SV) (u:Value),cs[i]?=some s→vs[i]?=some u→SR σ g w s u from hv);have:=zia h (vs:=vs.toList) (by simpa using hs) (fun i s u hi hu=>hr i s u hi (by simpa using hu));rw [← this]
end Go.QL
namespace Go.QL
open Go Go.RowKit
inductive TD where
 | other
 | bool
 | int (k:IntKind)
 | str
 | sl (e:TypeId)
 | st (fs:List (Nat × TypeId)) (ks:List LK)
 | ar (n:Nat) (e:TypeId)
 | mp (k e:TypeId)
 | ifc
structure TI where
 d:TD
 size:Nat
 bytes:Nat
 zero:List Value
def TD.agg:TD→Bool
 | .st _ _|.ar _ _=>true
 | _=>false
def flat:TypeDesc→Bool
 | .struct _|.array _ _=>false
 | _=>true
def TD.ok (P:Program) (T:TypeId):TD→Prop
 | .other=>∃ d,P.underlying T=some d∧flat d=true
 | .bool=>P.underlying T=some .bool
 | .int k=>P.underlying T=some (.int k)
 | .str=>P.underlying T=some .string
 | .sl e=>P.underlying T=some (.slice e)
 | .st fs ks=>∃ fields:Array Field,P.underlying T=some (.struct fields)∧fields.toList.map (fun f=>(f.offset,f.type))=fs∧(ks≠[]→EqOK P T ks)
 | .ar n e=>P.underlying T=some (.array n e)
 | .mp k e=>P.underlying T=some (.map k e)
 | .ifc=>∃ ms,P.underlying T=some (.interface ms)
def zOk (d:TD):Value→Bool
 | .agg _=>d.agg
 | .tuple _=>false
 | _=>!d.agg
structure TI.ok (P:Program) (T:TypeId) (i:TI):Prop where
 info:∃ info z,P.info? T=some info∧info.size=i.size∧info.bytes=i.bytes∧info.zero=some z∧z.cells=i.zero.toArray
 desc:i.d.ok P T
 one:i.zero.all (·.oneCell')=true
 zlen:i.zero.length=i.size
 zagg:∀ info z,P.info? T=some info→info.zero=some z→zOk i.d z=true
abbrev TT:=TypeId→Option TI
def TT.ok (P:Program) (tt:TT):Prop:=∀ T i,tt T=some i→i.ok P T
theorem zd9 {P:Program} {T:TypeId} {i:TI} (h:i.ok P T) (w:World):(isAgg T).run P w=.ok i.d.agg w:=by
 have hd:=h.desc;unfold TD.ok at hd;split at hd <;> rename_i heq <;> simp only [heq,TD.agg,isAgg]
 ·obtain⟨d,h1,h2⟩:=hd;simp only [Sem.run_bind,run_underlying h1,Result.andThen_ok];cases d <;> simp_all [flat]
 ·simp [run_underlying hd]
 ·simp [run_underlying hd]
 ·simp [run_underlying hd]
 ·simp [run_underlying hd]
 ·obtain⟨fields,h1,_,_⟩:=hd;simp [run_underlying h1]
 ·simp [run_underlying hd]
 ·simp [run_underlying hd]
 ·obtain⟨ms,h1⟩:=hd;simp [run_underlying h1]
theorem zX {P:Program} {T:TypeId} {i:TI} (h:i.ok P T) (w:World):(sizeOf T).run P w=.ok i.size w:=by
 obtain⟨info,z,h1,h2,_⟩:=h.info;simp [sizeOf,typeInfo,h1,h2]
theorem za0 {P:Program} {T:TypeId} {i:TI} (h:i.ok P T) (w:World):∃ z,(zeroValue T).run P w=.ok z w∧z.cells=i.zero.toArray:=by
 obtain⟨info,z,h1,_,_,h4,h5⟩:=h.info;exact⟨z,by simp [zeroValue,typeInfo,h1,h4],h5⟩
def Gives (P:Program) (w0:World) (K0:Bs) (σ:Sg) (g:Gh) (w:World) (m:Sem Value) (av:AV) (σ':Sg):Prop:=
 ∃ v w' g',m.run P w=.ok v w'∧Did w0 K0 σ g w σ' g' w'∧VR2 σ' g' w' av v
theorem Gives.same {P:Program} {w0:World} {K0:Bs} {σ:Sg} {g:Gh} {w:World} {m:Sem Value} {av:AV} {v:Value} (h:Hp w0 K0 σ g w)
  (hr:m.run P w=.ok v w) (hv:VR2 σ g w av v):Gives P w0 K0 σ g w m av σ:=⟨v,w,g,hr,.refl h,hv⟩
abbrev iv (k:IntKind) (n:Int):AV:=.x (.d (.v (.int k n)))
abbrev bv (b:Bool):AV:=.x (.d (.v (.bool b)))
abbrev sv (s:ByteArray):AV:=.x (.d (.v (.string s)))
theorem zL {σ:Sg} {g:Gh} {w:World} (v:Value) (h:v.oneCell'=true):VR2 σ g w (.x (.d (.v v))) v:=.d _ _ (.v v h)
theorem zm {σ:Sg} {g:Gh} {w:World} {v u:Value} (h:VR2 σ g w (.x (.d (.v v))) u):u=v:=by
 cases h with|d _ _ h=>cases h;rfl
def ze6 (op:BinOp) (k:IntKind) (x y:Int):Int:=
 match op with
 | .and=>k.wrap (BitVec.ofInt k.bits x &&& BitVec.ofInt k.bits y).toNat
 | .or=>k.wrap (BitVec.ofInt k.bits x ||| BitVec.ofInt k.bits y).toNat
 | .xor=>k.wrap (BitVec.ofInt k.bits x ^^^ BitVec.ofInt k.bits y).toNat
 | _=>k.wrap (BitVec.ofInt k.bits x &&& ~~~(BitVec.ofInt k.bits y)).toNat
def kInt (op:BinOp) (k1 k2:IntKind) (a b:Int) (G:Prop→Prop) (k:AV→Prop):Prop:=
 match op with
 | .shl=>G (0≤b)∧∃ r,k1.wrap (a * 2 ^ (min b.toNat k1.bits))=r∧k (iv k1 r)
 | .shr=>G (0≤b)∧∃ r,a.fdiv (2 ^ (min b.toNat k1.bits))=r∧k (iv k1 r)
 | .add=>if k1=k2 then ∃ r,k1.wrap (a+b)=r∧k (iv k1 r) else False
 | .sub=>if k1=k2 then ∃ r,k1.wrap (a - b)=r∧k (iv k1 r) else False
 | .mul=>if k1=k2 then ∃ r,k1.wrap (a * b)=r∧k (iv k1 r) else False
 | .quo=>if k1=k2 then G (b≠0)∧∃ r,k1.wrap (a.tdiv b)=r∧k (iv k1 r) else False
 | .rem=>if k1=k2 then G (b≠0)∧∃ r,a.tmod b=r∧k (iv k1 r) else False
 | .and|.or|.xor|.andNot=>if k1=k2 then ∃ r,ze6 op k1 a b=r∧k (iv k1 r) else False
 | .eql=>if k1=k2 then k (bv (a == b)) else False
 | .neq=>if k1=k2 then k (bv (a != b)) else False
 | .lss=>if k1=k2 then k (bv (decide (a < b))) else False
 | .leq=>if k1=k2 then k (bv (decide (a≤b))) else False
 | .gtr=>if k1=k2 then k (bv (decide (b < a))) else False
 | .geq=>if k1=k2 then k (bv (decide (b≤a))) else False
def kStr (op:BinOp) (a b:ByteArray) (G:Prop→Prop) (k:AV→Prop):Prop:=
 match op with
 | .add=>G (a.size+b.size≤maxLen)∧k (sv (a ++ b))
 | .eql=>k (bv (a.toList == b.toList))
 | .neq=>k (bv (!(a.toList == b.toList)))
 | .lss=>k (bv (Op.bytesLess a.toList b.toList))
 | _=>False
def kBin (tt:TT) (op:BinOp) (xT:TypeId) (x y:AV) (G:Prop→Prop) (k:AV→Prop):Prop:=
 match x,y with
 | .x (.d (.v (.int k1 a))),.x (.d (.v (.int k2 b)))=>kInt op k1 k2 a b G k
 | .x (.d (.v (.string a))),.x (.d (.v (.string b)))=>kStr op a b G k
 | .x (.d (.v (.bool a))),.x (.d (.v (.bool b)))=>
  match tt xT with
  | some ⟨.bool,_,_,_⟩=>(match op with|.eql=>k (bv (a == b))|.neq=>k (bv (!(a == b)))|_=>False)
  | _=>False
 | .a xs,.a ys=>
  match tt xT,ze9 xs,ze9 ys with
  | some ⟨.st _ (k1::ks),_,_,_⟩,some us,some vs=>if zaR (k1::ks) us=true∧zaR (k1::ks) vs=true then (match op with|.eql=>k (bv (eqL us vs))|.neq=>k (bv (!(eqL us vs)))|_=>False) else False
  | some ⟨.ar n e,_,_,_⟩,some us,some vs=>
   (match tt e with
   | some ⟨.int kk,1,_,_⟩=>if zaR (List.replicate n (.int kk)) us=true∧zaR (List.replicate n (.int kk)) vs=true then (match op with|.eql=>k (bv (eqL us vs))|.neq=>k (bv (!(eqL us vs)))|_=>False) else False
   | _=>False)
  | _,_,_=>False
 | _,_=>False
def kUn (op:UnOp) (x:AV) (k:AV→Prop):Prop:=
 match op,x with
 | .neg,.x (.d (.v (.int k1 a)))=>∃ r,k1.wrap (0 - a)=r∧k (iv k1 r)
 | .not,.x (.d (.v (.bool b)))=>k (bv (!b))
 | .xor,.x (.d (.v (.int k1 a)))=>∃ r,ze6 .xor k1 (if k1.signed then -1 else k1.max) a=r∧k (iv k1 r)
 | _,_=>False
def zn8 (tt:TT) (dst:TypeId) (x:AV) (k:AV→Prop):Prop:=
 match x with
 | .x (.d (.v (.int _ a)))=>
  match tt dst with
  | some ⟨.int k2,_,_,_⟩=>∃ r,k2.wrap a=r∧k (iv k2 r)
  | _=>False
 | .x (.d (.v (.string a)))=>
  match tt dst with
  | some ⟨.str,_,_,_⟩=>k (sv a)
  | _=>False
 | _=>False
def Open (G:Prop→Prop):Prop:=∀ p,G p→p
section
variable {P:Program} {w0:World} {K0:Bs} {σ:Sg} {g:Gh} {w:World}
theorem zp4 {op:BinOp} {k1 k2:IntKind} {a b:Int} {G:Prop→Prop} {k:AV→Prop} (h:kInt op k1 k2 a b G k) (T:TypeId) :
  ∃ v,k (.x (.d (.v v)))∧v.oneCell'=true∧(Open G→∀ w,(binOp op T (.int k1 a) (.int k2 b)).run P w=.ok v w):=by
 unfold kInt at h;cases op <;> simp only at h;case shl=>
  obtain⟨h0,r,hr,hk⟩:=h;refine⟨_,hk,rfl,fun hG w=>?_⟩
  have:=hG _ h0;simp [binOp,Op.shift,show ¬ b < 0 by omega,hr]
 case shr=>
  obtain⟨h0,r,hr,hk⟩:=h;refine⟨_,hk,rfl,fun hG w=>?_⟩
  have:=hG _ h0;simp [binOp,Op.shift,show ¬ b < 0 by omega,hr]
 case quo=>
  split at h
  ·rename_i hk2;subst hk2;obtain⟨h0,r,hr,hk⟩:=h;refine⟨_,hk,rfl,fun hG w=>?_⟩
   have:=hG _ h0;simp [binOp,Op.intDiv,this,hr]
  ·exact h.elim
 case rem=>
  split at h
  ·rename_i hk2;subst hk2;obtain⟨h0,r,hr,hk⟩:=h;refine⟨_,hk,rfl,fun hG w=>?_⟩
   have:=hG _ h0;simp [binOp,Op.intDiv,this,hr]
  ·exact h.elim
 case add|sub|mul=>
  split at h
  ·rename_i hk2;subst hk2;obtain⟨r,hr,hk⟩:=h;exact⟨_,hk,rfl,fun _ w=>by simp [binOp,Op.intArith,hr]⟩
  ·exact h.elim
 case and|or|xor|andNot=>
  split at h
  ·rename_i hk2;subst hk2;obtain⟨r,hr,hk⟩:=h;exact⟨_,hk,rfl,fun _ w=>by simp [binOp,Op.intBits,← hr,ze6]⟩
  ·exact h.elim
 all_goals
  split at h
  ·rename_i hk2;subst hk2;exact⟨_,h,rfl,fun _ w=>by simp [binOp,Op.intCmp]⟩
  ·exact h.elim
theorem zf3 (op:BinOp) (T:TypeId) (X Y:Operand) (k1 k2:IntKind) (a b:Int) (w:World):(eqGuard op T X Y (.int k1 a) (.int k2 b)).run P w=.ok () w:=by
 unfold eqGuard;cases op <;> rfl
theorem zf2 (op:BinOp) (T:TypeId) (X Y:Operand) (a b:ByteArray) (w:World):(eqGuard op T X Y (.string a) (.string b)).run P w=.ok () w:=by
 unfold eqGuard;cases op <;> rfl
theorem zcQ (op:BinOp) (T:TypeId) (X Y:Operand) (a b:Bool) (w:World):(eqGuard op T X Y (.bool a) (.bool b)).run P w=.ok () w:=by
 unfold eqGuard;cases op <;> rfl
theorem zpZ {op:BinOp} {a b:ByteArray} {G:Prop→Prop} {k:AV→Prop} (h:kStr op a b G k) (T:TypeId) :
  ∃ v,k (.x (.d (.v v)))∧v.oneCell'=true∧(Open G→∀ w,(binOp op T (.string a) (.string b)).run P w=.ok v w):=by
 unfold kStr at h;cases op <;> simp only at h;case add=>
  obtain⟨h0,hk⟩:=h;refine⟨_,hk,rfl,fun hG w=>?_⟩
  have:=hG _ h0;simp only [maxLen] at this;have h2:¬ ((a.size+b.size:Nat):Int) > IntKind.i64.max:=by
   have:IntKind.i64.max=9223372036854775807:=by decide
   rw [this];omega
  have h3:(Op.stringOp .add a b).run P w=.ok (.string (a ++ b)) w:=by
   unfold Op.stringOp;simp_all
  simpa [binOp] using h3
 case eql=>exact⟨_,h,rfl,fun _ w=>by simp [binOp,Op.stringOp]⟩
 case neq=>exact⟨_,h,rfl,fun _ w=>by simp [binOp,Op.stringOp]⟩
 case lss=>exact⟨_,h,rfl,fun _ w=>by simp [binOp,Op.stringOp]⟩
 all_goals exact h.elim
theorem zcO {T:TypeId} (hu:P.underlying T=some .bool) (d:Nat) (a b:Bool) (w:World):(Op.equalIn (d+1) T (.bool a) (.bool b)).run P w=.ok (a == b) w:=by
 simp only [Op.equalIn,Sem.run_bind,run_underlying hu,Result.andThen_ok];rfl
theorem zkI {T:TypeId} (hu:P.underlying T=some .bool) (a b:Bool) (w:World):(binOp .eql T (.bool a) (.bool b)).run P w=.ok (.bool (a == b)) w:=by
 simp only [binOp,Op.equal,Op.maxDepth,Sem.run_bind,zcO hu 9999,Result.andThen_ok];rfl
theorem zkH {T:TypeId} (hu:P.underlying T=some .bool) (a b:Bool) (w:World):(binOp .neq T (.bool a) (.bool b)).run P w=.ok (.bool (!(a == b))) w:=by
 simp only [binOp,Op.equal,Op.maxDepth,Sem.run_bind,zcO hu 9999,Result.andThen_ok];rfl
theorem zcP {e:TypeId} {kk:IntKind} (hu:P.underlying e=some (.int kk)) (d:Nat) (w:World) (xs ys:Array Value):∀ (n o:Nat),
  zaR (List.replicate n (.int kk)) (xs.toList.drop o)=true→zaR (List.replicate n (.int kk)) (ys.toList.drop o)=true →
  (Op.eqItems (d+1) e 1 xs ys (List.range' o n)).run P w=.ok (eqL (xs.toList.drop o) (ys.toList.drop o)) w
 | 0,o,h1,h2=>by
  have e1:xs.toList.drop o=[]:=List.eq_nil_of_length_eq_zero (zb7 h1);have e2:ys.toList.drop o=[]:=List.eq_nil_of_length_eq_zero (zb7 h2);rw [e1,e2];rfl
 | n+1,o,h1,h2=>by
  have hk:LK.of (.int kk)=some (.int kk):=rfl;cases hx:xs.toList.drop o with
  | nil=>rw [hx] at h1;cases h1
  | cons x r=>
   cases hy:ys.toList.drop o with
   | nil=>rw [hy] at h2;cases h2
   | cons y s=>
    rw [hx,List.replicate_succ] at h1;rw [hy,List.replicate_succ] at h2;simp only [zaR,Bool.and_eq_true] at h1 h2;have hx1:xs.toList.drop (o+1)=r:=by rw [← List.tail_drop,hx];rfl
    have hy1:ys.toList.drop (o+1)=s:=by rw [← List.tail_drop,hy];rfl
    have ih:=zcP hu d w xs ys n (o+1) (by rw [hx1];exact h1.2) (by rw [hy1];exact h2.2);have gx:xs[o]?=some x:=by
     have:(xs.toList.drop o)[0]?=some x:=by rw [hx];rfl
     grind
    have gy:ys[o]?=some y:=by
     have:(ys.toList.drop o)[0]?=some y:=by rw [hy];rfl
     grind
    rw [List.range'_succ,Op.eqItems];simp only [Sem.run_bind,Nat.mul_one,zbr w hu hk xs o gx,zbr w hu hk ys o gy,zdA w hu hk d h1.1 h2.1,Result.andThen_ok];rw [hx1,hy1] at ih;cases hv:eqV x y with
    | false=>simp [eqL,hv]
    | true=>simpa [eqL,hv] using ih
theorem zp6 {tt:TT} (htt:tt.ok P) {op:BinOp} {T:TypeId} {x y:AV} {G:Prop→Prop} {k:AV→Prop} (h:kBin tt op T x y G k) :
  ∃ v,k (.x (.d (.v v)))∧v.oneCell'=true∧(Open G→∀ (σ:Sg) (g:Gh) (w:World) (X Y:Operand) u1 u2,VR2 σ g w x u1→VR2 σ g w y u2→((do eqGuard op T X Y u1 u2;binOp op T u1 u2):Sem Value).run P w=.ok v w):=by
 unfold kBin at h;split at h
 ·obtain⟨v,hk,h1',hr⟩:=zp4 (P:=P) h T;refine⟨v,hk,h1',fun hG σ g w X Y u1 u2 h1 h2=>?_⟩
  cases zm h1;cases zm h2;rw [Sem.run_bind,zf3,Result.andThen_ok,hr hG]
 ·obtain⟨v,hk,h1',hr⟩:=zpZ (P:=P) h T;refine⟨v,hk,h1',fun hG σ g w X Y u1 u2 h1 h2=>?_⟩
  cases zm h1;cases zm h2;rw [Sem.run_bind,zf2,Result.andThen_ok,hr hG]
 ·split at h
  ·rename_i i heq;have hd:=(htt _ _ heq).desc;have hu:P.underlying T=some .bool:=hd;split at h
   ·refine⟨_,h,rfl,fun hG σ g w X Y u1 u2 h1 h2=>?_⟩
    cases zm h1;cases zm h2;rw [Sem.run_bind,zcQ,Result.andThen_ok];exact zkI hu _ _ _
   ·refine⟨_,h,rfl,fun hG σ g w X Y u1 u2 h1 h2=>?_⟩
    cases zm h1;cases zm h2;rw [Sem.run_bind,zcQ,Result.andThen_ok];exact zkH hu _ _ _
   ·exact h.elim
  ·exact h.elim
 ·split at h
  ·rename_i fs k1 ks _ _ _ us vs heq hus hvs;obtain⟨fields,_,_,hek⟩:=(htt _ _ heq).desc;have hek:=hek (by simp);split at h
   ·rename_i hfit;have hrun:∀ w,(Op.equalIn 10000 T (.agg us.toArray) (.agg vs.toArray)).run P w=.ok (eqL us vs) w:=fun w=>by
     have:=hek.run 9900 w us.toArray vs.toArray (by simpa using hfit.1) (by simpa using hfit.2);simpa using this
    split at h
    ·refine⟨_,h,rfl,fun hG σ g w X Y u1 u2 h1 h2=>?_⟩
     cases za4 hus h1;cases za4 hvs h2;rw [Sem.run_bind,run_eqGuard_agg w _ _ _ _ _ _ hek.guard,Result.andThen_ok,run_eql_struct,hrun];rfl
    ·refine⟨_,h,rfl,fun hG σ g w X Y u1 u2 h1 h2=>?_⟩
     cases za4 hus h1;cases za4 hvs h2;rw [Sem.run_bind,run_eqGuard_agg w _ _ _ _ _ _ hek.guard,Result.andThen_ok,run_neq_struct,hrun];rfl
    ·exact h.elim
   ·exact h.elim
  ·rename_i n e _ _ _ us vs heq hus hvs;have hu:P.underlying T=some (.array n e):=(htt _ _ heq).desc;split at h
   ·rename_i kk _ _ hte;have hti:=htt _ _ hte;have hue:P.underlying e=some (.int kk):=hti.desc;obtain⟨info,z,i1,i2,_⟩:=hti.info;have hce:P.cellsOf e=1:=by simp [Program.cellsOf,i1,i2]
    split at h
    ·rename_i hfit;have hrun:∀ w,(Op.equalIn 10000 T (.agg us.toArray) (.agg vs.toArray)).run P w=.ok (eqL us vs) w:=fun w=>by
      rw [run_equalIn_array w 9999 us.toArray vs.toArray hu i1,hce,List.range_eq_range'];have:=zcP hue 9998 w us.toArray vs.toArray n 0 (by simpa using hfit.1) (by simpa using hfit.2);simpa using this
     have hgd:P.eqGuardType P.depth T=false:=by
      show P.eqGuardType ((2 * (P.types.size+Made.depth)+1)+1) T=false
      unfold Program.eqGuardType;rw [hu];show P.eqGuardType (2 * (P.types.size+Made.depth)+1) e=false
      unfold Program.eqGuardType;rw [hue]
     split at h
     ·refine⟨_,h,rfl,fun hG σ g w X Y u1 u2 h1 h2=>?_⟩
      cases za4 hus h1;cases za4 hvs h2;rw [Sem.run_bind,run_eqGuard_agg w _ _ _ _ _ _ hgd,Result.andThen_ok,run_eql_struct,hrun];rfl
     ·refine⟨_,h,rfl,fun hG σ g w X Y u1 u2 h1 h2=>?_⟩
      cases za4 hus h1;cases za4 hvs h2;rw [Sem.run_bind,run_eqGuard_agg w _ _ _ _ _ _ hgd,Result.andThen_ok,run_neq_struct,hrun];rfl
     ·exact h.elim
    ·exact h.elim
   ·exact h.elim
  ·exact h.elim
 ·exact h.elim
theorem zq4 {op:UnOp} {x:AV} {k:AV→Prop} (h:kUn op x k) :
  ∃ v,k (.x (.d (.v v)))∧v.oneCell'=true∧(∀ (σ:Sg) (g:Gh) (w:World) u,VR2 σ g w x u→(Op.unary op u).run P w=.ok v w):=by
 unfold kUn at h;split at h
 ·obtain⟨r,hr,hk⟩:=h;exact⟨_,hk,rfl,fun σ g w u h1=>by cases zm h1;simp [Op.unary,Op.intArith,← hr]⟩
 ·exact⟨_,h,rfl,fun σ g w u h1=>by cases zm h1;simp [Op.unary]⟩
 ·obtain⟨r,hr,hk⟩:=h;exact⟨_,hk,rfl,fun σ g w u h1=>by cases zm h1;simp [Op.unary,Op.intBits,← hr,ze6]⟩
 ·exact h.elim
theorem zki {tt:TT} (htt:tt.ok P) {src dst:TypeId} {x:AV} {k:AV→Prop} (h:zn8 tt dst x k) (hs:∃ d,P.underlying src=some d∧flat d=true∧∀ e,d≠.slice e) :
  ∃ v,k (.x (.d (.v v)))∧v.oneCell'=true∧(∀ (σ:Sg) (g:Gh) (w:World) u,VR2 σ g w x u→(convert src dst u).run P w=.ok v w):=by
 obtain⟨ds,hs,_,_⟩:=hs;unfold zn8 at h;split at h
 ·split at h
  ·rename_i i heq;have hu:P.underlying dst=some (.int _):=(htt _ _ heq).desc;obtain⟨r,hr,hk⟩:=h;refine⟨_,hk,rfl,fun σ g w u h1=>?_⟩
   cases zm h1;simp [convert,run_underlying hu,run_underlying hs,Conv.intToInt,hr]
  ·exact h.elim
 ·split at h
  ·rename_i i heq;have hu:P.underlying dst=some .string:=(htt _ _ heq).desc;refine⟨_,h,rfl,fun σ g w u h1=>?_⟩
   cases zm h1;simp [convert,run_underlying hu,run_underlying hs]
  ·exact h.elim
 ·exact h.elim
end
end Go.QL
namespace Go.QL
open Go Go.RowKit
section
variable {P:Program} {w0:World} {K0:Bs} {σ:Sg} {g:Gh} {w:World}
theorem za1 {T:TypeId} {ti:TI} (hti:ti.ok P T) (a:Addr) (vs:List Value) (hl:vs.length=ti.size) (h:∀ (j:Nat) v,vs[j]?=some v→w.cell? (a.add j)=some v) :
  (loadVar T a).run P w=.ok (if ti.d.agg then .agg vs.toArray else vs.getD 0 undef) w∨(ti.d.agg=false∧ti.size≠1):=by
 cases hagg:ti.d.agg with
 | true=>
  left
  have h1:=zd9 hti w;have h2:=zX hti w;have h3:=run_loadCells_list (P:=P) w a vs h;simp [loadVar,h1,hagg,h2,← hl,h3]
 | false=>
  by_cases hs:ti.size=1
  ·left
   have h1:=zd9 hti w;match vs,hl.trans hs with
   | [v],_=>
    have h0:=h 0 v rfl;have:a.add 0=a:=by simp [Addr.add]
    rw [this] at h0;simp [loadVar,h1,hagg,h0]
  ·simp_all
theorem zad (k l n:Nat):(⟨k,l,none⟩:Addr).add n=⟨k,l+n,none⟩:=by
 unfold Addr.add;split
 ·simp_all
 ·rfl
def zdd (σ:Sg):SV→Nat→Option (List SV)
 | .b id off,n=>match lk id σ with
  | some (.box cs)=>if off+n≤cs.length then some ((cs.drop off).take n) else none
  | _=>none
 | .se e off,n=>if off+n≤e.length then some (((e.drop off).take n).map .d) else none
 | _,_=>none
theorem ziQ {id off n:Nat} {cs:List SV} (h:zdd σ (.b id off) n=some cs):∃ cs0,lk id σ=some (.box cs0)∧off+n≤cs0.length∧cs=(cs0.drop off).take n:=by
 simp only [zdd] at h;grind
theorem zg3 {e:List PV} {off n:Nat} {cs:List SV} (h:zdd σ (.se e off) n=some cs):off+n≤e.length∧cs=((e.drop off).take n).map .d:=by
 simp only [zdd] at h;simp_all
theorem zdG {s:SV} {n:Nat} {cs:List SV} (h:zdd σ s n=some cs):cs.length=n:=by
 cases s with
 | b id off=>obtain⟨cs0,_,hle,rfl⟩:=ziQ h;simp;omega
 | se e off=>obtain⟨hle,rfl⟩:=zg3 h;simp;omega
 | _=>cases h
theorem zg4 (hp:Hp w0 K0 σ g w) {s:SV} {n:Nat} {cs:List SV} (h:zdd σ s n=some cs) {v:Value} (hs:SR σ g w s v) :
  ∃ (a:Addr) (vs:List Value),v=.pointer (some a)∧vs.length=n∧(∀ (j:Nat) (u:Value),vs[j]?=some u→w.cell? (a.add j)=some u) ∧
   (∀ (j:Nat) (x:SV) (u:Value),cs[j]?=some x→vs[j]?=some u→SR σ g w x u):=by
 cases s with
 | b id off=>
  obtain⟨cs0,hl,hle,rfl⟩:=ziQ h;have hO:=hp.obs _ _ hl;obtain⟨b,vs,T,h1,h2,h3,h4,h5,h6⟩:=hO;cases hs with
  | b _ _ cs' k hl' hμ=>
   rw [h1] at hμ;cases hμ;refine⟨⟨b,off,none⟩,(vs.toList.drop off).take n,rfl,by simp;omega,?_,?_⟩
   ·intro j u hu;rw [zad,cell_of_row w b (off+j) vs T (0,0) h3];grind
   ·grind
 | se e off=>
  obtain⟨hle,rfl⟩:=zg3 h;cases hs with
  | se _ _ k l vs hK hc hr=>
   refine⟨⟨k,l+off,none⟩,(List.range n).map (fun j=>vs (off+j)),rfl,by simp,?_,?_⟩
   ·intro j u hu;rw [zad];grind
   ·intro j x u hx hu;have hj:j < n:=by
     grind
    simp [hj] at hu hx;obtain⟨p,hp',rfl⟩:=hx;subst hu;exact .d _ _ (hr _ _ hp')
 | _=>cases h
def zmj (tt:TT) (σ:Sg) (T:TypeId) (x:AV) (k:AV→Prop):Prop:=
 match x,tt T with
 | .x s,some ti=>
  match zdd σ s ti.size with
  | some cs=>bif ti.d.agg then k (.a cs) else (match cs with|[c]=>k (.x c)|_=>False)
  | none=>False
 | _,_=>False
theorem zkh {tt:TT} (htt:tt.ok P) {T:TypeId} {x:AV} {k:AV→Prop} (h:zmj tt σ T x k) :
  ∃ av,k av∧∀ (w0:World) (K0:Bs) (g:Gh) (w:World) u,Hp w0 K0 σ g w→VR2 σ g w x u→∃ v,(Instr.loadAt T u).run P w=.ok v w∧VR2 σ g w av v:=by
 unfold zmj at h;split at h
 ·rename_i s ti heq;have hti:=htt _ _ heq;split at h
  ·rename_i cs hcs;cases hagg:ti.d.agg with
   | true=>
    rw [hagg] at h;refine⟨_,h,fun w0 K0 g w u hp hs=>?_⟩
    obtain⟨a,vs,rfl,hl,hc,hr⟩:=zg4 hp hcs hs;rcases za1 hti a vs hl hc with h1|⟨h1,_⟩
    ·rw [hagg] at h1;refine⟨_,by simpa [Instr.loadAt,Instr.sureAddr] using h1,vs.toArray,rfl,?_,?_⟩
     ·simp [hl,zdG hcs]
     ·grind
    ·simp_all
   | false=>
    rw [hagg] at h;simp only [cond_false] at h;split at h
    ·rename_i c;refine⟨_,h,fun w0 K0 g w u hp hs=>?_⟩
     obtain⟨a,vs,rfl,hl,hc,hr⟩:=zg4 hp hcs hs;have hl1:=zdG hcs;simp at hl1;rcases za1 hti a vs hl hc with h1|⟨_,h1⟩
     ·rw [hagg] at h1;match vs,hl.trans hl1.symm with
      | [v],_=>
       refine⟨v,by simpa [Instr.loadAt,Instr.sureAddr] using h1,?_⟩
       exact hr 0 c v rfl rfl
     ·omega
    ·exact h.elim
  ·exact h.elim
 ·exact h.elim
def zeY (tt:TT) (T:TypeId) (x:AV) (f:Nat) (k:AV→Prop):Prop:=
 match tt T with
 | some ⟨.st fs _,_,_,_⟩=>
  match fs[f]? with
  | some (o,ft)=>
   match tt ft with
   | some fi=>if fi.size=0 then False else
    (match x with
    | .x (.b id off)=>k (.x (.b id (off+o)))
    | .x (.se e off)=>k (.x (.se e (off+o)))
    | .x (.oe c st i off)=>k (.x (.oe c st i (off+o)))
    | _=>False)
   | none=>False
  | none=>False
 | _=>False
theorem zhB {tt:TT} (htt:tt.ok P) {T:TypeId} {x:AV} {f:Nat} {k:AV→Prop} (h:zeY tt T x f k) (hnold:∀ c st i off,x=.x (.oe c st i off)→∃ e sz xs,lk c σ=some (.chain e sz st xs)) :
  ∃ av,k av∧∀ (w0:World) (K0:Bs) (g:Gh) (w:World) u,Hp w0 K0 σ g w→VR2 σ g w x u→∃ v,(Instr.fieldAt T u f).run P w=.ok v w∧VR2 σ g w av v:=by
 unfold zeY at h;split at h
 ·rename_i fs _ _ _ _ heq;have hd:∃ fields:Array Field,P.underlying T=some (.struct fields)∧fields.toList.map (fun f=>(f.offset,f.type))=fs:=by obtain⟨fields,a,b,_⟩:=(htt _ _ heq).desc;exact⟨fields,a,b⟩
  obtain⟨fields,hu,hmap⟩:=hd;split at h
  ·rename_i o ft hf;split at h
   ·rename_i fi hfi;split at h
    ·exact h.elim
    ·rename_i hsz;have hfo:∃ fl,fields[f]?=some fl∧fl.offset=o∧fl.type=ft:=by
      grind
     obtain⟨fl,hfl,ho,hft⟩:=hfo;have hrun:∀ (w:World) (a:Addr),(Instr.fieldAt T (.pointer (some a)) f).run P w=.ok (.pointer (some (a.add o))) w:=by
      intro w a;have hsz2:=zX (htt _ _ hfi) w;simp [Instr.fieldAt,run_underlying hu,hfl,Instr.sureAddr,fieldPlace,hft,hsz2,hsz,ho]
     split at h
     ·rename_i id off;refine⟨_,h,fun w0 K0 g w u hp hs=>?_⟩
      cases hs with
      | b _ _ cs k' hl hμ=>exact⟨_,hrun w _,by rw [zad];exact .b _ _ cs k' hl hμ⟩
     ·rename_i e off;refine⟨_,h,fun w0 K0 g w u hp hs=>?_⟩
      cases hs with
      | se _ _ k' l vs hK hc hr=>exact⟨_,hrun w _,by rw [zad,Nat.add_assoc];exact .se e (off+o) k' l vs hK hc hr⟩
     ·rename_i c st i off;refine⟨_,h,fun w0 K0 g w u hp hs=>?_⟩
      obtain⟨e0,sz0,xs0,hl0⟩:=hnold c st i off rfl;cases hs with
      | oeold _ _ _ _ e sz st' xs v hl hlt _=>rw [hl0] at hl;cases hl;omega
      | oe _ _ _ _ e sz xs k' cap hl hμ=>
       rw [hl0] at hl;cases hl;exact⟨_,hrun w _,by rw [zad,Nat.add_assoc];exact .oe c st i (off+o) e0 sz0 xs0 k' cap hl0 hμ⟩
     ·exact h.elim
   ·exact h.elim
  ·exact h.elim
 ·exact h.elim
end
end Go.QL
namespace Go.QL
open Go Go.RowKit
section
variable {P:Program} {w0:World} {K0:Bs} {σ:Sg} {g:Gh} {w:World}
def zeX (tt:TT) (σ:Sg) (T:TypeId) (x i:AV) (G:Prop→Prop) (k:AV→Prop):Prop:=
 match tt T,x,i with
 | some ⟨.sl e,_,_,_⟩,.x (.d (.s sz xs)),.x (.d (.v (.int _ n)))=>
  match tt e with
  | some ei=>ei.size=sz∧∃ el,G (0≤n∧xs[n.toNat]?=some el)∧k (.x (.se el 0))
  | none=>False
 | some ⟨.sl e,_,_,_⟩,.x (.o c st m),.x (.d (.v (.int _ n)))=>
  match tt e,lk c σ with
  | some ei,some (.chain _ sz st' xs)=>(ei.size=sz∧st'=st)∧G (0≤n∧n < m∧m≤xs.length)∧k (.x (.oe c st n.toNat 0))
  | _,_=>False
 | some ⟨.ar len e,_,_,_⟩,.x (.b id off),.x (.d (.v (.int _ n)))=>
  match tt e with
  | some ei=>G (0≤n∧n < len)∧k (.x (.b id (off+n.toNat * ei.size)))
  | none=>False
 | some ⟨.ar len e,_,_,_⟩,.x (.se el off),.x (.d (.v (.int _ n)))=>
  match tt e with
  | some ei=>G (0≤n∧n < len)∧k (.x (.se el (off+n.toNat * ei.size)))
  | none=>False
 | some ⟨.ar len e,_,_,_⟩,.x (.oe c st j off),.x (.d (.v (.int _ n)))=>
  match tt e,lk c σ with
  | some ei,some (.chain _ _ st' _)=>st'=st∧G (0≤n∧n < len)∧k (.x (.oe c st j (off+n.toNat * ei.size)))
  | _,_=>False
 | some ⟨.sl e,_,_,_⟩,.x (.os c st lo m),.x (.d (.v (.int _ n)))=>
  match tt e,lk c σ with
  | some ei,some (.chain _ sz st' _)=>(ei.size=sz∧st'=st)∧G (0≤n∧n < (m - lo:Nat))∧k (.x (.oe c st (lo+n.toNat) 0))
  | _,_=>False
 | some ⟨.sl e,_,_,_⟩,.x (.sb id off m _),.x (.d (.v (.int _ n)))=>
  match tt e with
  | some ei=>G (0≤n∧n < m)∧k (.x (.b id (off+n.toNat * ei.size)))
  | none=>False
 | _,_,_=>False
theorem zcl {T e:TypeId} {ei:TI} (hu:P.underlying T=some (.slice e)) (he:ei.ok P e) (a:Addr) (len cap:Nat) (k:IntKind) (n:Int) (h:0≤n∧n < len) (w:World) :
  (Instr.indexAt T (.slice (some a) len cap) (.int k n)).run P w=.ok (.pointer (some (a.add (n.toNat * ei.size)))) w:=by
 have h2:=zX he w;simp [Instr.indexAt,run_underlying hu,asIntOf,h,h2]
theorem zcm {T e:TypeId} {ei:TI} {len:Nat} (hu:P.underlying T=some (.array len e)) (he:ei.ok P e) (a:Addr) (k:IntKind) (n:Int) (h:0≤n∧n < len) (w:World) :
  (Instr.indexAt T (.pointer (some a)) (.int k n)).run P w=.ok (.pointer (some (a.add (n.toNat * ei.size)))) w:=by
 have h2:=zX he w;simp [Instr.indexAt,run_underlying hu,asIntOf,Instr.sureAddr,h,h2]
theorem zhA {tt:TT} (htt:tt.ok P) {T:TypeId} {x i:AV} {G:Prop→Prop} {k:AV→Prop} (h:zeX tt σ T x i G k) :
  ∃ av,k av∧(Open G→∀ (w0:World) (K0:Bs) (g:Gh) (w:World) u1 u2,Hp w0 K0 σ g w→VR2 σ g w x u1→VR2 σ g w i u2→∃ v,(Instr.indexAt T u1 u2).run P w=.ok v w∧VR2 σ g w av v):=by
 unfold zeX at h;split at h
 ·rename_i e _ _ _ sz xs kk n heq;have hu:P.underlying T=some (.slice e):=(htt _ _ heq).desc;split at h
  ·rename_i ei hei;obtain⟨hsz,el,hc,hk⟩:=h;refine⟨_,hk,fun hG w0 K0 g w u1 u2 hp h1 h2=>?_⟩
   obtain⟨h0,hx⟩:=hG _ hc;cases zm h2;cases h1 with
   | d _ _ hpr=>
    cases hpr with
    | s _ _ a cap b off vs hcap hmax hszs ha hK hcell hr=>
     have hne:xs≠[]:=by intro e;subst e;simp at hx
     obtain rfl:=ha hne;have hlt:n.toNat < xs.length:=(List.getElem?_eq_some_iff.1 hx).1;refine⟨_,zcl hu (htt _ _ hei) _ _ _ kk n ⟨h0,by omega⟩ w,?_⟩
     rw [zad,hsz];refine .se el 0 b (off+n.toNat * sz) (fun j=>vs n.toNat j) (fun j hj=>?_) (fun j hj=>?_) (fun j x hjx=>hr _ _ hx _ _ hjx)
     ·grind
     ·grind
  ·exact h.elim
 ·rename_i e _ _ _ c st m kk n heq;have hu:P.underlying T=some (.slice e):=(htt _ _ heq).desc;split at h
  ·rename_i ei e' sz st' xs hei hl;obtain⟨⟨hsz,hst⟩,hc,hk⟩:=h;subst hst;refine⟨_,hk,fun hG w0 K0 g w u1 u2 hp h1 h2=>?_⟩
   obtain⟨h0,hlt,hle⟩:=hG _ hc;cases zm h2;have hO:=hp.obs _ _ hl;obtain⟨vs,hown,⟨a0,cap0,hμ,hcap,hmax⟩,_⟩:=hO;cases h1 with
   | old _ _ _ e1 sz1 st1 xs1 v hl1 hlt1 _=>rw [hl] at hl1;cases hl1;omega
   | o _ _ _ e1 sz1 xs1 a cap hl1 hn hμ1=>
    rw [hl] at hl1;cases hl1;rcases hown.2 with ⟨hnil,hz⟩|⟨gb,cap',cur,hv,hB,hg,_⟩
    ·exfalso;omega
    ·rw [hμ1] at hv;cases hv;refine⟨_,zcl hu (htt _ _ hei) _ _ _ kk n ⟨h0,hlt⟩ w,?_⟩
     rw [zad,hsz,Nat.zero_add];exact SR.oe (σ:=σ) (g:=g) (w:=w) c st' n.toNat 0 e' sz xs gb _ hl hμ1
  ·exact h.elim
 ·rename_i len e _ _ _ id off kk n heq;have hu:P.underlying T=some (.array len e):=(htt _ _ heq).desc;split at h
  ·rename_i ei hei;obtain⟨hc,hk⟩:=h;refine⟨_,hk,fun hG w0 K0 g w u1 u2 hp h1 h2=>?_⟩
   have hb:=hG _ hc;cases zm h2;cases h1 with
   | b _ _ cs k' hl hμ=>
    refine⟨_,zcm hu (htt _ _ hei) _ kk n hb w,?_⟩
    rw [zad];exact .b id _ cs k' hl hμ
  ·exact h.elim
 ·rename_i len e _ _ _ el off kk n heq;have hu:P.underlying T=some (.array len e):=(htt _ _ heq).desc;split at h
  ·rename_i ei hei;obtain⟨hc,hk⟩:=h;refine⟨_,hk,fun hG w0 K0 g w u1 u2 hp h1 h2=>?_⟩
   have hb:=hG _ hc;cases zm h2;cases h1 with
   | se _ _ k' l vs a1 a2 a3=>
    refine⟨_,zcm hu (htt _ _ hei) _ kk n hb w,?_⟩
    rw [zad,Nat.add_assoc];exact .se el _ k' l vs a1 a2 a3
  ·exact h.elim
 ·rename_i len e _ _ _ c st j off kk n heq;have hu:P.underlying T=some (.array len e):=(htt _ _ heq).desc;split at h
  ·rename_i ei e' sz st' xs hei hl;obtain⟨rfl,hc,hk⟩:=h;refine⟨_,hk,fun hG w0 K0 g w u1 u2 hp h1 h2=>?_⟩
   have hb:=hG _ hc;cases zm h2;cases h1 with
   | oeold _ _ _ _ e1 sz1 st1 xs1 v hl1 hlt _=>rw [hl] at hl1;cases hl1;omega
   | oe _ _ _ _ e1 sz1 xs1 kb cap hl1 hμ=>
    refine⟨_,zcm hu (htt _ _ hei) _ kk n hb w,?_⟩
    rw [zad,Nat.add_assoc];exact .oe c _ j _ e1 sz1 xs1 kb cap hl1 hμ
  ·exact h.elim
 ·rename_i e _ _ _ c st lo m kk n heq;have hu:P.underlying T=some (.slice e):=(htt _ _ heq).desc;split at h
  ·rename_i ei e' sz st' xs hei hl;obtain⟨⟨hsz,rfl⟩,hc,hk⟩:=h;refine⟨_,hk,fun hG w0 K0 g w u1 u2 hp h1 h2=>?_⟩
   have hb:=hG _ hc;cases zm h2;cases h1 with
   | osold _ _ _ _ e1 sz1 st1 xs1 v hl1 hlt1 _=>rw [hl] at hl1;cases hl1;omega
   | os _ _ _ _ e1 sz1 xs1 kb cap hl1 hμ hn=>
    rw [hl] at hl1;cases hl1;refine⟨_,zcl hu (htt _ _ hei) _ _ _ kk n hb w,?_⟩
    rw [zad,hsz,← Nat.add_mul];exact SR.oe (σ:=σ) (g:=g) (w:=w) c _ (lo+n.toNat) 0 e' sz xs kb _ hl hμ
  ·exact h.elim
 ·rename_i e _ _ _ id off m cap kk n heq;have hu:P.underlying T=some (.slice e):=(htt _ _ heq).desc;split at h
  ·rename_i ei hei;obtain⟨hc,hk⟩:=h;refine⟨_,hk,fun hG w0 K0 g w u1 u2 hp h1 h2=>?_⟩
   have hb:=hG _ hc;cases zm h2;cases h1 with
   | sb _ _ _ _ cs k' hl hμ hn hcc=>
    refine⟨_,zcl hu (htt _ _ hei) _ _ _ kk n hb w,?_⟩
    rw [zad];exact .b id _ cs k' hl hμ
  ·exact h.elim
 ·exact h.elim
def zjB (tt:TT) (σ:Sg) (T:TypeId) (c st i off:Nat) (G:Prop→Prop) (k:AV→Prop):Prop:=
 match tt T,lk c σ with
 | some ti,some (.chain _ sz st' xs)=>
  st'=st∧∃ el,G (xs[i]?=some el)∧(off+ti.size≤el.length∧el.length=sz) ∧
   (bif ti.d.agg then k (.a (((el.drop off).take ti.size).map .d)) else (match (el.drop off).take ti.size with|[p]=>k (.x (.d p))|_=>False))
 | _,_=>False
theorem zkS {tt:TT} (htt:tt.ok P) {T:TypeId} {c st i off:Nat} {G:Prop→Prop} {k:AV→Prop} (h:zjB tt σ T c st i off G k) :
  ∃ av,k av∧(Open G→∀ (w0:World) (K0:Bs) (g:Gh) (w:World) u,Hp w0 K0 σ g w→VR2 σ g w (.x (.oe c st i off)) u→∃ v,(Instr.loadAt T u).run P w=.ok v w∧VR2 σ g w av v):=by
 unfold zjB at h;split at h
 ·rename_i ti e sz st' xs heq hl;have hti:=htt _ _ heq;obtain⟨hst,el,hG0,⟨hoff,hsz⟩,h⟩:=h;subst hst;have key:Open G→∀ (w0:World) (K0:Bs) (g:Gh) (w:World) u,Hp w0 K0 σ g w→VR2 σ g w (.x (.oe c st' i off)) u →
    ∃ (a:Addr) (us:List Value),u=.pointer (some a)∧us.length=ti.size∧(∀ (j:Nat) (v:Value),us[j]?=some v→w.cell? (a.add j)=some v) ∧
     (∀ (j:Nat) (x:PV) (v:Value),((el.drop off).take ti.size)[j]?=some x→us[j]?=some v→PR g.K w x v):=by
   intro hG w0 K0 g w u hp hs;have hx:=hG _ hG0;obtain⟨vs,hown,_,hszs,hpr,_⟩:=hp.obs _ _ hl;cases hs with
   | oeold _ _ _ _ e1 sz1 st1 xs1 v hl1 hlt _=>rw [hl] at hl1;cases hl1;omega
   | oe _ _ _ _ e1 sz1 xs1 kb cap hl1 hμ=>
    rw [hl] at hl1;cases hl1;have hcell:=hown.cells (g:=kb) (by rw [hμ];rfl);refine⟨⟨kb,i * sz+off,none⟩,(vs.drop (i * sz+off)).take ti.size,rfl,?_,?_,?_⟩
    ·have hi:i < xs.length:=(List.getElem?_eq_some_iff.1 hx).1;have:(i+1) * sz≤xs.length * sz:=Nat.mul_le_mul_right _ hi;have hvl:=hown.1;grind
    ·intro j v hv;rw [List.getElem?_take] at hv;by_cases hj:j < ti.size
     ·rw [if_pos hj,List.getElem?_drop] at hv;have:=hcell _ _ hv;rw [zad] at this ⊢;simpa using this
     ·simp_all
    ·grind
  cases hagg:ti.d.agg with
  | true=>
   rw [hagg] at h;refine⟨_,h,fun hG w0 K0 g w u hp hs=>?_⟩
   obtain⟨a,us,rfl,hlen,hc,hr⟩:=key hG w0 K0 g w u hp hs;rcases za1 hti a us hlen hc with h1|⟨h1,_⟩
   ·rw [hagg] at h1;refine⟨_,by simpa [Instr.loadAt,Instr.sureAddr] using h1,us.toArray,rfl,?_,?_⟩
    ·simp [hlen];omega
    ·intro j s v hj hv;rw [List.getElem?_map] at hj;cases hp':((el.drop off).take ti.size)[j]? with
     | none=>rw [hp'] at hj;cases hj
     | some p=>rw [hp'] at hj;cases hj;exact .d _ _ (hr j p v hp' (by simpa using hv))
   ·simp_all
  | false=>
   rw [hagg] at h;simp only [cond_false] at h;split at h
   ·rename_i p hp1;refine⟨_,h,fun hG w0 K0 g w u hp hs=>?_⟩
    obtain⟨a,us,rfl,hlen,hc,hr⟩:=key hG w0 K0 g w u hp hs;have hl1:ti.size=1:=by
     have:=congrArg List.length hp1;simp at this;omega
    rcases za1 hti a us hlen hc with h1|⟨_,h1⟩
    ·rw [hagg] at h1;match us,hlen.trans hl1 with
     | [v],_=>exact⟨v,by simpa [Instr.loadAt,Instr.sureAddr] using h1,.d _ _ (hr 0 p v (by rw [hp1];rfl) rfl)⟩
    ·exact absurd hl1 h1
   ·exact h.elim
 ·exact h.elim
end
end Go.QL
namespace Go.QL
open Go Go.RowKit
def seg {α : Type} (cs:List α) (off:Nat) (ss:List α):List α:=cs.take off ++ ss ++ cs.drop (off+ss.length)
theorem zam {α : Type} (cs:List α) (off:Nat) (ss:List α) (h:off+ss.length≤cs.length):(seg cs off ss).length=cs.length:=by
 simp [seg];omega
theorem zbX {α : Type} (cs:List α) (off:Nat) (ss:List α) (h:off+ss.length≤cs.length) (i:Nat) :
  (seg cs off ss)[i]?=if i < off then cs[i]? else if i < off+ss.length then ss[i - off]? else cs[i]?:=by
 have hl:(cs.take off).length=off:=by simp;omega
 unfold seg;rw [List.append_assoc];by_cases h1:i < off
 ·grind
 ·grind
def zaZ:Sg→Nat
 | []=>0
 | (j,_)::r=>bif Nat.ble (zaZ r) j then j+1 else zaZ r
theorem zok (σ:Sg):∀ j,(lk j σ).isSome→j < zaZ σ:=by
 induction σ with
 | nil=>intro j h;cases h
 | cons p r ih=>
  obtain⟨i,x⟩:=p;intro j h;rw [zr] at h;show j < bif Nat.ble (zaZ r) i then i+1 else zaZ r
  cases hb:Nat.ble (zaZ r) i with
  | true=>
   have:=Nat.le_of_ble_eq_true hb;grind
  | false=>
   have hgt:i < zaZ r:=by
    rcases Nat.lt_or_ge i (zaZ r) with h|h
    ·exact h
    ·rw [Nat.ble_eq_true_of_le h] at hb;cases hb
   grind
theorem zhx (σ:Sg):lk (zaZ σ) σ=none:=by
 cases h:lk (zaZ σ) σ with
 | none=>rfl
 | some x=>exact absurd (zok σ _ (by rw [h];rfl)) (Nat.lt_irrefl _)
def zdh:AV→Option (List SV)
 | .x s=>some [s]
 | .a cs=>some cs
 | _=>none
section
variable {P:Program} {w0:World} {K0:Bs} {σ:Sg} {g:Gh} {w:World}
theorem zmZ {v:Value} (h:v.oneCell'=true):v.cells = #[v]:=by cases v <;> simp_all [Value.cells,Value.oneCell']
theorem zcC {x:AV} {cs:List SV} (h:zdh x=some cs) {v:Value} (hv:VR2 σ g w x v) :
  v.cells.size=cs.length∧(∀ (i:Nat) (s:SV) (u:Value),cs[i]?=some s→v.cells[i]?=some u→SR σ g w s u)∧(∀ u ∈ v.cells.toList,u.oneCell'=true):=by
 unfold zdh at h;split at h
 ·rename_i s;cases h;have h1:=SR.one (show SR σ g w s v from hv);rw [zmZ h1];refine⟨rfl,fun i s' u hi hu=>?_,fun u hu=>by simp at hu;subst hu;exact h1⟩
  match i,hi with
  | 0,hi=>cases hi;cases hu;exact hv
 ·cases h;obtain⟨vs,rfl,hs,hr⟩:=(show ∃ vs:Array Value,v=.agg vs∧_ from hv);refine⟨hs,hr,fun u hu=>?_⟩
  obtain⟨i,hi,he⟩:=List.getElem_of_mem hu;have hi2:i < vs.size:=by simpa [Value.cells] using hi
  have hu':vs[i]?=some u:=by
   have:vs.toList[i]?=some u:=by rw [List.getElem?_eq_getElem (by simpa using hi2)];simpa [Value.cells] using he
   simpa using this
  have:∃ s,cs[i]?=some s:=⟨cs[i]'(by omega),List.getElem?_eq_getElem (by omega)⟩;obtain⟨s,hs'⟩:=this;exact (hr i s u hs' hu').one
 ·cases h
theorem zfm {x:AV} {cs:List SV} (h:zdh x=some cs) {v:Value} (hv:VR2 σ g w x v) :
  ∀ (i:Nat) (s:SV),cs[i]?=some s→∃ u,v.cells[i]?=some u∧SR σ g w s u:=by
 obtain⟨h1,h2,_⟩:=zcC h hv;intro i s hi;have:i < v.cells.size:=by rw [h1];exact (List.getElem?_eq_some_iff.1 hi).1
 exact⟨v.cells[i],Array.getElem?_eq_getElem this,h2 i s _ hi (Array.getElem?_eq_getElem this)⟩
def kBox (σ:Sg) (id:Nat) (x:AV) (k:AV→Sg→Prop):Prop:=
 match zdh x with
 | some cs=>k (.x (.b id 0)) ((id,.box cs) :: σ)
 | none=>False
theorem ziR (hp:Hp w0 K0 σ g w) {id:Nat} (hid:lk id σ=none) (T:TypeId) (cs:List SV) (v:Value) (hs:v.cells.size=cs.length) (hr:∀ (i:Nat) (s:SV),cs[i]?=some s→∃ u,v.cells[i]?=some u∧SR σ g w s u) :
  Gives P w0 K0 σ g w (Instr.box T v) (.x (.b id 0)) ((id,.box cs) :: σ):=by
 have hd:=hp.addBox id hid cs v.cells T hs hr;refine⟨_,_,_,by simp [Instr.box,newVar,newRow];rfl,hd,?_⟩
 exact .b _ _ cs _ (by rw [zr,if_pos rfl]) (zy _ _ _)
theorem zmx {id:Nat} (hid:lk id σ=none) {x:AV} {k:AV→Sg→Prop} (h:kBox σ id x k) (T:TypeId) :
  ∃ av σ',k av σ'∧∀ (w0:World) (K0:Bs) (g:Gh) (w:World) u,Hp w0 K0 σ g w→VR2 σ g w x u→Gives P w0 K0 σ g w (Instr.box T u) av σ':=by
 unfold kBox at h;split at h
 ·rename_i cs hcs;exact⟨_,_,h,fun w0 K0 g w u hp hv=>ziR hp hid T cs u (zcC hcs hv).1 (zfm hcs hv)⟩
 ·exact h.elim
def zgi (tt:TT) (σ:Sg) (id:Nat) (T:TypeId) (k:AV→Sg→Prop):Prop:=
 match tt T with
 | some ti=>k (.x (.b id 0)) ((id,.box (ti.zero.map fun z=>.d (.v z))) :: σ)
 | none=>False
theorem zit {tt:TT} (htt:tt.ok P) {id:Nat} (hid:lk id σ=none) {T:TypeId} {k:AV→Sg→Prop} (h:zgi tt σ id T k) :
  ∃ av σ',k av σ'∧∀ (w0:World) (K0:Bs) (g:Gh) (w:World),Hp w0 K0 σ g w→Gives P w0 K0 σ g w (Instr.alloc T true (.tuple #[])) av σ':=by
 unfold zgi at h;split at h
 ·rename_i ti heq;have hti:=htt _ _ heq;refine⟨_,_,h,fun w0 K0 g w hp=>?_⟩
  obtain⟨z,hz,hzc⟩:=za0 hti w;have hb:=ziR (P:=P) hp hid T (ti.zero.map fun z=>.d (.v z)) z (by simp [hzc]) (fun i s hi=>by
   rw [List.getElem?_map] at hi;cases hz':ti.zero[i]? with
   | none=>rw [hz'] at hi;cases hi
   | some u=>
    rw [hz'] at hi;cases hi;refine⟨u,by simp [hzc,hz'],.d _ _ (.v u ?_)⟩
    have:=hti.one;rw [List.all_eq_true] at this;exact this u (List.mem_of_getElem? hz'))
  obtain⟨v,w',g',h1,h2,h3⟩:=hb;refine⟨v,w',g',?_,h2,h3⟩
  simp [Instr.box] at h1;simp [Instr.alloc,hz,h1]
 ·exact h.elim
def zjv (tt:TT) (σ:Sg) (T:TypeId) (id off:Nat) (x:AV) (k:Sg→Prop):Prop:=
 match tt T,lk id σ,zdh x with
 | some ti,some (.box cs),some ss=>if ss.length=ti.size∧off+ss.length≤cs.length then k (zat id (.box (seg cs off ss)) σ) else False
 | _,_,_=>False
theorem zkP {tt:TT} (htt:tt.ok P) {T:TypeId} {id off:Nat} {x:AV} {k:Sg→Prop} (h:zjv tt σ T id off x k) :
  ∃ σ',k σ'∧∀ (w0:World) (K0:Bs) (g:Gh) (w:World) u v,Hp w0 K0 σ g w→VR2 σ g w (.x (.b id off)) u→VR2 σ g w x v →
   ∃ w' g',(Instr.storeAt T u v).run P w=.ok () w'∧Did w0 K0 σ g w σ' g' w':=by
 unfold zjv at h;split at h
 ·rename_i ti cs ss heq hl hss;have hti:=htt _ _ heq;split at h
  ·rename_i hc;refine⟨_,h,fun w0 K0 g w u v hp h1 h2=>?_⟩
   obtain⟨b,vs,T',hμ,hB,hb,hsz,hr,hK⟩:=hp.obs _ _ hl;cases h1 with
   | b _ _ cs' kb hl' hμ'=>
    rw [hμ] at hμ';cases hμ';obtain⟨hvs,hvr,hv1⟩:=zcC hss h2;have hlen:v.cells.toList.length=ss.length:=by simpa using hvs
    have hst:=run_storeCells_at P b off T' v.cells.toList 0 vs w hb (by omega) hv1;have hsizeOf:=zX hti w;refine⟨w.setRow b (seg vs.toList off v.cells.toList).toArray,⟨g.K,upd g.μ id (.pointer (some ⟨b,0,none⟩))⟩,?_,?_⟩
    ·simp only [Instr.storeAt,Instr.sureAddr,storeVar,Sem.run_bind,Sem.run_pure,Result.andThen_ok,hsizeOf];rw [if_neg (by rw [hvs];exact fun h=>h hc.1)];simpa [seg] using hst
    ·have hother:∀ k,k≠b→(w.setRow b (seg vs.toList off v.cells.toList).toArray).heap[k]?=w.heap[k]?:=fun k hk=>setRow_other w b k _ hk
     have hheap:=setRow_heap w b vs (seg vs.toList off v.cells.toList).toArray T' (0,0) hb;refine hp.setObj id (.box cs) (.box (seg cs off ss)) hl _ ⟨rfl,rfl,rfl,?_⟩ ?_ ?_ ?_ ?_
     ·simp [World.setRow]
     ·intro k _ hk;exact hother k (fun e=>hk (by rw [hμ,e];rfl))
     ·simp_all
     ·constructor
      ·intro i ci hi;by_cases e:i=id
       ·subst e;exact⟨by rw [hμ];exact zy _ _ _,_,zab _ _ _ (by rw [hl];rfl)⟩
       ·exact⟨zo _ _ e,ci,by rw [zt _ _ _ _ e];exact hi⟩
      ·intro i e0 sz st xs hi;by_cases e:i=id
       ·simp_all
       ·exact .inr ⟨zo _ _ e,xs,by rw [zt _ _ _ _ e];exact hi,rfl⟩
      ·intro i o hi;by_cases e:i=id
       ·simp_all
       ·exact⟨zo _ _ e,o,by rw [zt _ _ _ _ e];exact hi,rfl⟩
     ·intro σ' g' hσ hg hk _;subst hg;refine⟨b,(seg vs.toList off v.cells.toList).toArray,T',zy _ _ _,hB,hheap,?_,?_,hK⟩
      ·simp only [List.size_toArray];rw [zam _ _ _ (by simp at hlen ⊢;omega),zam _ _ _ hc.2];simpa using hsz
      ·intro i s hi;rw [zbX _ _ _ hc.2] at hi;have hg2:=zbX vs.toList off v.cells.toList (by simp at hlen ⊢;omega) i;grind
  ·exact h.elim
 ·exact h.elim
end
end Go.QL
namespace Go.QL
open Go Go.RowKit
section
variable {P:Program} {w0:World} {K0:Bs} {σ:Sg} {g:Gh} {w:World}
def kLen (tt:TT) (σ:Sg) (T:TypeId) (x:AV) (u:Bool) (k:AV→Prop):Prop:=
 match tt T,x with
 | some ⟨.sl _,_,_,_⟩,.x (.d (.s _ xs))=>bif u then (xs.length≤maxLen→k (iv .i64 xs.length)) else k (iv .i64 xs.length)
 | some ⟨.sl _,_,_,_⟩,.x (.d (.v (.slice none 0 0)))=>k (iv .i64 0)
 | some ⟨.sl _,_,_,_⟩,.x (.o c st n)=>(match lk c σ with|some (.chain _ _ st' xs)=>st'=st∧(bif u then (xs.length≤maxLen→k (iv .i64 n)) else k (iv .i64 n))|_=>False)
 | some ⟨.sl _,_,_,_⟩,.x (.sb _ _ n _)=>k (iv .i64 n)
 | some ⟨.sl _,_,_,_⟩,.x (.os c st lo n)=>(match lk c σ with|some (.chain _ _ st' _)=>st'=st∧k (iv .i64 (n - lo:Nat))|_=>False)
 | some ⟨.str,_,_,_⟩,.x (.d (.v (.string s)))=>k (iv .i64 s.size)
 | some ⟨.ar n _,_,_,_⟩,_=>k (iv .i64 n)
 | some ⟨.mp _ _,_,_,_⟩,.x (.h id)=>(match lk id σ with|some (.x (.map _ kvs))=>k (iv .i64 kvs.length)|_=>False)
 | _,_=>False
theorem zml {tt:TT} (htt:tt.ok P) {T:TypeId} {x:AV} {u:Bool} {k:AV→Prop} (h:kLen tt σ T x u k) :
  ∀ (w0:World) (K0:Bs) (g:Gh) (w:World) (v:Value) (ty:TypeId),Hp w0 K0 σ g w→VR2 σ g w x v→∃ r,k r∧∃ u,(Builtin.len_ #[T] ty #[v]).run P w=.ok u w∧VR2 σ g w r u:=by
 intro w0 K0 g w v ty hp hv;unfold kLen at h;split at h
 ·rename_i e _ _ _ sz xs heq;have hty:P.underlying T=some (.slice e):=(htt _ _ heq).desc;cases hv with
  | d _ _ hpr=>cases hpr with
   | s _ _ a cap b off vs hcap hmax hsz ha hK hc hr=>
    refine⟨_,?_,_,by simp [Builtin.len_,run_underlying hty];rfl,zL _ rfl⟩
    cases u with
    | true=>exact h (by omega)
    | false=>exact h
 ·rename_i e _ _ _ heq;have hty:P.underlying T=some (.slice e):=(htt _ _ heq).desc;cases zm hv;exact⟨_,h,_,by simp [Builtin.len_,run_underlying hty];rfl,zL _ rfl⟩
 ·rename_i e _ _ _ c st n heq;have hty:P.underlying T=some (.slice e):=(htt _ _ heq).desc;split at h
  ·rename_i e' sz st' xs hl;obtain⟨hst,h⟩:=h;subst hst;cases hv with
   | old _ _ _ e1 sz1 st1 xs1 v hl1 hlt1 _=>rw [hl] at hl1;cases hl1;omega
   | o _ _ _ e1 sz1 xs1 a cap hl1 hn hμ1=>
    rw [hl] at hl1;cases hl1;obtain⟨vs,hown,⟨a0,cap0,hμ,hcap,hmax⟩,_⟩:=hp.obs _ _ hl;refine⟨_,?_,_,by simp [Builtin.len_,run_underlying hty];rfl,zL _ rfl⟩
    cases u with
    | true=>exact h (by omega)
    | false=>exact h
  ·exact h.elim
 ·rename_i e _ _ _ id off n cap heq;have hty:P.underlying T=some (.slice e):=(htt _ _ heq).desc;cases hv with
  | sb _ _ _ _ cs k' hl hμ hn hcc=>exact⟨_,h,_,by simp [Builtin.len_,run_underlying hty];rfl,zL _ rfl⟩
 ·rename_i e _ _ _ c st lo n heq;have hty:P.underlying T=some (.slice e):=(htt _ _ heq).desc;split at h
  ·rename_i e' sz st' xs hl;obtain⟨rfl,h⟩:=h;cases hv with
   | osold _ _ _ _ e1 sz1 st1 xs1 v hl1 hlt1 _=>rw [hl] at hl1;cases hl1;omega
   | os _ _ _ _ e1 sz1 xs1 kb cap hl1 hμ hn=>exact⟨_,h,_,by simp [Builtin.len_,run_underlying hty];rfl,zL _ rfl⟩
  ·exact h.elim
 ·rename_i s heq;have hty:P.underlying T=some .string:=(htt _ _ heq).desc;cases zm hv;exact⟨_,h,_,by simp [Builtin.len_,run_underlying hty];rfl,zL _ rfl⟩
 ·rename_i n e _ _ _ heq;have hty:P.underlying T=some (.array n e):=(htt _ _ heq).desc;exact⟨_,h,_,by simp [Builtin.len_,run_underlying hty];rfl,zL _ rfl⟩
 ·rename_i kT eT _ _ _ id heq;have hty:P.underlying T=some (.map kT eT):=(htt _ _ heq).desc;split at h
  ·rename_i kt kvs hl;cases hv with
   | h _ o kb hl' hμ=>
    rw [hl] at hl';cases hl';obtain⟨b',m1,m2,m3,_⟩:=hp.obs id _ hl;rw [hμ] at m1;cases m1;obtain⟨es,e1,e2,_⟩:=m3;refine⟨_,h,.int .i64 es.size,?_,by rw [e2];exact zL _ rfl⟩
    have hget:(getObj kb).run P w=.ok (.map es es.size) w:=by simp [getObj,Sem.run,e1]
    simp [Builtin.len_,run_underlying hty,Kd.val,Ob2.kd,hget];rfl
  ·exact h.elim
 ·exact h.elim
theorem zmk {tt:TT} {T:TypeId} {x:AV} {k:AV→Prop} (h:kLen tt σ T x false k):∃ r,k r:=by
 unfold kLen at h;grind
theorem zn6 {tt:TT} (htt:tt.ok P) {T:TypeId} {x:AV} {k:AV→Prop} (h:kLen tt σ T x false k) :
  ∃ r,k r∧∀ (w0:World) (K0:Bs) (g:Gh) (w:World) (v:Value) (ty:TypeId),Hp w0 K0 σ g w→VR2 σ g w x v→∃ u,(Builtin.len_ #[T] ty #[v]).run P w=.ok u w∧VR2 σ g w r u:=by
 have h0:=h;unfold kLen at h;have key:∀ r,kLen tt σ T x false (fun r'=>r'=r)→k r→∃ r,k r∧∀ (w0:World) (K0:Bs) (g:Gh) (w:World) (v:Value) (ty:TypeId),Hp w0 K0 σ g w→VR2 σ g w x v→∃ u,(Builtin.len_ #[T] ty #[v]).run P w=.ok u w∧VR2 σ g w r u:=by
  intro r hr hk;refine⟨r,hk,fun w0 K0 g w v ty hp hv=>?_⟩
  obtain⟨r',hr',h2⟩:=zml htt hr w0 K0 g w v ty hp hv;subst hr';exact h2
 split at h
 ·rename_i heq;exact key _ (by unfold kLen;rw [heq];rfl) h
 ·rename_i heq;exact key _ (by unfold kLen;rw [heq];rfl) h
 ·rename_i heq;split at h
  ·rename_i hl;exact key _ (by unfold kLen;rw [heq];simp only [hl];exact⟨h.1,trivial⟩) h.2
  ·exact h.elim
 ·rename_i heq;exact key _ (by unfold kLen;rw [heq]) h
 ·rename_i heq;split at h
  ·rename_i hl;exact key _ (by unfold kLen;rw [heq];simp only [hl];exact⟨h.1,trivial⟩) h.2
  ·exact h.elim
 ·rename_i heq;exact key _ (by unfold kLen;rw [heq]) h
 ·rename_i heq;exact key _ (by unfold kLen;rw [heq]) h
 ·rename_i heq;split at h
  ·rename_i hl;exact key _ (by unfold kLen;rw [heq];simp only [hl]) h
  ·exact h.elim
 ·exact h.elim
def zmn (tt:TT) (T:TypeId) (x i:AV) (G:Prop→Prop) (k:AV→Prop):Prop:=
 match tt T,x,i with
 | some ⟨.str,_,_,_⟩,.x (.d (.v (.string s))),.x (.d (.v (.int _ n)))=>∃ b:UInt8,G (0≤n∧s.data.toList[n.toNat]?=some b)∧k (iv .u8 b.toNat)
 | some ⟨.ar len e,_,_,_⟩,.a cs,.x (.d (.v (.int _ n)))=>
  match tt e with
  | some ei=>(ei.d.agg=false∧ei.size=1∧cs.length=len)∧∃ s,G (0≤n∧cs[n.toNat]?=some s)∧k (.x s)
  | none=>False
 | _,_,_=>False
theorem zmm {tt:TT} (htt:tt.ok P) {T:TypeId} {x i:AV} {G:Prop→Prop} {k:AV→Prop} (h:zmn tt T x i G k) :
  ∃ av,k av∧(Open G→∀ (σ:Sg) (g:Gh) (w:World) u1 u2,VR2 σ g w x u1→VR2 σ g w i u2→∃ v,(Instr.index T u1 u2).run P w=.ok v w∧VR2 σ g w av v):=by
 unfold zmn at h;split at h
 ·rename_i _ _ _ s kk n heq;have hty:P.underlying T=some .string:=(htt _ _ heq).desc;obtain⟨b,hc,hk⟩:=h;refine⟨_,hk,fun hG σ g w u1 u2 h1 h2=>?_⟩
  cases zm h1;cases zm h2;obtain⟨h0,hb⟩:=hG _ hc;have hlt:n.toNat < s.size:=by have:=(List.getElem?_eq_some_iff.1 hb).1;simpa using this
  have hb':s[n.toNat]?=some b:=by
   rw [getElem?_pos s n.toNat hlt];have:=(List.getElem?_eq_some_iff.1 hb).2;exact congrArg some this
  refine⟨.int .u8 b.toNat,?_,zL _ rfl⟩
  simp [Instr.index,asIntOf,run_underlying hty,h0,hb']
 ·rename_i len e _ _ _ cs kk n heq;have hty:P.underlying T=some (.array len e):=(htt _ _ heq).desc;split at h
  ·rename_i ei hei;obtain⟨⟨hagg,hsz,hlen⟩,s,hc,hk⟩:=h;refine⟨_,hk,fun hG σ g w u1 u2 h1 h2=>?_⟩
   cases zm h2;obtain⟨vs,rfl,hvs,hr⟩:=(show ∃ vs:Array Value,u1=.agg vs∧_ from h1);obtain⟨h0,hb⟩:=hG _ hc;have hlt:n.toNat < cs.length:=(List.getElem?_eq_some_iff.1 hb).1;have hv:vs[n.toNat]?=some vs[n.toNat]:=Array.getElem?_eq_getElem (by omega);refine⟨vs[n.toNat],?_,hr _ _ _ hb hv⟩
   have h3:=zX (htt _ _ hei) w;have h4:=zd9 (htt _ _ hei) w;have hn:0≤n∧n < (len:Int):=⟨h0,by omega⟩;simp [Instr.index,asIntOf,run_underlying hty,hn,h3,hsz,part,h4,hagg,hv]
  ·exact h.elim
 ·exact h.elim
def zhC (x:AV) (n:Nat) (k:AV→Prop):Prop:=
 match x with
 | .t xs=>(match xs[n]? with|some (.x s)=>k (.x s)|some (.a cs)=>k (.a cs)|_=>False)
 | _=>False
theorem zjD {x:AV} {n:Nat} {k:AV→Prop} (h:zhC x n k) :
  ∃ av,k av∧(∀ (σ:Sg) (g:Gh) (w:World) u,VR2 σ g w x u→∃ v,(Instr.extract u n).run P w=.ok v w∧VR2 σ g w av v):=by
 unfold zhC at h;split at h
 ·rename_i xs;have key:∀ y,xs[n]?=some y→∀ (σ:Sg) (g:Gh) (w:World) u,VR2 σ g w (.t xs) u→∃ v,(Instr.extract u n).run P w=.ok v w∧VR1 σ g w y v:=by
   intro y hy σ g w u hu;obtain⟨vs,rfl,hs,hr⟩:=hu;have hlt:n < vs.size:=by rw [hs];exact (List.getElem?_eq_some_iff.1 hy).1
   have hv:vs[n]?=some vs[n]:=Array.getElem?_eq_getElem hlt;exact⟨vs[n],by simp [Instr.extract,hv],hr _ _ _ hy hv⟩
  split at h
  ·rename_i s hs;exact⟨_,h,key _ hs⟩
  ·rename_i cs hs;exact⟨_,h,key _ hs⟩
  ·exact h.elim
 ·exact h.elim
def zmp (tt:TT) (T:TypeId) (x:AV) (f:Nat) (k:AV→Prop):Prop:=
 match tt T,x with
 | some ⟨.st fs _,_,_,_⟩,.a cs=>
  match fs[f]? with
  | some (o,ft)=>
   match tt ft with
   | some fi=>bif fi.d.agg then (o+fi.size≤cs.length∧k (.a ((cs.drop o).take fi.size))) else (match cs[o]? with|some s=>k (.x s)|none=>False)
   | none=>False
  | none=>False
 | _,_=>False
theorem zmo {tt:TT} (htt:tt.ok P) {T:TypeId} {x:AV} {f:Nat} {k:AV→Prop} (h:zmp tt T x f k) :
  ∃ av,k av∧(∀ (σ:Sg) (g:Gh) (w:World) u,VR2 σ g w x u→∃ v,(Instr.field T u f).run P w=.ok v w∧VR2 σ g w av v):=by
 unfold zmp at h;split at h
 ·rename_i fs _ _ _ _ cs heq;have hd:∃ fields:Array Field,P.underlying T=some (.struct fields)∧fields.toList.map (fun f=>(f.offset,f.type))=fs:=by obtain⟨fields,a,b,_⟩:=(htt _ _ heq).desc;exact⟨fields,a,b⟩
  obtain⟨fields,hu,hmap⟩:=hd;split at h
  ·rename_i o ft hf;have hfo:∃ fl,fields[f]?=some fl∧fl.offset=o∧fl.type=ft:=by
    grind
   obtain⟨fl,hfl,ho,hft⟩:=hfo;split at h
   ·rename_i fi hfi;have h4:=fun w=>zd9 (htt _ _ hfi) w
    have h3:=fun w=>zX (htt _ _ hfi) w
    cases hagg:fi.d.agg with
    | true=>
     rw [hagg] at h;simp only [cond_true] at h;refine⟨_,h.2,fun σ g w u hv=>?_⟩
     obtain⟨vs,rfl,hvs,hr⟩:=(show ∃ vs:Array Value,u=.agg vs∧_ from hv);refine⟨.agg (vs.extract o (o+fi.size)),?_,_,rfl,?_,?_⟩
     ·simp [Instr.field,run_underlying hu,hfl,asAgg,part,hft,h4,hagg,h3,ho]
     ·grind
     ·grind
    | false=>
     rw [hagg] at h;simp only [cond_false] at h;split at h
     ·rename_i s hs;refine⟨_,h,fun σ g w u hv=>?_⟩
      obtain⟨vs,rfl,hvs,hr⟩:=(show ∃ vs:Array Value,u=.agg vs∧_ from hv);have hlt:o < vs.size:=by rw [hvs];exact (List.getElem?_eq_some_iff.1 hs).1
      have hv':vs[o]?=some vs[o]:=Array.getElem?_eq_getElem hlt;refine⟨vs[o],?_,hr _ _ _ hs hv'⟩
      simp [Instr.field,run_underlying hu,hfl,asAgg,part,hft,h4,hagg,ho,hv']
     ·exact h.elim
   ·exact h.elim
  ·exact h.elim
 ·exact h.elim
end
end Go.QL
namespace Go.QL
open Go Go.RowKit
section
variable {P:Program} {w0:World} {K0:Bs} {σ:Sg} {g:Gh} {w:World}
def zfj (x:Option AV) (d:Int):Option Int:=
 match x with
 | none=>some d
 | some (.x (.d (.v (.int _ n))))=>some n
 | _=>none
def zme (tt:TT) (σ:Sg) (T:TypeId) (x:AV) (lo hi:Option AV) (G:Prop→Prop) (k:AV→Prop):Prop:=
 match tt T,x with
 | some ⟨.sl e,_,_,_⟩,.x (.d (.s sz xs))=>
  (match tt e,zfj lo 0,zfj hi xs.length with
  | some ei,some l,some h=>ei.size=sz∧G (0≤l∧l≤h∧h≤xs.length)∧k (.x (.d (.s sz ((xs.take h.toNat).drop l.toNat))))
  | _,_,_=>False)
 | some ⟨.sl e,_,_,_⟩,.x (.o c st n)=>
  (match tt e,lk c σ,zfj lo 0,zfj hi n with
  | some _,some (.chain _ _ st' _),some 0,some h=>st'=st∧G (0≤h∧h≤n)∧k (.x (.o c st h.toNat))
  | some ei,some (.chain _ sz st' xs),some (.ofNat (l+1)),some h=>(st'=st∧ei.size=sz∧n≤xs.length)∧G ((l:Int)+1≤h∧h≤n)∧k (bif Nat.ble h.toNat (l+1) then .x (.d (.s 0 [])) else .x (.os c st (l+1) h.toNat))
  | _,_,_,_=>False)
 | some ⟨.sl e,_,_,_⟩,.x (.d (.v (.slice none 0 0)))=>
  (match tt e,zfj lo 0,zfj hi 0 with
  | some _,some l,some h=>G (0≤l∧l≤h∧h≤0)∧k (.x (.d (.v (.slice none 0 0))))
  | _,_,_=>False)
 | some ⟨.ar n e,_,_,_⟩,.x (.b id off)=>
  (match tt e,zfj lo 0,zfj hi n with
  | some ei,some l,some h=>bif Nat.ble n 1000000 then G (0≤l∧l < n∧l≤h∧h≤n)∧k (.x (.sb id (off+l.toNat * ei.size) (h.toNat - l.toNat) (n - l.toNat))) else False
  | _,_,_=>False)
 | some ⟨.str,_,_,_⟩,.x (.d (.v (.string s)))=>
  (match zfj lo 0,zfj hi s.size with
  | some l,some h=>G (0≤l∧l≤h∧h≤s.size)∧k (sv (s.extract l.toNat h.toNat))
  | _,_=>False)
 | _,_=>False
def bval (σ:Sg) (g:Gh) (w:World) (x:Option AV) (v:Option Value):Prop:=
 match x,v with
 | none,none=>True
 | some a,some u=>VR2 σ g w a u
 | _,_=>False
theorem ziS {x:Option AV} {d n:Int} (h:zfj x d=some n) {v:Option Value} (hv:bval σ g w x v):(v=none∧n=d)∨∃ kk,v=some (.int kk n):=by
 unfold zfj at h;split at h
 ·cases h;cases v with
  | none=>exact .inl ⟨rfl,rfl⟩
  | some u=>exact hv.elim
 ·cases h;cases v with
  | none=>exact hv.elim
  | some u=>cases zm hv;exact .inr ⟨_,rfl⟩
 ·cases h
theorem zar (k:IntKind) (i:Int) (y:Nat) (code:BoundsCode) (h:0≤i∧i≤y) (w:World):(Instr.sliceBound (.int k i) y code).run P w=.ok i.toNat w:=
 run_sliceBound (P:=P) (w:=w) k i y code h.1 h.2
theorem zaE (isSl:Bool) (len cap:Nat) {lo hi:Option AV} {l h:Int} (hl:zfj lo 0=some l) (hh:zfj hi len=some h) {vl vh:Option Value} (bl:bval σ g w lo vl) (bh:bval σ g w hi vh)
  (h0:0≤l) (h1:l≤h) (h2:h≤cap) (w':World):(Instr.sliceBounds isSl len cap vl vh none).run P w'=.ok (l.toNat,h.toNat,cap) w':=by
 have e:(h.toNat:Int)=h:=Int.toNat_of_nonneg (by omega);rcases ziS hl bl with ⟨rfl,rfl⟩|⟨k1,rfl⟩ <;> rcases ziS hh bh with ⟨rfl,rfl⟩|⟨k2,rfl⟩
 ·simp [Instr.sliceBounds]
 ·simp [Instr.sliceBounds,zar (P:=P) k2 h cap _ ⟨by omega,h2⟩]
 ·simp [Instr.sliceBounds,zar (P:=P) k1 l len _ ⟨h0,h1⟩]
 ·simp [Instr.sliceBounds,zar (P:=P) k2 h cap _ ⟨by omega,h2⟩,zar (P:=P) k1 l h.toNat _ ⟨h0,by omega⟩]
theorem zmd {tt:TT} (htt:tt.ok P) {T:TypeId} {x:AV} {lo hi:Option AV} {G:Prop→Prop} {k:AV→Prop} (h:zme tt σ T x lo hi G k) :
  ∃ av,k av∧(Open G→∀ (w0:World) (K0:Bs) (g:Gh) (w:World) u vl vh,Hp w0 K0 σ g w→VR2 σ g w x u→bval σ g w lo vl→bval σ g w hi vh→∃ v,(Instr.sliceAt T u vl vh none).run P w=.ok v w∧VR2 σ g w av v):=by
 unfold zme at h;split at h
 ·rename_i e _ _ _ sz xs heq;have hty:P.underlying T=some (.slice e):=(htt _ _ heq).desc;split at h
  ·rename_i ei l h' hei hl hh;obtain⟨hsz,h⟩:=h;refine⟨_,h.2,fun hG w0 K0 g w u vl vh hp hv bl bh=>?_⟩
   obtain⟨h0,h1,h2⟩:=hG _ h.1;cases hv with
   | d _ _ hpr=>cases hpr with
    | s _ _ a cap b off vs hcap hmax hszs ha hK hc hr=>
     have hb:=zaE (P:=P) true xs.length cap hl hh bl bh h0 h1 (by omega) w;have h3:=zX (htt _ _ hei) w;refine⟨.slice (if cap=l.toNat then a else a.map (·.add (l.toNat * ei.size))) (h'.toNat - l.toNat) (cap - l.toNat),?_,?_⟩
     ·simp [Instr.sliceAt,Instr.slice,run_underlying hty,hb,h3]
     ·have hlen:((xs.take h'.toNat).drop l.toNat).length=h'.toNat - l.toNat:=by simp;omega
      have hget:∀ (i:Nat) el,((xs.take h'.toNat).drop l.toNat)[i]?=some el→xs[l.toNat+i]?=some el∧l.toNat+i < h'.toNat:=by
       grind
      have:=PR.s (K:=g.K) (w:=w) sz ((xs.take h'.toNat).drop l.toNat) (if cap=l.toNat then a else a.map (·.add (l.toNat * ei.size))) (cap - l.toNat) b (off+l.toNat * sz) (fun i j=>vs (l.toNat+i) j)
       (by rw [hlen];omega) (by omega) (fun x hx=>hszs x (List.mem_of_mem_take (List.mem_of_mem_drop hx))) ?_ ?_ ?_ ?_
      ·rw [hlen] at this;exact .d _ _ this
      ·intro hne;have hlt:l.toNat < h'.toNat:=by
        grind
       rw [if_neg (by omega)];have hxne:xs≠[]:=by intro e;subst e;simp at h2;omega
       obtain rfl:=ha hxne;rw [hsz];show some (Addr.add _ _)=_;rw [zad]
      ·grind
      ·grind
      ·simp_all
  ·exact h.elim
 ·rename_i e _ _ _ c st n heq;have hty:P.underlying T=some (.slice e):=(htt _ _ heq).desc;split at h
  ·rename_i ei e' sz' st' xs' h' hei hlk hl hh;obtain⟨hst,h⟩:=h;subst hst;refine⟨_,h.2,fun hG w0 K0 g w u vl vh hp hv bl bh=>?_⟩
   obtain⟨h0,h2⟩:=hG _ h.1;cases hv with
   | old _ _ _ e1 sz1 st1 xs1 v hl1 hlt1 h1=>
    simp_all
   | o _ _ _ e1 sz1 xs1 a cap hl1 hn hμ1=>
    obtain⟨vs,hown,⟨a0,cap0,hμ,hcap,hmax⟩,_⟩:=hp.obs _ _ hl1;rw [hμ1] at hμ;cases hμ;have hb:=zaE (P:=P) true n cap hl hh bl bh (Int.le_refl 0) h0 (by omega) w;have h3:=zX (htt _ _ hei) w;refine⟨.slice a h'.toNat cap,?_,.o c _ _ e1 sz1 xs1 a cap hl1 (by omega) hμ1⟩
    simp only [Instr.sliceAt,Instr.slice,Sem.run_bind,run_underlying hty,Result.andThen_ok,hb,h3,Sem.run_pure];congr 2
    split
    ·rfl
    ·cases a <;> simp [Addr.add]
  ·rename_i ei e' sz' st' xs' l h' hei hlk hl hh;obtain⟨⟨hst,hsz,hnx⟩,h⟩:=h;subst hst;refine⟨_,h.2,fun hG w0 K0 g w u vl vh hp hv bl bh=>?_⟩
   obtain⟨h0,h2⟩:=hG _ h.1;cases hv with
   | old _ _ _ e1 sz1 st1 xs1 v hl1 hlt1 h1=>
    simp_all
   | o _ _ _ e1 sz1 xs1 a cap hl1 hn1 hμ1=>
    obtain⟨vs,hown,⟨a0,cap0,hμ,hcap,hmax⟩,_⟩:=hp.obs _ _ hl1;rw [hμ1] at hμ;cases hμ;have hb:=zaE (P:=P) true n cap hl hh bl bh (show (0:Int)≤Int.ofNat (l+1) from Int.natCast_nonneg _) (by rw [Int.ofNat_eq_natCast];omega) (by omega) w;have h3:=zX (htt _ _ hei) w;have hl2:(Int.ofNat (l+1)).toNat=l+1:=rfl;rw [hl2] at hb;refine⟨.slice (if cap=l+1 then a else a.map (·.add ((l+1) * ei.size))) (h'.toNat - (l+1)) (cap - (l+1)),?_,?_⟩
    ·simp [Instr.sliceAt,Instr.slice,run_underlying hty,hb,h3]
    ·cases hble:Nat.ble h'.toNat (l+1) with
     | true=>
      have hle:=Nat.le_of_ble_eq_true hble;have e0:h'.toNat - (l+1)=0:=by omega
      rw [e0];exact .d _ _ (PR.s (K:=g.K) (w:=w) 0 [] _ (cap - (l+1)) 0 0 (fun _ _=>undef) (Nat.zero_le _) (by omega) (fun x hx=>by cases hx) (fun hne=>absurd rfl hne) (fun i el hi=>by simp at hi) (fun i el hi=>by simp at hi) (fun i el hi=>by simp at hi))
     | false=>
      have hlt:l+1 < h'.toNat:=by
       rcases Nat.lt_or_ge (l+1) h'.toNat with h5|h5
       ·exact h5
       ·have:Nat.ble h'.toNat (l+1)=true:=by rw [Nat.ble_eq];exact h5
        rw [hble] at this;cases this
      rcases hown.2 with ⟨hnil,hz⟩|⟨gb,cap',cur,hv',_⟩
      ·omega
      ·rw [hμ1] at hv';cases hv';rw [if_neg (by omega)];have hlk1:=hl1;rw [hlk] at hlk1;cases hlk1;subst hsz;show SR σ g w (.os c _ (l+1) h'.toNat) (.slice (some (Addr.add ⟨gb,0,none⟩ ((l+1) * ei.size))) (h'.toNat - (l+1)) (cap - (l+1)))
       rw [zad,Nat.zero_add];exact .os c _ (l+1) h'.toNat _ _ _ gb cap hl1 hμ1 ⟨hlt,by omega⟩
  ·exact h.elim
 ·rename_i e _ _ _ heq;have hty:P.underlying T=some (.slice e):=(htt _ _ heq).desc;split at h
  ·rename_i ei l h' hei hl hh;refine⟨_,h.2,fun hG w0 K0 g w u vl vh hp hv bl bh=>?_⟩
   obtain⟨h0,h1,h2⟩:=hG _ h.1;cases zm hv;have hb:=zaE (P:=P) true 0 0 hl hh bl bh h0 h1 h2 w;have h3:=zX (htt _ _ hei) w;have e1:l.toNat=0:=by omega
   have e2:h'.toNat=0:=by omega
   rw [e1,e2] at hb;refine⟨_,?_,zL _ rfl⟩
   simp [Instr.sliceAt,Instr.slice,run_underlying hty,hb,h3]
  ·exact h.elim
 ·rename_i n e _ _ _ id off heq;have hty:P.underlying T=some (.array n e):=(htt _ _ heq).desc;split at h
  ·rename_i ei l h' hei hl hh;cases hnb:Nat.ble n 1000000 with
   | false=>rw [hnb] at h;exact h.elim
   | true=>
   rw [hnb] at h;have hn6:=Nat.le_of_ble_eq_true hnb;refine⟨_,h.2,fun hG w0 K0 g w u vl vh hp hv bl bh=>?_⟩
   obtain⟨h0,h1,h2,h3'⟩:=hG _ h.1;cases hv with
   | b _ _ cs kb hl' hμ'=>
    have hb:=zaE (P:=P) false n n hl hh bl bh h0 h2 (by omega) w;have h3:=zX (htt _ _ hei) w;refine⟨.slice (some ⟨kb,off+l.toNat * ei.size,none⟩) (h'.toNat - l.toNat) (n - l.toNat),?_,.sb id _ _ _ cs kb hl' hμ' (by omega) (by unfold maxLen;omega)⟩
    simp only [Instr.sliceAt,Sem.run_bind,run_underlying hty,Result.andThen_ok,Instr.sureAddr,Sem.run_pure,hb,h3];rw [if_neg (by omega),zad]
  ·exact h.elim
 ·rename_i s heq;have hty:P.underlying T=some .string:=(htt _ _ heq).desc;split at h
  ·rename_i l h' hl hh;refine⟨_,h.2,fun hG w0 K0 g w u vl vh hp hv bl bh=>?_⟩
   obtain⟨h0,h1,h2⟩:=hG _ h.1;cases zm hv;have hb:=zaE (P:=P) false s.size s.size hl hh bl bh h0 h1 (by omega) w;refine⟨_,?_,zL _ rfl⟩
   simp [Instr.sliceAt,Instr.slice,run_underlying hty,hb]
  ·exact h.elim
 ·exact h.elim
def zjw (tt:TT) (T:TypeId) (x:AV) (lo hi mx:Option AV) (G:Prop→Prop) (k:AV→Prop):Prop:=
 match tt T,x with
 | some ⟨.sl e,_,_,_⟩,.x (.d (.s sz xs))=>
  (match tt e,lo,hi,mx with
  | some ei,none,some (.x (.d (.v (.int _ h)))),some (.x (.d (.v (.int _ m))))=>(ei.size=sz∧m=h)∧G (0≤h∧h≤xs.length)∧k (.x (.d (.c sz (xs.take h.toNat))))
  | some ei,some (.x (.d (.v (.int _ l)))),some (.x (.d (.v (.int _ h)))),some (.x (.d (.v (.int _ m))))=>(ei.size=sz∧m=h)∧G (0≤l∧l≤h∧h≤xs.length)∧k (.x (.d (.s sz ((xs.take h.toNat).drop l.toNat))))
  | _,_,_,_=>False)
 | some ⟨.sl e,_,_,_⟩,.x (.d (.v (.slice none 0 0)))=>
  (match tt e,lo,hi,mx with
  | some _,none,some (.x (.d (.v (.int _ h)))),some (.x (.d (.v (.int _ m))))=>m=h∧G (0≤h∧h≤0)∧k (.x (.d (.v (.slice none 0 0))))
  | _,_,_,_=>False)
 | _,_=>False
theorem zfg (len cap:Nat) {h:Int} {kh km:IntKind}
  (h0:0≤h) (h2:h≤len) (h3:len≤cap) (w':World):(Instr.sliceBounds true len cap none (some (.int kh h)) (some (.int km h))).run P w'=.ok (0,h.toNat,h.toNat) w':=by
 have e:(h.toNat:Int)=h:=Int.toNat_of_nonneg (by omega);simp [Instr.sliceBounds,zar (P:=P) km h cap _ ⟨by omega,by omega⟩,zar (P:=P) kh h h.toNat _ ⟨by omega,by omega⟩]
theorem run_sliceBounds3l (len cap:Nat) {l h:Int} {kl kh km:IntKind}
  (h0:0≤l) (h1:l≤h) (h2:h≤len) (h3:len≤cap) (w':World):(Instr.sliceBounds true len cap (some (.int kl l)) (some (.int kh h)) (some (.int km h))).run P w'=.ok (l.toNat,h.toNat,h.toNat) w':=by
 have e:(h.toNat:Int)=h:=Int.toNat_of_nonneg (by omega);simp [Instr.sliceBounds,zar (P:=P) km h cap _ ⟨by omega,by omega⟩,zar (P:=P) kh h h.toNat _ ⟨by omega,by omega⟩,zar (P:=P) kl l h.toNat _ ⟨by omega,by omega⟩]
theorem zkQ {tt:TT} (htt:tt.ok P) {T:TypeId} {x:AV} {lo hi mx:Option AV} {G:Prop→Prop} {k:AV→Prop} (h:zjw tt T x lo hi mx G k) :
  ∃ av,k av∧(Open G→∀ (w0:World) (K0:Bs) (g:Gh) (w:World) u vl vh vm,Hp w0 K0 σ g w→VR2 σ g w x u→bval σ g w lo vl→bval σ g w hi vh→bval σ g w mx vm→∃ v,(Instr.sliceAt T u vl vh vm).run P w=.ok v w∧VR2 σ g w av v):=by
 unfold zjw at h;split at h
 ·rename_i e _ _ _ sz xs heq;have hty:P.underlying T=some (.slice e):=(htt _ _ heq).desc;split at h
  ·rename_i ei kh h' km m hei;obtain⟨⟨hsz,rfl⟩,hG0,hk⟩:=h;refine⟨_,hk,fun hG w0 K0 g w u vl vh vm hp hv bl bh bm=>?_⟩
   obtain⟨h0,h2⟩:=hG _ hG0;cases vl with
   | some _=>exact bl.elim
   | none=>
   cases vm with
   | none=>exact bm.elim
   | some um=>
   cases vh with
   | none=>exact bh.elim
   | some uh=>
   cases zm bm;cases zm bh;cases hv with
   | d _ _ hpr=>cases hpr with
    | s _ _ a cap b off vs hcap hmax hszs ha hK hc hr=>
     have hb:=zfg (P:=P) xs.length cap (kh:=kh) (km:=km) h0 h2 hcap w;have h3:=zX (htt _ _ hei) w;have hlen:(xs.take m.toNat).length=m.toNat:=by simp;omega
     have hget:∀ (i:Nat) el,(xs.take m.toNat)[i]?=some el→xs[i]?=some el:=by
      grind
     refine⟨.slice (if m.toNat=0 then a else a.map (·.add 0)) m.toNat m.toNat,?_,?_⟩
     ·simp [Instr.sliceAt,Instr.slice,run_underlying hty,hb,h3]
     ·have:=PR.s (K:=g.K) (w:=w) sz (xs.take m.toNat) (if m.toNat=0 then a else a.map (·.add 0)) m.toNat b off vs
       (by rw [hlen];exact Nat.le_refl _) (by omega) (fun x hx=>hszs x (List.mem_of_mem_take hx)) (fun hne=>by
        have hxne:xs≠[]:=by intro e;subst e;simp at hne
        obtain rfl:=ha hxne;split
        ·rfl
        ·show some (Addr.add _ _)=_;rw [zad];rfl) (fun i el hi=>hK i el (hget i el hi)) (fun i el hi=>hc i el (hget i el hi)) (fun i el hi=>hr i el (hget i el hi))
      rw [hlen] at this;have h4:=PR.c (K:=g.K) (w:=w) sz (xs.take m.toNat) (if m.toNat=0 then a else a.map (·.add 0)) (by rw [hlen];exact this);rw [hlen] at h4;exact .d _ _ h4
  ·rename_i ei kl l kh h' km m hei;obtain⟨⟨hsz,rfl⟩,hG0,hk⟩:=h;refine⟨_,hk,fun hG w0 K0 g w u vl vh vm hp hv bl bh bm=>?_⟩
   obtain⟨h0,h1,h2⟩:=hG _ hG0;cases vl with
   | none=>exact bl.elim
   | some ul=>
   cases vm with
   | none=>exact bm.elim
   | some um=>
   cases vh with
   | none=>exact bh.elim
   | some uh=>
   cases zm bl;cases zm bm;cases zm bh;cases hv with
   | d _ _ hpr=>cases hpr with
    | s _ _ a cap b off vs hcap hmax hszs ha hK hc hr=>
     have hb:=run_sliceBounds3l (P:=P) xs.length cap (kl:=kl) (kh:=kh) (km:=km) h0 h1 h2 hcap w;have h3:=zX (htt _ _ hei) w;refine⟨.slice (if m.toNat=l.toNat then a else a.map (·.add (l.toNat * ei.size))) (m.toNat - l.toNat) (m.toNat - l.toNat),?_,?_⟩
     ·simp [Instr.sliceAt,Instr.slice,run_underlying hty,hb,h3]
     ·have hlen:((xs.take m.toNat).drop l.toNat).length=m.toNat - l.toNat:=by simp;omega
      have hget:∀ (i:Nat) el,((xs.take m.toNat).drop l.toNat)[i]?=some el→xs[l.toNat+i]?=some el∧l.toNat+i < m.toNat:=by
       grind
      have:=PR.s (K:=g.K) (w:=w) sz ((xs.take m.toNat).drop l.toNat) (if m.toNat=l.toNat then a else a.map (·.add (l.toNat * ei.size))) (m.toNat - l.toNat) b (off+l.toNat * sz) (fun i j=>vs (l.toNat+i) j)
       (by rw [hlen];omega) (by omega) (fun x hx=>hszs x (List.mem_of_mem_take (List.mem_of_mem_drop hx))) ?_ ?_ ?_ ?_
      ·rw [hlen] at this;exact .d _ _ this
      ·intro hne;have hlt:l.toNat < m.toNat:=by
        grind
       rw [if_neg (by omega)];have hxne:xs≠[]:=by intro e;subst e;simp at h2;omega
       obtain rfl:=ha hxne;rw [hsz];show some (Addr.add _ _)=_;rw [zad]
      ·grind
      ·grind
      ·simp_all
  ·exact h.elim
 ·rename_i e _ _ _ heq;have hty:P.underlying T=some (.slice e):=(htt _ _ heq).desc;split at h
  ·rename_i ei kh h' km m hei;obtain⟨rfl,hG0,hk⟩:=h;refine⟨_,hk,fun hG w0 K0 g w u vl vh vm hp hv bl bh bm=>?_⟩
   obtain⟨h0,h2⟩:=hG _ hG0;cases vl with
   | some _=>exact bl.elim
   | none=>
   cases vm with
   | none=>exact bm.elim
   | some um=>
   cases vh with
   | none=>exact bh.elim
   | some uh=>
   cases zm bm;cases zm bh;cases zm hv;have hb:=zfg (P:=P) 0 0 (kh:=kh) (km:=km) h0 h2 (Nat.le_refl 0) w;have h3:=zX (htt _ _ hei) w;have e1:m.toNat=0:=by omega
   rw [e1] at hb;refine⟨_,?_,zL _ rfl⟩
   simp [Instr.sliceAt,Instr.slice,run_underlying hty,hb,h3]
  ·exact h.elim
 ·exact h.elim
end
end Go.QL
namespace Go.QL
open Go Go.RowKit
def zgB (place:Nat→Option (Nat × Nat)) (cells:List SV):List (Nat × List SV)→Option (List SV)
 | []=>some cells
 | (i,cs)::rest=>
  match place i with
  | none=>none
  | some (off,size)=>if cs.length=size∧off+cs.length≤cells.length then zgB place (seg cells off cs) rest else none
def CR (σ:Sg) (g:Gh) (w:World) (cells:List SV) (arr:Array Value):Prop:=
 arr.size=cells.length∧∀ (i:Nat) (s:SV),cells[i]?=some s→∃ u,arr[i]?=some u∧SR σ g w s u
theorem ziy (off:Nat):∀ (l:List Value) (k:Nat) (arr:Array Value),off+k+l.length≤arr.size →
  ((l.zipIdx k).foldl (fun (cs:Array Value) (p:Value × Nat)=>cs.setIfInBounds (off+p.2) p.1) arr).size=arr.size ∧
  ∀ i:Nat,((l.zipIdx k).foldl (fun (cs:Array Value) (p:Value × Nat)=>cs.setIfInBounds (off+p.2) p.1) arr)[i]?=if off+k≤i∧i < off+k+l.length then l[i - (off+k)]? else arr[i]?
 | [],k,arr,_=>⟨rfl,fun i=>by simp;intro h1 h2;omega⟩
 | v::l,k,arr,h=>by
  simp only [List.zipIdx_cons,List.foldl_cons,List.length_cons] at h ⊢;have ih:=ziy off l (k+1) (arr.setIfInBounds (off+k) v) (by simp;omega);grind
section
variable {P:Program} {w0:World} {K0:Bs} {σ:Sg} {g:Gh} {w:World}
theorem zhF (place:Nat→Option (Nat × Nat)):∀ (parts:List (Nat × List SV)) (vparts:List (Nat × Value)) (cells:List SV) (arr:Array Value) (res:List SV),
  zgB place cells parts=some res→CR σ g w cells arr→vparts.length=parts.length →
  (∀ (j:Nat) (i:Nat) (cs:List SV),parts[j]?=some (i,cs)→∃ v,vparts[j]?=some (i,v)∧CR σ g w cs v.cells) →
  ∃ arr',Instr.fill place arr vparts=some arr'∧CR σ g w res arr'
 | [],vparts,cells,arr,res,h,hc,hl,_=>by
  cases vparts with
  | nil=>cases h;exact⟨arr,rfl,hc⟩
  | cons _ _=>cases hl
 | (i,cs)::rest,vparts,cells,arr,res,h,hc,hl,hp=>by
  cases vparts with
  | nil=>cases hl
  | cons q vrest=>
   obtain⟨i',v⟩:=q;obtain⟨v',hv,hcr⟩:=hp 0 i cs rfl;cases hv;simp only [zgB] at h;cases hpl:place i with
   | none=>rw [hpl] at h;cases h
   | some os=>
    obtain⟨off,size⟩:=os;rw [hpl] at h;simp only at h;by_cases hcond:cs.length=size∧off+cs.length≤cells.length
    ·rw [if_pos hcond] at h;have hsz:v.cells.size=cs.length:=hcr.1;have hf:=ziy off v.cells.toList 0 arr (by rw [hc.1];simp [hsz];omega);simp only [Instr.fill,hpl];have hcnd:(v.cells.size≠size || decide (off+v.cells.size > arr.size))=false:=by
      rw [hsz,hc.1];simp;omega
     rw [hcnd];simp only [Bool.false_eq_true,if_false];have hfold:v.cells.zipIdx.foldl (fun cs x=>match x with|(c,j)=>cs.setIfInBounds (off+j) c) arr=(v.cells.toList.zipIdx 0).foldl (fun (cs:Array Value) (p:Value × Nat)=>cs.setIfInBounds (off+p.2) p.1) arr:=by
      rw [← Array.foldl_toList];simp
     rw [hfold];refine zhF place rest vrest (seg cells off cs) _ res h ⟨?_,?_⟩ (by simpa using hl) (fun j i cs hj=>hp (j+1) i cs hj)
     ·rw [hf.1,hc.1,zam _ _ _ hcond.2]
     ·intro k s hk;rw [hf.2 k];rw [zbX _ _ _ hcond.2] at hk;have hvl:v.cells.toList.length=cs.length:=by simpa using hsz
      by_cases c1:k < off
      ·rw [if_pos c1] at hk;rw [if_neg (by omega)];exact hc.2 k s hk
      ·rw [if_neg c1] at hk;by_cases c2:k < off+cs.length
       ·rw [if_pos c2] at hk;rw [if_pos (by omega)];obtain⟨u,hu,hr⟩:=hcr.2 _ _ hk;simp_all
       ·rw [if_neg c2] at hk;rw [if_neg (by omega)];exact hc.2 k s hk
    ·simp_all
def zbZ:List (Nat × AV)→Option (List (Nat × List SV))
 | []=>some []
 | (i,x)::r=>match zdh x,zbZ r with|some cs,some r'=>some ((i,cs)::r')|_,_=>none
theorem zcg:∀ (ps:List (Nat × AV)) (cs:List (Nat × List SV)),zbZ ps=some cs→∀ (vs:List (Nat × Value)),vs.length=ps.length →
  (∀ (j i:Nat) (x:AV),ps[j]?=some (i,x)→∃ v,vs[j]?=some (i,v)∧VR2 σ g w x v) →
  cs.length=ps.length∧∀ (j:Nat) (i:Nat) (c:List SV),cs[j]?=some (i,c)→∃ v,vs[j]?=some (i,v)∧CR σ g w c v.cells
 | [],cs,h,vs,hl,hv=>by cases h;exact⟨rfl,fun j i c hj=>by cases hj⟩
 | (i,x)::r,cs,h,vs,hl,hv=>by
  simp only [zbZ] at h;cases hx:zdh x with
  | none=>rw [hx] at h;cases h
  | some c0=>
   cases hr:zbZ r with
   | none=>rw [hx,hr] at h;cases h
   | some r'=>
    rw [hx,hr] at h;cases h;cases vs with
    | nil=>cases hl
    | cons q vr=>
     have ih:=zcg r r' hr vr (by simpa using hl) (fun j i x hj=>hv (j+1) i x hj);refine⟨by simp [ih.1],fun j i' c hj=>?_⟩
     cases j with
     | zero=>
      cases hj;obtain⟨v,hv0,hvr⟩:=hv 0 i x rfl;exact⟨v,hv0,(zcC hx hvr).1,zfm hx hvr⟩
     | succ j=>exact ih.2 j i' c hj
def zbS (ti:TI):List SV:=ti.zero.map fun z=>.d (.v z)
theorem zfK {T:TypeId} {ti:TI} (h:ti.ok P T):CR σ g w (zbS ti) ti.zero.toArray:=by
 refine⟨by simp [zbS],fun i s hi=>?_⟩
 simp only [zbS,List.getElem?_map] at hi;cases hz:ti.zero[i]? with
 | none=>rw [hz] at hi;cases hi
 | some u=>
  rw [hz] at hi;cases hi;have:=h.one;rw [List.all_eq_true] at this;exact⟨u,by simp [hz],.d _ _ (.v u (this u (List.mem_of_getElem? hz)))⟩
def zb8 (tt:TT):List (Nat × TypeId)→Option (List (Nat × Nat))
 | []=>some []
 | (o,t)::r=>match tt t,zb8 tt r with|some ti,some r'=>some ((o,ti.size)::r')|_,_=>none
def zmw (tt:TT) (T:TypeId) (parts:List (Nat × AV)) (k:AV→Prop):Prop:=
 match tt T,zbZ parts with
 | some ti,some ps=>
  (match ti.d with
  | .st fs _=>
   (match zb8 tt fs with
   | some pl=>(match zgB (fun i=>pl[i]?) (zbS ti) ps with|some cs=>k (.a cs)|none=>False)
   | none=>False)
  | .ar _ e=>
   (match tt e with
   | some ei=>(match zgB (fun i=>some (i * ei.size,ei.size)) (zbS ti) ps with|some cs=>k (.a cs)|none=>False)
   | none=>False)
  | _=>False)
 | _,_=>False
theorem zc9 {tt:TT} (htt:tt.ok P) (w:World):∀ (fs:List (Nat × TypeId)) (pl:List (Nat × Nat)),zb8 tt fs=some pl→∀ (fields:List Field),fields.map (fun f=>(f.offset,f.type))=fs →
  (fields.mapM (m:=Sem) fun f=>do pure (f.offset,← sizeOf f.type)).run P w=.ok pl w
 | [],pl,h,fields,hf=>by
  cases h;simp_all
 | (o,t)::r,pl,h,fields,hf=>by
  simp only [zb8] at h;cases ht:tt t with
  | none=>rw [ht] at h;cases h
  | some ti=>
   cases hr:zb8 tt r with
   | none=>rw [ht,hr] at h;cases h
   | some r'=>
    rw [ht,hr] at h;cases h;cases fields with
    | nil=>cases hf
    | cons f fr=>
     simp only [List.map_cons,List.cons.injEq,Prod.mk.injEq] at hf;have ih:=zc9 htt w r r' hr fr hf.2;have hs:=zX (htt _ _ ht) w;simp_all
theorem zmv {tt:TT} (htt:tt.ok P) {T:TypeId} {parts:List (Nat × AV)} {k:AV→Prop} (h:zmw tt T parts k) :
  ∃ av,k av∧(∀ (σ:Sg) (g:Gh) (w:World) (vs:Array (Nat × Value)),vs.size=parts.length→(∀ (j i:Nat) (x:AV),parts[j]?=some (i,x)→∃ v,vs[j]?=some (i,v)∧VR2 σ g w x v) →
   ∃ v,(Instr.build T vs).run P w=.ok v w∧VR2 σ g w av v):=by
 unfold zmw at h;split at h
 ·rename_i ti ps heq hps;have hti:=htt _ _ heq;have hd:=hti.desc;have fin:∀ (place:Nat→Option (Nat × Nat)) cs,zgB place (zbS ti) ps=some cs→∀ (σ:Sg) (g:Gh) (w:World) (vs:Array (Nat × Value)),vs.size=parts.length →
    (∀ (j i:Nat) (x:AV),parts[j]?=some (i,x)→∃ v,vs[j]?=some (i,v)∧VR2 σ g w x v)→∃ arr,Instr.fill place ti.zero.toArray vs.toList=some arr∧VR2 σ g w (.a cs) (.agg arr):=by
   intro place cs hcs σ g w vs hl hv;obtain⟨h1,h2⟩:=zcg (σ:=σ) (g:=g) (w:=w) parts ps hps vs.toList (by simpa using hl) (fun j i x hj=>by obtain⟨v,a,b⟩:=hv j i x hj;exact⟨v,by simpa using a,b⟩);obtain⟨arr,ha,hr⟩:=zhF place ps vs.toList (zbS ti) ti.zero.toArray cs hcs (zfK hti) (by rw [h1];simpa using hl) h2;refine⟨arr,ha,arr,rfl,hr.1,fun i s u hi hu=>?_⟩
   obtain⟨u',hu',hs⟩:=hr.2 i s hi;rw [hu] at hu';cases hu';exact hs
  split at h
  ·rename_i fs _ hfs;rw [hfs] at hd;obtain⟨fields,hu,hmap,_⟩:=(show ∃ fields:Array Field,P.underlying T=some (.struct fields)∧_∧_ from hd);split at h
   ·rename_i pl hpl;split at h
    ·rename_i cs hcs;refine⟨_,h,fun σ g w vs hl hv=>?_⟩
     obtain⟨arr,ha,hr⟩:=fin _ cs hcs σ g w vs hl hv;obtain⟨z,hz,hzc⟩:=za0 hti w;have hm:=zc9 htt w fs pl hpl fields.toList hmap;have hm2:(fields.mapM (m:=Sem) fun f=>do pure (f.offset,← sizeOf f.type)).run P w=.ok pl.toArray w:=by
      have e:fields.mapM (m:=Sem) (fun f=>do pure (f.offset,← sizeOf f.type))=List.toArray <$> fields.toList.mapM (m:=Sem) (fun f=>do pure (f.offset,← sizeOf f.type)):=by
       rw [Array.mapM_eq_mapM_toList]
      simp_all
     refine⟨.agg arr,?_,hr⟩
     simp only [Instr.build,Sem.run_bind,hz,Result.andThen_ok,run_underlying hu,hm2,hzc];simp [ha]
    ·exact h.elim
   ·exact h.elim
  ·rename_i n e hfs;rw [hfs] at hd;have hu:P.underlying T=some (.array n e):=hd;split at h
   ·rename_i ei hei;split at h
    ·rename_i cs hcs;refine⟨_,h,fun σ g w vs hl hv=>?_⟩
     obtain⟨arr,ha,hr⟩:=fin _ cs hcs σ g w vs hl hv;obtain⟨z,hz,hzc⟩:=za0 hti w;have h3:=zX (htt _ _ hei) w;refine⟨.agg arr,?_,hr⟩
     simp only [Instr.build,Sem.run_bind,hz,Result.andThen_ok,run_underlying hu,h3,hzc];simp [ha]
    ·exact h.elim
   ·exact h.elim
  ·exact h.elim
 ·exact h.elim
end
end Go.QL
namespace Go.QL
open Go Go.RowKit
def zhQ:List SV→Option (List PV)
 | []=>some []
 | .d p::r=>(match zhQ r with|some l=>some (p::l)|none=>none)
 | _::_=>none
theorem zd4:∀ (l:List SV) (ps:List PV),zhQ l=some ps→l=ps.map .d
 | [],ps,h=>by cases h;rfl
 | s::r,ps,h=>by
  cases s with
  | d p=>
   simp only [zhQ] at h;cases hr:zhQ r with
   | none=>rw [hr] at h;cases h
   | some l=>rw [hr] at h;cases h;rw [zd4 r l hr];rfl
  | _=>simp [zhQ] at h
def zO (sz:Nat):Nat→List PV→List (List PV)
 | 0,_=>[]
 | n+1,l=>l.take sz::zO sz n (l.drop sz)
theorem zaX (sz:Nat):∀ n l,(zO sz n l).length=n
 | 0,_=>rfl
 | n+1,l=>by simp [zO,zaX sz n]
theorem zgr (sz:Nat):∀ (n:Nat) (l:List PV) (i:Nat) (e:List PV),(zO sz n l)[i]?=some e→e=(l.drop (i * sz)).take sz
 | 0,l,i,e,h=>by simp [zO] at h
 | n+1,l,0,e,h=>by simp [zO] at h;simp [h]
 | n+1,l,i+1,e,h=>by
  simp only [zO,List.getElem?_cons_succ] at h;rw [zgr sz n _ i e h,List.drop_drop,Nat.add_mul,Nat.one_mul,Nat.add_comm]
theorem ze5 (sz:Nat):∀ (n:Nat) (l:List PV),n * sz≤l.length→∀ e ∈ zO sz n l,e.length=sz
 | 0,l,_,e,h=>by simp [zO] at h
 | n+1,l,hl,e,h=>by
  rw [Nat.add_mul,Nat.one_mul] at hl;simp only [zO,List.mem_cons] at h;rcases h with rfl|h
  ·simp;omega
  ·exact ze5 sz n _ (by simp;omega) e h
section
variable {P:Program} {w0:World} {K0:Bs} {σ:Sg} {g:Gh} {w:World}
theorem Hp.addChain (h:Hp w0 K0 σ g w) (id:Nat) (hid:lk id σ=none) (e sz cap:Nat) (xs:List (List PV)) (cur:Array Value) (hle:xs.length≤cap) (hmax:cap≤maxLen) (hcur:cur.size=cap * sz)
  (hsz:∀ x ∈ xs,x.length=sz) (hr:∀ (i:Nat) (x:List PV),xs[i]?=some x→∀ (j:Nat) (p:PV),x[j]?=some p→∃ v,cur[i * sz+j]?=some v∧PR g.K w p v) :
  Did w0 K0 σ g w ((id,.chain e sz 0 xs) :: σ) ⟨g.K,upd g.μ id (.slice (some ⟨w.heap.size,0,none⟩) xs.length cap)⟩ (w.alloc (.cells cur e)):=by
 refine h.addObj id hid (.chain e sz 0 xs) _ _ rfl ?_
 intro σ' g' w' hσ hg hw hk;subst hg;subst hw;have he:Ext g.K w g.K (w.alloc (.cells cur e)):=zex h _;have hcl:xs.length * sz≤cur.size:=by rw [hcur];exact Nat.mul_le_mul_right _ hle
 refine⟨cur.toList.take (xs.length * sz),?_,⟨_,cap,zy _ _ _,hle,hmax⟩,hsz,fun i x hx j p hp=>?_,fun b hb o hk=>?_⟩
 ·dsimp only;rw [zy];refine⟨by simp;omega,.inr ⟨w.heap.size,cap,cur,rfl,Nat.zero_le _,heap_alloc_new w _,hle,hmax,hcur,rfl⟩⟩
 ·obtain⟨v,hv,hpr⟩:=hr i x hx j p hp;refine⟨v,?_,hpr.mono he⟩
  have hi:i < xs.length:=(List.getElem?_eq_some_iff.1 hx).1;have hj:j < sz:=by
   grind
  have hlt:i * sz+j < xs.length * sz:=by
   have:=Nat.mul_le_mul_right sz hi;grind
  grind
 ·dsimp only at hb;rw [zy] at hb;cases hb;exact absurd (h.val _ _ hk) (Nat.lt_irrefl _)
theorem zfw (z:Array Value) (n i:Nat) (hi:i < n) (hz:0 < z.size):(madeCells z n)[i]?=z[i % z.size]?:=by
 simp only [madeCells,Array.getElem?_map];have:(Array.range n)[i]?=some i:=by simp [hi]
 rw [this];have hlt:i % z.size < z.size:=Nat.mod_lt _ hz;simp [hlt]
theorem zao {α : Type} (z:List α):∀ (n i:Nat),i < n * z.length→(List.replicate n z).flatten[i]?=z[i % z.length]?
 | 0,i,h=>by simp at h
 | n+1,i,h=>by
  rw [List.replicate_succ,List.flatten_cons];by_cases hi:i < z.length
  ·rw [List.getElem?_append_left hi,Nat.mod_eq_of_lt hi]
  ·rw [List.getElem?_append_right (by omega),zao z n _ (by rw [Nat.add_mul,Nat.one_mul] at h;omega)];congr 1
   rw [Nat.mod_eq_sub_mod (a:=i) (by omega)]
def zaQ (tt:TT) (σ:Sg) (id:Nat) (T:TypeId) (len:Nat) (parts:List (Nat × AV)) (k:AV→Sg→Prop):Prop:=
 match tt T,zbZ parts with
 | some ⟨.sl e,_,_,_⟩,some ps=>
  (match tt e with
  | some ei=>
   if 0 < ei.size∧len * ei.size≤16777216 then
    (match zgB (fun i=>some (i * ei.size,ei.size)) (List.replicate len (zbS ei)).flatten ps with
    | some cs=>(match zhQ cs with
     | some l=>k (.x (.o id 0 len)) ((id,.chain e ei.size 0 (zO ei.size len l)) :: σ)
     | none=>0 < len∧k (.x (.sb id 0 len len)) ((id,.box cs) :: σ))
    | none=>False)
   else False
  | none=>False)
 | _,_=>False
theorem zdi (place:Nat→Option (Nat × Nat)):∀ (parts:List (Nat × List SV)) (cells res:List SV),zgB place cells parts=some res→res.length=cells.length
 | [],cells,res,h=>by cases h;rfl
 | (i,cs)::rest,cells,res,h=>by
  simp only [zgB] at h;cases hp:place i with
  | none=>rw [hp] at h;cases h
  | some os=>
   obtain⟨off,size⟩:=os;rw [hp] at h;simp only at h;by_cases hc:cs.length=size∧off+cs.length≤cells.length
   ·rw [if_pos hc] at h;rw [zdi place rest _ res h,zam _ _ _ hc.2]
   ·simp_all
theorem zdE {tt:TT} (htt:tt.ok P) {id:Nat} (hid:lk id σ=none) {T:TypeId} {len:Nat} {parts:List (Nat × AV)} {k:AV→Sg→Prop} (h:zaQ tt σ id T len parts k) :
  ∃ av σ',k av σ'∧(∀ (w0:World) (K0:Bs) (g:Gh) (w:World) (vs:Array (Nat × Value)),Hp w0 K0 σ g w→vs.size=parts.length →
   (∀ (j i:Nat) (x:AV),parts[j]?=some (i,x)→∃ v,vs[j]?=some (i,v)∧VR2 σ g w x v)→Gives P w0 K0 σ g w (Instr.buildSlice T len vs) av σ'):=by
 unfold zaQ at h;split at h
 ·rename_i e _ _ _ ps heq hps;have hty:P.underlying T=some (.slice e):=(htt _ _ heq).desc;split at h
  ·rename_i ei hei;have hti:=htt _ _ hei;split at h
   ·rename_i hc;split at h
    ·rename_i cs hcs;split at h
     ·rename_i l hl;refine⟨_,_,h,fun w0 K0 g w vs hp hsz hv=>?_⟩
      obtain⟨z,hz,hzc⟩:=za0 hti w;have hzl:z.cells.size=ei.size:=by rw [hzc];simpa using hti.zlen
      have hzs:(zbS ei).length=ei.size:=by simp [zbS,hti.zlen]
      obtain⟨h1,h2⟩:=zcg (σ:=σ) (g:=g) (w:=w) parts ps hps vs.toList (by simpa using hsz) (fun j i x hj=>by obtain⟨v,a,b⟩:=hv j i x hj;exact⟨v,by simpa using a,b⟩);have hcr0:CR σ g w (List.replicate len (zbS ei)).flatten (madeCells z.cells (len * ei.size)):=by
       refine⟨by simp [size_madeCells,hzs],fun i s hi=>?_⟩
       have hlt:i < len * ei.size:=by
        have:=(List.getElem?_eq_some_iff.1 hi).1;simp_all
       rw [zao _ _ _ (by rw [hzs];exact hlt)] at hi;rw [zfw _ _ _ hlt (by omega),hzl,hzc];rw [hzs] at hi;exact (zfK hti).2 _ _ hi
      obtain⟨arr,ha,hr⟩:=zhF _ ps vs.toList _ (madeCells z.cells (len * ei.size)) cs hcs hcr0 (by rw [h1];simpa using hsz) h2;have hmap:=zd4 _ _ hl;have hll:l.length=len * ei.size:=by
       have e1:=zdi _ _ _ _ hcs;simp_all
      have hd:=hp.addChain id hid e ei.size len (zO ei.size len l) arr (by rw [zaX];exact Nat.le_refl _) (by
        have:len≤len * ei.size:=Nat.le_mul_of_pos_right _ hc.1;simp only [maxLen];omega) (by rw [hr.1,hmap];simp [hll]) (ze5 _ _ _ (by omega)) (by
        intro i x hx j p hp';have hxe:=zgr _ _ _ _ _ hx;rw [hxe,List.getElem?_take] at hp';by_cases hj:j < ei.size
        ·rw [if_pos hj,List.getElem?_drop] at hp';have:cs[i * ei.size+j]?=some (.d p):=by rw [hmap,List.getElem?_map,hp'];rfl
         obtain⟨u,hu,hs⟩:=hr.2 _ _ this;cases hs with|d _ _ hpr=>exact⟨u,hu,hpr⟩
        ·rw [if_neg hj] at hp';cases hp')
      rw [zaX] at hd;refine⟨.slice (some ⟨w.heap.size,0,none⟩) len len,_,_,?_,hd,?_⟩
      ·have h3:=zX hti w;simp only [Instr.buildSlice,Sem.run_bind,run_underlying hty,Result.andThen_ok,h3];rw [if_neg (by omega)];by_cases hz0:len * ei.size=0
       ·rw [hz0] at ha;have hr0:Array.range 0=(#[]:Array Nat):=Array.eq_empty_of_size_eq_zero (by simp);have:Instr.fill (fun i=>some (i * ei.size,ei.size)) #[] vs.toList=some arr:=by
         rw [← ha];simp [madeCells,hr0]
        simp [hz0,this,newRow,hr0]
       ·simp only [hz0,if_false,Sem.run_bind,hz,Sem.run_pure,Result.andThen_ok];have:Instr.fill (fun i=>some (i * ei.size,ei.size)) ((Array.range (len * ei.size)).map fun x=>z.cells[x % z.cells.size]!) vs.toList=some arr:=ha;simp [this,newRow]
      ·refine .o _ 0 len e ei.size (zO ei.size len l) _ _ (by rw [zr,if_pos rfl]) (by rw [zaX];exact Nat.le_refl _) ?_
       dsimp only;rw [zy,zaX]
     ·obtain⟨hlen0,h⟩:=h;refine⟨_,_,h,fun w0 K0 g w vs hp hsz hv=>?_⟩
      obtain⟨z,hz,hzc⟩:=za0 hti w;have hzl:z.cells.size=ei.size:=by rw [hzc];simpa using hti.zlen
      have hzs:(zbS ei).length=ei.size:=by simp [zbS,hti.zlen]
      obtain⟨h1,h2⟩:=zcg (σ:=σ) (g:=g) (w:=w) parts ps hps vs.toList (by simpa using hsz) (fun j i x hj=>by obtain⟨v,a,b⟩:=hv j i x hj;exact⟨v,by simpa using a,b⟩);have hcr0:CR σ g w (List.replicate len (zbS ei)).flatten (madeCells z.cells (len * ei.size)):=by
       refine⟨by simp [size_madeCells,hzs],fun i s hi=>?_⟩
       have hlt:i < len * ei.size:=by
        have:=(List.getElem?_eq_some_iff.1 hi).1;simp_all
       rw [zao _ _ _ (by rw [hzs];exact hlt)] at hi;rw [zfw _ _ _ hlt (by omega),hzl,hzc];rw [hzs] at hi;exact (zfK hti).2 _ _ hi
      obtain⟨arr,ha,hr⟩:=zhF _ ps vs.toList _ (madeCells z.cells (len * ei.size)) cs hcs hcr0 (by rw [h1];simpa using hsz) h2;have hd:=hp.addBox id hid cs arr e hr.1 hr.2;refine⟨.slice (some ⟨w.heap.size,0,none⟩) len len,_,_,?_,hd,?_⟩
      ·have h3:=zX hti w;simp only [Instr.buildSlice,Sem.run_bind,run_underlying hty,Result.andThen_ok,h3];rw [if_neg (by omega)];have hz0:¬ len * ei.size=0:=fun e=>by rcases Nat.mul_eq_zero.1 e with e|e <;> omega
       simp only [hz0,if_false,Sem.run_bind,hz,Sem.run_pure,Result.andThen_ok];have:Instr.fill (fun i=>some (i * ei.size,ei.size)) ((Array.range (len * ei.size)).map fun x=>z.cells[x % z.cells.size]!) vs.toList=some arr:=ha;simp [this,newRow]
      ·refine .sb _ 0 len len _ w.heap.size (by rw [zr,if_pos rfl]) (zy _ _ _) (Nat.le_refl _) ?_
       have:len≤len * ei.size:=Nat.le_mul_of_pos_right _ hc.1;simp only [maxLen];omega
    ·exact h.elim
   ·exact h.elim
  ·exact h.elim
 ·exact h.elim
end
end Go.QL
namespace Go.QL
open Go Go.RowKit
section
variable {P:Program} {w0:World} {K0:Bs} {σ:Sg} {g:Gh} {w:World}
def zbg (tt:TT) (σ:Sg) (id:Nat) (T:TypeId) (l c:AV) (k:AV→Sg→Prop):Prop:=
 match tt T,l,c with
 | some ⟨.sl e,_,_,_⟩,.x (.d (.v (.int .i64 n))),.x (.d (.v (.int .i64 m)))=>
  (match tt e with
  | some ei=>0 < ei.size∧(0≤n∧n≤m∧(ei.bytes:Int) * m≤281474976710656∧m≤9223372036854775807) ∧
    k (.x (.o id 0 n.toNat)) ((id,.chain e ei.size 0 (List.replicate n.toNat (ei.zero.map .v))) :: σ)
  | none=>False)
 | _,_,_=>False
theorem zeq {tt:TT} (htt:tt.ok P) {id:Nat} (hid:lk id σ=none) {T:TypeId} {l c:AV} {k:AV→Sg→Prop} (h:zbg tt σ id T l c k) :
  ∃ av σ',k av σ'∧(∀ (w0:World) (K0:Bs) (g:Gh) (w:World) u1 u2,Hp w0 K0 σ g w→VR2 σ g w l u1→VR2 σ g w c u2→Gives P w0 K0 σ g w (Instr.makeSlice T u1 u2) av σ'):=by
 unfold zbg at h;split at h
 ·rename_i e _ _ _ n m heq;have hty:P.underlying T=some (.slice e):=(htt _ _ heq).desc;split at h
  ·rename_i ei hei;have hti:=htt _ _ hei;obtain⟨hs0,⟨h0,h1,h2,h3⟩,hk⟩:=h;refine⟨_,_,hk,fun w0 K0 g w u1 u2 hp hv1 hv2=>?_⟩
   cases zm hv1;cases zm hv2;obtain⟨info,z,i1,i2,i3,i4,i5⟩:=hti.info;have hrun:=run_make (P:=P) w T e info z hty i1 i4 .i64 .i64 n m h0 h1 (by rw [i3];exact h2) h3;have hzl:z.cells.size=ei.size:=by rw [i5];simpa using hti.zlen
   have hlen:(List.replicate n.toNat (ei.zero.map PV.v)).length=n.toNat:=by simp
   have hd:=hp.addChain id hid e ei.size m.toNat (List.replicate n.toNat (ei.zero.map .v)) (madeCells z.cells (m.toNat * info.size)) (by rw [hlen];omega) (by simp only [maxLen];omega)
    (by rw [size_madeCells,i2]) (by intro x hx;rw [List.eq_of_mem_replicate hx];simpa using hti.zlen) (by
     intro i x hx j p hp';have hi:i < n.toNat:=by have:=(List.getElem?_eq_some_iff.1 hx).1;rw [hlen] at this;exact this
     rw [List.getElem?_replicate,if_pos hi] at hx;cases hx;rw [List.getElem?_map] at hp';cases hz:ei.zero[j]? with
     | none=>rw [hz] at hp';cases hp'
     | some u=>
      rw [hz] at hp';cases hp';have hj:j < ei.size:=by rw [← hti.zlen];exact (List.getElem?_eq_some_iff.1 hz).1
      have hlt:i * ei.size+j < m.toNat * ei.size:=by
       have:=Nat.mul_le_mul_right ei.size (show i+1≤m.toNat by omega);grind
      refine⟨u,?_,.v u ?_⟩
      ·rw [i2,zfw _ _ _ hlt (by omega),hzl];have:(i * ei.size+j) % ei.size=j:=by rw [Nat.mul_comm,Nat.mul_add_mod,Nat.mod_eq_of_lt hj]
       simp_all
      ·have:=hti.one;rw [List.all_eq_true] at this;exact this u (List.mem_of_getElem? hz))
   rw [hlen] at hd;refine⟨_,_,_,hrun,hd,?_⟩
   refine .o _ 0 n.toNat e ei.size (List.replicate n.toNat (ei.zero.map .v)) _ m.toNat (by rw [zr,if_pos rfl]) (by rw [hlen];exact Nat.le_refl _) ?_
   dsimp only;rw [zy,hlen]
  ·exact h.elim
 ·exact h.elim
def zfy (tt:TT) (σ:Sg) (id:Nat) (T:TypeId) (l c:AV) (k:AV→Sg→Prop):Prop:=
 match tt T,l,c with
 | some ⟨.sl e,_,_,_⟩,.x (.d (.v (.int .i64 n))),.x (.d (.v (.int .i64 m)))=>
  (match tt e with
  | some ei=>0 < ei.size∧(0≤n∧n=m∧(ei.bytes:Int) * m≤281474976710656∧m≤9223372036854775807) ∧
    k (.x (.sb id 0 n.toNat n.toNat)) ((id,.box ((List.replicate n.toNat (ei.zero.map fun z=>SV.d (.v z))).flatten)) :: σ)
  | none=>False)
 | _,_,_=>False
def zjz (tt:TT) (σ:Sg) (id:Nat) (T:TypeId) (l c:AV) (k:AV→Sg→Prop):Prop:=
 match tt T with
 | some ⟨.sl e,_,_,_⟩=>(match tt e with
  | some ⟨.sl _,_,_,_⟩=>zbg tt σ id T l c k∨zfy tt σ id T l c k
  | _=>zbg tt σ id T l c k)
 | _=>False
theorem zjy {tt:TT} (htt:tt.ok P) {id:Nat} (hid:lk id σ=none) {T:TypeId} {l c:AV} {k:AV→Sg→Prop} (h:zfy tt σ id T l c k) :
  ∃ av σ',k av σ'∧(∀ (w0:World) (K0:Bs) (g:Gh) (w:World) u1 u2,Hp w0 K0 σ g w→VR2 σ g w l u1→VR2 σ g w c u2→Gives P w0 K0 σ g w (Instr.makeSlice T u1 u2) av σ'):=by
 unfold zfy at h;split at h
 ·rename_i e _ _ _ n m heq;have hty:P.underlying T=some (.slice e):=(htt _ _ heq).desc;split at h
  ·rename_i ei hei;have hti:=htt _ _ hei;obtain⟨hs0,⟨h0,rfl,h2,h3⟩,hk⟩:=h;refine⟨_,_,hk,fun w0 K0 g w u1 u2 hp hv1 hv2=>?_⟩
   cases zm hv1;cases zm hv2;obtain⟨info,z,i1,i2,i3,i4,i5⟩:=hti.info;have hrun:=run_make (P:=P) w T e info z hty i1 i4 .i64 .i64 n n h0 (Int.le_refl _) (by rw [i3];exact h2) h3;have hzl:z.cells.size=ei.size:=by rw [i5];simpa using hti.zlen
   have hzlen:(ei.zero.map fun z=>SV.d (.v z)).length=ei.size:=by simpa using hti.zlen
   have hd:=hp.addBox id hid ((List.replicate n.toNat (ei.zero.map fun z=>SV.d (.v z))).flatten) (madeCells z.cells (n.toNat * info.size)) e (by rw [size_madeCells,i2];simp [hti.zlen]) (by
     intro i s hi;have hlt:i < n.toNat * ei.size:=by
      have:=(List.getElem?_eq_some_iff.1 hi).1;simp_all
     rw [zao _ _ _ (by rw [hzlen];exact hlt)] at hi;rw [i2,zfw _ _ _ hlt (by omega),hzl];rw [hzlen] at hi;rw [List.getElem?_map] at hi;cases hz:ei.zero[i % ei.size]? with
     | none=>rw [hz] at hi;cases hi
     | some u=>
      rw [hz] at hi;cases hi;refine⟨u,by rw [i5];simpa using hz,.d _ _ (.v u ?_)⟩
      have:=hti.one;rw [List.all_eq_true] at this;exact this u (List.mem_of_getElem? hz))
   refine⟨_,_,_,hrun,hd,?_⟩
   have hmax:n.toNat≤maxLen:=by
    have hb:0 < ei.bytes∨ei.bytes=0:=by omega
    simp only [maxLen];omega
   exact .sb _ 0 n.toNat n.toNat _ w.heap.size (by rw [zr,if_pos rfl]) (zy _ _ _) (Nat.le_refl _) hmax
  ·exact h.elim
 ·exact h.elim
theorem zkg {tt:TT} (htt:tt.ok P) {id:Nat} (hid:lk id σ=none) {T:TypeId} {l c:AV} {k:AV→Sg→Prop} (h:zjz tt σ id T l c k) :
  ∃ av σ',k av σ'∧(∀ (w0:World) (K0:Bs) (g:Gh) (w:World) u1 u2,Hp w0 K0 σ g w→VR2 σ g w l u1→VR2 σ g w c u2→Gives P w0 K0 σ g w (Instr.makeSlice T u1 u2) av σ'):=by
 unfold zjz at h;split at h
 ·split at h
  ·rcases h with h|h
   ·exact zeq htt hid h
   ·exact zjy htt hid h
  ·exact zeq htt hid h
 ·exact h.elim
end
end Go.QL
namespace Go.QL
open Go Go.RowKit
section
variable {P:Program}
def zds (tt:TT) (T:TypeId) (len:Nat) (parts:List (Nat × AV)) (k:AV→Prop):Prop:=
 match tt T,zbZ parts with
 | some ⟨.sl e,_,_,_⟩,some ps=>
  (match tt e with
  | some ei=>
   if 0 < ei.size∧len * ei.size≤16777216 then
    (match zgB (fun i=>some (i * ei.size,ei.size)) (List.replicate len (zbS ei)).flatten ps with
    | some cs=>(match zhQ cs with
     | some l=>k (.x (.d (.s ei.size (zO ei.size len l))))
     | none=>False)
    | none=>False)
   else False
  | none=>False)
 | _,_=>False
theorem zcH {tt:TT} (htt:tt.ok P) {T:TypeId} {len:Nat} {parts:List (Nat × AV)} {k:AV→Prop} (h:zds tt T len parts k) :
  ∃ av,k av∧(∀ (σ:Sg) (w0:World) (K0:Bs) (g:Gh) (w:World) (vs:Array (Nat × Value)),Hp w0 K0 σ g w→vs.size=parts.length →
   (∀ (j i:Nat) (x:AV),parts[j]?=some (i,x)→∃ v,vs[j]?=some (i,v)∧VR2 σ g w x v)→Gives P w0 K0 σ g w (Instr.buildSlice T len vs) av σ):=by
 unfold zds at h;split at h
 ·rename_i e _ _ _ ps heq hps;have hty:P.underlying T=some (.slice e):=(htt _ _ heq).desc;split at h
  ·rename_i ei hei;have hti:=htt _ _ hei;split at h
   ·rename_i hc;split at h
    ·rename_i cs hcs;split at h
     ·rename_i l hl;refine⟨_,h,fun σ w0 K0 g w vs hp hsz hv=>?_⟩
      obtain⟨z,hz,hzc⟩:=za0 hti w;have hzl:z.cells.size=ei.size:=by rw [hzc];simpa using hti.zlen
      have hzs:(zbS ei).length=ei.size:=by simp [zbS,hti.zlen]
      obtain⟨h1,h2⟩:=zcg (σ:=σ) (g:=g) (w:=w) parts ps hps vs.toList (by simpa using hsz) (fun j i x hj=>by obtain⟨v,a,b⟩:=hv j i x hj;exact⟨v,by simpa using a,b⟩);have hcr0:CR σ g w (List.replicate len (zbS ei)).flatten (madeCells z.cells (len * ei.size)):=by
       refine⟨by simp [size_madeCells,hzs],fun i s hi=>?_⟩
       have hlt:i < len * ei.size:=by
        have:=(List.getElem?_eq_some_iff.1 hi).1;simp_all
       rw [zao _ _ _ (by rw [hzs];exact hlt)] at hi;rw [zfw _ _ _ hlt (by omega),hzl,hzc];rw [hzs] at hi;exact (zfK hti).2 _ _ hi
      obtain⟨arr,ha,hr⟩:=zhF _ ps vs.toList _ (madeCells z.cells (len * ei.size)) cs hcs hcr0 (by rw [h1];simpa using hsz) h2;have hmap:=zd4 _ _ hl;have hll:l.length=len * ei.size:=by
       have e1:=zdi _ _ _ _ hcs;simp_all
      let K':Nat→Nat→Prop:=fun b o=>g.K b o∨b=w.heap.size
      have hext:Ext g.K w K' (w.alloc (.cells arr e)):=⟨fun _ _ x=>.inl x,(zex hp _).cell⟩;have hd:=hp.grow (w':=w.alloc (.cells arr e)) (K':=K') ((Below.refl _ _).alloc (Nat.le_refl _) _) hext (fun b o hb hk=>by
       rcases hk with hk|hk
       ·exact hk
       ·omega) (fun b o hk=>by
       rcases hk with hk|hk
       ·have:=hp.val b o hk;simp;omega
       ·subst hk;simp)
      have hget:∀ (i:Nat) (x:List PV),(zO ei.size len l)[i]?=some x→∀ (j:Nat) (p:PV),x[j]?=some p→∃ v,arr[i * ei.size+j]?=some v∧PR g.K w p v:=by
       intro i x hx j p hp';have hxe:=zgr _ _ _ _ _ hx;rw [hxe,List.getElem?_take] at hp';by_cases hj:j < ei.size
       ·rw [if_pos hj,List.getElem?_drop] at hp';have:cs[i * ei.size+j]?=some (.d p):=by rw [hmap,List.getElem?_map,hp'];rfl
        obtain⟨u,hu,hs⟩:=hr.2 _ _ this;cases hs with|d _ _ hpr=>exact⟨u,hu,hpr⟩
       ·simp_all
      refine⟨.slice (some ⟨w.heap.size,0,none⟩) len len,_,_,?_,hd,?_⟩
      ·have h3:=zX hti w;simp only [Instr.buildSlice,Sem.run_bind,run_underlying hty,Result.andThen_ok,h3];rw [if_neg (by omega)];by_cases hz0:len * ei.size=0
       ·rw [hz0] at ha;have hr0:Array.range 0=(#[]:Array Nat):=Array.eq_empty_of_size_eq_zero (by simp);have:Instr.fill (fun i=>some (i * ei.size,ei.size)) #[] vs.toList=some arr:=by
         rw [← ha];simp [madeCells,hr0]
        simp [hz0,this,newRow,hr0]
       ·simp only [hz0,if_false,Sem.run_bind,hz,Sem.run_pure,Result.andThen_ok];have:Instr.fill (fun i=>some (i * ei.size,ei.size)) ((Array.range (len * ei.size)).map fun x=>z.cells[x % z.cells.size]!) vs.toList=some arr:=ha;simp [this,newRow]
      ·have hlen:=zaX ei.size len l;have hpr:=PR.s (K:=K') (w:=w.alloc (.cells arr e)) ei.size (zO ei.size len l) (some ⟨w.heap.size,0,none⟩) len w.heap.size 0 (fun i j=>arr.getD (i * ei.size+j) undef) (by rw [hlen];exact Nat.le_refl _) (by
        have:len≤len * ei.size:=Nat.le_mul_of_pos_right _ hc.1;simp only [maxLen];omega) (ze5 _ _ _ (by omega)) (fun _=>rfl) (fun _ _ _ _ _=>.inr rfl) (fun i x hx j hj=>by
         obtain⟨u,hu,_⟩:=hget i x hx j _ (List.getElem?_eq_getElem hj);have:(w.alloc (.cells arr e)).heap[w.heap.size]?=some (.cells arr e (0,0)):=heap_alloc_new w _;unfold World.cell?;rw [this];simp [hu]) (fun i x hx j p hp'=>by
         obtain⟨u,hu,hpu⟩:=hget i x hx j p hp';have e2:arr.getD (i * ei.size+j) undef=u:=by simp [hu]
         rw [e2];exact hpu.mono hext)
       rw [hlen] at hpr;exact .d _ _ hpr
     ·exact h.elim
    ·exact h.elim
   ·exact h.elim
  ·exact h.elim
 ·exact h.elim
end
end Go.QL
namespace Go.QL
open Go Go.RowKit
section
variable {P:Program}
def isSB (tt:TT) (src dst:TypeId):Bool:=
 match tt src,tt dst with
 | some ⟨.str,_,_,_⟩,some ⟨.sl _,_,_,_⟩=>true
 | _,_=>false
def zmt (tt:TT) (dst:TypeId) (x:AV) (k:AV→Prop):Prop:=
 match x,tt dst with
 | .x (.d (.v (.string s))),some ⟨.sl e,_,_,_⟩=>(match tt e with
  | some ⟨.int .u8,_,_,_⟩=>s.size≤maxLen∧k (.x (.d (.s 1 (s.data.toList.map fun c=>[.v (.int .u8 c.toNat)]))))
  | _=>False)
 | _,_=>False
theorem zms {tt:TT} (htt:tt.ok P) {src dst:TypeId} (hsb:isSB tt src dst=true) {x:AV} {k:AV→Prop} (h:zmt tt dst x k) :
  ∃ av,k av∧∀ (σ:Sg) (w0:World) (K0:Bs) (g:Gh) (w:World) (v:Value),Hp w0 K0 σ g w→VR2 σ g w x v→Gives P w0 K0 σ g w (convert src dst v) av σ:=by
 have hsrc:P.underlying src=some .string:=by
  unfold isSB at hsb;split at hsb
  ·rename_i h1 _;exact (htt _ _ h1).desc
  ·cases hsb
 unfold zmt at h;split at h
 ·rename_i s e _ _ _ heq;have hty:P.underlying dst=some (.slice e):=(htt _ _ heq).desc;split at h
  ·rename_i hei;have het:=(htt _ _ hei).desc;obtain⟨hsz,hk⟩:=h;refine⟨_,hk,fun σ w0 K0 g w v hp hv=>?_⟩
   have:=zm hv;subst this;have hrun:=Lib.run_convert_string_bytes (P:=P) w src dst e s hsrc hty het;let K':Nat→Nat→Prop:=fun b o=>g.K b o∨b=w.heap.size
   have hext:Ext g.K w K' (Lib.bytesWorld w e s):=⟨fun _ _ x=>.inl x,fun b o hk=>Lib.bytesWorld_old w e s ⟨b,o,none⟩ (hp.val b o hk)⟩;have hd:=hp.grow (w':=Lib.bytesWorld w e s) (K':=K') (Lib.bytesWorld_below w e s) hext (fun b o hb hk=>by
    rcases hk with hk|hk
    ·exact hk
    ·omega) (fun b o hk=>by
    rw [Lib.bytesWorld_size];rcases hk with hk|hk
    ·have:=hp.val b o hk;omega
    ·omega)
   refine⟨_,_,_,hrun,hd,?_⟩
   have hsl:s.data.toList.length=s.size:=Array.length_toList;have hpr:=PR.s (K:=K') (w:=Lib.bytesWorld w e s) 1 (s.data.toList.map fun c=>[.v (.int .u8 c.toNat)]) (some ⟨w.heap.size,0,none⟩) (grownCap w s.size 0 e) w.heap.size 0 (fun i _=>.int .u8 (s.data.toList.getD i 0).toNat)
    (by rw [List.length_map,hsl];exact grownCap_ge w s.size 0 e) (grownCap_le_maxLen w s.size 0 e hsz) (by intro x hx;simp at hx;obtain⟨a,_,rfl⟩:=hx;rfl) (fun _=>rfl) (fun i x hx j _=>.inr rfl)
    (fun i x hx j hj=>by
     rw [List.getElem?_map] at hx;cases hc:s.data.toList[i]? with
     | none=>rw [hc] at hx;cases hx
     | some c=>
      rw [hc] at hx;cases hx;simp only [List.length_singleton,Nat.lt_one_iff] at hj;subst hj;rw [show 0+(i * 1+0)=i by omega];exact Lib.bytesWorld_cell w e s i (by have:=(List.getElem?_eq_some_iff.1 hc).1;omega))
    (fun i x hx j p hp'=>by
     rw [List.getElem?_map] at hx;cases hc:s.data.toList[i]? with
     | none=>rw [hc] at hx;cases hx
     | some c=>
      rw [hc] at hx;cases hx;cases j with
      | zero=>
       cases hp';simp only [List.getD_eq_getElem?_getD,hc,Option.getD_some];exact .v _ rfl
      | succ j=>simp at hp')
   rw [List.length_map,hsl] at hpr;exact .d _ _ hpr
  ·exact h.elim
 ·exact h.elim
end
end Go.QL
namespace Go.QL
open Go Go.RowKit
section
variable {P:Program} (w:World)
theorem zcd {base:Nat} {e:TypeId} {size:Nat} {v:Value} {n:Nat} {xs:List Value} (h:w.ownsRow base e size v n xs):∃ a cap,v=.slice a n cap∧n≤cap∧cap≤maxLen:=by
 rcases h.2 with ⟨rfl,rfl⟩|⟨g,cap,cur,rfl,_,_,h1,h2,_⟩
 ·grind
 ·grind
structure AppR (P:Program) (w:World) (t tx ty e:TypeId) (i:TypeInfo) (z x:Value) (m:Nat) (news:List Value):Prop where
 len:news.length=m * i.size
 nil:m=0→(Builtin.append_ #[t,tx] ty #[.slice none 0 0,x]).run P w=.ok (.slice none 0 0) w
 grow:∀ (b:Option Addr) (n c:Nat) (olds:List Value),(Builtin.firstCells i.size n (.slice b n c)).run P w.drew=.ok olds.toArray w.drew→c < n+m→n+m≤9223372036854775807→(n+m) * i.bytes≤140737488355328 →
  (Builtin.append_ #[t,tx] ty #[.slice b n c,x]).run P w=.ok (.slice (some ⟨w.heap.size,0,none⟩) (n+m) (grownCap w (n+m) c e))
   (w.drew.alloc (.cells ((olds ++ news).toArray ++ Builtin.zeroCells z.cells (grownCap w (n+m) c e - (n+m))) e))
 room:∀ (b n c:Nat) (cur:Array Value),w.heap[b]?=some (.cells cur e (0,0))→n+m≤c→n * i.size+news.length≤cur.size →
  (Builtin.append_ #[t,tx] ty #[.slice (some ⟨b,0,none⟩) n c,x]).run P w=.ok (.slice (some ⟨b,0,none⟩) (n+m) c) (w.setRow b (cur.toList.take (n * i.size) ++ news ++ cur.toList.drop (n * i.size+news.length)).toArray)
theorem AppR.slice (t ty e:TypeId) (i:TypeInfo) (z:Value) (ht:P.underlying t=some (.slice e)) (hi:P.info? e=some i) (hz:i.zero=some z)
  (a:Addr) (m c:Nat) (news:List Value) (hl:news.length=m * i.size) (hnews:∀ j u,news[j]?=some u→w.cell? (a.add j)=some u) (h1:∀ u ∈ news,u.oneCell'=true):AppR P w t t ty e i z (.slice (some a) m c) m news:=by
 refine⟨hl,?_,fun b n c' olds ho hg h63 hb=>?_,fun b n c' cur hg hr hfit=>run_append_room (P:=P) w t ty e i ht hi b n c' cur hg a m c news hl hnews h1 hr hfit⟩
 ·rintro rfl;have hn:news=[]:=List.eq_nil_of_length_eq_zero (by simpa using hl);subst hn;simp [Builtin.append_,run_underlying ht,sizeOf,typeInfo,hi,Builtin.lenOf,Builtin.firstCells,loadCells,loadCellsFrom]
 ·exact run_append_grow_src w t t ty e i z ht hi hz b n c' olds ho _ m news (Src.ofSlice w ht a m c news hl hnews h1) hg (by omega) (growslice_fits hg hb)
theorem AppR.zeros (t tx ty e:TypeId) (i:TypeInfo) (z:Value) (k kv:IntKind) (ht:P.underlying t=some (.slice e)) (htx:P.underlying tx=some (.int k)) (hi:P.info? e=some i) (hz:i.zero=some z) (hzs:z.cells.size=i.size)
  (h1:∀ u ∈ z.cells.toList,u.oneCell'=true) (hs0:0 < i.size) (m:Nat) (h63:m≤9223372036854775807) (hb:m * i.bytes≤140737488355328):AppR P w t tx ty e i z (.int kv m) m (Builtin.zeroCells z.cells m).toList:=by
 have hw:IntKind.i64.wrap (m:Int)=m:=by rw [IntKind.wrap_i64];omega
 have hw0:IntKind.i64.wrap 0=0:=by decide
 have hneg:¬ ((m:Int) < 0):=by omega
 have h48i:¬ (281474976710656 < (m:Int) * (i.bytes:Int)):=by rw [← Int.natCast_mul];omega
 have hl:(Builtin.zeroCells z.cells m).toList.length=m * i.size:=by rw [Array.length_toList,size_zeroCells,hzs]
 refine⟨hl,?_,fun b n c olds ho hg h63' hb'=>?_,fun b n c cur hg hr hfit=>?_⟩
 ·rintro rfl;simp [Builtin.append_,run_underlying ht,run_underlying htx,sizeOf,typeInfo,hi,asInt,asIntOf,hw0]
 ·have hn:¬ (n+m≤c):=by omega
  have h48':¬ (281474976710656 < Builtin.nextslicecap (n+m) c * i.bytes):=by have:=growslice_fits hg hb';omega
  have h63'':¬ (9223372036854775807 < ((n:Int)+(m:Int))):=by omega
  by_cases hm:m=0
  ·subst hm;have e0:Builtin.zeroCells z.cells 0 = #[]:=by simp [Builtin.zeroCells]
   simp [Builtin.append_,run_underlying ht,run_underlying htx,sizeOf,typeInfo,zeroValue,hi,hz,asInt,asIntOf,hw0,show ¬ (n≤c) by omega,show ¬ (9223372036854775807 < (n:Int)) by omega,show ¬ (281474976710656 < Builtin.nextslicecap n c * i.bytes) by simpa using h48',Question.forced,ho,newRow,grownCap,e0]
  ·have hns:¬ (m * i.size=0):=Nat.mul_ne_zero hm (by omega);simp [Builtin.append_,run_underlying ht,run_underlying htx,sizeOf,typeInfo,zeroValue,hi,hz,asInt,asIntOf,hw,hneg,h48i,hns,hn,h63'',h48',Question.forced,ho,newRow,grownCap];congr 2
   grind
 ·have hst:=run_storeCells_at P b (n * i.size) e (Builtin.zeroCells z.cells m).toList 0 cur w hg (by simpa using hfit) (fun u hu=>by
   simp only [Builtin.zeroCells,Array.toList_map,List.mem_map] at hu;obtain⟨j,_,rfl⟩:=hu;have hlt:j % z.cells.size < z.cells.size:=Nat.mod_lt _ (by omega);rw [getElem!_pos z.cells _ hlt];exact h1 _ (by simp))
  simp only [Nat.add_zero] at hst;by_cases hm:m * i.size=0
  ·have hm0:m=0:=(Nat.mul_eq_zero.1 hm).resolve_right (by omega);subst hm0;have e0:Builtin.zeroCells z.cells 0 = #[]:=by simp [Builtin.zeroCells]
   rw [e0] at hst ⊢;simp [Builtin.append_,run_underlying ht,run_underlying htx,sizeOf,typeInfo,hi,asInt,asIntOf,hw0,show n≤c by omega,Addr.add_lit,hst]
  ·simp [Builtin.append_,run_underlying ht,run_underlying htx,sizeOf,typeInfo,zeroValue,hi,hz,asInt,asIntOf,hw,hneg,h48i,hm,hr,Addr.add_lit,hst]
theorem zf4 (base:Nat) (t tx ty e:TypeId) (i:TypeInfo) (z x:Value) (size bytes:Nat)
  (hsize:i.size=size) (hby:i.bytes=bytes) (hzs:z.cells.size=size)
  (v:Value) (n:Nat) (xs:List Value) (hown:w.ownsRow base e size v n xs) (m:Nat) (news:List Value) (hs:AppR P w t tx ty e i z x m news)
  (h63:n+m≤maxLen) (hbytes:(n+m) * bytes≤140737488355328) (hbase:base≤w.heap.size) :
  ∃ v' w',(Builtin.append_ #[t,tx] ty #[v,x]).run P w=.ok v' w'∧w'.ownsRow base e size v' (n+m) (xs ++ news)∧w.grownBy w' v.ownBlock ∧
   (∀ b,v'.ownBlock=some b→v.ownBlock=some b∨b=w.heap.size):=by
 subst hsize;subst hby;have hl:=hs.len;have hsmall:n+m≤9223372036854775807:=by simp only [maxLen] at h63;omega
 have hlen:(xs ++ news).length=(n+m) * i.size:=by rw [List.length_append,hown.1,hl,Nat.add_mul]
 have grown:∀ (old:Nat),old < n+m→∀ (row:Option Nat),
   (w.drew.alloc (.cells ((xs ++ news).toArray ++ Builtin.zeroCells z.cells (grownCap w (n+m) old e - (n+m))) e)).ownsRow base e i.size
    (.slice (some ⟨w.heap.size,0,none⟩) (n+m) (grownCap w (n+m) old e)) (n+m) (xs ++ news) ∧
   w.grownBy (w.drew.alloc (.cells ((xs ++ news).toArray ++ Builtin.zeroCells z.cells (grownCap w (n+m) old e - (n+m))) e)) row:=by
  intro old ho row;have hge:=grownCap_ge w (n+m) old e;have hcm:grownCap w (n+m) old e≤maxLen:=grownCap_le_maxLen w (n+m) old e h63;refine⟨⟨hlen,.inr ⟨w.heap.size,_,_,rfl,hbase,heap_alloc_new w.drew _,hge,hcm,?_,?_⟩⟩,⟨rfl,rfl,rfl,by simp,fun k hk _=>Below.heap_alloc w.drew _ k hk⟩⟩
  ·simp only [Array.size_append,List.size_toArray,size_zeroCells,hzs,hlen,← Nat.add_mul];congr 1
   omega
  ·grind
 rcases hown.2 with ⟨rfl,rfl⟩|⟨g,cap,cur,rfl,hbg,hg,hnc,hcm,hcs,htake⟩
 ·have hx:xs=[]:=List.eq_nil_of_length_eq_zero (by simpa using hown.1);subst hx;by_cases hm:m=0
  ·have hn:news=[]:=List.eq_nil_of_length_eq_zero (by simpa [hm] using hl);subst hn;exact⟨.slice none 0 0,w,hs.nil hm,by subst hm;exact World.ownsRow_nil w base e i.size,⟨rfl,rfl,rfl,Nat.le_refl _,fun _ _ _=>rfl⟩,by simp [Value.ownBlock]⟩
  ·have hr:=hs.grow none 0 0 [] (run_firstCells_none w.drew i.size 0 0 0) (by omega) hsmall hbytes;have hgr:=grown 0 (by omega) (Value.ownBlock (.slice none 0 0));exact⟨_,_,hr,hgr.1,hgr.2,fun b hb=>by simp [Value.ownBlock] at hb;exact .inr hb.symm⟩
 ·by_cases hroom:n+m≤cap
  ·have hfit:n * i.size+news.length≤cur.size:=by rw [hl,hcs,← Nat.add_mul];exact Nat.mul_le_mul_right _ hroom
   refine⟨_,_,hs.room g n cap cur hg hroom hfit,⟨hlen,.inr ⟨g,cap,_,rfl,hbg,setRow_heap w g cur _ e _ hg,hroom,hcm,?_,?_⟩⟩,⟨rfl,rfl,rfl,by simp,fun k _ hk=>setRow_other w g k _ (fun e=>hk (by simp [Value.ownBlock,e]))⟩,fun b hb=>.inl hb⟩
   ·grind
   ·grind
  ·have holds:∀ j u,xs[j]?=some u→w.cell? ((⟨g,0,none⟩:Addr).add j)=some u:=hown.cells (g:=g) rfl;have hr:=hs.grow (some ⟨g,0,none⟩) n cap xs (run_firstCells_some w.drew i.size n _ n cap xs hown.1 (by simpa using holds)) (by omega) hsmall hbytes;have hgr:=grown cap (by omega) (Value.ownBlock (.slice (some ⟨g,0,none⟩) n cap));exact⟨_,_,hr,hgr.1,hgr.2,fun b hb=>by simp [Value.ownBlock] at hb;exact .inr hb.symm⟩
theorem zea (base:Nat) (t ty e:TypeId) (i:TypeInfo) (size:Nat) (ht:P.underlying t=some (.slice e)) (hi:P.info? e=some i)
  (v:Value) (n:Nat) (xs:List Value) (hown:w.ownsRow base e size v n xs):(Builtin.append_ #[t,t] ty #[v,.slice none 0 0]).run P w=.ok v w:=
 run_append_owned_none (P:=P) (w:=w) base t ty e i size ht hi v n xs hown
end
section
variable {P:Program} {w0:World} {K0:Bs} {σ:Sg} {g:Gh} {w:World}
def zby (σ:Sg) (sz:Nat):AV→Option (List (List PV))
 | .x (.d (.s sz' ys))=>if sz'=sz then some ys else none
 | .x (.d (.v (.slice none 0 0)))=>some []
 | .x (.o c st n)=>match lk c σ with
  | some (.chain _ sz' st' ys)=>if sz'=sz∧st'=st∧n≤ys.length then some (ys.take n) else none
  | _=>none
 | _=>none
theorem zaS (hp:Hp w0 K0 σ g w) {sz:Nat} {x:AV} {ys:List (List PV)} (h:zby σ sz x=some ys) {v:Value} (hv:VR2 σ g w x v) :
  (∀ y ∈ ys,y.length=sz)∧((ys=[]∧v=.slice none 0 0)∨∃ (a:Option Addr) (c:Nat),v=.slice a ys.length c∧(ys≠[]→a≠none)∧∃ us:List Value,us.length=ys.length * sz ∧
   (∀ (j:Nat) (u:Value),us[j]?=some u→∀ ad,a=some ad→w.cell? (ad.add j)=some u)∧(∀ u ∈ us,u.oneCell'=true) ∧
   (∀ (i:Nat) (y:List PV),ys[i]?=some y→∀ (j:Nat) (p:PV),y[j]?=some p→∃ u,us[i * sz+j]?=some u∧PR g.K w p u)):=by
 unfold zby at h;split at h
 ·rename_i sz' ys';by_cases hs:sz'=sz
  ·rw [if_pos hs] at h;cases h;subst hs;cases hv with
   | d _ _ hpr=>cases hpr with
    | s _ _ a cap b off vs hcap hmax hsz ha hK hc hr=>
     refine⟨hsz,.inr ⟨a,cap,rfl,fun hne=>by rw [ha hne];simp,(List.range (ys.length * sz')).map (fun k=>vs (k / sz') (k % sz')),by simp,?_,?_,?_⟩⟩
     ·intro j u hu ad had;have hj:j < ys.length * sz':=by have:=(List.getElem?_eq_some_iff.1 hu).1;simpa using this
      simp [hj] at hu;have hszp:0 < sz':=by
       grind
      have hi:j / sz' < ys.length:=by rw [Nat.div_lt_iff_lt_mul hszp];exact hj
      have hne:ys≠[]:=by intro e;subst e;simp at hi
      rw [ha hne] at had;cases had;have hel:=List.getElem?_eq_getElem hi;have:=hc _ _ hel (j % sz') (by rw [hsz _ (List.getElem_mem hi)];exact Nat.mod_lt _ hszp);rw [zad,← hu,← this];congr 3
      have:=Nat.div_add_mod j sz';grind
     ·intro u hu;obtain⟨k,hk,rfl⟩:=List.mem_map.1 hu;have hk':k < ys.length * sz':=by simpa using hk
      have hszp:0 < sz':=by
       grind
      have hi:k / sz' < ys.length:=by rw [Nat.div_lt_iff_lt_mul hszp];exact hk'
      have hel:=List.getElem?_eq_getElem hi;have hm:k % sz' < ys[k / sz'].length:=by rw [hsz _ (List.getElem_mem hi)];exact Nat.mod_lt _ hszp
      exact (hr _ _ hel _ _ (List.getElem?_eq_getElem hm)).one
     ·intro i y hy j p hp';have hi:i < ys.length:=(List.getElem?_eq_some_iff.1 hy).1;have hj:j < sz':=by
       grind
      have hlt:i * sz'+j < ys.length * sz':=by
       have:=Nat.mul_le_mul_right sz' hi;grind
      refine⟨vs i j,?_,hr _ _ hy _ _ hp'⟩
      simp [hlt];have hszp:0 < sz':=by omega
      have e1:(i * sz'+j) / sz'=i:=by
       rw [Nat.mul_comm,Nat.mul_add_div hszp,Nat.div_eq_of_lt hj];omega
      rw [e1,Nat.mod_eq_of_lt hj]
  ·simp_all
 ·cases h;cases zm hv;simp_all
 ·rename_i c st n;split at h
  ·rename_i e0 sz' st' xs hl;by_cases hs:sz'=sz∧st'=st∧n≤xs.length
   ·rw [if_pos hs] at h;cases h;obtain⟨rfl,rfl,hn⟩:=hs;obtain⟨vs,hown,⟨a0,cap0,hμ0,hcap0,hmax0⟩,hsz,hpr,_⟩:=hp.obs _ _ hl;refine⟨fun y hy=>hsz y (List.mem_of_mem_take hy),?_⟩
    cases hv with
    | old _ _ _ e1 sz1 st1 xs1 v hl1 hlt1 _=>rw [hl] at hl1;cases hl1;omega
    | o _ _ _ e1 sz1 xs1 a cap hl1 hn1 hμ1=>
     rw [hl] at hl1;cases hl1;have htl:(xs.take n).length=n:=by simp;omega
     have hvl:n * sz'≤vs.length:=by rw [hown.1];exact Nat.mul_le_mul_right _ hn
     refine .inr ⟨a,cap,by rw [htl],?_,vs.take (n * sz'),by rw [htl];simp;omega,?_,?_,?_⟩
     ·intro hne hnone;rcases hown.2 with ⟨hnil,hz⟩|⟨gb,cap',cur,hv',_⟩
      ·simp_all
      ·grind
     ·intro j u hu ad had;subst had;rw [List.getElem?_take] at hu;by_cases hj:j < n * sz'
      ·rw [if_pos hj] at hu;rcases hown.2 with ⟨hnil,hz⟩|⟨gb,cap',cur,hv',_⟩
       ·grind
       ·have:=hown.cells (g:=gb) (by rw [hv'];rfl) j u hu;grind
      ·simp_all
     ·intro u hu;obtain⟨k,hk,he⟩:=List.getElem_of_mem hu;have hk':k < n * sz':=by simp at hk;omega
      have hszp:0 < sz':=by
       grind
      have hi:k / sz' < n:=by rw [Nat.div_lt_iff_lt_mul hszp];exact hk'
      have hix:k / sz' < xs.length:=by omega
      have hel:=List.getElem?_eq_getElem hix;have hm:k % sz' < xs[k / sz'].length:=by rw [hsz _ (List.getElem_mem hix)];exact Nat.mod_lt _ hszp
      obtain⟨u',hu',hp'⟩:=hpr _ _ hel _ _ (List.getElem?_eq_getElem hm);have e1:k / sz' * sz'+k % sz'=k:=by rw [Nat.mul_comm];exact Nat.div_add_mod k sz'
      rw [e1] at hu';have:(vs.take (n * sz'))[k]?=some u:=by rw [List.getElem?_eq_getElem hk,he]
      rw [List.getElem?_take,if_pos hk',hu'] at this;cases this;exact hp'.one
     ·intro i y hy j p hp';rw [List.getElem?_take] at hy;by_cases hi:i < n
      ·rw [if_pos hi] at hy;obtain⟨u,hu,hpu⟩:=hpr _ _ hy _ _ hp';refine⟨u,?_,hpu⟩
       have hj:j < sz':=by
        grind
       have hlt:i * sz'+j < n * sz':=by
        have:=Nat.mul_le_mul_right sz' hi;grind
       grind
      ·simp_all
   ·simp_all
  ·cases h
 ·cases h
def srcK (σ:Sg) (sz:Nat) (src:AV) (k:List (List PV)→Prop):Prop:=
 match src with
 | .x (.o c st n)=>(match lk c σ with
  | some (.chain _ sz' st' ys)=>(sz'=sz∧st'=st∧n≤ys.length)∧k (ys.take n)
  | _=>False)
 | x=>(match zby σ sz x with|some ys=>k ys|none=>False)
theorem zpt {σ:Sg} {sz:Nat} {src:AV} {k:List (List PV)→Prop} (h:srcK σ sz src k):∃ ys,zby σ sz src=some ys∧k ys:=by
 unfold srcK at h;split at h
 ·rename_i c st n;split at h
  ·rename_i e0 sz' st' ys hl;exact⟨_,by simp [zby,hl,h.1],h.2⟩
  ·exact h.elim
 ·grind
def zjE (tt:TT) (σ:Sg) (T:TypeId) (dst src:AV) (k:AV→Sg→Prop):Prop:=
 match tt T with
 | some ⟨.sl e,_,_,_⟩=>
  (match tt e with
  | some ei=>
   srcK σ ei.size src fun ys=>
    0 < ei.size ∧
    (match dst with
    | .x (.d (.v (.slice none 0 0)))=>(ys.length≤maxLen∧ys.length * ei.bytes≤140737488355328)∧k (.x (.o (zaZ σ) 0 ys.length)) ((zaZ σ,.chain e ei.size 0 ys) :: σ)
    | .x (.o c st n)=>
     (match lk c σ with
     | some (.chain e' sz st' xs)=>(e'=e∧sz=ei.size∧st'=st)∧(n≤xs.length∧n+ys.length≤maxLen∧(n+ys.length) * ei.bytes≤140737488355328) ∧
       k (.x (.o c (st+1) (n+ys.length))) (zat c (.chain e ei.size (st+1) (xs.take n ++ ys)) σ)
     | _=>False)
    | .x (.d (.c sz xs))=>(sz=ei.size∧0 < ys.length)∧(xs.length+ys.length≤maxLen∧(xs.length+ys.length) * ei.bytes≤140737488355328)∧k (.x (.d (.s sz (xs ++ ys)))) σ
    | _=>False)
  | none=>False)
 | _=>False
theorem ze7 (hp:Hp w0 K0 σ g w) {T e:TypeId} {ei:TI} (hty:P.underlying T=some (.slice e)) (hti:ei.ok P e) (hs0:0 < ei.size) (ty:TypeId)
  {v:Value} {n:Nat} {vs:List Value} (hown:w.ownsRow 0 e ei.size v n vs) {src:AV} {ys:List (List PV)} (hsrc:zby σ ei.size src=some ys) {u:Value} (hu:VR2 σ g w src u)
  (h1:n+ys.length≤maxLen) (h2:(n+ys.length) * ei.bytes≤140737488355328) :
  ∃ (v':Value) (w':World) (us:List Value),(Builtin.append_ #[T,T] ty #[v,u]).run P w=.ok v' w'∧w'.ownsRow 0 e ei.size v' (n+ys.length) (vs ++ us)∧w.grownBy w' v.ownBlock ∧
   (∀ b,v'.ownBlock=some b→v.ownBlock=some b∨b=w.heap.size)∧us.length=ys.length * ei.size ∧
   (∀ (i:Nat) (y:List PV),ys[i]?=some y→∀ (j:Nat) (p:PV),y[j]?=some p→∃ u,us[i * ei.size+j]?=some u∧PR g.K w p u):=by
 obtain⟨info,z,i1,i2,i3,i4,i5⟩:=hti.info;have hzl:z.cells.size=ei.size:=by rw [i5];simpa using hti.zlen
 obtain⟨_,hcase⟩:=zaS hp hsrc hu;have same:ys=[]→u=.slice none 0 0→∃ (v':Value) (w':World) (us:List Value),(Builtin.append_ #[T,T] ty #[v,u]).run P w=.ok v' w'∧w'.ownsRow 0 e ei.size v' (n+ys.length) (vs ++ us)∧w.grownBy w' v.ownBlock ∧
   (∀ b,v'.ownBlock=some b→v.ownBlock=some b∨b=w.heap.size)∧us.length=ys.length * ei.size ∧
   (∀ (i:Nat) (y:List PV),ys[i]?=some y→∀ (j:Nat) (p:PV),y[j]?=some p→∃ u,us[i * ei.size+j]?=some u∧PR g.K w p u):=by
  intro hy hu';subst hy;subst hu';exact⟨v,w,[],zea w _ T ty e info ei.size hty i1 v n vs hown,by simpa using hown,⟨rfl,rfl,rfl,Nat.le_refl _,fun _ _ _=>rfl⟩,fun b hb=>.inl hb,by simp,fun i y hi=>by simp at hi⟩
 rcases hcase with ⟨hy,hu'⟩|⟨a,c,rfl,hane,us,hul,huc,hu1,hup⟩
 ·exact same hy hu'
 ·cases a with
  | none=>
   have hy:ys=[]:=by
    simp_all
   subst hy;by_cases hc:c=0
   ·simp_all
   ·-- a nil slice has no capacity: it cannot be,but nothing hangs on it
    have hrun:(Builtin.append_ #[T,T] ty #[v,.slice none 0 c]).run P w=.ok v w:=by
     obtain⟨a',cap',rfl,hcap',_⟩:=zcd w hown;cases a' with
     | none=>simp [Builtin.append_,run_underlying hty,sizeOf,typeInfo,i1,Builtin.lenOf,hcap',Builtin.firstCells]
     | some ad=>simp [Builtin.append_,run_underlying hty,sizeOf,typeInfo,i1,Builtin.lenOf,hcap',Builtin.firstCells,storeCells]
    exact⟨v,w,[],hrun,by simpa using hown,⟨rfl,rfl,rfl,Nat.le_refl _,fun _ _ _=>rfl⟩,fun b hb=>.inl hb,by simp,fun i y hi=>by simp at hi⟩
  | some ad=>
   obtain⟨v',w',hr,ho,hg,hb⟩:=zf4 (P:=P) w 0 T T ty e info z _ ei.size ei.bytes i2 i3 hzl v n vs hown ys.length us (AppR.slice w T ty e info z hty i1 i4 ad ys.length c us (by rw [hul,i2]) (fun j u hu=>huc j u hu ad rfl) hu1) h1 h2 (Nat.zero_le _);grind
theorem zct {B:Nat} {e:TypeId} {size:Nat} {v:Value} {n:Nat} {xs:List Value} (h:w.ownsRow B e size v n xs):blk v=v.ownBlock:=by
 rcases h.2 with ⟨rfl,_⟩|⟨g,cap,cur,rfl,_⟩ <;> rfl
theorem zky {sz n:Nat} {xs ys:List (List PV)} {vs us:List Value} {K:Nat→Nat→Prop} (hvl:vs.length=n * sz) (hn:n=xs.length)
  (hx:∀ (i:Nat) (x:List PV),xs[i]?=some x→∀ (j:Nat) (p:PV),x[j]?=some p→∃ v,vs[i * sz+j]?=some v∧PR K w p v)
  (hy:∀ (i:Nat) (y:List PV),ys[i]?=some y→∀ (j:Nat) (p:PV),y[j]?=some p→∃ u,us[i * sz+j]?=some u∧PR K w p u) :
  ∀ (i:Nat) (x:List PV),(xs ++ ys)[i]?=some x→∀ (j:Nat) (p:PV),x[j]?=some p→∃ v,(vs ++ us)[i * sz+j]?=some v∧PR K w p v:=by
 intro i x hi j p hp;by_cases hlt:i < xs.length
 ·grind
 ·rw [List.getElem?_append_right (by omega)] at hi;obtain⟨u,hu,hr⟩:=hy _ _ hi j p hp;refine⟨u,?_,hr⟩
  have:n * sz≤i * sz:=Nat.mul_le_mul_right _ (by omega);have e2:i * sz+j - vs.length=(i - xs.length) * sz+j:=by
   rw [hvl,hn,Nat.sub_mul];rw [hn] at this;omega
  grind
theorem znN {sz:Nat} {xs:List (List PV)} {vs:Nat→Nat→Value} (hszs:∀ e ∈ xs,e.length=sz) {i:Nat} {x:List PV} (hi:xs[i]?=some x) {j:Nat} (hj:j < x.length) :
  ((List.range (xs.length * sz)).map fun k=>vs (k / sz) (k % sz))[i * sz+j]?=some (vs i j):=by
 have hx:=hszs x (List.mem_of_getElem? hi);have hlt:i < xs.length:=(List.getElem?_eq_some_iff.1 hi).1;have hlt2:i * sz+j < xs.length * sz:=by
  have:=Nat.mul_le_mul_right sz (show i+1≤xs.length by omega);grind
 have hs0:0 < sz:=by omega
 rw [List.getElem?_map,List.getElem?_range hlt2];simp only [Option.map_some];rw [show (i * sz+j) / sz=i from by rw [Nat.mul_comm,Nat.mul_add_div hs0,Nat.div_eq_of_lt (by omega)];rfl,
  show (i * sz+j) % sz=j from by rw [Nat.mul_comm,Nat.mul_add_mod,Nat.mod_eq_of_lt (by omega)]]
set_option maxHeartbeats 1000000 in
theorem zjM (hp:Hp w0 K0 σ g w) {T e:TypeId} {ei:TI} (hty:P.underlying T=some (.slice e)) (hti:ei.ok P e) (hs0:0 < ei.size) (ty:TypeId)
  {xs:List (List PV)} {a:Option Addr} (hs:PR g.K w (.s ei.size xs) (.slice a xs.length xs.length)) {src:AV} {ys:List (List PV)} (hsrc:zby σ ei.size src=some ys) {u:Value} (hu:VR2 σ g w src u)
  (hy0:0 < ys.length) (h1:xs.length+ys.length≤maxLen) (h2:(xs.length+ys.length) * ei.bytes≤140737488355328) :
  Gives P w0 K0 σ g w (Builtin.append_ #[T,T] ty #[.slice a xs.length xs.length,u]) (.x (.d (.s ei.size (xs ++ ys)))) σ:=by
 obtain⟨hysz,hcase⟩:=zaS hp hsrc hu;rcases hcase with ⟨hy,_⟩|⟨a2,c2,rfl,hane,us,hul,huc,hu1,hup⟩
 ·simp_all
 obtain⟨ad,rfl⟩:∃ ad,a2=some ad:=Option.ne_none_iff_exists'.1 (hane (by intro e;subst e;simp at hy0));obtain⟨info,z,i1,i2,i3,i4,i5⟩:=hti.info;have hzl:z.cells.size=ei.size:=by rw [i5];simpa using hti.zlen
 cases hs with
 | s _ _ _ cap b off vs hcap hmax hszs ha hK hcell hr=>
  have hsmall:xs.length+ys.length≤9223372036854775807:=by simp only [maxLen] at h1;omega
  have key:∃ (CAP:Nat) (arr:Array Value),xs.length+ys.length≤CAP∧CAP≤maxLen ∧
    (∀ (i:Nat) (x:List PV),(xs ++ ys)[i]?=some x→∀ (j:Nat) (p:PV),x[j]?=some p→∃ v,arr[i * ei.size+j]?=some v∧PR g.K w p v) ∧
    (Builtin.append_ #[T,T] ty #[.slice a xs.length xs.length,.slice (some ad) ys.length c2]).run P w=.ok (.slice (some ⟨w.heap.size,0,none⟩) (xs.length+ys.length) CAP) (w.drew.alloc (.cells arr e)):=by
   have hge:=grownCap_ge w (xs.length+ys.length) xs.length e;have hcm:grownCap w (xs.length+ys.length) xs.length e≤maxLen:=grownCap_le_maxLen w (xs.length+ys.length) xs.length e h1;cases a with
   | none=>
    have hx:xs=[]:=by
     simp_all
    subst hx;have hrn:=run_append_nil (P:=P) w T ty e info z hty i1 i4 ad ys.length c2 us (by rw [hul,i2]) (fun j v hj=>huc j v hj ad rfl) hy0 (by have h:=hsmall;rw [List.length_nil] at h;omega) (by rw [i3];have h:=h2;rw [List.length_nil,Nat.zero_add] at h;omega);grind
   | some a1=>
    have ha':xs≠[]→a1=⟨b,off,none⟩:=fun h=>Option.some.inj (ha h)
    obtain⟨olds,hol,hoc,hog⟩:∃ olds:List Value,olds.length=xs.length * ei.size∧(∀ j u,olds[j]?=some u→w.cell? (a1.add j)=some u) ∧
      (∀ (i:Nat) (x:List PV),xs[i]?=some x→∀ (j:Nat) (p:PV),x[j]?=some p→∃ v,olds[i * ei.size+j]?=some v∧PR g.K w p v):=by
     refine⟨(List.range (xs.length * ei.size)).map fun k=>vs (k / ei.size) (k % ei.size),by rw [List.length_map,List.length_range],?_,fun i x hi j p hp'=>?_⟩
     ·intro j u hu;have hj:j < xs.length * ei.size:=by have:=(List.getElem?_eq_some_iff.1 hu).1;rw [List.length_map,List.length_range] at this;exact this
      rw [List.getElem?_map,List.getElem?_range hj] at hu;have hu:vs (j / ei.size) (j % ei.size)=u:=Option.some.inj hu;have hi:j / ei.size < xs.length:=by rw [Nat.div_lt_iff_lt_mul hs0];exact hj
      have hne:xs≠[]:=by intro e;subst e;exact absurd hi (by simp)
      rw [ha' hne];have hel:=List.getElem?_eq_getElem hi;have:=hcell _ _ hel (j % ei.size) (by rw [hszs _ (List.getElem_mem hi)];exact Nat.mod_lt _ hs0);rw [zad,← hu,← this];congr 3
      have:=Nat.div_add_mod j ei.size;grind
     ·have hj:j < x.length:=(List.getElem?_eq_some_iff.1 hp').1;exact⟨_,znN hszs hi hj,hr i x hi j p hp'⟩
    have hrn:=run_append_grow (P:=P) w T ty e info z hty i1 i4 a1 xs.length xs.length olds (by rw [hol,i2]) hoc ad ys.length c2 us (by rw [hul,i2]) (fun j v hj=>huc j v hj ad rfl) (by omega) (by omega) (by rw [i3];exact growslice_fits (by omega) h2);refine⟨_,_,hge,hcm,?_,hrn⟩
    have hdat:=zky (w:=w) (K:=g.K) (n:=xs.length) (sz:=ei.size) (xs:=xs) (ys:=ys) (vs:=olds) (us:=us) hol rfl hog hup;grind
  obtain⟨CAP,arr,hge,hcm,hget,hrun⟩:=key;let K':Nat→Nat→Prop:=fun b o=>g.K b o∨b=w.heap.size
  have hbel:Below w.heap.size w (w.drew.alloc (.cells arr e)):=((Below.refl w.heap.size w).drew).alloc (Nat.le_refl _) _;have hext:Ext g.K w K' (w.drew.alloc (.cells arr e)):=⟨fun _ _ x=>.inl x,fun b o hk=>World.cell?_of_block (w:=w) (a:=⟨b,o,none⟩) (hbel.block b (hp.val b o hk))⟩;have hd:=hp.grow (w':=w.drew.alloc (.cells arr e)) (K':=K') hbel hext (fun b o hb hk=>by
   rcases hk with hk|hk
   ·exact hk
   ·omega) (fun b o hk=>by
   rcases hk with hk|hk
   ·have:=hp.val b o hk;simp;omega
   ·subst hk;simp)
  refine⟨_,_,_,hrun,hd,?_⟩
  have hpr:=PR.s (K:=K') (w:=w.drew.alloc (.cells arr e)) ei.size (xs ++ ys) (some ⟨w.heap.size,0,none⟩) CAP w.heap.size 0 (fun i j=>arr.getD (i * ei.size+j) undef) (by rw [List.length_append];exact hge) hcm
   (fun x hx=>by
    rw [List.mem_append] at hx;rcases hx with hx|hx
    ·exact hszs x hx
    ·exact hysz x hx) (fun _=>rfl) (fun _ _ _ _ _=>.inr rfl) (fun i x hx j hj=>by
    obtain⟨u,hu,_⟩:=hget i x hx j _ (List.getElem?_eq_getElem hj);have:(w.drew.alloc (.cells arr e)).heap[w.heap.size]?=some (.cells arr e (0,0)):=heap_alloc_new w.drew _;unfold World.cell?;rw [this];simp [hu]) (fun i x hx j p hp'=>by
    obtain⟨u,hu,hpu⟩:=hget i x hx j p hp';have e2:arr.getD (i * ei.size+j) undef=u:=by simp [hu]
    rw [e2];exact hpu.mono hext)
  rw [List.length_append] at hpr;exact .d _ _ hpr
theorem ziP (hp:Hp w0 K0 σ g w) {id:Nat} (hid:lk id σ=none) {e:TypeId} {ei:TI} {v':Value} {w':World} {ys:List (List PV)} {us:List Value} {m:Sem Value} (hr:m.run P w=.ok v' w')
  (ho:w'.ownsRow 0 e ei.size v' ys.length us) (hg:w.grownBy w' (Value.slice none 0 0).ownBlock) (hb:∀ b,v'.ownBlock=some b→(Value.slice none 0 0).ownBlock=some b∨w.heap.size≤b)
  (hysz:∀ y ∈ ys,y.length=ei.size) (hup:∀ (i:Nat) (y:List PV),ys[i]?=some y→∀ (j:Nat) (p:PV),y[j]?=some p→∃ u,us[i * ei.size+j]?=some u∧PR g.K w p u) :
  Gives P w0 K0 σ g w m (.x (.o id 0 ys.length)) ((id,.chain e ei.size 0 ys) :: σ):=by
  obtain⟨a',cap',hv',hle,hmax⟩:=zcd w' ho;have hother:∀ k,k < w.heap.size→w'.heap[k]?=w.heap[k]?:=fun k hk=>hg.block k hk (by simp [Value.ownBlock])
  have hkp:Kept K0.F w w':=⟨hg.os,hg.tape,hg.output,hg.size,fun k hk=>hother k (hp.F_lt k hk)⟩;have he:Ext g.K w g.K w':=⟨fun _ _ x=>x,fun b o hk=>World.cell?_of_block (w:=w) (a:=⟨b,o,none⟩) (hother b (hp.val b o hk))⟩;have hne:∀ i,(lk i σ).isSome→i≠id:=fun i hi e=>by rw [e,hid] at hi;cases hi
  have hc:Compat σ g ((id,.chain e ei.size 0 ys) :: σ) ⟨g.K,upd g.μ (id) v'⟩:=by
   constructor
   ·intro i cs hi;have:i≠id:=hne i (by rw [hi];rfl);exact⟨zo _ _ this,cs,by rw [zr,if_neg (fun e=>this e.symm)];exact hi⟩
   ·intro i e sz st xs hi;have:i≠id:=hne i (by rw [hi];rfl);exact .inr ⟨zo _ _ this,xs,by rw [zr,if_neg (fun e=>this e.symm)];exact hi,rfl⟩
   ·intro i o hi;have:i≠id:=hne i (by rw [hi];rfl);exact⟨zo _ _ this,o,by rw [zr,if_neg (fun e=>this e.symm)];exact hi,rfl⟩
  have hkeep:∀ s u,SR σ g w s u→SR ((id,.chain e ei.size 0 ys) :: σ) ⟨g.K,upd g.μ (id) v'⟩ w' s u:=fun s u hs=>hs.keep hc he
  have hnew:∀ b,blk v'=some b→w.heap.size≤b:=fun b hb'=>by
   rw [zct ho] at hb';rcases hb b hb' with h|h
   ·simp [Value.ownBlock] at h
   ·exact h
  refine⟨v',w',⟨g.K,upd g.μ (id) v'⟩,hr,⟨⟨hp.kept.trans hkp,hp.flt,hp.ext.trans he,hp.old,fun b o hk=>Nat.lt_of_lt_of_le (hp.val b o hk) hg.size,?_,?_,?_⟩,hkeep⟩,?_⟩
  ·intro i ob hi;rw [zr] at hi;by_cases e1:id=i
   ·rw [if_pos e1] at hi;cases hi;subst e1;refine⟨us,?_,⟨a',cap',by rw [← hv'];exact zy _ _ _,hle,hmax⟩,hysz,fun i y hy j p hp'=>let ⟨u,a,b⟩:=hup i y hy j p hp';⟨u,a,b.mono he⟩,fun b hb' o hk=>?_⟩
    ·dsimp only;rw [zy];exact ho
    ·dsimp only at hb';rw [zy] at hb';have:=hnew b hb';have:=hp.val _ _ hk;omega
   ·rw [if_neg e1] at hi;have hO:=hp.obs i ob hi;exact hO.keep hkeep he (zo _ _ (fun e=>e1 e.symm)) (fun b hb'=>hother b (hO.blk_lt hb').2) (fun b hb' o=>hp.notK hi hb' o)
  ·intro i b hi hb' hF;replace hb':blk (upd g.μ (id) v' i)=some b:=hb';rw [zr] at hi;by_cases e1:id=i
   ·subst e1;rw [zy] at hb';have:=hnew b hb';have:=hp.F_lt b hF;omega
   ·rw [if_neg e1] at hi;rw [zo _ _ (fun e=>e1 e.symm)] at hb';exact hp.own i b hi hb' hF
  ·intro i j b hi hj hbi hbj;replace hbi:blk (upd g.μ (id) v' i)=some b:=hbi;replace hbj:blk (upd g.μ (id) v' j)=some b:=hbj;rw [zr] at hi hj;by_cases e1:id=i <;> by_cases e2:id=j
   ·omega
   ·subst e1;rw [if_neg e2] at hj;rw [zy] at hbi;rw [zo _ _ (fun e=>e2 e.symm)] at hbj;obtain⟨ob',hob⟩:=Option.isSome_iff_exists.1 hj;have:=(hp.obs j ob' hob).blk_lt hbj;grind
   ·subst e2;rw [if_neg e1] at hi;rw [zy] at hbj;rw [zo _ _ (fun e=>e1 e.symm)] at hbi;obtain⟨ob',hob⟩:=Option.isSome_iff_exists.1 hi;have:=(hp.obs i ob' hob).blk_lt hbi;grind
   ·rw [if_neg e1] at hi;rw [if_neg e2] at hj;rw [zo _ _ (fun e=>e1 e.symm)] at hbi;rw [zo _ _ (fun e=>e2 e.symm)] at hbj;exact hp.inj i j b hi hj hbi hbj
  ·rw [hv'];exact .o _ 0 _ e ei.size ys a' cap' (by rw [zr,if_pos rfl]) (Nat.le_refl _) (by rw [← hv'];exact zy _ _ _)
theorem zts (hp:Hp w0 K0 σ g w) {T tx ty e:TypeId} {ei:TI} {c st n:Nat} {xs ys:List (List PV)} (hl:lk c σ=some (.chain e ei.size st xs)) (hn:n≤xs.length) {u1 u2:Value} (hv1:VR2 σ g w (.x (.o c st n)) u1) (hysz:∀ y ∈ ys,y.length=ei.size)
  (hany:∀ vs:List Value,w.ownsRow 0 e ei.size u1 n vs→∃ (v':Value) (w':World) (us:List Value),(Builtin.append_ #[T,tx] ty #[u1,u2]).run P w=.ok v' w'∧w'.ownsRow 0 e ei.size v' (n+ys.length) (vs ++ us)∧w.grownBy w' u1.ownBlock ∧
   (∀ b,v'.ownBlock=some b→u1.ownBlock=some b∨b=w.heap.size)∧us.length=ys.length * ei.size ∧
   (∀ (i:Nat) (y:List PV),ys[i]?=some y→∀ (j:Nat) (p:PV),y[j]?=some p→∃ u,us[i * ei.size+j]?=some u∧PR g.K w p u)) :
  Gives P w0 K0 σ g w (Builtin.append_ #[T,tx] ty #[u1,u2]) (.x (.o c (st+1) (n+ys.length))) (zat c (.chain e ei.size (st+1) (xs.take n ++ ys)) σ):=by
 obtain⟨vs,hown,⟨a0,cap0,hμ0,hcap0,hmax0⟩,hsz,hpr,hnK⟩:=hp.obs _ _ hl;have hxl:(xs.take n).length=n:=by simp;omega
 have hown':w.ownsRow 0 e ei.size u1 n (vs.take (n * ei.size))∧u1.ownBlock=(g.μ c).ownBlock:=by
  cases hv1 with
  | old _ _ _ e1 sz1 st1 xs1 v hl1 hlt1 _=>rw [hl] at hl1;cases hl1;omega
  | o _ _ _ e1 sz1 xs1 a cap hl1 hn1 hμ1=>
   rw [hl] at hl1;cases hl1;have hle:n * ei.size≤xs.length * ei.size:=Nat.mul_le_mul_right _ hn;refine⟨⟨by rw [List.length_take,hown.1];omega,?_⟩,by rw [hμ1];cases a <;> rfl⟩
   rcases hown.2 with ⟨hnil,hz⟩|⟨gb,cap',cur,hv',hB,hg,h1,h2,h3,h4⟩
   ·simp_all
   ·grind
 obtain⟨v',w',us,hr,ho,hg,hb,hul,hup⟩:=hany _ hown'.1;obtain⟨a',cap',hv',hle,hmax⟩:=zcd w' ho;have hbμ:blk (g.μ c)=(g.μ c).ownBlock:=zct hown;have hlen2:(xs.take n ++ ys).length=n+ys.length:=by rw [List.length_append,hxl]
 have hother:∀ b,b < w.heap.size→blk (g.μ c)≠some b→w'.heap[b]?=w.heap[b]?:=fun b hb' hne=>hg.block b hb' (fun e=>hne (by rw [hbμ,← hown'.2,← e]))
 have hd:=hp.setObj c (.chain e ei.size st xs) (.chain e ei.size (st+1) (xs.take n ++ ys)) hl (w':=w') v'
  ⟨hg.os,hg.tape,hg.output,hg.size⟩ hother
  (fun b hb'=>(hb b (by rw [← zct ho];exact hb')).imp (fun h=>by rw [hbμ,← hown'.2];exact h) id)
  ⟨fun i ci hi=>by
   by_cases e:i=c
   ·simp_all
   ·exact⟨zo _ _ e,ci,by rw [zt _ _ _ _ e];exact hi⟩,
   fun i e0 sz0 st0 xs0 hi=>by
   by_cases e:i=c
   ·subst e;rw [hl] at hi;cases hi;exact .inl ⟨_,_,_,_,zab _ _ _ (by rw [hl];rfl),by omega⟩
   ·exact .inr ⟨zo _ _ e,xs0,by rw [zt _ _ _ _ e];exact hi,rfl⟩,
   fun i o hi=>by
   by_cases e:i=c
   ·simp_all
   ·exact⟨zo _ _ e,o,by rw [zt _ _ _ _ e];exact hi,rfl⟩⟩
  (fun σ' g' hσ hg' hk' he=>by
   subst hg';refine⟨vs.take (n * ei.size) ++ us,?_,⟨a',cap',?_,?_,hmax⟩,?_,?_,?_⟩
   ·dsimp only;rw [zy,hlen2];exact ho
   ·dsimp only;rw [zy,hlen2];exact hv'
   ·omega
   ·grind
   ·have hdat:=zky (w:=w) (K:=g.K) (xs:=xs.take n) (ys:=ys) (vs:=vs.take (n * ei.size)) (us:=us) hown'.1.1 hxl.symm (fun i x hi j p hp'=>by
     rw [List.getElem?_take] at hi;by_cases hlt:i < n
     ·rw [if_pos hlt] at hi;obtain⟨v,hv,hr⟩:=hpr i x hi j p hp';refine⟨v,?_,hr⟩
      have hj:j < ei.size:=by
       grind
      have hlt2:i * ei.size+j < n * ei.size:=by
       have:=Nat.mul_le_mul_right ei.size hlt;grind
      simp_all
     ·rw [if_neg hlt] at hi;cases hi) hup
    intro i x hi j p hp';obtain⟨v,hv,hr⟩:=hdat i x hi j p hp';exact⟨v,hv,hr.mono he⟩
   ·intro b hb' o hk'';dsimp only at hb';rw [zy,zct ho] at hb';rcases hb b hb' with h|h
    ·simp_all
    ·have:=hp.val _ _ hk'';omega)
 refine⟨v',w',_,hr,hd,?_⟩
 rw [hv'];refine .o c (st+1) (n+ys.length) e ei.size (xs.take n ++ ys) a' cap' (zab _ _ _ (by rw [hl];rfl)) (by rw [hlen2];exact Nat.le_refl _) ?_
 dsimp only;rw [zy,hlen2]
theorem zkU {tt:TT} (htt:tt.ok P) {T:TypeId} {dst src:AV} {k:AV→Sg→Prop} (h:zjE tt σ T dst src k) (ty:TypeId) :
  ∃ av σ',k av σ'∧(∀ (w0:World) (K0:Bs) (g:Gh) (w:World) u1 u2,Hp w0 K0 σ g w→VR2 σ g w dst u1→VR2 σ g w src u2→Gives P w0 K0 σ g w (Builtin.append_ #[T,T] ty #[u1,u2]) av σ'):=by
 unfold zjE at h;split at h
 ·rename_i e _ _ _ heq;have hty:P.underlying T=some (.slice e):=(htt _ _ heq).desc;split at h
  ·rename_i ei hei;have hti:=htt _ _ hei;replace h:=zpt h;obtain⟨ys,hys,h⟩:=h
   ·obtain⟨hs0,h⟩:=h;split at h
    ·-- onto nil
     obtain⟨⟨hb1,hb2⟩,hk⟩:=h;refine⟨_,_,hk,fun w0 K0 g w u1 u2 hp hv1 hv2=>?_⟩
     cases zm hv1;obtain⟨v',w',us,hr,ho,hg,hb,hul,hup⟩:=ze7 (ty:=ty) hp hty hti hs0 (World.ownsRow_nil w 0 e ei.size) hys hv2 (by omega) (by rw [Nat.zero_add];exact hb2);simp only [Nat.zero_add,List.nil_append] at ho;exact ziP hp (zhx σ) hr ho hg (fun b hb'=>(hb b hb').imp id fun e=>by omega) (zaS hp hys hv2).1 hup
    ·-- onto a chain
     rename_i c st n;split at h
     ·rename_i e' sz st' xs hl;obtain⟨⟨rfl,rfl,rfl⟩,⟨hn,hb1,hb2⟩,hk⟩:=h;refine⟨_,_,hk,fun w0 K0 g w u1 u2 hp hv1 hv2=>?_⟩
      exact zts hp hl hn hv1 (zaS hp hys hv2).1 fun vs ho=>ze7 (ty:=ty) hp hty hti hs0 ho hys hv2 hb1 hb2
     ·exact h.elim
    ·-- onto data without room
     rename_i sz xs;obtain⟨⟨rfl,hy0⟩,⟨hb1,hb2⟩,hk⟩:=h;refine⟨_,_,hk,fun w0 K0 g w u1 u2 hp hv1 hv2=>?_⟩
     cases hv1 with
     | d _ _ hc1=>
      cases hc1 with
      | c _ _ a hs=>exact zjM hp hty hti hs0 ty hs hys hv2 hy0 hb1 hb2
    ·exact h.elim
  ·exact h.elim
 ·exact h.elim
def ztt (tt:TT) (σ:Sg) (T T':TypeId) (dst src:AV) (k:AV→Sg→Prop):Prop:=
 match tt T,tt T',dst,src with
 | some ⟨.sl e,_,_,_⟩,some ⟨.int _,_,_,_⟩,.x (.o c st n),.x (.d (.v (.int _ m)))=>
  (match tt e,lk c σ with
  | some ei,some (.chain e' sz st' xs)=>(0 < ei.size∧e'=e∧sz=ei.size∧st'=st)∧(n≤xs.length∧0≤m∧n+m.toNat≤maxLen∧(n+m.toNat) * ei.bytes≤140737488355328) ∧
    k (.x (.o c (st+1) (n+m.toNat))) (zat c (.chain e ei.size (st+1) (xs.take n ++ List.replicate m.toNat (ei.zero.map .v))) σ)
  | _,_=>False)
 | _,_,_,_=>False
theorem ztu {tt:TT} (htt:tt.ok P) {T T':TypeId} {dst src:AV} {k:AV→Sg→Prop} (h:ztt tt σ T T' dst src k) (ty:TypeId) :
  ∃ av σ',k av σ'∧(∀ (w0:World) (K0:Bs) (g:Gh) (w:World) u1 u2,Hp w0 K0 σ g w→VR2 σ g w dst u1→VR2 σ g w src u2→Gives P w0 K0 σ g w (Builtin.append_ #[T,T'] ty #[u1,u2]) av σ'):=by
 unfold ztt at h;split at h
 ·rename_i e _ _ _ k0 _ _ _ c st n kk m heq heq';have hty:P.underlying T=some (.slice e):=(htt _ _ heq).desc;have hty':P.underlying T'=some (.int k0):=(htt _ _ heq').desc;split at h
  ·rename_i ei e' sz st' xs hei hl;have hti:=htt _ _ hei;obtain⟨⟨hs0,rfl,rfl,rfl⟩,⟨hn,h0,hb1,hb2⟩,hk⟩:=h;refine⟨_,_,hk,fun w0 K0 g w u1 u2 hp hv1 hv2=>?_⟩
   cases zm hv2;obtain⟨info,z,i1,i2,i3,i4,i5⟩:=hti.info;have hzl:z.cells.size=ei.size:=by rw [i5];simpa using hti.zlen
   have hone:=hti.one;rw [List.all_eq_true] at hone;have hb3:m.toNat * ei.bytes≤(n+m.toNat) * ei.bytes:=Nat.mul_le_mul_right _ (by omega);have hA:=AppR.zeros (P:=P) w T T' ty e' info z k0 kk hty hty' i1 i4 (by rw [hzl,i2]) (by rw [i5];simpa using hone) (by omega) m.toNat (by simp only [maxLen] at hb1;omega) (by rw [i3];omega);rw [show ((m.toNat:Nat):Int)=m by omega] at hA;have hyl:(List.replicate m.toNat (ei.zero.map PV.v)).length=m.toNat:=by simp
   have:=zts (P:=P) (tx:=T') (ty:=ty) (u2:=.int kk m) hp hl hn hv1 (ys:=List.replicate m.toNat (ei.zero.map .v)) (by intro y hy;rw [List.eq_of_mem_replicate hy];simpa using hti.zlen) (fun vs ho=>by
    obtain⟨v',w',hr,ho',hg,hb⟩:=zf4 (P:=P) w 0 T T' ty e' info z _ ei.size ei.bytes i2 i3 hzl u1 n vs ho m.toNat _ hA hb1 hb2 (Nat.zero_le _);refine⟨v',w',_,hr,by rw [hyl];exact ho',hg,hb,by rw [hyl,Array.length_toList,size_zeroCells,hzl],fun i y hy j p hp'=>?_⟩
    have hi:i < m.toNat:=by have:=(List.getElem?_eq_some_iff.1 hy).1;rw [hyl] at this;exact this
    rw [List.getElem?_replicate,if_pos hi] at hy;cases hy;rw [List.getElem?_map] at hp';cases hz:ei.zero[j]? with
    | none=>rw [hz] at hp';cases hp'
    | some u=>
     rw [hz] at hp';cases hp';have hj:j < ei.size:=by rw [← hti.zlen];exact (List.getElem?_eq_some_iff.1 hz).1
     have hlt:i * ei.size+j < m.toNat * ei.size:=by
      have:=Nat.mul_le_mul_right ei.size (show i+1≤m.toNat by omega);grind
     refine⟨u,?_,.v u (hone u (List.mem_of_getElem? hz))⟩
     have e1:(i * ei.size+j) % ei.size=j:=by rw [Nat.mul_comm,Nat.mul_add_mod,Nat.mod_eq_of_lt hj]
     have e2:z.cells[j]?=some u:=by rw [i5];simpa using hz
     obtain⟨hj2,e3⟩:=Array.getElem?_eq_some_iff.1 e2;simp [Builtin.zeroCells,hzl,hlt,e1];rw [getElem!_pos z.cells j hj2,e3])
   simp_all
  ·exact h.elim
 ·exact h.elim
end
end Go.QL
namespace Go.QL
open Go Go.RowKit
def KTis (tt:TT) (T:TypeId):KT→Prop
 | .one (.int k)=>∃ s b z,tt T=some ⟨.int k,s,b,z⟩
 | .one .str=>∃ s b z,tt T=some ⟨.str,s,b,z⟩
 | .one .bool=>False
 | .st ks=>ks≠[]∧∃ fs s b z,tt T=some ⟨.st fs ks,s,b,z⟩
 | _=>False
def ktOf (tt:TT) (T:TypeId):Option KT:=
 match tt T with
 | some ⟨.int k,_,_,_⟩=>some (.one (.int k))
 | some ⟨.str,_,_,_⟩=>some (.one .str)
 | some ⟨.st _ (k::ks),_,_,_⟩=>some (.st (k::ks))
 | _=>none
def keyV:AV→Option Value
 | .x (.d (.v v))=>some v
 | .a cs=>match ze9 cs with|some l=>some (.agg l.toArray)|none=>none
 | _=>none
theorem zjt {σ:Sg} {g:Gh} {w:World} {x:AV} {u:Value} (h:keyV x=some u) {v:Value} (hv:VR2 σ g w x v):v=u:=by
 unfold keyV at h;split at h
 ·cases h;exact zm hv
 ·split at h
  ·rename_i l hl;cases h;exact za4 hl hv
  ·cases h
 ·cases h
def vAV:Value→AV
 | .agg xs=>.a (xs.toList.map fun v=>.d (.v v))
 | v=>.x (.d (.v v))
theorem zoP {σ:Sg} {g:Gh} {w:World} {kt:KT} {v:Value} (h:kt.fits v=true):VR1 σ g w (vAV v) v:=by
 rw [← KT.fits_base] at h;generalize hk:kt.base=kt0 at h;cases kt0 with
 | oone _=>cases kt <;> cases hk
 | ost _=>cases kt <;> cases hk
 | one k=>
  cases v <;> simp only [KT.fits] at h <;> first
   | exact .d _ _ (.v _ rfl)
   | (cases k <;> cases h)
 | st ks=>
  cases v <;> simp only [KT.fits] at h <;> try cases h
  rename_i xs;refine⟨xs,rfl,by simp,fun i s u hi hu=>?_⟩
  rw [List.getElem?_map] at hi;cases hx:xs.toList[i]? with
  | none=>rw [hx] at hi;cases hi
  | some y=>
   rw [hx] at hi;cases hi;have:y=u:=by
    simp_all
   subst this;refine .d _ _ (.v _ ?_)
   have:∀ {ks:List LK} {l:List Value},zaR ks l=true→∀ (i:Nat) (y:Value),l[i]?=some y→y.oneCell'=true:=by
    intro ks;induction ks with
    | nil=>intro l hl;cases l with|nil=>intro i y hi;simp at hi|cons _ _=>cases hl
    | cons k r ih=>
     intro l hl;cases l with
     | nil=>cases hl
     | cons z l=>
      simp only [zaR,Bool.and_eq_true] at hl;intro i y hi;cases i with
      | zero=>cases hi;revert hl;cases k <;> cases z <;> simp [LK.fits,Value.oneCell']
      | succ i=>exact ih hl.2 i y hi
   exact this h i y hx
section
variable {P:Program} (w:World)
theorem zmc {tt:TT} {T:TypeId} {kt:KT} (h:ktOf tt T=some kt):KTis tt T kt:=by
 unfold ktOf at h;split at h <;> first
  | (cases h;rename_i heq;exact⟨_,_,_,heq⟩)
  | (cases h;rename_i heq;exact⟨by simp,_,_,_,_,heq⟩)
  | cases h
structure KeyT (P:Program) (T:TypeId) (kt:KT):Prop where
 check:∀ (w:World) (em:Bool) (v:Value),kt.fits v=true→(Instr.checkKey em 10000 T v).run P w=.ok () w
 find:∀ (w:World) (v:Value) (es:List MapEntry),kt.fits v=true→(∀ e ∈ es,kt.fits e.key=true) →
  (∃ (i:Nat) (e:MapEntry),es[i]?=some e∧e.key=v∧(∀ j e',es[j]?=some e'→j < i→e'.key≠v)∧(Instr.findKey T v es).run P w=.ok (some (i,e.val)) w) ∨
  ((∀ e ∈ es,e.key≠v)∧(Instr.findKey T v es).run P w=.ok none w)
theorem KeyT.unbase {P:Program} {T:TypeId} {kt:KT} (h:KeyT P T kt.base):KeyT P T kt:=
 ⟨fun w em v hv=>h.check w em v (by rw [KT.fits_base];exact hv),fun w v es hv hes=>h.find w v es (by rw [KT.fits_base];exact hv) (fun e he=>by rw [KT.fits_base];exact hes e he)⟩
theorem zgY {desc:TypeDesc} {kt:KT} {v:Value} (hv:kt.fits v=true) (hs:∀ u,kt.fits u=true→Instr.sameNow desc v u=some (zhG v u)):∀ (es:List MapEntry) (k:Nat),(∀ e ∈ es,kt.fits e.key=true) →
  (∃ (i:Nat) (e:MapEntry),es[i]?=some e∧e.key=v∧(∀ j e',es[j]?=some e'→j < i→e'.key≠v)∧Instr.findNow desc v es k=some (some (k+i,e.val))) ∨
  ((∀ e ∈ es,e.key≠v)∧Instr.findNow desc v es k=some none)
 | [],k,_=>.inr ⟨fun e he=>by simp at he,rfl⟩
 | e::es,k,h=>by
  have he:=h e (by simp);unfold Instr.findNow;rw [hs _ he];cases hq:zhG v e.key with
  | true=>
   refine .inl ⟨0,e,rfl,((zey hv he).1 hq).symm,fun j e' _ hj=>by omega,rfl⟩
  | false=>
   have hne:e.key≠v:=fun e1=>by
    have:=(zey hv he).2 e1.symm;simp_all
   rcases zgY hv hs es (k+1) (fun e he=>h e (by simp [he])) with ⟨i,e1,h1,h2,h3,h4⟩|⟨h1,h2⟩
   ·refine .inl ⟨i+1,e1,h1,h2,fun j e' hj hlt=>?_,?_⟩
    ·grind
    ·grind
   ·simp_all
theorem zew {T:TypeId} {kt:KT} {v:Value} (hv:kt.fits v=true) (hs:∀ (w:World) u,kt.fits u=true→(Op.equal T v u).run P w=.ok (zhG v u) w):∀ (es:List MapEntry) (k:Nat) (w:World),(∀ e ∈ es,kt.fits e.key=true) →
  (∃ (i:Nat) (e:MapEntry),es[i]?=some e∧e.key=v∧(∀ j e',es[j]?=some e'→j < i→e'.key≠v)∧(Instr.findAsking T v es k).run P w=.ok (some (k+i,e.val)) w) ∨
  ((∀ e ∈ es,e.key≠v)∧(Instr.findAsking T v es k).run P w=.ok none w)
 | [],k,w,_=>.inr ⟨fun e he=>by simp at he,rfl⟩
 | e::es,k,w,h=>by
  have he:=h e (by simp);cases hq:zhG v e.key with
  | true=>
   refine .inl ⟨0,e,rfl,((zey hv he).1 hq).symm,fun j e' _ hj=>by omega,?_⟩
   simp [Instr.findAsking,hs w _ he,hq]
  | false=>
   have hne:e.key≠v:=fun e1=>by
    have:=(zey hv he).2 e1.symm;simp_all
   have hrun:(Instr.findAsking T v (e::es) k).run P w=(Instr.findAsking T v es (k+1)).run P w:=by
    simp [Instr.findAsking,hs w _ he,hq]
   rcases zew hv hs es (k+1) w (fun e he=>h e (by simp [he])) with ⟨i,e1,h1,h2,h3,h4⟩|⟨h1,h2⟩
   ·refine .inl ⟨i+1,e1,h1,h2,fun j e' hj hlt=>?_,?_⟩
    ·grind
    ·grind
   ·simp_all
theorem KeyT.of {tt:TT} (htt:tt.ok P) {T:TypeId} {kt:KT} (h:KTis tt T kt):KeyT P T kt:=by
 have now:∀ {desc:TypeDesc} {k:LK},P.underlying T=some desc→LK.of desc=some k→(∀ v u,k.fits v=true→k.fits u=true→Instr.sameNow desc v u=some (zhG v u))→KeyT P T (.one k):=by
  intro desc k hu hk hs;refine⟨fun w em v hv=>zgt w hu hk 9999 em v,fun w v es hv hes=>?_⟩
  rcases zgY (desc:=desc) (kt:=.one k) hv (fun u hu'=>hs v u hv hu') es 0 hes with ⟨i,e,h1,h2,h3,h4⟩|⟨h1,h2⟩
  ·refine .inl ⟨i,e,h1,h2,h3,?_⟩
   simp [Instr.findKey,run_underlying hu,h4]
  ·refine .inr ⟨h1,?_⟩
   simp [Instr.findKey,run_underlying hu,h2]
 cases kt with
 | one k=>
  cases k with
  | int k=>
   obtain⟨s,b,z,heq⟩:=h;refine now (htt _ _ heq).desc rfl fun v u hv hu=>?_
   cases v <;> simp only [LK.fits] at hv <;> try cases hv
   cases u <;> simp only [LK.fits] at hu <;> try cases hu
   rename_i k1 n1 k2 n2;have h1:k=k1:=by simpa using hv
   have h2:k=k2:=by simpa using hu
   subst h1;subst h2;simp [Instr.sameNow,zhG,eqV]
  | str=>
   obtain⟨s,b,z,heq⟩:=h;refine now (htt _ _ heq).desc rfl fun v u hv hu=>?_
   cases v <;> simp only [LK.fits] at hv <;> try cases hv
   cases u <;> simp only [LK.fits] at hu <;> try cases hu
   simp [Instr.sameNow,zhG,eqV,beq_toListBytes]
  | bool=>exact h.elim
 | oone _=>exact h.elim
 | ost _=>exact h.elim
 | st ks=>
  obtain⟨hne,fs,s,b,z,heq⟩:=h;obtain⟨fields,hu,hmap,hek⟩:=(htt _ _ heq).desc;have hek:=hek hne;refine⟨fun w em v hv=>?_,fun w v es hv hes=>?_⟩
  ·cases v <;> simp only [KT.fits] at hv <;> try cases hv
   exact hek.chk 9900 w em _ hv
  ·have hnow:∀ e ∈ es,Instr.sameNow (.struct fields) v e.key=none:=fun e _=>by simp [Instr.sameNow]
   have hask:=zew (P:=P) (T:=T) (kt:=.st ks) hv (fun w u hu'=>by
    cases v <;> simp only [KT.fits] at hv <;> try cases hv
    cases u <;> simp only [KT.fits] at hu' <;> try cases hu'
    exact hek.run 9900 w _ _ hv hu') es 0 w hes
   have hrun:(Instr.findKey T v es).run P w=(Instr.findAsking T v es 0).run P w:=by
    cases es with
    | nil=>simp [Instr.findKey,run_underlying hu,Instr.findNow,Instr.findAsking]
    | cons e es=>simp [Instr.findKey,run_underlying hu,Instr.findNow,Instr.sameNow]
   simp_all
end
end Go.QL
namespace Go.QL
open Go Go.RowKit
section
variable {P:Program} {w0:World} {K0:Bs} {σ:Sg} {g:Gh} {w:World}
abbrev putO (w:World) (r:Nat) (o:Obj):World:={ w with heap:=w.heap.setIfInBounds r o }
theorem zlG {r:Nat} {o:Obj} (h:r < w.heap.size):(putO w r o).heap[r]?=some o:=by simp [h]
theorem zan {r k:Nat} {o:Obj} (h:k≠r):(putO w r o).heap[k]?=w.heap[k]?:=by
 grind
theorem Hp.addX (h:Hp w0 K0 σ g w) (id:Nat) (hid:lk id σ=none) (o:Ob2) (ob:Obj)
  (hO:∀ σ' g' w',(∀ s u,SR σ g w s u→SR σ' g' w' s u)→w'.heap[w.heap.size]?=some ob→O2 σ' g' w' w.heap.size o) :
  Did w0 K0 σ g w ((id,.x o) :: σ) ⟨g.K,upd g.μ id (.pointer (some ⟨w.heap.size,0,none⟩))⟩ (w.alloc ob):=by
 refine h.addObj id hid (.x o) _ _ rfl ?_
 intro σ' g' w' hσ hg hw hk;subst hg;subst hw;exact⟨w.heap.size,zy _ _ _,by simp,hO _ _ _ hk (heap_alloc_new w _),fun o hk'=>absurd (h.val _ _ hk') (Nat.lt_irrefl _)⟩
theorem zfG {id:Nat} {o:Ob2} {ob:Obj}:VR2 ((id,.x o) :: σ) ⟨g.K,upd g.μ id (.pointer (some ⟨w.heap.size,0,none⟩))⟩ (w.alloc ob) (.x (.h id)) (o.kd.val w.heap.size):=
 .h id o w.heap.size (by rw [zr,if_pos rfl]) (zy _ _ _)
theorem Hp.setX (h:Hp w0 K0 σ g w) {id:Nat} {o o':Ob2} (hid:lk id σ=some (.x o)) (hkd:o'.kd=o.kd) {b:Nat} (hμ:g.μ id=.pointer (some ⟨b,0,none⟩)) (ob:Obj)
  (hO:∀ σ' g' w',(∀ s u,SR σ g w s u→SR σ' g' w' s u)→w'.heap[b]?=some ob→O2 σ' g' w' b o') :
  Did w0 K0 σ g w (zat id (.x o') σ) ⟨g.K,upd g.μ id (.pointer (some ⟨b,0,none⟩))⟩ (putO w b ob):=by
 obtain⟨b',h1,h2,_,h4⟩:=h.obs id _ hid;rw [hμ] at h1;cases h1;refine h.setObj id (.x o) (.x o') hid _ ⟨rfl,rfl,rfl,by simp⟩ ?_ ?_ ?_ ?_
 ·intro k _ hk;exact zan (fun e=>hk (by rw [hμ,e];rfl))
 ·simp_all
 ·constructor
  ·intro i ci hi;by_cases e:i=id
   ·simp_all
   ·exact⟨zo _ _ e,ci,by rw [zt _ _ _ _ e];exact hi⟩
  ·intro i e0 sz st xs hi;by_cases e:i=id
   ·simp_all
   ·exact .inr ⟨zo _ _ e,xs,by rw [zt _ _ _ _ e];exact hi,rfl⟩
  ·intro i oi hi;by_cases e:i=id
   ·subst e;rw [hid] at hi;cases hi;exact⟨by rw [hμ];exact zy _ _ _,o',zab _ _ _ (by rw [hid];rfl),hkd⟩
   ·exact⟨zo _ _ e,oi,by rw [zt _ _ _ _ e];exact hi,rfl⟩
 ·intro σ' g' hσ hg hk _;subst hg;exact⟨b,zy _ _ _,by simp;exact h2,hO _ _ _ hk (zlG h2),h4⟩
theorem zbG {b:Nat} {o:Obj} (h:w.heap[b]?=some o) (hc:∀ c e f,o≠.cells c e f):(getObj b).run P w=.ok o w:=by
 unfold getObj;simp only [Sem.run,h]
theorem zhm {b:Nat} {o o':Obj} (h:w.heap[b]?=some o) (hc:∀ c e f,o≠.cells c e f):(setObj b o').run P w=.ok () (putO w b o'):=by
 unfold setObj;simp only [Sem.run,h]
def ziC:AV→Bool
 | .x _|.a _=>true
 | _=>false
def zhz (tt:TT) (σ:Sg) (id:Nat) (T:TypeId) (r:Option AV) (k:AV→Sg→Prop):Prop:=
 match r,tt T with
 | none,some ⟨.mp kT _,_,_,_⟩=>(match ktOf tt kT with
  | some kt=>k (.x (.h id)) ((id,.x (.map kt [])) :: σ)
  | none=>False)
 | _,_=>False
theorem zjx {tt:TT} {id:Nat} (hid:lk id σ=none) {T:TypeId} {r:Option AV} {k:AV→Sg→Prop} (h:zhz tt σ id T r k) :
  r=none∧∃ av σ',k av σ'∧∀ (w0:World) (K0:Bs) (g:Gh) (w:World),Hp w0 K0 σ g w→Gives P w0 K0 σ g w (Instr.makeMap T none) av σ':=by
 unfold zhz at h;split at h
 ·split at h
  ·rename_i kt _;refine⟨rfl,_,_,h,fun w0 K0 g w hp=>?_⟩
   have hd:=hp.addX id hid (.map kt []) (.map #[] 0) (fun σ' g' w' _ hw=>⟨#[],hw,rfl,fun i k x hi=>by simp at hi,fun i k x hi=>by simp at hi,fun i j k x y hi=>by simp at hi,fun i k x hi=>by simp at hi⟩);exact⟨.map (some w.heap.size),_,_,by simp [Instr.makeMap],hd,zfG⟩
  ·exact h.elim
 ·exact h.elim
def ziY (z:AV) (kvs:List (Value × AV)) (key:Value) (x:AV) (b:Bool):Prop:=
 (b=true∧∃ i:Nat,kvs[i]?=some (key,x))∨(b=false∧x=z∧∀ (i:Nat) (y:AV),kvs[i]?≠some (key,y))
def zk7 (ti:TI):Option AV:=bif ti.d.agg then some (.a (ti.zero.map fun v=>.d (.v v))) else (match ti.zero with|[v]=>some (.x (.d (.v v)))|_=>none)
theorem zhM {tt:TT} (htt:tt.ok P) {T:TypeId} {ti:TI} (h:tt T=some ti) {x:AV} (hx:zk7 ti=some x) (w:World):ziC x=true∧∃ z,(zeroValue T).run P w=.ok z w∧∀ σ g w',VR1 σ g w' x z:=by
 have hti:=htt _ _ h;obtain⟨info,z,i1,i2,i3,i4,i5⟩:=hti.info;have hzo:=hti.zagg info z i1 i4;have hone:=hti.one;rw [List.all_eq_true] at hone;have hrun:(zeroValue T).run P w=.ok z w:=by simp [zeroValue,typeInfo,i1,i4]
 unfold zk7 at hx;cases hd:ti.d.agg with
 | true=>
  rw [hd] at hx;cases hx;refine⟨rfl,z,hrun,fun σ g w'=>?_⟩
  cases z with
  | agg cs=>
   have e:cs=ti.zero.toArray:=i5;subst e;refine⟨_,rfl,by simp,fun i s u hi hu=>?_⟩
   rw [List.getElem?_map] at hi;cases hz:ti.zero[i]? with
   | none=>rw [hz] at hi;cases hi
   | some v=>
    rw [hz] at hi;cases hi;have:u=v:=by simp [hz] at hu;exact hu.symm
    subst this;exact .d _ _ (.v _ (hone _ (List.mem_of_getElem? hz)))
  | tuple _=>simp [zOk] at hzo
  | _=>simp [zOk,hd] at hzo
 | false=>
  rw [hd] at hx;simp only [cond_false] at hx;split at hx
  ·rename_i v hv;cases hx;refine⟨rfl,z,hrun,fun σ g w'=>?_⟩
   have hzv:z=v:=by
    rw [hv] at i5;cases z <;> simp [zOk,hd] at hzo <;> simp [Value.cells] at i5 <;> exact i5
   subst hzv;exact .d _ _ (.v _ (hone _ (by rw [hv];simp)))
  ·cases hx
def zjA (tt:TT) (σ:Sg) (T:TypeId) (u key:AV) (ok:Bool) (k:AV→Prop):Prop:=
 match tt T,keyV key with
 | some ⟨.mp kT eT,_,_,_⟩,some kv=>
  (match tt eT,ktOf tt kT with
  | some ei,some kt=>
   (match zk7 ei with
   | some z=>
    (match u with
    | .x (.h id)=>(match lk id σ with
     | some (.x (.map kt' kvs))=>kt'.base=kt∧kt.fits kv=true∧∃ x b,ziY z kvs kv x b∧ziC x=true∧(bif ok then k (.t [x,bv b]) else k x)
     | _=>False)
    | .x (.d (.v (.map none)))=>kt.fits kv=true∧(bif ok then k (.t [z,bv false]) else k z)
    | _=>False)
   | none=>False)
  | _,_=>False)
 | _,_=>False
theorem zkb {kt:KT} {T:TypeId} (hK:KeyT P T kt) {kvs:List (Value × AV)} {b:Nat} (hO:O2 σ g w b (.map kt kvs)) {kv:Value} (hkv:kt.fits kv=true) (w':World) :
  ∃ es:Array MapEntry,w.heap[b]?=some (.map es es.size)∧es.size=kvs.length ∧
   ((∃ (i:Nat) (x:AV) (e:MapEntry),kvs[i]?=some (kv,x)∧es[i]?=some e∧e.key=kv∧VR1 σ g w x e.val∧(Instr.findKey T kv es.toList).run P w'=.ok (some (i,e.val)) w') ∨
    ((∀ (i:Nat) (y:AV),kvs[i]?≠some (kv,y))∧(Instr.findKey T kv es.toList).run P w'=.ok none w')):=by
 obtain⟨es,h1,h2,h3,h4,h5,_⟩:=hO;refine⟨es,h1,h2,?_⟩
 have hget:∀ (i:Nat) (e:MapEntry),es.toList[i]?=some e→∃ x,kvs[i]?=some (e.key,x)∧VR1 σ g w x e.val:=by
  intro i e hi;have hi':es[i]?=some e:=by simpa using hi
  have hlt:i < kvs.length:=by rw [← h2];exact (Array.getElem?_eq_some_iff.1 hi').1
  rcases hp:kvs[i]'hlt with ⟨k,x⟩
  have hk:kvs[i]?=some (k,x):=by rw [List.getElem?_eq_getElem hlt,hp]
  grind
 rcases hK.find w' kv es.toList hkv (fun e he=>by
  obtain⟨i,hi,he'⟩:=List.getElem_of_mem he;obtain⟨x,hx,_⟩:=hget i e (by rw [List.getElem?_eq_getElem hi,he']);exact h4 i e.key x hx) with ⟨i,e,a1,a2,a3,a4⟩|⟨a1,a2⟩
 ·grind
 ·grind
theorem zkR {tt:TT} (htt:tt.ok P) {T:TypeId} {u key:AV} {ok:Bool} {k:AV→Prop} (h:zjA tt σ T u key ok k) :
  ∃ av,k av∧∀ (w0:World) (K0:Bs) (g:Gh) (w:World) u1 u2,Hp w0 K0 σ g w→VR2 σ g w u u1→VR2 σ g w key u2→∃ v,(Instr.lookup T u1 u2 ok).run P w=.ok v w∧VR2 σ g w av v:=by
 unfold zjA at h;split at h
 ·rename_i kT eT _ _ _ kv heq hkv;have hty:P.underlying T=some (.map kT eT):=(htt _ _ heq).desc;split at h
  ·rename_i ei kt hei hkt;have hK:=KeyT.of (P:=P) htt (zmc hkt);split at h
   ·rename_i z hz;split at h
    ·rename_i id;split at h
     ·rename_i kt' kvs hl;obtain⟨rfl,hfit,x,b,hlook,hfx,hk⟩:=h;have hK:=hK.unbase;rw [KT.fits_base] at hfit;have fin:∃ av,k av∧av=(bif ok then .t [x,bv b] else x):=by cases ok <;> exact⟨_,hk,rfl⟩
      obtain⟨av,hk,hav⟩:=fin;refine⟨av,hk,fun w0 K0 g w u1 u2 hp h1 h2=>?_⟩
      have:=zjt hkv h2;subst this;have h1:SR σ g w (.h id) u1:=h1;cases h1 with
      | h _ o kb hl' hμ=>
       rw [hl] at hl';cases hl';obtain⟨b',m1,_,m3,_⟩:=hp.obs id _ hl;rw [hμ] at m1;cases m1;obtain⟨es,e1,e2,hcase⟩:=zkb (P:=P) (T:=kT) hK m3 hfit w;have hget:=zbG (P:=P) e1 (fun c e f hh=>by cases hh);obtain⟨hzf,zv,hzr,hzv⟩:=zhM htt hei hz w;have hchk:=hK.check w es.isEmpty u2 hfit;have hrun:∀ (v:Value) (bb:Bool),(∃ r,(Instr.findKey kT u2 es.toList).run P w=.ok r w∧((∃ i,r=some (i,v)∧bb=true)∨(r=none∧bb=false∧v=zv))) →
         (Instr.lookup T (.map (some kb)) u2 ok).run P w=.ok (if ok=true then .tuple #[v,.bool bb] else v) w:=by
        rintro v bb ⟨r,hr,hc⟩;simp only [Instr.lookup,Sem.run_bind,run_underlying hty,Result.andThen_ok,hget,Sem.run_pure,hchk,hr];rcases hc with ⟨i,rfl,rfl⟩|⟨rfl,rfl,rfl⟩
        ·simp
        ·simp [hzr]
       have vr:∀ (v:Value),VR1 σ g w x v→VR2 σ g w av (if ok=true then .tuple #[v,.bool b] else v):=by
        intro v hv;cases ok with
        | true=>
         rw [hav];refine⟨#[v,.bool b],rfl,rfl,fun i y q hi hq=>?_⟩
         match i with
         | 0=>cases hi;cases hq;exact hv
         | 1=>cases hi;cases hq;exact .d _ _ (.v _ rfl)
         | i+2=>simp at hi
        | false=>
         rw [hav];show VR2 σ g w x v
         cases x with
         | x _=>exact hv
         | a _=>exact hv
         | t _=>cases hfx
         | g _ _=>cases hfx
       rcases hcase with ⟨i,x',e,c1,c2,c3,c4,c5⟩|⟨c1,c2⟩
       ·rcases hlook with ⟨rfl,i',hi'⟩|⟨rfl,_,hno⟩
        ·have:i=i':=by obtain⟨_,_,_,_,_,hd,_⟩:=m3;exact hd i i' u2 x' x c1 hi'
         subst this;rw [c1] at hi';cases hi';exact⟨_,hrun e.val true ⟨_,c5,.inl ⟨i,rfl,rfl⟩⟩,vr _ c4⟩
        ·simp_all
       ·rcases hlook with ⟨rfl,i',hi'⟩|⟨rfl,rfl,hno⟩
        ·simp_all
        ·exact⟨_,hrun zv false ⟨_,c2,.inr ⟨rfl,rfl,rfl⟩⟩,vr _ (hzv _ _ _)⟩
     ·exact h.elim
    ·obtain⟨hfit,hk⟩:=h;have fin:∃ av,k av∧av=(bif ok then .t [z,bv false] else z):=by cases ok <;> exact⟨_,hk,rfl⟩
     obtain⟨av,hk,hav⟩:=fin;refine⟨av,hk,fun w0 K0 g w u1 u2 hp h1 h2=>?_⟩
     have:=zjt hkv h2;subst this;cases zm h1;obtain⟨hzf,zv,hzr,hzv⟩:=zhM htt hei hz w;have hchk:=hK.check w true u2 hfit;have hfind:(Instr.findKey kT u2 []).run P w=.ok none w:=by
      rcases hK.find w u2 [] hfit (fun e he=>by simp at he) with ⟨i,e,a1,_⟩|⟨_,a2⟩
      ·simp at a1
      ·exact a2
     refine⟨if ok=true then .tuple #[zv,.bool false] else zv,?_,?_⟩
     ·simp [Instr.lookup,run_underlying hty,hchk,hfind,hzr]
     ·cases ok with
      | true=>
       rw [hav];refine⟨#[zv,.bool false],rfl,rfl,fun i y q hi hq=>?_⟩
       match i with
       | 0=>cases hi;cases hq;exact hzv _ _ _
       | 1=>cases hi;cases hq;exact .d _ _ (.v _ rfl)
       | i+2=>simp at hi
      | false=>
       rw [hav];have:=hzv σ g w;show VR2 σ g w z zv
       cases z with
       | x _=>exact this
       | a _=>exact this
       | t _=>cases hzf
       | g _ _=>cases hzf
    ·exact h.elim
   ·exact h.elim
  ·exact h.elim
 ·exact h.elim
end
end Go.QL
namespace Go.QL
open Go Go.RowKit
section
variable {P:Program} {w0:World} {K0:Bs} {σ:Sg} {g:Gh} {w:World}
def zk5 (kvs:List (Value × AV)) (key:Value) (x:AV) (kvs':List (Value × AV)):Prop:=
 (∃ (i:Nat) (y:AV),kvs[i]?=some (key,y)∧kvs'=kvs.set i (key,x))∨((∀ (i:Nat) (y:AV),kvs[i]?≠some (key,y))∧kvs'=kvs ++ [(key,x)])
def fnD:AV→AV
 | .x (.f fn [] [])=>.x (.d (.v (.func fn #[] #[])))
 | x=>x
theorem fnD_ok {x:AV} {v:Value} (h:VR2 σ g w x v):VR2 σ g w (fnD x) v:=by
 unfold fnD;split
 ·cases h with
  | f _ _ _ v1 v2 h1 h2 r1 r2=>
   obtain rfl:v1 = #[]:=Array.eq_empty_of_size_eq_zero h1;obtain rfl:v2 = #[]:=Array.eq_empty_of_size_eq_zero h2;exact .d _ _ (.v _ rfl)
 ·exact h
def zdr (tt:TT) (σ:Sg) (T:TypeId) (u key x:AV) (k:Sg→Prop):Prop:=
 match tt T,keyV key with
 | some ⟨.mp kT _,_,_,_⟩,some kv=>
  (match ktOf tt kT with
  | some kt=>
   (match u with
   | .x (.h id)=>(match lk id σ with
    | some (.x (.map kt' kvs))=>kt'.base=kt∧kt.fits kv=true∧kt'.holds x=true∧∃ kvs',zk5 kvs kv x kvs'∧k (zat id (.x (.map kt' kvs')) σ)
    | _=>False)
   | _=>False)
  | none=>False)
 | _,_=>False
theorem zhl {kt:KT} {v:Value} (h:kt.fits v=true):Instr.sameBits 10000 v v=true:=by
 rw [← KT.fits_base] at h;generalize hk:kt.base=kt0 at h;cases kt0 with
 | oone _=>cases kt <;> cases hk
 | ost _=>cases kt <;> cases hk
 | one k=>
  cases v <;> simp only [KT.fits] at h <;> first
   | (simp [Instr.sameBits];done)
   | (simp [Instr.sameBits,beq_toListBytes];done)
   | (cases k <;> cases h)
 | st ks=>
  cases v <;> simp only [KT.fits] at h <;> try cases h
  rename_i xs;have key:∀ {ks:List LK} {l:List Value},zaR ks l=true→(l.zip l).all (fun (x,y)=>Instr.sameBits 9999 x y)=true:=by
   intro ks;induction ks with
   | nil=>intro l hl;cases l with|nil=>rfl|cons _ _=>cases hl
   | cons k r ih=>
    intro l hl;cases l with
    | nil=>cases hl
    | cons z l=>
     simp only [zaR,Bool.and_eq_true] at hl;simp only [List.zip_cons_cons,List.all_cons,Bool.and_eq_true];refine⟨?_,ih hl.2⟩
     have:=hl.1;cases k <;> cases z <;> simp [LK.fits] at this <;> simp [Instr.sameBits,beq_toListBytes]
  have:Instr.sameBits 10000 (.agg xs) (.agg xs)=(xs.size == xs.size && (xs.toList.zip xs.toList).all fun (x,y)=>Instr.sameBits 9999 x y):=rfl;grind
theorem zep {tt:TT} (htt:tt.ok P) {T:TypeId} {u key x:AV} {k:Sg→Prop} (h:zdr tt σ T u key x k) :
  ∃ σ',k σ'∧∀ (w0:World) (K0:Bs) (g:Gh) (w:World) u1 u2 u3,Hp w0 K0 σ g w→VR2 σ g w u u1→VR2 σ g w key u2→VR2 σ g w x u3 →
   ∃ w' g',(Instr.mapUpdate T u1 u2 u3).run P w=.ok () w'∧Did w0 K0 σ g w σ' g' w':=by
 unfold zdr at h;split at h
 ·rename_i kT eT _ _ _ kv heq hkv;have hty:P.underlying T=some (.map kT eT):=(htt _ _ heq).desc;split at h
  ·rename_i kt hkt;have hK:=KeyT.of (P:=P) htt (zmc hkt);split at h
   ·rename_i id;split at h
    ·rename_i kt' kvs hl;obtain⟨rfl,hfit,hfx,kvs',hup,hk⟩:=h;have hK:=hK.unbase;rw [KT.fits_base] at hfit;refine⟨_,hk,fun w0 K0 g w u1 u2 u3 hp h1 h2 h3=>?_⟩
     have:=zjt hkv h2;subst this;have h1:SR σ g w (.h id) u1:=h1;have hx1:VR1 σ g w x u3:=by
      cases x with
      | x _=>exact h3
      | a _=>exact h3
      | t _=>cases kt' <;> cases hfx
      | g _ _=>cases kt' <;> cases hfx
     cases h1 with
     | h _ o kb hl' hμ=>
      rw [hl] at hl';cases hl';obtain⟨b',m1,m2,m3,_⟩:=hp.obs id _ hl;rw [hμ] at m1;cases m1;obtain⟨es,e1,e2,hcase⟩:=zkb (P:=P) (T:=kT) hK m3 hfit w;obtain⟨es',f1,f2,f3,f4,f5,f6⟩:=m3;rw [e1] at f1;cases f1;have hget:=zbG (P:=P) e1 (fun c e f hh=>by cases hh);have hset:=fun o'=>zhm (P:=P) (o':=o') e1 (fun c e f hh=>by cases hh)
      have hchk:=hK.check w false u2 hfit;rcases hcase with ⟨i,y,e,c1,c2,c3,c4,c5⟩|⟨c1,c2⟩
      ·have hkvs':kvs'=kvs.set i (u2,x):=by
        rcases hup with ⟨i',y',hi',he⟩|⟨hno,_⟩
        ·grind
        ·simp_all
       subst hkvs';have hlt:i < kvs.length:=(List.getElem?_eq_some_iff.1 c1).1;refine⟨_,_,?_,hp.setX (o':=.map kt' (kvs.set i (u2,x))) hl rfl hμ (.map (es.modify i fun e=>{ e with key:=u2,val:=u3 }) es.size) (fun σ' g' w' hk' hw'=>?_)⟩
       ·have hstay:(Instr.keyThatStays (((es[i]?).map (·.key)).getD u2) u2).run P w=.ok u2 w:=by
         rw [c2];simp only [Option.map_some,Option.getD_some,c3];unfold Instr.keyThatStays;rw [if_pos (zhl hfit)];rfl
        simp only [Kd.val,Ob2.kd,Instr.mapUpdate,Sem.run_bind,run_underlying hty,Result.andThen_ok,hget,hchk,c5,hstay,hset]
       ·refine⟨es.modify i fun e=>{ e with key:=u2,val:=u3 },by rw [hw'];simp,by simp [e2],fun j k0 x0 hj=>?_,fun j k0 x0 hj=>?_,fun j j' k0 x0 y0 hj hj'=>?_,fun j k0 x0 hj=>?_⟩
        ·rw [List.getElem?_set] at hj;by_cases hij:i=j
         ·subst hij;rw [if_pos rfl,if_pos hlt] at hj;cases hj;have hb:e.born=i:=by
           grind
          exact⟨{ e with key:=u2,val:=u3 },by rw [Array.getElem?_modify,if_pos rfl,c2];rfl,rfl,hb,hx1.keep hk'⟩
         ·rw [if_neg hij] at hj;obtain⟨e',a,c,d,f⟩:=f3 j k0 x0 hj;exact⟨e',by rw [Array.getElem?_modify,if_neg hij];exact a,c,d,f.keep hk'⟩
        ·grind
        ·grind
        ·grind
      ·have hkvs':kvs'=kvs ++ [(u2,x)]:=by
        rcases hup with ⟨i',y',hi',he⟩|⟨_,he⟩
        ·simp_all
        ·exact he
       subst hkvs';refine⟨_,_,?_,hp.setX (o':=.map kt' (kvs ++ [(u2,x)])) hl rfl hμ (.map (es.push { key:=u2,val:=u3,born:=es.size }) (es.size+1)) (fun σ' g' w' hk' hw'=>?_)⟩
       ·simp only [Kd.val,Ob2.kd,Instr.mapUpdate,Sem.run_bind,run_underlying hty,Result.andThen_ok,hget,hchk,c2,hset]
       ·have hlast:∀ (j:Nat) (k0:Value) (x0:AV),(kvs ++ [(u2,x)])[j]?=some (k0,x0)→(kvs[j]?=some (k0,x0))∨(j=kvs.length∧k0=u2∧x0=x):=by
         intro j k0 x0 hj;by_cases hjl:j < kvs.length
         ·grind
         ·grind
        refine⟨es.push { key:=u2,val:=u3,born:=es.size },by rw [hw'];simp,by simp [e2],fun j k0 x0 hj=>?_,fun j k0 x0 hj=>?_,fun j j' k0 x0 y0 hj hj'=>?_,fun j k0 x0 hj=>?_⟩
        ·rcases hlast j k0 x0 hj with hj|⟨rfl,rfl,rfl⟩
         ·obtain⟨e',a,c,d,f⟩:=f3 j k0 x0 hj;have:=(Array.getElem?_eq_some_iff.1 a).1;exact⟨e',by rw [Array.getElem?_push,if_neg (by omega)];exact a,c,d,f.keep hk'⟩
         ·exact⟨{ key:=k0,val:=u3,born:=es.size },by rw [← e2];simp,rfl,e2,hx1.keep hk'⟩
        ·grind
        ·grind
        ·grind
    ·exact h.elim
   ·exact h.elim
  ·exact h.elim
 ·exact h.elim
def zmg (tt:TT) (σ:Sg) (id:Nat) (T:TypeId) (u:AV) (k:AV→Sg→Prop):Prop:=
 match tt T,u with
 | some ⟨.mp _ _,_,_,_⟩,.x (.h m)=>(match lk m σ with
  | some (.x (.map _ kvs))=>k (.x (.h id)) ((id,.x (.mapIter (some m) kvs.length [] kvs.length)) :: σ)
  | _=>False)
 | some ⟨.mp _ _,_,_,_⟩,.x (.d (.v (.map none)))=>k (.x (.h id)) ((id,.x (.mapIter none 0 [] 0)) :: σ)
 | some ⟨.str,_,_,_⟩,.x (.d (.v (.string s)))=>k (.x (.h id)) ((id,.x (.strIter s 0)) :: σ)
 | _,_=>False
theorem zmf {tt:TT} (htt:tt.ok P) {id:Nat} (hid:lk id σ=none) {T:TypeId} {u:AV} {k:AV→Sg→Prop} (h:zmg tt σ id T u k) :
  ∃ av σ',k av σ'∧∀ (w0:World) (K0:Bs) (g:Gh) (w:World) u1,Hp w0 K0 σ g w→VR2 σ g w u u1→Gives P w0 K0 σ g w (Instr.range T u1) av σ':=by
 unfold zmg at h;split at h
 ·rename_i kT eT _ _ _ m heq;have hty:P.underlying T=some (.map kT eT):=(htt _ _ heq).desc;split at h
  ·rename_i kt kvs hl;refine⟨_,_,h,fun w0 K0 g w u1 hp h1=>?_⟩
   have h1:SR σ g w (.h m) u1:=h1;cases h1 with
   | h _ o kb hl' hμ=>
    rw [hl] at hl';cases hl';obtain⟨b',m1,m2,m3,_⟩:=hp.obs m _ hl;rw [hμ] at m1;cases m1;obtain⟨es,e1,e2,_⟩:=m3;have hget:=zbG (P:=P) e1 (fun c e f hh=>by cases hh);have hd:=hp.addX id hid (.mapIter (some m) kvs.length [] kvs.length) (.mapIter (some kb) es.size #[] es.size) (fun σ' g' w' hk' hw'=>
     ⟨kb,by rw [hw',e2],hk' _ _ (SR.h m _ kb hl hμ)⟩)
    exact⟨.pointer (some ⟨w.heap.size,0,none⟩),_,_,by simp [Instr.range,run_underlying hty,Kd.val,Ob2.kd,hget],hd,zfG⟩
  ·exact h.elim
 ·rename_i kT eT _ _ _ heq;have hty:P.underlying T=some (.map kT eT):=(htt _ _ heq).desc;refine⟨_,_,h,fun w0 K0 g w u1 hp h1=>?_⟩
  cases zm h1;have hd:=hp.addX id hid (.mapIter none 0 [] 0) (.mapIter none 0 #[] 0) (fun σ' g' w' hk' hw'=>hw');exact⟨.pointer (some ⟨w.heap.size,0,none⟩),_,_,by simp [Instr.range,run_underlying hty],hd,zfG⟩
 ·rename_i s heq;have hty:P.underlying T=some .string:=(htt _ _ heq).desc;refine⟨_,_,h,fun w0 K0 g w u1 hp h1=>?_⟩
  cases zm h1;have hd:=hp.addX id hid (.strIter s 0) (.stringIter s 0) (fun σ' g' w' hk' hw'=>hw');exact⟨.pointer (some ⟨w.heap.size,0,none⟩),_,_,by simp [Instr.range,run_underlying hty],hd,zfG⟩
 ·exact h.elim
def KT.put (kt:KT) (x:AV):KT:=bif zkZ x then kt else kt.own
theorem KT.fits_put (kt:KT) (x:AV) (v:Value):(kt.put x).fits v=kt.fits v:=by
 unfold KT.put;cases zkZ x
 ·exact KT.fits_own kt v
 ·rfl
theorem holds_own {kt:KT} {y:AV} (h:ownAV y=true):kt.own.holds y=true:=by cases kt <;> exact h
theorem ownAV_dat {y:AV} (h:zkZ y=true):ownAV y=true:=by
 unfold ownAV;split
 ·rfl
 ·exact h
theorem holds_ownAV {kt:KT} {y:AV} (h:kt.holds y=true):ownAV y=true:=by
 cases kt with
 | one _=>exact ownAV_dat h
 | st _=>exact ownAV_dat h
 | oone _=>exact h
 | ost _=>exact h
theorem holds_of {kt:KT} {y:AV} (h:zkZ y=true):kt.holds y=true:=by
 cases kt with
 | one _=>exact h
 | st _=>exact h
 | oone _=>exact ownAV_dat h
 | ost _=>exact ownAV_dat h
theorem holds_put {kt:KT} {x y:AV} (h:kt.holds y=true):(kt.put x).holds y=true:=by
 unfold KT.put;cases zkZ x
 ·exact holds_own (holds_ownAV h)
 ·exact h
theorem holds_put_self {kt:KT} {x:AV} (h:ownAV x=true):(kt.put x).holds x=true:=by
 unfold KT.put;cases hd:zkZ x
 ·exact holds_own h
 ·exact holds_of hd
def kSlot (tt:TT) (σ:Sg) (T:TypeId) (u key:AV) (k:AV→Sg→Prop):Prop:=
 match tt T,keyV key with
 | some ⟨.mp kT eT,_,_,_⟩,some kv=>
  (match tt eT,ktOf tt kT with
  | some ei,some kt=>
   (match zk7 ei with
   | some z=>
    (match u with
    | .x (.h id)=>(match lk id σ with
     | some (.x (.map kt' kvs))=>kt'.base=kt∧kt.fits kv=true∧zkZ z=true ∧
      ((∃ (i:Nat) (x:AV),kvs[i]?=some (kv,x)∧ziC x=true∧k (.t [x,iv .i64 i]) (zat id (.x (.map kt' kvs)) σ)) ∨
       ((∀ (i:Nat) (y:AV),kvs[i]?≠some (kv,y))∧k (.t [z,iv .i64 kvs.length]) (zat id (.x (.map kt' (kvs ++ [(kv,z)]))) σ)))
     | _=>False)
    | _=>False)
   | none=>False)
  | _,_=>False)
 | _,_=>False
theorem vr_pair {σ:Sg} {g:Gh} {w:World} {x:AV} {v:Value} (hv:VR1 σ g w x v) (n:Nat):VR2 σ g w (.t [x,iv .i64 n]) (.tuple #[v,.int .i64 n]):=by
 refine⟨#[v,.int .i64 n],rfl,rfl,fun i y q hi hq=>?_⟩
 match i with
 | 0=>cases hi;cases hq;exact hv
 | 1=>cases hi;cases hq;exact .d _ _ (.v _ rfl)
 | i+2=>simp at hi
theorem kSlot_ok {tt:TT} (htt:tt.ok P) {T:TypeId} {u key:AV} {k:AV→Sg→Prop} (h:kSlot tt σ T u key k) :
  ∃ av σ',k av σ'∧∀ (w0:World) (K0:Bs) (g:Gh) (w:World) u1 u2,Hp w0 K0 σ g w→VR2 σ g w u u1→VR2 σ g w key u2→Gives P w0 K0 σ g w (Instr.mapEntry T u1 u2) av σ':=by
 unfold kSlot at h;split at h
 ·rename_i kT eT _ _ _ kv heq hkv;have hty:P.underlying T=some (.map kT eT):=(htt _ _ heq).desc;split at h
  ·rename_i ei kt hei hkt;have hK:=KeyT.of (P:=P) htt (zmc hkt);split at h
   ·rename_i z hz;split at h
    ·rename_i id;split at h
     ·rename_i kt' kvs hl;obtain⟨rfl,hfit,hdz,hcase⟩:=h;have hK:=hK.unbase;rw [KT.fits_base] at hfit;rcases hcase with ⟨i,x,hix,hfx,hk⟩|⟨hno,hk⟩
      ·refine⟨_,_,hk,fun w0 K0 g w u1 u2 hp h1 h2=>?_⟩
       have:=zjt hkv h2;subst this;have h1:SR σ g w (.h id) u1:=h1;cases h1 with
       | h _ o kb hl' hμ=>
        rw [hl] at hl';cases hl';obtain⟨b',m1,m2,m3,_⟩:=hp.obs id _ hl;rw [hμ] at m1;cases m1;obtain⟨es,e1,e2,hcase⟩:=zkb (P:=P) (T:=kT) hK m3 hfit w;obtain⟨es',f1,f2,f3,f4,f5,f6⟩:=m3;rw [e1] at f1;cases f1;have hget:=zbG (P:=P) e1 (fun c e f hh=>by cases hh);have hset:=fun o'=>zhm (P:=P) (o':=o') e1 (fun c e f hh=>by cases hh)
        have hchk:=hK.check w false u2 hfit;rcases hcase with ⟨i',y,e,c1,c2,c3,c4,c5⟩|⟨c1,c2⟩
        ·have hii:i'=i:=f5 i' i u2 y x c1 hix;subst hii;rw [c1] at hix;cases hix;have hborn:e.born=i':=by grind
         have hstay:(Instr.keyThatStays (((es[i']?).map (·.key)).getD u2) u2).run P w=.ok u2 w:=by
          rw [c2];simp only [Option.map_some,Option.getD_some,c3];unfold Instr.keyThatStays;rw [if_pos (zhl hfit)];rfl
         have hmod:es.modify i' (fun e=>{ e with key:=u2 })=es:=by
          apply Array.ext_getElem?;intro j;rw [Array.getElem?_modify];by_cases hj:i'=j
          ·subst hj;rw [if_pos rfl,c2,Option.map_some];rw [← c3]
          ·rw [if_neg hj]
         have hd:=hp.setX (o':=.map kt' kvs) hl rfl hμ (.map es es.size) (fun σ' g' w' hk' hw'=>⟨es,hw',e2,fun j k0 x0 hj=>(f3 j k0 x0 hj).imp fun _ h=>⟨h.1,h.2.1,h.2.2.1,h.2.2.2.keep hk'⟩,f4,f5,f6⟩);refine⟨.tuple #[e.val,.int .i64 i'],_,_,?_,hd,vr_pair (c4.keep hd.keep) i'⟩
         simp only [Kd.val,Ob2.kd,Instr.mapEntry,Sem.run_bind,run_underlying hty,Result.andThen_ok,hget,hchk,c5,hstay,hset,hmod,Sem.run_pure];rw [c2,← hborn];rfl
        ·exact absurd hix (c1 i x)
      ·refine⟨_,_,hk,fun w0 K0 g w u1 u2 hp h1 h2=>?_⟩
       have:=zjt hkv h2;subst this;have h1:SR σ g w (.h id) u1:=h1;cases h1 with
       | h _ o kb hl' hμ=>
        rw [hl] at hl';cases hl';obtain⟨b',m1,m2,m3,_⟩:=hp.obs id _ hl;rw [hμ] at m1;cases m1;obtain⟨es,e1,e2,hcase⟩:=zkb (P:=P) (T:=kT) hK m3 hfit w;obtain⟨es',f1,f2,f3,f4,f5,f6⟩:=m3;rw [e1] at f1;cases f1;have hget:=zbG (P:=P) e1 (fun c e f hh=>by cases hh);have hset:=fun o'=>zhm (P:=P) (o':=o') e1 (fun c e f hh=>by cases hh)
        have hchk:=hK.check w false u2 hfit;obtain⟨hzf,zv,hzr,hzv⟩:=zhM htt hei hz w;rcases hcase with ⟨i',y,e,c1,c2,c3,c4,c5⟩|⟨c1,c2⟩
        ·exact absurd c1 (hno i' y)
        ·have hlast:∀ (j:Nat) (k0:Value) (x0:AV),(kvs ++ [(u2,z)])[j]?=some (k0,x0)→(kvs[j]?=some (k0,x0))∨(j=kvs.length∧k0=u2∧x0=z):=by
          intro j k0 x0 hj;by_cases hjl:j < kvs.length
          ·grind
          ·grind
         have hd:=hp.setX (o':=.map kt' (kvs ++ [(u2,z)])) hl rfl hμ (.map (es.push { key:=u2,val:=zv,born:=es.size }) (es.size+1)) (fun σ' g' w' hk' hw'=>by
          refine⟨es.push { key:=u2,val:=zv,born:=es.size },by rw [hw'];simp,by simp [e2],fun j k0 x0 hj=>?_,fun j k0 x0 hj=>?_,fun j j' k0 x0 y0 hj hj'=>?_,fun j k0 x0 hj=>?_⟩
          ·rcases hlast j k0 x0 hj with hj|⟨rfl,rfl,rfl⟩
           ·obtain⟨e',a,c,d,f⟩:=f3 j k0 x0 hj;have:=(Array.getElem?_eq_some_iff.1 a).1;exact⟨e',by rw [Array.getElem?_push,if_neg (by omega)];exact a,c,d,f.keep hk'⟩
           ·exact⟨{ key:=k0,val:=zv,born:=es.size },by rw [← e2];simp,rfl,e2,hzv _ _ _⟩
          ·grind
          ·grind
          ·rcases hlast j k0 x0 hj with hj|⟨rfl,rfl,rfl⟩
           ·exact f6 j k0 x0 hj
           ·exact holds_of hdz)
         refine⟨.tuple #[zv,.int .i64 es.size],_,_,?_,hd,?_⟩
         ·simp only [Kd.val,Ob2.kd,Instr.mapEntry,Sem.run_bind,run_underlying hty,Result.andThen_ok,hget,hchk,c2,hset,hzr,Sem.run_pure];rfl
         ·rw [← e2];exact vr_pair (hzv _ _ _) es.size
     ·exact h.elim
    ·exact h.elim
   ·exact h.elim
  ·exact h.elim
 ·exact h.elim
def kSlotSet (σ:Sg) (u idx x:AV) (k:Sg→Prop):Prop:=
 match u,idx with
 | .x (.h id),.x (.d (.v (.int .i64 (.ofNat i))))=>(match lk id σ with
  | some (.x (.map kt kvs))=>ownAV x=true∧∃ key y,kvs[i]?=some (key,y)∧k (zat id (.x (.map (kt.put x) (kvs.set i (key,x)))) σ)
  | _=>False)
 | _,_=>False
theorem kSlotSet_ok {T:TypeId} {u idx x:AV} {k:Sg→Prop} (h:kSlotSet σ u idx x k) :
  ∃ σ',k σ'∧∀ (w0:World) (K0:Bs) (g:Gh) (w:World) u1 u2 u3,Hp w0 K0 σ g w→VR2 σ g w u u1→VR2 σ g w idx u2→VR2 σ g w x u3 →
   ∃ w' g',(Instr.entryStore T u1 u2 u3).run P w=.ok () w'∧Did w0 K0 σ g w σ' g' w':=by
 unfold kSlotSet at h;split at h
 ·rename_i id i;split at h
  ·rename_i kt kvs hl;obtain⟨hox,key,y,hi,hk⟩:=h;refine⟨_,hk,fun w0 K0 g w u1 u2 u3 hp h1 h2 h3=>?_⟩
   cases zm h2;have h1:SR σ g w (.h id) u1:=h1;have hx1:VR1 σ g w x u3:=by
    cases x with
    | x _=>exact h3
    | a _=>exact h3
    | t _=>cases hox
    | g _ _=>cases hox
   cases h1 with
   | h _ o kb hl' hμ=>
    rw [hl] at hl';cases hl';obtain⟨b',m1,m2,⟨es,e1,e2,f3,f4,f5,f6⟩,_⟩:=hp.obs id _ hl;rw [hμ] at m1;cases m1;have hget:=zbG (P:=P) e1 (fun c e f hh=>by cases hh);have hset:=fun o'=>zhm (P:=P) (o':=o') e1 (fun c e f hh=>by cases hh)
    have hlt:i < kvs.length:=(List.getElem?_eq_some_iff.1 hi).1;obtain⟨e,c2,c3,c4,c5⟩:=f3 i key y hi;have hfind:es.findIdx? (fun e=>(e.born:Int) == (Int.ofNat i))=some i:=by
     rw [Array.findIdx?_eq_some_iff_getElem];obtain⟨hlt',he⟩:=Array.getElem?_eq_some_iff.1 c2;refine⟨hlt',by rw [he,c4];simp,fun j hj=>?_⟩
     have hjk:j < kvs.length:=by omega
     obtain⟨e',a,c,d,_⟩:=f3 j (kvs[j]).1 (kvs[j]).2 (by rw [List.getElem?_eq_getElem hjk]);obtain⟨_,he'⟩:=Array.getElem?_eq_some_iff.1 a;rw [he',d];simp;omega
    have hd:=hp.setX (o':=.map (kt.put x) (kvs.set i (key,x))) hl rfl hμ (.map (es.modify i fun e=>{ e with val:=u3 }) es.size) (fun σ' g' w' hk' hw'=>by
     refine⟨es.modify i fun e=>{ e with val:=u3 },by rw [hw'];simp,by simp [e2],fun j k0 x0 hj=>?_,fun j k0 x0 hj=>?_,fun j j' k0 x0 y0 hj hj'=>?_,fun j k0 x0 hj=>?_⟩
     ·rw [List.getElem?_set] at hj;by_cases hij:i=j
      ·subst hij;rw [if_pos rfl,if_pos hlt] at hj;cases hj;exact⟨{ e with val:=u3 },by rw [Array.getElem?_modify,if_pos rfl,c2];rfl,c3,c4,hx1.keep hk'⟩
      ·rw [if_neg hij] at hj;obtain⟨e',a,c,d,f⟩:=f3 j k0 x0 hj;exact⟨e',by rw [Array.getElem?_modify,if_neg hij];exact a,c,d,f.keep hk'⟩
     ·rw [KT.fits_put];rw [List.getElem?_set] at hj;by_cases hij:i=j
      ·subst hij;rw [if_pos rfl,if_pos hlt] at hj;cases hj;exact f4 i key y hi
      ·rw [if_neg hij] at hj;exact f4 j k0 x0 hj
     ·have key2:∀ (j:Nat) (k0:Value) (x0:AV),(kvs.set i (key,x))[j]?=some (k0,x0)→∃ x1,kvs[j]?=some (k0,x1):=by
       intro j k0 x0 hj;rw [List.getElem?_set] at hj;by_cases hij:i=j
       ·subst hij;rw [if_pos rfl,if_pos hlt] at hj;cases hj;exact⟨y,hi⟩
       ·rw [if_neg hij] at hj;exact⟨x0,hj⟩
      obtain⟨x1,h4⟩:=key2 j k0 x0 hj;obtain⟨x2,h5⟩:=key2 j' k0 y0 hj';exact f5 j j' k0 x1 x2 h4 h5
     ·rw [List.getElem?_set] at hj;by_cases hij:i=j
      ·subst hij;rw [if_pos rfl,if_pos hlt] at hj;cases hj;exact holds_put_self hox
      ·rw [if_neg hij] at hj;exact holds_put (f6 j k0 x0 hj))
    refine⟨_,_,?_,hd⟩
    simp only [Kd.val,Ob2.kd,Instr.entryStore,Sem.run_bind,Result.andThen_ok,hget,asInt,asIntOf,Sem.run_pure,hfind,hset]
  ·exact h.elim
 ·exact h.elim
end
end Go.QL
namespace Go.QL
open Go Go.RowKit
section
variable {P:Program} {w0:World} {K0:Bs} {σ:Sg} {g:Gh} {w:World}
theorem zh0 {kb mb last:Nat} {seen:Array Nat} {es:Array MapEntry} {T:TypeId} (hi:w.heap[kb]?=some (.mapIter (some mb) es.size seen last)) (hm:w.heap[mb]?=some (.map es es.size))
  (hborn:∀ (i:Nat) (e:MapEntry),es[i]?=some e→e.born=i) (hl:last=es.size) :
  ∃ w1:World,(w1=w∨w1=w.drew)∧(((∀ i,i < es.size→i ∈ seen)∧(Instr.next (.pointer (some ⟨kb,0,none⟩)) false T).run P w=.ok (.tuple #[.bool false]) w1) ∨
   (∃ (i:Nat) (e:MapEntry),es[i]?=some e∧i ∉ seen∧(Instr.next (.pointer (some ⟨kb,0,none⟩)) false T).run P w=.ok (.tuple #[.bool true,e.key,e.val]) (putO w1 kb (.mapIter (some mb) es.size (seen.push i) es.size)))):=by
 have hgetI:=zbG (P:=P) hi (fun c e f hh=>by cases hh);have hgetM:=zbG (P:=P) hm (fun c e f hh=>by cases hh);have hgone:(!seen.isEmpty && !es.isEmpty && es.all (fun e=>decide (e.born ≥ last)))=false:=by
  by_cases hes:es.size=0
  ·simp_all
  ·have h0:es[0]?=some (es[0]'(by omega)):=Array.getElem?_eq_getElem (by omega);grind
 generalize hleft:(es.filter fun e=>!seen.contains e.born)=left;have hmem:∀ e,e ∈ left↔e ∈ es∧e.born ∉ seen:=by
  grind
 have hent:∀ e,e ∈ es→es[e.born]?=some e:=by
  intro e he;obtain⟨i,hi⟩:=Array.getElem?_of_mem he;grind
 have hold:left.filter (fun e=>decide (e.born < es.size))=left:=by
  rw [Array.filter_eq_self];grind
 have hnew:left.filter (fun e=>decide (e.born ≥ es.size)) = #[]:=by
  simp_all
 generalize hcs:((if left.isEmpty=true then #[none] else #[]) ++ Array.map some left:Array (Option MapEntry))=cs;have hcsz:0 < cs.size:=by
  grind
 obtain⟨n,w1,hn,hw1,hch⟩:∃ n w1,n < cs.size∧(w1=w∨w1=w.drew)∧(choose (.mapNext cs.size)).run P w=.ok n w1:=by
  rw [run_choose_drew];by_cases hf:(Question.mapNext cs.size).forced=true
  ·rw [if_pos hf];exact⟨0,w,hcsz,.inl rfl,rfl⟩
  ·rw [if_neg hf];exact⟨_,w.drew,Nat.mod_lt _ hcsz,.inr rfl,rfl⟩
 have hh1:w1.heap=w.heap:=by rcases hw1 with rfl|rfl <;> rfl
 have hset:=fun o'=>zhm (P:=P) (o':=o') (w:=w1) (by rw [hh1];exact hi) (fun c e f hh=>by cases hh)
 have hrun:(Instr.next (.pointer (some ⟨kb,0,none⟩)) false T).run P w=(match cs[n]? with
   | some (some e)=>.ok (.tuple #[.bool true,e.key,e.val]) (putO w1 kb (.mapIter (some mb) es.size (seen.push e.born) es.size))
   | some none=>.ok (.tuple #[.bool false]) w1
   | none=>.halt (.stuck "Next: no such candidate") w1):=by
  simp only [Instr.next,Sem.run_bind,hgetI,Result.andThen_ok,hgetM,hgone,Bool.false_eq_true,if_false,hleft,hold,hnew,Array.append_empty,hcs,hch];rw [Array.getElem?_eq_getElem hn];cases cs[n] with
  | none=>rfl
  | some e=>simp only [Sem.run_bind,hset,Result.andThen_ok];rfl
 refine⟨w1,hw1,?_⟩
 rw [hrun];by_cases he:left.isEmpty=true
 ·grind
 ·grind
def zp3 (σ:Sg) (u:AV) (isS:Bool) (k:AV→Sg→Prop):Prop:=
 match u with
 | .x (.h it)=>(match lk it σ,isS with
  | some (.x (.mapIter none _ _ _)),false=>k (.t [bv false]) σ
  | some (.x (.mapIter (some m) since seen last)),false=>(match lk m σ with
   | some (.x (.map _ kvs))=>since=kvs.length∧last=kvs.length ∧
     (∀ (i:Nat) (key:Value) (x:AV),kvs[i]?=some (key,x)→i ∉ seen→k (.t [bv true,vAV key,x]) (zat it (.x (.mapIter (some m) since (seen ++ [i]) last)) σ)) ∧
     ((∀ i,i < kvs.length→i ∈ seen)→k (.t [bv false]) σ)
   | _=>False)
  | some (.x (.strIter s pos)),true=>
    (pos < s.size→∃ c n,Utf8.decode s pos=(c,n)∧k (.t [bv true,iv .i64 pos,iv .i32 c]) (zat it (.x (.strIter s (pos+n))) σ))∧(¬ pos < s.size→k (.t [bv false]) σ)
  | _,_=>False)
 | _=>False
theorem zpi {b:Bool}:VR2 σ g w (.t [bv b]) (.tuple #[.bool b]):=
 ⟨#[.bool b],rfl,rfl,fun i y q hi hq=>by
  match i with
  | 0=>cases hi;cases hq;exact .d _ _ (.v _ rfl)
  | i+1=>simp at hi⟩
theorem zqy {b:Bool} {x y:AV} {u v:Value} (hx:VR1 σ g w x u) (hy:VR1 σ g w y v):VR2 σ g w (.t [bv b,x,y]) (.tuple #[.bool b,u,v]):=
 ⟨#[.bool b,u,v],rfl,rfl,fun i y q hi hq=>by
  match i with
  | 0=>cases hi;cases hq;exact .d _ _ (.v _ rfl)
  | 1=>cases hi;cases hq;exact hx
  | 2=>cases hi;cases hq;exact hy
  | i+3=>simp at hi⟩
theorem zrO {x y:AV} {u v:Value} (hx:VR1 σ g w x u) (hy:VR1 σ g w y v):VR2 σ g w (.t [x,y]) (.tuple #[u,v]):=
 ⟨#[u,v],rfl,rfl,fun i y q hi hq=>by
  match i with
  | 0=>cases hi;cases hq;exact hx
  | 1=>cases hi;cases hq;exact hy
  | i+2=>simp at hi⟩
theorem Hp.drewD (hp:Hp w0 K0 σ g w):Did w0 K0 σ g w σ g w.drew:=
 hp.grow (w':=w.drew) (K':=g.K) ⟨rfl,rfl,rfl,Nat.le_refl _,fun _ _=>rfl⟩ ⟨fun _ _ x=>x,fun _ _ _=>rfl⟩ (fun _ _ _ x=>x) (fun b o hk=>hp.val b o hk)
theorem zn5 {u:AV} {isS:Bool} {T:TypeId} {k:AV→Sg→Prop} (h:zp3 σ u isS k) (w0:World) (K0:Bs) (g:Gh) (w:World) (u1:Value) (hp:Hp w0 K0 σ g w) (h1:VR2 σ g w u u1) :
  ∃ av σ' v w' g',k av σ'∧(Instr.next u1 isS T).run P w=.ok v w'∧Did w0 K0 σ g w σ' g' w'∧VR2 σ' g' w' av v:=by
 unfold zp3 at h;split at h
 ·rename_i it;have h1:SR σ g w (.h it) u1:=h1;split at h
  ·rename_i since seen last hl;cases h1 with
   | h _ o kb hl' hμ=>
    rw [hl] at hl';cases hl';obtain⟨b',m1,m2,m3,_⟩:=hp.obs it _ hl;rw [hμ] at m1;cases m1;have hget:=zbG (P:=P) (show w.heap[kb]?=some (.mapIter none since seen.toArray last) from m3) (fun c e f hh=>by cases hh);exact⟨_,_,.tuple #[.bool false],w,g,h,by simp [Instr.next,Kd.val,Ob2.kd,hget],.refl hp,zpi⟩
  ·rename_i m since seen last hl;split at h
   ·rename_i kt kvs hlm;obtain⟨rfl,hlast,hstep,hover⟩:=h;cases h1 with
    | h _ o kb hl' hμ=>
     rw [hl] at hl';cases hl';obtain⟨b',m1,m2,m3,_⟩:=hp.obs it _ hl;rw [hμ] at m1;cases m1;obtain⟨mb,i1,i2⟩:=m3;obtain⟨b2,n1,n2,n3,_⟩:=hp.obs m _ hlm;have hmb:b2=mb:=by
      generalize hv:Value.map (some mb)=v2 at i2;cases i2 with
      | h _ o k2 hl2 hμ2=>
       rw [hlm] at hl2;cases hl2;rw [n1] at hμ2;cases hμ2;simp [Kd.val,Ob2.kd] at hv;exact hv.symm
     subst hmb;obtain⟨es,e1,e2,e3,e4,e5,e6⟩:=n3;have hent:∀ (i:Nat) (e:MapEntry),es[i]?=some e→e.born=i∧∃ x,kvs[i]?=some (e.key,x)∧VR1 σ g w x e.val∧kt.fits e.key=true:=by
      intro i e hi;have hlt:i < kvs.length:=by rw [← e2];exact (Array.getElem?_eq_some_iff.1 hi).1
      rcases hq:kvs[i]'hlt with ⟨k0,x⟩
      have hk:kvs[i]?=some (k0,x):=by rw [List.getElem?_eq_getElem hlt,hq]
      grind
     rw [← e2] at i1;obtain⟨w1,hw1,hres⟩:=zh0 (P:=P) (T:=T) i1 e1 (fun i e hi=>(hent i e hi).1) (hlast.trans e2.symm);have hd1:Did w0 K0 σ g w σ g w1:=by
      rcases hw1 with rfl|rfl
      ·exact .refl hp
      ·exact hp.drewD
     rcases hres with ⟨hall,hrun⟩|⟨i,e,hi,hns,hrun⟩
     ·refine⟨_,_,_,w1,g,hover (fun i hi=>?_),hrun,hd1,zpi⟩
      simp_all
     ·obtain⟨_,x,c1,c2,c3⟩:=hent i e hi;have hns':i ∉ seen:=by simpa using hns
      have hd2:=hd1.hp.setX (o':=.mapIter (some m) kvs.length (seen ++ [i]) last) hl rfl hμ (.mapIter (some b2) es.size (seen.toArray.push i) es.size) (fun σ' g' w' hk' hw'=>
       ⟨b2,by rw [hw',hlast,e2];simp,hk' _ _ (SR.h m _ b2 hlm n1)⟩)
      have hd:=hd1.trans hd2;have hx:=(hd.keep);exact⟨_,_,_,_,_,hstep i e.key x c1 hns',hrun,hd,zqy (zoP c3) (c2.keep hx)⟩
   ·exact h.elim
  ·rename_i s pos hl;cases h1 with
   | h _ o kb hl' hμ=>
    rw [hl] at hl';cases hl';obtain⟨b',m1,m2,m3,_⟩:=hp.obs it _ hl;rw [hμ] at m1;cases m1;have hheap:w.heap[kb]?=some (.stringIter s pos):=m3;have hget:=zbG (P:=P) hheap (fun c e f hh=>by cases hh);have hset:=fun o'=>zhm (P:=P) (o':=o') hheap (fun c e f hh=>by cases hh)
    by_cases hlt:pos < s.size
    ·obtain⟨c,n,hdec,hk⟩:=h.1 hlt;have hd:=hp.setX (o':=.strIter s (pos+n)) hl rfl hμ (.stringIter s (pos+n)) (fun σ' g' w' hk' hw'=>hw');refine⟨_,_,.tuple #[.bool true,.int .i64 pos,.int .i32 c],_,_,hk,?_,hd,zqy (.d _ _ (.v _ rfl)) (.d _ _ (.v _ rfl))⟩
     simp only [Instr.next,Kd.val,Ob2.kd,Sem.run_bind,hget,Result.andThen_ok,hlt,if_true,hdec,hset,goInt];rfl
    ·refine⟨_,_,.tuple #[.bool false],w,g,h.2 hlt,?_,.refl hp,zpi⟩
     simp only [Instr.next,Kd.val,Ob2.kd,Sem.run_bind,hget,Result.andThen_ok,hlt,if_false];rfl
  ·exact h.elim
 ·exact h.elim
def zmr (σ:Sg) (u:AV) (k:AV→Prop):Prop:=
 match u with
 | .x (.h it)=>(match lk it σ with
  | some (.x (.mapIter (some m) _ seen last))=>(match lk m σ with
   | some (.x (.map _ kvs))=>last=kvs.length∧∃ i key x,seen.getLast?=some i∧kvs[i]?=some (key,x)∧k (.t [vAV key,x])
   | _=>False)
  | _=>False)
 | _=>False
theorem zmq {u:AV} {k:AV→Prop} (h:zmr σ u k):∃ av,k av∧∀ (w0:World) (K0:Bs) (g:Gh) (w:World) (u1:Value),Hp w0 K0 σ g w→VR2 σ g w u u1 →
  ∃ v,(Instr.entry u1).run P w=.ok v w∧VR2 σ g w av v:=by
 unfold zmr at h;split at h
 ·rename_i it;split at h
  ·rename_i m since seen last hl;split at h
   ·rename_i kt kvs hlm;obtain⟨hlast,i,key,x,hs,hi,hk⟩:=h;refine⟨_,hk,fun w0 K0 g w u1 hp h1=>?_⟩
    have h1:SR σ g w (.h it) u1:=h1;cases h1 with
    | h _ o kb hl' hμ=>
     rw [hl] at hl';cases hl';obtain⟨b',m1,m2,m3,_⟩:=hp.obs it _ hl;rw [hμ] at m1;cases m1;obtain⟨mb,i1,i2⟩:=m3;obtain⟨b2,n1,n2,n3,_⟩:=hp.obs m _ hlm;have hmb:b2=mb:=by
      generalize hv:Value.map (some mb)=v2 at i2;cases i2 with
      | h _ o k2 hl2 hμ2=>
       rw [hlm] at hl2;cases hl2;rw [n1] at hμ2;cases hμ2;simp [Kd.val,Ob2.kd] at hv;exact hv.symm
     subst hmb;obtain⟨es,e1,e2,e3,e4,e5,e6⟩:=n3;obtain⟨e,a1,a2,a3,a4⟩:=e3 i key x hi;have hgetI:=zbG (P:=P) i1 (fun c e f hh=>by cases hh);have hgetM:=zbG (P:=P) e1 (fun c e f hh=>by cases hh);have hback:seen.toArray.back?=some i:=by simp [hs]
     have hborn:∀ (j:Nat) (e':MapEntry),es[j]?=some e'→e'.born=j:=by
      intro j e' hj;have hlt:j < kvs.length:=by rw [← e2];exact (Array.getElem?_eq_some_iff.1 hj).1
      obtain⟨e'',b,_,d,_⟩:=e3 j _ _ (List.getElem?_eq_getElem hlt);simp_all
     have hfind:es.find? (fun e=>e.born == i)=some e:=by
      cases hf:es.find? (fun e=>e.born == i) with
      | none=>
       grind
      | some e'=>
       have hb:=Array.find?_some hf;obtain⟨j,hj⟩:=Array.getElem?_of_mem (Array.mem_of_find?_eq_some hf);grind
     refine⟨.tuple #[e.key,e.val],?_,zrO (by rw [a2];exact zoP (e4 i key x hi)) a4⟩
     simp only [Instr.entry,Kd.val,Ob2.kd,Sem.run_bind,hgetI,Result.andThen_ok,hback,hgetM,hlast,e2,bne_self_eq_false,Bool.false_eq_true,if_false,hfind];rfl
   ·exact h.elim
  ·exact h.elim
 ·exact h.elim
end
end Go.QL
namespace Go.QL
open Go Go.RowKit
section
variable {P:Program} {w0:World} {K0:Bs} {σ:Sg} {g:Gh} {w:World}
def zhy (tt:TT) (σ:Sg) (T:TypeId) (c st i off:Nat) (x:AV) (k:Sg→Prop):Prop:=
 match tt T,lk c σ,zdh x with
 | some ti,some (.chain e sz st' xs),some ss=>
  (match zhQ ss with
  | some ps=>(st'=st∧ps.length=ti.size)∧∃ el,xs[i]?=some el∧off+ps.length≤el.length∧k (zat c (.chain e sz st' (xs.set i (seg el off ps))) σ)
  | none=>False)
 | _,_,_=>False
theorem zj0 {α : Type} (cs:List α) (off n:Nat) (ss:List α) (h:off+ss.length≤n) (hn:n≤cs.length):(seg cs off ss).take n=seg (cs.take n) off ss:=by
 apply List.ext_getElem?;intro i;rw [List.getElem?_take,zbX _ _ _ (by omega),zbX _ _ _ (by simp;omega)];grind
theorem zju {tt:TT} (htt:tt.ok P) {T:TypeId} {c st i off:Nat} {x:AV} {k:Sg→Prop} (h:zhy tt σ T c st i off x k) :
  ∃ σ',k σ'∧∀ (w0:World) (K0:Bs) (g:Gh) (w:World) u v,Hp w0 K0 σ g w→VR2 σ g w (.x (.oe c st i off)) u→VR2 σ g w x v →
   ∃ w' g',(Instr.storeAt T u v).run P w=.ok () w'∧Did w0 K0 σ g w σ' g' w':=by
 unfold zhy at h;split at h
 ·rename_i ti e sz st' xs ss heq hl hss;have hti:=htt _ _ heq;split at h
  ·rename_i ps hps;obtain⟨⟨rfl,hpl⟩,el,hel,hoff,hk⟩:=h;refine⟨_,hk,fun w0 K0 g w u v hp h1 h2=>?_⟩
   obtain⟨vs,hown,⟨a0,cap0,hμ0,hcap0,hmax0⟩,hszs,hpr,hnK⟩:=hp.obs _ _ hl;have hi:i < xs.length:=(List.getElem?_eq_some_iff.1 hel).1;have hell:el.length=sz:=hszs el (List.mem_of_getElem? hel);have hmap:=zd4 _ _ hps;cases h1 with
   | oeold _ _ _ _ e1 sz1 st1 xs1 v hl1 hlt _=>rw [hl] at hl1;cases hl1;omega
   | oe _ _ _ _ e1 sz1 xs1 kb cap hl1 hμ=>
    rw [hl] at hl1;cases hl1;have hspan:i * sz+sz≤xs.length * sz:=by
     have:=Nat.mul_le_mul_right sz hi;grind
    rcases hown.2 with ⟨hnil,hz⟩|⟨gb,cap',cur,hv',hB,hg,q1,q2,q3,q4⟩
    ·omega
    ·rw [hμ] at hv';cases hv';obtain⟨hvs,hvr,hv1⟩:=zcC hss h2;have hssl:ss.length=ps.length:=by rw [hmap];simp
     have hlen:v.cells.toList.length=ps.length:=by rw [← hssl];simpa using hvs
     have hcurl:cur.toList.length=cap * sz:=by simpa using q3
     have hcx:xs.length * sz≤cap * sz:=Nat.mul_le_mul_right _ q1;have hst:=run_storeCells_at P kb (i * sz+off) e v.cells.toList 0 cur w hg (by rw [hlen];have:=hcurl;simp at this;omega) hv1;have hsizeOf:=zX hti w;have hother:∀ k,k≠kb→(w.setRow kb (seg cur.toList (i * sz+off) v.cells.toList).toArray).heap[k]?=w.heap[k]?:=fun k hk=>setRow_other w kb k _ hk
     have hheap:=setRow_heap w kb cur (seg cur.toList (i * sz+off) v.cells.toList).toArray e (0,0) hg;have hvl:=hown.1;have hseg1:(seg vs (i * sz+off) v.cells.toList).length=vs.length:=zam _ _ _ (by omega);have hseg2:(seg cur.toList (i * sz+off) v.cells.toList).length=cur.toList.length:=zam _ _ _ (by omega);refine⟨w.setRow kb (seg cur.toList (i * sz+off) v.cells.toList).toArray,⟨g.K,upd g.μ c (.slice (some ⟨kb,0,none⟩) xs.length cap)⟩,?_,?_⟩
     ·simp only [Instr.storeAt,Instr.sureAddr,storeVar,Sem.run_bind,Sem.run_pure,Result.andThen_ok,hsizeOf];have hsz2:v.cells.size=ti.size:=by rw [← hpl,← hlen];simp
      rw [if_neg (by rw [hsz2];exact fun h=>h rfl)];simpa [seg] using hst
     ·refine hp.setObj c (.chain e sz st' xs) (.chain e sz st' (xs.set i (seg el off ps))) hl _ ⟨rfl,rfl,rfl,by simp [World.setRow]⟩ ?_ ?_ ?_ ?_
      ·intro k _ hk;exact hother k (fun e=>hk (by rw [hμ,e];rfl))
      ·simp_all
      ·constructor
       ·intro j ci hj;by_cases ej:j=c
        ·simp_all
        ·exact⟨zo _ _ ej,ci,by rw [zt _ _ _ _ ej];exact hj⟩
       ·intro j e0 sz0 st0 xs0 hj;by_cases ej:j=c
        ·subst ej;rw [hl] at hj;cases hj;exact .inr ⟨by rw [hμ];exact zy _ _ _,_,zab _ _ _ (by rw [hl];rfl),by simp⟩
        ·exact .inr ⟨zo _ _ ej,xs0,by rw [zt _ _ _ _ ej];exact hj,rfl⟩
       ·intro j o hj;by_cases ej:j=c
        ·simp_all
        ·exact⟨zo _ _ ej,o,by rw [zt _ _ _ _ ej];exact hj,rfl⟩
      ·intro σ' g' hσ hg' hkk hee;subst hg';refine⟨seg vs (i * sz+off) v.cells.toList,?_,⟨_,cap,by rw [List.length_set];exact zy _ _ _,by rw [List.length_set];exact q1,q2⟩,?_,?_,?_⟩
       ·dsimp only;rw [zy,List.length_set];refine⟨by rw [hseg1];exact hvl,.inr ⟨kb,cap,(seg cur.toList (i * sz+off) v.cells.toList).toArray,rfl,hB,hheap,q1,q2,?_,?_⟩⟩
        ·simp_all
        ·simp only [];rw [zj0 _ _ _ _ (by omega) (by omega),q4]
       ·intro y hy;rcases List.mem_or_eq_of_mem_set hy with hy|hy
        ·exact hszs y hy
        ·rw [hy,zam _ _ _ hoff,hell]
       ·intro j y hj j' p hp';have hsv:=zbX vs (i * sz+off) v.cells.toList (by omega);rw [List.getElem?_set] at hj;by_cases hij:i=j
        ·subst hij;rw [if_pos rfl,if_pos hi] at hj;cases hj;rw [zbX _ _ _ hoff] at hp';have hj'sz:j' < sz:=by
          grind
         rw [hsv];by_cases c1:j' < off
         ·rw [if_pos c1] at hp';obtain⟨v0,a,b⟩:=hpr i el hel j' p hp';exact⟨v0,by rw [if_pos (by omega)];exact a,b.mono hee⟩
         ·rw [if_neg c1] at hp';rw [if_neg (by omega)];by_cases c2:j' < off+ps.length
          ·rw [if_pos c2] at hp';rw [if_pos (by omega)];obtain⟨u0,hu0,hr'⟩:=zfm hss h2 (j' - off) (.d p) (by rw [hmap,List.getElem?_map,hp'];rfl);refine⟨u0,?_,?_⟩
           ·grind
           ·cases hr' with|d _ _ h=>exact h.mono hee
          ·rw [if_neg c2] at hp';rw [if_neg (by omega)];obtain⟨v0,a,b⟩:=hpr i el hel j' p hp';exact⟨v0,a,b.mono hee⟩
        ·rw [if_neg hij] at hj;obtain⟨v0,a,b⟩:=hpr j y hj j' p hp';refine⟨v0,?_,b.mono hee⟩
         have hyl:=hszs y (List.mem_of_getElem? hj);have hj':j' < sz:=by rw [← hyl];exact (List.getElem?_eq_some_iff.1 hp').1
         rw [hsv];by_cases hlt:j < i
         ·have:j * sz+sz≤i * sz:=by
           have:=Nat.mul_le_mul_right sz hlt;rw [Nat.succ_mul] at this;exact this
          grind
         ·have:i * sz+sz≤j * sz:=by
           have:=Nat.mul_le_mul_right sz (show i+1≤j by omega);rw [Nat.succ_mul] at this;exact this
          grind
       ·intro b hb o hko;dsimp only at hb;rw [zy] at hb;simp_all
  ·exact h.elim
 ·exact h.elim
end
end Go.QL
end
