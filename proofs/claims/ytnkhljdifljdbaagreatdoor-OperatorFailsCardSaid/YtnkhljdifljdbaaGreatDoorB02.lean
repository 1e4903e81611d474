/- The logic of walks, and what the functions of the program return: part 2. No condition. -/
import Derived.Test.YtnkhljdifljdbaaGreatDoorB01
import Derived.RecoverIn
import Derived.Test.YtnkhljdifljdbaaGreatDoorProg
import Derived.KernelRfl
import Derived.Lib.ItoaNum
set_option linter.all false
noncomputable section
namespace Go.QL
open Go Go.RowKit
def rnSV (ρ : Nat→Nat):SV→SV
 | .d x=>.d x
 | .o c st n=>.o (ρ c) st n
 | .b id off=>.b (ρ id) off
 | .se e off=>.se e off
 | .oe c st i off=>.oe (ρ c) st i off
 | .os c st i off=>.os (ρ c) st i off
 | .f fn a b=>.f fn (a.map (rn1 ρ)) (b.map (rn1 ρ))
 | .j=>.j
 | .h id=>.h (ρ id)
 | .sb id off n cap=>.sb (ρ id) off n cap
where
 rn1 (ρ : Nat→Nat):SV→SV
  | .o c st n=>.o (ρ c) st n
  | .b id off=>.b (ρ id) off
  | .oe c st i off=>.oe (ρ c) st i off
  | .os c st i off=>.os (ρ c) st i off
  | .f ..=>.j
  | .h id=>.h (ρ id)
  | .sb id off n cap=>.sb (ρ id) off n cap
  | s=>s
def zh6 (ρ : Nat→Nat):AV→AV
 | .x s=>.x (rnSV ρ s)
 | .a cs=>.a (cs.map (rnSV ρ))
 | x=>x
def rnAV (ρ : Nat→Nat):AV→AV
 | .t xs=>.t (xs.map (zh6 ρ))
 | x=>zh6 ρ x
def rnV (ρ : Nat→Nat):AV→AV
 | .g c x=>.g c (rnAV ρ x)
 | x=>rnAV ρ x
def rnKv (ρ : Nat→Nat):List (Value × AV)→List (Value × AV)
 | []=>[]
 | (k,x)::r=>(k,zh6 ρ x)::rnKv ρ r
def rnFr (ρ : Nat→Nat):Fr→Fr
 | []=>[]
 | (t,x)::r=>(t,rnV ρ x)::rnFr ρ r
def rnO2 (ρ : Nat→Nat):Ob2→Ob2
 | .map (.oone k) kvs=>.map (.oone k) (rnKv ρ kvs)
 | .map (.ost ks) kvs=>.map (.ost ks) (rnKv ρ kvs)
 | .mapIter (some m) since seen last=>.mapIter (some (ρ m)) since seen last
 | .loop st pend params assign body nt fr dfr=>.loop st pend params assign body nt (rnFr ρ fr) (ρ dfr)
 | o=>o
theorem zlx (ρ : Nat→Nat) (o:Ob2):(rnO2 ρ o).kd=o.kd:=by
 cases o with
 | map kt kvs=>cases kt <;> rfl
 | mapIter m since seen last=>cases m <;> rfl
 | _=>rfl
theorem znA {ρ : Nat→Nat}:∀ {l:List (Value × AV)} {i:Nat} {k:Value} {x:AV},(rnKv ρ l)[i]?=some (k,x)↔∃ y,l[i]?=some (k,y)∧zh6 ρ y=x
 | [],i,k,x=>by simp [rnKv]
 | (k0,x0)::r,i,k,x=>by
  cases i with
  | zero=>
   show some (k0,zh6 ρ x0)=some (k,x)↔∃ y,some (k0,x0)=some (k,y)∧_
   constructor
   ·intro h;cases h;exact⟨x0,rfl,rfl⟩
   ·rintro⟨y,h,rfl⟩;cases h;rfl
  | succ i=>exact znA (l:=r) (i:=i)
theorem znz {ρ : Nat→Nat}:∀ {l:List (Value × AV)},(rnKv ρ l).length=l.length
 | []=>rfl
 | (k0,x0)::r=>by simp [rnKv,znz (l:=r)]
theorem zjq {ρ : Nat→Nat} {t:Nat}:∀ {l:Fr},lk t (rnFr ρ l)=(lk t l).map (rnV ρ)
 | []=>rfl
 | (k0,x0)::r=>by
  unfold rnFr;rw [zr,zr];by_cases e:k0=t
  ·rw [if_pos e,if_pos e];rfl
  ·rw [if_neg e,if_neg e];exact zjq
def rnOb (ρ : Nat→Nat):Ob→Ob
 | .box cs=>.box (cs.map (rnSV ρ))
 | .chain e sz st xs=>.chain e sz st xs
 | .x o=>.x (rnO2 ρ o)
def rnSg (ρ : Nat→Nat):Sg→Sg
 | []=>[]
 | (i,o)::r=>(ρ i,rnOb ρ o)::rnSg ρ r
def ziI (ids:List Nat):Sg→Sg
 | []=>[]
 | (i,o)::r=>bif ids.any (Nat.beq i) then ziI ids r else (i,o)::ziI ids r
theorem zdY {ids:List Nat} {i:Nat}:ids.any (Nat.beq i)=true↔i ∈ ids:=by
 rw [List.any_eq_true];constructor
 ·rintro⟨x,hx,h⟩;rw [Nat.eq_of_beq_eq_true h];exact hx
 ·intro h;exact⟨i,h,by simp⟩
theorem zpR {ids:List Nat} {i:Nat} (h:i ∈ ids) (σ:Sg):lk i (ziI ids σ)=none:=by
 induction σ with
 | nil=>rfl
 | cons p r ih=>
  obtain⟨j,o⟩:=p;unfold ziI;cases hb:ids.any (Nat.beq j) with
  | true=>exact ih
  | false=>
   simp only [cond_false];rw [zr,if_neg]
   ·exact ih
   ·rintro rfl;rw [zdY.2 h] at hb;cases hb
theorem zfb {ids:List Nat} {i:Nat} (h:i ∉ ids) (σ:Sg):lk i (ziI ids σ)=lk i σ:=by
 induction σ with
 | nil=>rfl
 | cons p r ih=>
  obtain⟨j,o⟩:=p;unfold ziI;cases hb:ids.any (Nat.beq j) with
  | true=>
   simp only [cond_true];rw [zr,if_neg (fun e:j=i=>by subst e;exact h (zdY.1 hb))];exact ih
  | false=>
   simp only [cond_false];rw [zr,zr,ih]
theorem zel {α : Type} {i:Nat} (l r:List (Nat × α)):lk i (l ++ r)=match lk i l with|some x=>some x|none=>lk i r:=by
 induction l with
 | nil=>rfl
 | cons p l ih=>
  obtain⟨j,x⟩:=p;rw [List.cons_append,zr,zr];by_cases e:j=i
  ·rw [if_pos e,if_pos e]
  ·rw [if_neg e,if_neg e];exact ih
def injK (ρ : Nat→Nat):List Nat→Bool
 | []=>true
 | i::r=>(r.all fun j=>Nat.beq i j || !Nat.beq (ρ i) (ρ j)) && injK ρ r
theorem zgj {ρ : Nat→Nat}:∀ {l:List Nat},injK ρ l=true→∀ i ∈ l,∀ j ∈ l,ρ i = ρ j→i=j
 | [],_,i,hi,_,_,_=>by simp at hi
 | k::r,h,i,hi,j,hj,he=>by
  unfold injK at h;simp only [Bool.and_eq_true,List.all_eq_true,Bool.or_eq_true,Bool.not_eq_true'] at h;have key:∀ j ∈ r,ρ k = ρ j→k=j:=fun j hj he=>by
   rcases h.1 j hj with h|h
   ·exact Nat.eq_of_beq_eq_true h
   ·rw [he,show Nat.beq (ρ j) (ρ j)=true by simp] at h;cases h
  rw [List.mem_cons] at hi hj;rcases hi with hi|hi <;> rcases hj with hj|hj
  ·rw [hi,hj]
  ·subst hi;exact key j hj he
  ·subst hj;exact (key i hi he.symm).symm
  ·exact zgj h.2 i hi j hj he
theorem zz {α : Type} {i:Nat} {l:List (Nat × α)}:(lk i l).isSome=true↔i ∈ l.map (·.1):=by
 induction l with
 | nil=>simp [lk]
 | cons p r ih=>
  obtain⟨j,x⟩:=p;rw [zr];by_cases e:j=i
  ·rw [if_pos e];simp [e]
  ·rw [if_neg e,ih];simp only [List.map_cons,List.mem_cons];exact⟨.inr,fun h=>h.resolve_left (fun h=>e h.symm)⟩
theorem zjp {ρ : Nat→Nat}:∀ {σ:Sg} {ks:List Nat} (_:∀ i ∈ ks,∀ j ∈ ks,ρ i = ρ j→i=j) (_:∀ i ∈ σ.map (·.1),i ∈ ks) {i:Nat} (_:i ∈ ks),lk (ρ i) (rnSg ρ σ)=(lk i σ).map (rnOb ρ)
 | [],_,_,_,_,_=>rfl
 | (j,o)::r,ks,hinj,hsub,i,hi=>by
  unfold rnSg;rw [zr,zr];by_cases e:j=i
  ·subst e;rw [if_pos rfl,if_pos rfl];rfl
  ·rw [if_neg e,if_neg (fun h=>e (hinj j (hsub j (by simp)) i hi h))];exact zjp hinj (fun k hk=>hsub k (by simp at hk ⊢;exact .inr hk)) hi
theorem zc4 {ρ : Nat→Nat} {k:Nat}:∀ {σ:Sg},(∀ i ∈ σ.map (·.1),ρ i≠k)→lk k (rnSg ρ σ)=none
 | [],_=>rfl
 | (j,o)::r,h=>by
  unfold rnSg;rw [zr,if_neg (h j (by simp))];exact zc4 fun i hi=>h i (by simp at hi ⊢;exact .inr hi)
def unrn (ρ : Nat→Nat):List Nat→Nat→Option Nat
 | [],_=>none
 | i::r,k=>if ρ i=k then some i else unrn ρ r k
theorem zjS {ρ : Nat→Nat} {l:List Nat} (hinj:∀ i ∈ l,∀ j ∈ l,ρ i = ρ j→i=j) {i:Nat} (hi:i ∈ l):unrn ρ l (ρ i)=some i:=by
 have:∀ (m:List Nat),(∀ j ∈ m,j ∈ l)→i ∈ m→unrn ρ m (ρ i)=some i:=by
  intro m;induction m with
  | nil=>intro _ h;simp at h
  | cons j r ih=>
   intro hm hi';unfold unrn;by_cases e : ρ j = ρ i
   ·rw [if_pos e,hinj j (hm j (by simp)) i hi e]
   ·rw [if_neg e];rcases List.mem_cons.1 hi' with rfl|h
    ·exact absurd rfl e
    ·exact ih (fun j hj=>hm j (List.mem_cons_of_mem _ hj)) h
 exact this l (fun _ h=>h) hi
theorem zfS {ρ : Nat→Nat} {k:Nat}:∀ {l:List Nat},(∀ i ∈ l,ρ i≠k)→unrn ρ l k=none
 | [],_=>rfl
 | j::r,h=>by
  unfold unrn;rw [if_neg (h j (by simp))];exact zfS fun i hi=>h i (List.mem_cons_of_mem _ hi)
section
variable {P:Program} {σ0 σ1 σ σ'':Sg} {g g0 g1 g'':Gh} {w w':World} {ρ : Nat→Nat}
theorem zV (hl:∀ id ob,lk id σ0=some ob→lk (ρ id) σ=some (rnOb ρ ob)) {s:SV} (hs:rs1 σ0 s=true) {v:Value} (hv:SR σ g w (rnSV.rn1 ρ s) v):SR σ0 ⟨g.K,fun i=>g.μ (ρ i)⟩ w s v:=by
 have chain:∀ c,(lk c σ0).isSome=true→∀ {e sz st xs},lk (ρ c) σ=some (.chain e sz st xs)→lk c σ0=some (.chain e sz st xs):=by
  intro c hc e sz st xs h;obtain⟨ob,hob⟩:=Option.isSome_iff_exists.1 hc;have:=hl c ob hob;rw [h] at this;cases ob with
  | box cs=>cases this
  | chain=>cases this;exact hob
  | x _=>cases this
 have oth:∀ c,(lk c σ0).isSome=true→∀ {o},lk (ρ c) σ=some (.x o)→∃ o',lk c σ0=some (.x o')∧o.kd=o'.kd:=by
  intro c hc o h;obtain⟨ob,hob⟩:=Option.isSome_iff_exists.1 hc;have:=hl c ob hob;rw [h] at this;cases ob with
  | box cs'=>cases this
  | chain=>cases this
  | x o'=>cases this;exact⟨o',hob,zlx _ _⟩
 have box:∀ c,(lk c σ0).isSome=true→∀ {cs},lk (ρ c) σ=some (.box cs)→∃ cs',lk c σ0=some (.box cs'):=by
  intro c hc cs h;obtain⟨ob,hob⟩:=Option.isSome_iff_exists.1 hc;have:=hl c ob hob;rw [h] at this;cases ob with
  | box cs'=>exact⟨cs',hob⟩
  | chain=>cases this
  | x _=>cases this
 cases s with
 | d x=>cases hv with|d _ _ h=>exact .d _ _ h
 | o c st n=>
  cases hv with
  | old _ _ _ e sz st' xs v h hlt h1=>exact .old c st n e sz st' xs v (chain c hs h) hlt h1
  | o _ _ _ e sz xs a cap h hn hμ=>exact .o c st n e sz xs a cap (chain c hs h) hn hμ
 | b id off=>
  cases hv with
  | b _ _ cs k h hμ=>obtain⟨cs',h'⟩:=box id hs h;exact .b id off cs' k h' hμ
 | se e off=>cases hv with|se _ _ k l vs h1 h2 h3=>exact .se e off k l vs h1 h2 h3
 | oe c st i off=>
  cases hv with
  | oeold _ _ _ _ e sz st' xs v h hlt h1=>exact .oeold c st i off e sz st' xs v (chain c hs h) hlt h1
  | oe _ _ _ _ e sz xs k cap h hμ=>exact .oe c st i off e sz xs k cap (chain c hs h) hμ
 | os c st i off=>
  cases hv with
  | osold _ _ _ _ e sz st' xs v h hlt h1=>exact .osold c st i off e sz st' xs v (chain c hs h) hlt h1
  | os _ _ _ _ e sz xs k cap h hμ hn=>exact .os c st i off e sz xs k cap (chain c hs h) hμ hn
 | f=>cases hs
 | j=>cases hv with|j _ h=>exact .j _ h
 | h id=>
  cases hv with
  | h _ o k h hμ=>obtain⟨o',h',hk⟩:=oth id hs h;rw [hk];exact .h id o' k h' hμ
 | sb id off n cap=>
  cases hv with
  | sb _ _ _ _ cs k h hμ hn hc=>obtain⟨cs',h'⟩:=box id hs h;exact .sb id off n cap cs' k h' hμ hn hc
theorem zed (hl:∀ id ob,lk id σ0=some ob→lk (ρ id) σ=some (rnOb ρ ob)) {s:SV} (hs:rsSV σ0 s=true) {v:Value} (hv:SR σ g w (rnSV ρ s) v):SR σ0 ⟨g.K,fun i=>g.μ (ρ i)⟩ w s v:=by
 cases s with
 | f fn a b=>
  simp only [rsSV,Bool.and_eq_true,List.all_eq_true] at hs;cases hv with
  | f _ _ _ v1 v2 h1 h2 r1 r2=>
   refine .f fn a b v1 v2 (by simpa using h1) (by simpa using h2) (fun i s v hi hv=>?_) (fun i s v hi hv=>?_)
   ·exact zV hl (hs.1 s (List.mem_of_getElem? hi)) (r1 i _ v (by rw [List.getElem?_map,hi];rfl) hv)
   ·exact zV hl (hs.2 s (List.mem_of_getElem? hi)) (r2 i _ v (by rw [List.getElem?_map,hi];rfl) hv)
 | d x=>exact zV hl (s:=.d x) hs hv
 | o c st n=>exact zV hl (s:=.o c st n) hs hv
 | b id off=>exact zV hl (s:=.b id off) hs hv
 | se e off=>exact zV hl (s:=.se e off) hs hv
 | oe c st i off=>exact zV hl (s:=.oe c st i off) hs hv
 | os c st i off=>exact zV hl (s:=.os c st i off) hs hv
 | j=>exact zV hl (s:=.j) hs hv
 | h id=>exact zV hl (s:=.h id) hs hv
 | sb id off n cap=>exact zV hl (s:=.sb id off n cap) hs hv
theorem zdm (hl:∀ id ob,lk id σ0=some ob→lk (ρ id) σ=some (rnOb ρ ob)) {x:AV} (hs:zec σ0 x=true) {v:Value} (hv:VR1 σ g w (zh6 ρ x) v):VR1 σ0 ⟨g.K,fun i=>g.μ (ρ i)⟩ w x v:=by
 cases x with
 | x s=>exact zed hl hs hv
 | a cs=>
  simp only [zec,List.all_eq_true] at hs;obtain⟨vs,rfl,h1,h2⟩:=hv;exact⟨vs,rfl,by simpa using h1,fun i s u hi hu=>zed hl (hs s (List.mem_of_getElem? hi)) (h2 i _ u (by rw [List.getElem?_map,hi];rfl) hu)⟩
 | _=>exact hv.elim
theorem zcr (hl:∀ id ob,lk id σ0=some ob→lk (ρ id) σ=some (rnOb ρ ob)) {x:AV} (hs:zeR σ0 x=true) {v:Value} (hv:VR2 σ g w (rnAV ρ x) v):VR2 σ0 ⟨g.K,fun i=>g.μ (ρ i)⟩ w x v:=by
 cases x with
 | t xs=>
  simp only [zeR,List.all_eq_true] at hs;obtain⟨vs,rfl,h1,h2⟩:=hv;exact⟨vs,rfl,by simpa using h1,fun i s u hi hu=>zdm hl (hs s (List.mem_of_getElem? hi)) (h2 i _ u (by rw [List.getElem?_map,hi];rfl) hu)⟩
 | x s=>exact zdm (x:=.x s) hl hs hv
 | a cs=>exact zdm (x:=.a cs) hl hs hv
 | g _ _=>exact hv.elim
theorem zny (hl:∀ id ob,lk id σ0=some ob→lk (ρ id) σ=some (rnOb ρ ob)) {x:AV} (hs:rsAV σ0 x=true) {v:Value} (hv:VR σ g w (rnV ρ x) v):VR σ0 ⟨g.K,fun i=>g.μ (ρ i)⟩ w x v:=by
 cases x with
 | g c y=>exact⟨fun hc=>zcr hl hs (hv.1 hc),hv.2⟩
 | t xs=>exact zcr (x:=.t xs) hl hs hv
 | x s=>exact zcr (x:=.x s) hl hs hv
 | a cs=>exact zcr (x:=.a cs) hl hs hv
theorem zj4 {ρ : Nat→Nat} {s:SV} (h:datS s=true):rnSV ρ s=s:=by cases s <;> first|rfl|cases h
theorem zh5 {ρ : Nat→Nat} {x:AV} (h:zkZ x=true):zh6 ρ x=x:=by
 cases x with
 | x s=>exact congrArg AV.x (zj4 h)
 | a cs=>
  simp only [zkZ,List.all_eq_true] at h;show AV.a (cs.map (rnSV ρ))=.a cs
  rw [List.map_congr_left (fun s hs=>zj4 (h s hs)),List.map_id']
 | _=>cases h
def KT.isOwn:KT→Bool
 | .oone _=>true
 | .ost _=>true
 | _=>false
theorem holds_dat {kt:KT} (h:kt.isOwn=false) (x:AV):kt.holds x=zkZ x:=by cases kt <;> first|rfl|cases h
theorem datAV_rn {ρ : Nat→Nat} (x:AV):zkZ (zh6 ρ x)=zkZ x:=by
 cases x with
 | x s=>cases s <;> rfl
 | a cs=>
  show (cs.map (rnSV ρ)).all datS=cs.all datS
  rw [List.all_map];congr 1
  funext s;cases s <;> rfl
 | _=>rfl
theorem ownAV_rn {ρ : Nat→Nat} (x:AV):ownAV (zh6 ρ x)=ownAV x:=by
 cases x with
 | x s=>cases s <;> rfl
 | a cs=>exact datAV_rn (ρ:=ρ) (.a cs)
 | _=>rfl
theorem holds_rn {ρ : Nat→Nat} {kt:KT} (x:AV):kt.holds (zh6 ρ x)=kt.holds x:=by
 cases kt with
 | one _=>exact datAV_rn x
 | st _=>exact datAV_rn x
 | oone _=>exact ownAV_rn x
 | ost _=>exact ownAV_rn x
theorem zh4 (hl:∀ id ob,lk id σ0=some ob→lk (ρ id) σ=some (rnOb ρ ob)) {o:Ob2} (hs:rsO2 σ0 o=true) {b:Nat} (hv:O2 σ g w b (rnO2 ρ o)):O2 σ0 ⟨g.K,fun i=>g.μ (ρ i)⟩ w b o:=by
 cases o with
 | map kt kvs=>
  have own:rsKv σ0 kvs=true→kt.isOwn=true→O2 σ g w b (.map kt (rnKv ρ kvs))→O2 σ0 ⟨g.K,fun i=>g.μ (ρ i)⟩ w b (.map kt kvs):=by
   rintro hs ho ⟨es,h1,h2,h3,h4,h5,h6⟩;have key:∀ {i:Nat} {k:Value} {x:AV},kvs[i]?=some (k,x)→(rnKv ρ kvs)[i]?=some (k,zh6 ρ x):=fun hi=>znA.2 ⟨_,hi,rfl⟩
   refine⟨es,h1,by rw [h2,znz],fun i k x hi=>?_,fun i k x hi=>h4 i k _ (key hi),fun i j k x y hi hj=>h5 i j k _ _ (key hi) (key hj),fun i k x hi=>?_⟩
   ·obtain⟨e,a,c,d,f⟩:=h3 i k _ (key hi);exact⟨e,a,c,d,zdm hl (znr hs i k x hi) f⟩
   ·have:=h6 i k _ (key hi);rw [holds_rn] at this;exact this
  have dat:kt.isOwn=false→O2 σ g w b (.map kt kvs)→O2 σ0 ⟨g.K,fun i=>g.μ (ρ i)⟩ w b (.map kt kvs):=by
   rintro ho ⟨es,h1,h2,h3,h4,h5,h6⟩;refine⟨es,h1,h2,fun i k x hi=>?_,h4,h5,h6⟩
   obtain⟨e,a,c,d,f⟩:=h3 i k x hi;have hd:=h6 i k x hi;rw [holds_dat ho] at hd;exact⟨e,a,c,d,zdm hl (zeb hd) (by rw [zh5 hd];exact f)⟩
  cases kt with
  | one _=>exact dat rfl hv
  | st _=>exact dat rfl hv
  | oone _=>exact own hs rfl hv
  | ost _=>exact own hs rfl hv
 | mapIter m since seen last=>
  cases m with
  | some m=>obtain⟨mb,h1,h2⟩:=hv;exact⟨mb,h1,zV hl (s:=.h m) hs h2⟩
  | none=>exact hv
 | strIter s pos=>exact hv
 | loop st pend params assign body nt fr dfr=>
  simp only [rsO2,Bool.and_eq_true] at hs;obtain⟨f,tmps,d,h1,h2,h3,h4⟩:=hv;refine⟨f,tmps,d,h1,h2,fun t v ht=>?_,zV hl (s:=.h dfr) hs.2 h4⟩
  have:=h3 t (rnV ρ v) (by rw [zjq,ht];rfl);exact⟨this.1,zny hl (zaO hs.1 t v ht) this.2⟩
 | dfr=>exact hv
theorem zbs (hl:∀ id ob,lk id σ1=some ob→lk (ρ id) σ''=some (rnOb ρ ob)∧g''.μ (ρ id)=g1.μ id) (hK:g''.K=g1.K) {s:SV} {v:Value} (hv:SR σ1 g1 w s v):SR σ'' g'' w (rnSV ρ s) v∧SR σ'' g'' w (rnSV.rn1 ρ s) v:=by
 induction hv with
 | d x v h=>exact⟨.d x v (by rw [hK];exact h),.d x v (by rw [hK];exact h)⟩
 | old c st n e sz st' xs v h hlt h1=>exact⟨.old _ st n e sz st' xs v (hl _ _ h).1 hlt h1,.old _ st n e sz st' xs v (hl _ _ h).1 hlt h1⟩
 | o c st n e sz xs a cap h hn hμ=>exact⟨.o _ st n e sz xs a cap (hl _ _ h).1 hn (by rw [(hl _ _ h).2,hμ]),.o _ st n e sz xs a cap (hl _ _ h).1 hn (by rw [(hl _ _ h).2,hμ])⟩
 | b id off cs k h hμ=>exact⟨.b _ off _ k (hl _ _ h).1 (by rw [(hl _ _ h).2,hμ]),.b _ off _ k (hl _ _ h).1 (by rw [(hl _ _ h).2,hμ])⟩
 | se e off k l vs h1 h2 h3=>exact⟨.se e off k l vs (by rw [hK];exact h1) h2 (by rw [hK];exact h3),.se e off k l vs (by rw [hK];exact h1) h2 (by rw [hK];exact h3)⟩
 | oeold c st i off e sz st' xs v h hlt h1=>exact⟨.oeold _ st i off e sz st' xs v (hl _ _ h).1 hlt h1,.oeold _ st i off e sz st' xs v (hl _ _ h).1 hlt h1⟩
 | osold c st i off e sz st' xs v h hlt h1=>exact⟨.osold _ st i off e sz st' xs v (hl _ _ h).1 hlt h1,.osold _ st i off e sz st' xs v (hl _ _ h).1 hlt h1⟩
 | oe c st i off e sz xs k cap h hμ=>exact⟨.oe _ st i off e sz xs k cap (hl _ _ h).1 (by rw [(hl _ _ h).2,hμ]),.oe _ st i off e sz xs k cap (hl _ _ h).1 (by rw [(hl _ _ h).2,hμ])⟩
 | os c st i off e sz xs k cap h hμ hn=>exact⟨.os _ st i off e sz xs k cap (hl _ _ h).1 (by rw [(hl _ _ h).2,hμ]) hn,.os _ st i off e sz xs k cap (hl _ _ h).1 (by rw [(hl _ _ h).2,hμ]) hn⟩
 | f fn a b v1 v2 h1 h2 _ _ ih1 ih2=>
  refine⟨.f fn _ _ v1 v2 (by simpa using h1) (by simpa using h2) (fun i s v hi hv=>?_) (fun i s v hi hv=>?_),.j _ rfl⟩
  ·rw [List.getElem?_map] at hi;cases hs:a[i]? with
   | none=>rw [hs] at hi;cases hi
   | some s0=>rw [hs] at hi;cases hi;exact (ih1 i s0 v hs hv).2
  ·rw [List.getElem?_map] at hi;cases hs:b[i]? with
   | none=>rw [hs] at hi;cases hi
   | some s0=>rw [hs] at hi;cases hi;exact (ih2 i s0 v hs hv).2
 | j v h1=>exact⟨.j v h1,.j v h1⟩
 | h id o k h hμ=>
  have e:=(zlx ρ o).symm;rw [e];exact⟨.h _ _ k (hl _ _ h).1 (by rw [(hl _ _ h).2,hμ]),.h _ _ k (hl _ _ h).1 (by rw [(hl _ _ h).2,hμ])⟩
 | sb id off n cap cs k h hμ hn hc=>exact⟨.sb _ off n cap _ k (hl _ _ h).1 (by rw [(hl _ _ h).2,hμ]) hn hc,.sb _ off n cap _ k (hl _ _ h).1 (by rw [(hl _ _ h).2,hμ]) hn hc⟩
theorem zgK (hl:∀ id ob,lk id σ1=some ob→lk (ρ id) σ''=some (rnOb ρ ob)∧g''.μ (ρ id)=g1.μ id) (hK:g''.K=g1.K) {x:AV} {v:Value} (hv:VR1 σ1 g1 w x v):VR1 σ'' g'' w (zh6 ρ x) v:=by
 cases x with
 | x s=>exact (zbs hl hK hv).1
 | a cs=>
  obtain⟨vs,rfl,h1,h2⟩:=hv;refine⟨vs,rfl,by simpa using h1,fun i s u hi hu=>?_⟩
  rw [List.getElem?_map] at hi;cases hs:cs[i]? with
  | none=>rw [hs] at hi;cases hi
  | some s0=>rw [hs] at hi;cases hi;exact (zbs hl hK (h2 i s0 u hs hu)).1
 | _=>exact hv.elim
theorem zf5 (hl:∀ id ob,lk id σ1=some ob→lk (ρ id) σ''=some (rnOb ρ ob)∧g''.μ (ρ id)=g1.μ id) (hK:g''.K=g1.K) {x:AV} {v:Value} (hv:VR2 σ1 g1 w x v):VR2 σ'' g'' w (rnAV ρ x) v:=by
 have one:=fun (x:AV) (v:Value) (hv:VR1 σ1 g1 w x v)=>zgK (g'':=g'') hl hK hv
 cases x with
 | t xs=>
  obtain⟨vs,rfl,h1,h2⟩:=hv;refine⟨vs,rfl,by simpa using h1,fun i s u hi hu=>?_⟩
  rw [List.getElem?_map] at hi;cases hs:xs[i]? with
  | none=>rw [hs] at hi;cases hi
  | some s0=>rw [hs] at hi;cases hi;exact one _ _ (h2 i s0 u hs hu)
 | x s=>exact one (.x s) v hv
 | a cs=>exact one (.a cs) v hv
 | g _ _=>exact hv.elim
theorem znx (hl:∀ id ob,lk id σ1=some ob→lk (ρ id) σ''=some (rnOb ρ ob)∧g''.μ (ρ id)=g1.μ id) (hK:g''.K=g1.K) {x:AV} {v:Value} (hv:VR σ1 g1 w x v):VR σ'' g'' w (rnV ρ x) v:=by
 have up:∀ {x:AV} {v:Value},VR2 σ1 g1 w x v→VR2 σ'' g'' w (rnAV ρ x) v:=fun h=>zf5 (g'':=g'') hl hK h
 cases x with
 | g c y=>exact⟨fun hc=>up (hv.1 hc),hv.2⟩
 | t xs=>exact zZ (up (x:=.t xs) hv)
 | x s=>exact zZ (up (x:=.x s) hv)
 | a cs=>exact zZ (up (x:=.a cs) hv)
theorem zh3 (hl:∀ id ob,lk id σ1=some ob→lk (ρ id) σ''=some (rnOb ρ ob)∧g''.μ (ρ id)=g1.μ id) (hK:g''.K=g1.K) {b:Nat} {o:Ob2} (hv:O2 σ1 g1 w b o):O2 σ'' g'' w b (rnO2 ρ o):=by
 cases o with
 | map kt kvs=>
  obtain⟨es,h1,h2,h3,h4,h5,h6⟩:=hv;have own:O2 σ'' g'' w b (.map kt (rnKv ρ kvs)):=by
   have key:∀ {i:Nat} {k:Value} {x:AV},(rnKv ρ kvs)[i]?=some (k,x)→∃ y,kvs[i]?=some (k,y)∧zh6 ρ y=x:=fun hi=>znA.1 hi
   refine⟨es,h1,by rw [h2,znz],fun i k x hi=>?_,fun i k x hi=>?_,fun i j k x y hi hj=>?_,fun i k x hi=>?_⟩
   ·obtain⟨y,hy,rfl⟩:=key hi;obtain⟨e,a,c,d,f⟩:=h3 i k y hy;exact⟨e,a,c,d,zgK hl hK f⟩
   ·obtain⟨y,hy,rfl⟩:=key hi;exact h4 i k y hy
   ·obtain⟨x',hx,_⟩:=key hi;obtain⟨y',hy,_⟩:=key hj;exact h5 i j k x' y' hx hy
   ·obtain⟨y,hy,rfl⟩:=key hi;rw [holds_rn];exact h6 i k y hy
  have dat:kt.isOwn=false→O2 σ'' g'' w b (.map kt kvs):=by
   intro ho;refine⟨es,h1,h2,fun i k x hi=>?_,h4,h5,h6⟩
   obtain⟨e,a,c,d,f⟩:=h3 i k x hi;have hd:=h6 i k x hi;rw [holds_dat ho] at hd;exact⟨e,a,c,d,by have:=zgK hl hK f;rwa [zh5 hd] at this⟩
  cases kt with
  | one _=>exact dat rfl
  | st _=>exact dat rfl
  | oone _=>exact own
  | ost _=>exact own
 | mapIter m since seen last=>
  cases m with
  | some m=>obtain⟨mb,h1,h2⟩:=hv;exact⟨mb,h1,(zbs hl hK h2).1⟩
  | none=>exact hv
 | strIter s pos=>exact hv
 | loop st pend params assign body nt fr dfr=>
  obtain⟨f,tmps,d,h1,h2,h3,h4⟩:=hv;refine⟨f,tmps,d,h1,h2,fun t v ht=>?_,(zbs hl hK h4).1⟩
  rw [zjq] at ht;cases hx:lk t fr with
  | none=>rw [hx] at ht;cases ht
  | some x=>rw [hx] at ht;cases ht;exact⟨(h3 t x hx).1,znx hl hK (h3 t x hx).2⟩
 | dfr=>exact hv
end
def after (ρ : Nat→Nat) (σ0 σ1 σ:Sg):Sg:=rnSg ρ σ1 ++ ziI ((σ0.map (·.1)).map ρ) σ
def zdN (ρ : Nat→Nat) (σ0 σ1 σ:Sg):Bool:=
 injK ρ (σ1.map (·.1)) && (σ0.map (·.1)).all (fun i=>(σ1.map (·.1)).any (Nat.beq i)) && (σ1.map (·.1)).all (fun i=>(σ0.map (·.1)).any (Nat.beq i) || !((σ.map (·.1)).any (Nat.beq (ρ i))))
def SubR (ρ : Nat→Nat) (σ:Sg):Sg→Prop
 | []=>True
 | (i,o)::r=>lk (ρ i) σ=some (rnOb ρ o)∧SubR ρ σ r
theorem zjN {ρ : Nat→Nat} {σ:Sg}:∀ {σ0:Sg},SubR ρ σ σ0→∀ id ob,lk id σ0=some ob→lk (ρ id) σ=some (rnOb ρ ob)
 | [],_,id,ob,h=>by cases h
 | (j,o)::r,hs,id,ob,h=>by
  rw [zr] at h;by_cases e:j=id
  ·subst e;rw [if_pos rfl] at h;cases h;exact hs.1
  ·rw [if_neg e] at h;exact zjN hs.2 id ob h
theorem ACall.frame {P:Program} {f:FuncId} {args:List AV} {σ0 σ:Sg} {R:AV→Sg→Prop} (h:ACall P f args σ0 R) (ρ : Nat→Nat) (hl:SubR ρ σ σ0)
  (hc:(args.all (zeR σ0) && rsSg σ0 σ0 && injK ρ (σ0.map (·.1)))=true) (hn:∀ r1 σ1,R r1 σ1→zdN ρ σ0 σ1 σ=true) :
  ACall P f (args.map (rnAV ρ)) σ (fun r σ'=>∃ r1 σ1,R r1 σ1∧r=rnAV ρ r1∧σ'=after ρ σ0 σ1 σ):=by
 refine⟨h.1,fun w0 K0 g w vs hL hp hs hv=>?_⟩
 have hl:=zjN hl;simp only [Bool.and_eq_true,List.all_eq_true] at hc;obtain⟨⟨hca,hcs⟩,hinj0⟩:=hc;have hinj0:=zgj hinj0;have dom0:∀ {i:Nat},(lk i σ0).isSome=true→(lk (ρ i) σ).isSome=true:=fun {i} hi=>by
  obtain⟨ob,hob⟩:=Option.isSome_iff_exists.1 hi;rw [hl i ob hob];rfl
 let g0:Gh:=⟨g.K,fun i=>g.μ (ρ i)⟩
 let F':Nat→Prop:=fun b=>b < w.heap.size∧∀ i,(lk i σ0).isSome=true→blk (g.μ (ρ i))≠some b
 have hp0:Hp w ⟨g.K,F'⟩ σ0 g0 w:=by
  refine⟨.refl _ _,fun b hb=>hb.1,.refl _ _,fun _ _ _ h=>h,hp.val,fun id ob hid=>?_,fun id b hid hb hF=>hF.2 id hid hb,fun i j b hi hj hbi hbj=>?_⟩
  ·have hO:=hp.obs (ρ id) _ (hl id ob hid);cases ob with
   | box cs=>
    have hcs':=za2 hcs _ _ hid;simp only [rsOb,List.all_eq_true] at hcs';obtain⟨b,us,T,k1,k2,k3,k4,k5,k6⟩:=hO;refine⟨b,us,T,k1,k2,k3,by simpa using k4,fun i s hi=>?_,k6⟩
    obtain⟨v,hv,hr⟩:=k5 i (rnSV ρ s) (by rw [List.getElem?_map,hi];rfl);exact⟨v,hv,zed hl (hcs' s (List.mem_of_getElem? hi)) hr⟩
   | chain e sz st xs=>exact hO
   | x o=>obtain⟨b,k1,k2,k3,k4⟩:=hO;exact⟨b,k1,k2,zh4 hl (za2 hcs _ _ hid) k3,k4⟩
  ·have:=hp.inj (ρ i) (ρ j) b (dom0 hi) (dom0 hj) hbi hbj;exact hinj0 i (zz.1 hi) j (zz.1 hj) this
 refine (h.2 w ⟨g.K,F'⟩ g0 w vs (hL.mono hp.ext) hp0 (by simpa using hs) fun i x v hi hu=>?_).mono ?_
 ·exact zcr hl (hca x (List.mem_of_getElem? hi)) (hv i (rnAV ρ x) v (by rw [List.getElem?_map,hi];rfl) hu)
 rintro e w' ⟨v,g1,σ1,r1,he,hd,hvr,hR⟩;have hon:=hn r1 σ1 hR;unfold zdN at hon;simp only [Bool.and_eq_true,List.all_eq_true,Bool.or_eq_true,Bool.not_eq_true',zdY] at hon;obtain⟨⟨hi1,hsub⟩,hnew⟩:=hon;have hi1:=zgj hi1;let ks:=σ1.map (·.1)
 let g'':Gh:=⟨g1.K,fun k=>match unrn ρ ks k with|some i=>g1.μ i|none=>g.μ k⟩
 have out:∀ {k:Nat},(lk k σ).isSome=true→(∀ i,(lk i σ0).isSome=true→ρ i≠k)→∀ i ∈ ks,ρ i≠k:=by
  intro k hk hno i hi he';rcases hnew i hi with h1|h1
  ·exact hno i (zz.2 h1) he'
  ·have : ρ i ∈ σ.map (·.1):=by rw [he'];exact zz.1 hk
   rw [zdY.2 this] at h1;cases h1
 have lkin:∀ {i:Nat},i ∈ ks→lk (ρ i) (after ρ σ0 σ1 σ)=(lk i σ1).map (rnOb ρ)∧g''.μ (ρ i)=g1.μ i:=by
  intro i hi;have h1:=zjp (ρ:=ρ) (σ:=σ1) (ks:=ks) hi1 (fun _ h=>h) hi;refine⟨?_,?_⟩
  ·unfold after;rw [zel,h1];obtain⟨ob,hob⟩:=Option.isSome_iff_exists.1 (zz.2 hi);rw [hob];rfl
  ·show (match unrn ρ ks (ρ i) with|some i=>g1.μ i|none=>_)=_
   rw [zjS hi1 hi]
 have lkout:∀ {k:Nat},(∀ i ∈ ks,ρ i≠k)→(∀ i,(lk i σ0).isSome=true→ρ i≠k)→lk k (after ρ σ0 σ1 σ)=lk k σ∧g''.μ k=g.μ k:=by
  intro k hk hk0;refine⟨?_,?_⟩
  ·unfold after;rw [zel,zc4 hk];exact zfb (fun hm=>by
    obtain⟨i,hi,he'⟩:=List.mem_map.1 hm;exact hk0 i (zz.2 hi) he') σ
  ·show (match unrn ρ ks k with|some i=>g1.μ i|none=>_)=_
   rw [zfS hk]
 have hlp:∀ id ob,lk id σ1=some ob→lk (ρ id) (after ρ σ0 σ1 σ)=some (rnOb ρ ob)∧g''.μ (ρ id)=g1.μ id:=by
  intro id ob hid;have:=lkin (i:=id) (zz.1 (by rw [hid];rfl));rw [hid] at this;exact this
 have hext:Ext g.K w g1.K w':=hd.hp.ext;have leaf:∀ {s:SV} {u:Value},SR σ0 g0 w s u→SR (after ρ σ0 σ1 σ) g'' w' (rnSV ρ s) u:=fun hs=>(zbs hlp rfl (hd.keep _ _ hs)).1
 have isin:∀ k,(∃ i,(lk i σ0).isSome=true∧ρ i=k)∨(∀ i,(lk i σ0).isSome=true→ρ i≠k):=by
  intro k;by_cases hk:∃ i,(lk i σ0).isSome=true∧ρ i=k
  ·exact .inl hk
  ·exact .inr fun i hi he'=>hk ⟨i,hi,he'⟩
 have keep:∀ s u,SR σ g w s u→SR (after ρ σ0 σ1 σ) g'' w' s u:=by
  intro s u hs;induction hs with
  | d x v h=>exact .d x v (h.mono hext)
  | old c st n e sz st' xs v h hlt h1=>
   rcases isin c with ⟨i,hi,rfl⟩|hno
   ·exact leaf (s:=.o i st n) (zV hl (s:=.o i st n) hi (SR.old (σ:=σ) (ρ i) st n e sz st' xs v h hlt h1))
   ·have:=lkout (out (by rw [h];rfl) hno) hno;exact .old c st n e sz st' xs v (by rw [this.1];exact h) hlt h1
  | o c st n e sz xs a cap h hn hμ=>
   rcases isin c with ⟨i,hi,rfl⟩|hno
   ·exact leaf (s:=.o i st n) (zV hl (s:=.o i st n) hi (SR.o (σ:=σ) (ρ i) st n e sz xs a cap h hn hμ))
   ·have:=lkout (out (by rw [h];rfl) hno) hno;exact .o c st n e sz xs a cap (by rw [this.1];exact h) hn (by rw [this.2];exact hμ)
  | b id off cs k h hμ=>
   rcases isin id with ⟨i,hi,rfl⟩|hno
   ·exact leaf (s:=.b i off) (zV hl (s:=.b i off) hi (SR.b (σ:=σ) (ρ i) off cs k h hμ))
   ·have:=lkout (out (by rw [h];rfl) hno) hno;exact .b id off cs k (by rw [this.1];exact h) (by rw [this.2];exact hμ)
  | se e off k l vs hK hc' hr=>
   exact .se e off k l vs (fun j hj=>hext.sub _ _ (hK j hj)) (fun j hj=>by rw [hext.cell _ _ (hK j hj)];exact hc' j hj) (fun j x hx=>(hr j x hx).mono hext)
  | oeold c st i0 off e sz st' xs v h hlt h1=>
   rcases isin c with ⟨i,hi,rfl⟩|hno
   ·exact leaf (s:=.oe i st i0 off) (zV hl (s:=.oe i st i0 off) hi (SR.oeold (σ:=σ) (ρ i) st i0 off e sz st' xs v h hlt h1))
   ·have:=lkout (out (by rw [h];rfl) hno) hno;exact .oeold c st i0 off e sz st' xs v (by rw [this.1];exact h) hlt h1
  | osold c st i0 off e sz st' xs v h hlt h1=>
   rcases isin c with ⟨i,hi,rfl⟩|hno
   ·exact leaf (s:=.os i st i0 off) (zV hl (s:=.os i st i0 off) hi (SR.osold (σ:=σ) (ρ i) st i0 off e sz st' xs v h hlt h1))
   ·have:=lkout (out (by rw [h];rfl) hno) hno;exact .osold c st i0 off e sz st' xs v (by rw [this.1];exact h) hlt h1
  | oe c st i0 off e sz xs k cap h hμ=>
   rcases isin c with ⟨i,hi,rfl⟩|hno
   ·exact leaf (s:=.oe i st i0 off) (zV hl (s:=.oe i st i0 off) hi (SR.oe (σ:=σ) (ρ i) st i0 off e sz xs k cap h hμ))
   ·have:=lkout (out (by rw [h];rfl) hno) hno;exact .oe c st i0 off e sz xs k cap (by rw [this.1];exact h) (by rw [this.2];exact hμ)
  | os c st i0 off e sz xs k cap h hμ hn=>
   rcases isin c with ⟨i,hi,rfl⟩|hno
   ·exact leaf (s:=.os i st i0 off) (zV hl (s:=.os i st i0 off) hi (SR.os (σ:=σ) (ρ i) st i0 off e sz xs k cap h hμ hn))
   ·have:=lkout (out (by rw [h];rfl) hno) hno;exact .os c st i0 off e sz xs k cap (by rw [this.1];exact h) (by rw [this.2];exact hμ) hn
  | f fn first captured v1 v2 h1 h2 _ _ ih1 ih2=>exact .f fn first captured v1 v2 h1 h2 ih1 ih2
  | j v h1=>exact .j v h1
  | h id o k h hμ=>
   rcases isin id with ⟨i,hi,rfl⟩|hno
   ·exact leaf (s:=.h i) (zV hl (s:=.h i) hi (SR.h (σ:=σ) (ρ i) o k h hμ))
   ·have:=lkout (out (by rw [h];rfl) hno) hno;exact .h id o k (by rw [this.1];exact h) (by rw [this.2];exact hμ)
  | sb id off n cap cs k h hμ hn' hc'=>
   rcases isin id with ⟨i,hi,rfl⟩|hno
   ·exact leaf (s:=.sb i off n cap) (zV hl (s:=.sb i off n cap) hi (SR.sb (σ:=σ) (ρ i) off n cap cs k h hμ hn' hc'))
   ·have:=lkout (out (by rw [h];rfl) hno) hno;exact .sb id off n cap cs k (by rw [this.1];exact h) (by rw [this.2];exact hμ) hn' hc'
 have fsub:∀ b,K0.F b→F' b:=fun b hb=>⟨hp.F_lt b hb,fun i hi he'=>hp.own (ρ i) b (dom0 hi) he' hb⟩
 have cases':∀ {k:Nat},(lk k (after ρ σ0 σ1 σ)).isSome=true→(∃ i,i ∈ ks∧ρ i=k)∨((∀ i ∈ ks,ρ i≠k)∧(∀ i,(lk i σ0).isSome=true→ρ i≠k)∧(lk k σ).isSome=true):=by
  intro k hk;by_cases hin:∃ i,i ∈ ks∧ρ i=k
  ·exact .inl hin
  ·have hks:∀ i ∈ ks,ρ i≠k:=fun i hi he'=>hin ⟨i,hi,he'⟩
   have hk0:∀ i,(lk i σ0).isSome=true→ρ i≠k:=fun i hi=>hks i (hsub i (zz.1 hi))
   refine .inr ⟨hks,hk0,?_⟩
   rw [(lkout hks hk0).1] at hk;exact hk
 have frameF:∀ {k b:Nat},(lk k σ).isSome=true→(∀ i,(lk i σ0).isSome=true→ρ i≠k)→blk (g.μ k)=some b→F' b:=by
  intro k b hk hno hb;obtain⟨ob,hob⟩:=Option.isSome_iff_exists.1 hk;exact⟨((hp.obs k ob hob).blk_lt hb).2,fun i hi he'=>hno i hi (hp.inj (ρ i) k b (dom0 hi) hk he' hb)⟩
 have hd1:=hd.hp;refine⟨v,g'',after ρ σ0 σ1 σ,rnAV ρ r1,he,⟨⟨?_,hp.flt,hp.ext.trans hext,?_,hd1.val,?_,?_,?_⟩,keep⟩,zf5 hlp rfl hvr,r1,σ1,hR,rfl,rfl⟩
 ·exact hp.kept.trans ⟨hd1.kept.os,hd1.kept.tape,hd1.kept.output,hd1.kept.size,fun b hb=>hd1.kept.block b (fsub b hb)⟩
 ·exact fun b o hF hk=>hp.old b o hF (hd1.old b o (fsub b hF) hk)
 ·intro k ob hk;rcases cases' (by rw [hk];rfl) with ⟨i,hi,rfl⟩|⟨hks,hk0,hkσ⟩
  ·have h2:=lkin hi;obtain⟨ob1,hob1⟩:=Option.isSome_iff_exists.1 (zz.2 hi);rw [hob1,hk] at h2;obtain⟨h2,h3⟩:=h2;cases h2;have hO:=hd1.obs i ob1 hob1;cases ob1 with
   | box cs=>
    obtain⟨b,us,T,k1,k2,k3,k4,k5,k6⟩:=hO;refine⟨b,us,T,by rw [h3];exact k1,k2,k3,by simpa using k4,fun j s hj=>?_,k6⟩
    rw [List.getElem?_map] at hj;cases hs':cs[j]? with
    | none=>rw [hs'] at hj;cases hj
    | some s0=>
     rw [hs'] at hj;cases hj;obtain⟨u,hu,hr⟩:=k5 j s0 hs';exact⟨u,hu,(zbs hlp rfl hr).1⟩
   | chain e sz st xs=>
    obtain⟨us,k1,k2,k3,k4,k5⟩:=hO;exact⟨us,by rw [h3];exact k1,by rw [h3];exact k2,k3,k4,fun b hb=>k5 b (by rw [← h3];exact hb)⟩
   | x o=>obtain⟨b,k1,k2,k3,k4⟩:=hO;exact⟨b,by rw [h3];exact k1,k2,zh3 hlp rfl k3,k4⟩
  ·have h2:=lkout hks hk0;rw [h2.1] at hk;have hO:=hp.obs k ob hk;refine hO.keep keep hext h2.2 (fun b hb=>hd1.kept.block b (frameF hkσ hk0 hb)) (fun b hb o hkk=>?_)
   exact hp.notK hk hb o (hd1.old b o (frameF hkσ hk0 hb) hkk)
 ·intro k b hk hb hF;rcases cases' hk with ⟨i,hi,rfl⟩|⟨hks,hk0,hkσ⟩
  ·rw [(lkin hi).2] at hb;exact hd1.own i b (zz.2 hi) hb (fsub b hF)
  ·rw [(lkout hks hk0).2] at hb;exact hp.own k b hkσ hb hF
 ·intro k k' b hk hk' hb hb';rcases cases' hk with ⟨i,hi,rfl⟩|⟨hks,hk0,hkσ⟩ <;> rcases cases' hk' with ⟨j,hj,rfl⟩|⟨hks',hk0',hkσ'⟩
  ·rw [(lkin hi).2] at hb;rw [(lkin hj).2] at hb';rw [hd1.inj i j b (zz.2 hi) (zz.2 hj) hb hb']
  ·rw [(lkin hi).2] at hb;rw [(lkout hks' hk0').2] at hb';exact absurd (frameF hkσ' hk0' hb') (hd1.own i b (zz.2 hi) hb)
  ·rw [(lkout hks hk0).2] at hb;rw [(lkin hj).2] at hb';exact absurd (frameF hkσ hk0 hb) (hd1.own j b (zz.2 hj) hb')
  ·rw [(lkout hks hk0).2] at hb;rw [(lkout hks' hk0').2] at hb';exact hp.inj k k' b hkσ hkσ' hb hb'
end Go.QL
namespace Go.QL
open Go Go.RowKit
def zlu (σ σ':Sg):SV→Option PV
 | .d p=>some p
 | .o c st n=>match lk c σ' with
  | some _=>none
  | none=>(match zbq σ (.o c st n) with|some (.d p)=>some p|_=>none)
 | _=>none
def zh2 (σ σ':Sg):List SV→Option (List PV)
 | []=>some []
 | s::r=>match zlu σ σ' s,zh2 σ σ' r with|some t,some l=>some (t::l)|_,_=>none
def zcy (σ σ':Sg):SV→Option SV
 | .d p=>some (.d p)
 | .se e off=>some (.se e off)
 | .j=>some .j
 | .o c st n=>match lk c σ' with
  | some _=>some (.o c st n)
  | none=>zbq σ (.o c st n)
 | .b id off=>match lk id σ' with
  | some _=>some (.b id off)
  | none=>none
 | .oe c st i off=>match lk c σ' with
  | some _=>some (.oe c st i off)
  | none=>none
 | .os c st i off=>match lk c σ' with
  | some _=>some (.os c st i off)
  | none=>none
 | .h id=>match lk id σ' with
  | some _=>some (.h id)
  | none=>none
 | .sb id off n cap=>match lk id σ' with
  | some _=>some (.sb id off n cap)
  | none=>(match lk id σ with
   | some (.box cs)=>(match off,zh2 σ σ' cs with
    | 0,some ps=>if n=ps.length then some (.d (.s 1 (ps.map fun p=>[p]))) else none
    | _,_=>none)
   | _=>none)
 | .f fn a b=>bif a.all (rs1 σ') && b.all (rs1 σ') then some (.f fn a b) else none
def zkO (σ σ':Sg):List SV→Option (List SV)
 | []=>some []
 | s::r=>match zcy σ σ' s,zkO σ σ' r with|some t,some l=>some (t::l)|_,_=>none
def zc5 (σ σ':Sg):AV→Option AV
 | .x s=>match zcy σ σ' s with|some t=>some (.x t)|none=>none
 | .a cs=>match zkO σ σ' cs with|some l=>some (.a l)|none=>none
 | _=>none
def zdP (σ σ':Sg):List AV→Option (List AV)
 | []=>some []
 | x::r=>match zc5 σ σ' x,zdP σ σ' r with|some y,some l=>some (y::l)|_,_=>none
def zb0 (tt:TT) (res:List ResultVar) (fr:Fr) (σ σ':Sg):Option AV:=
 match zbY tt σ fr res with
 | some [x]=>zc5 σ σ' x
 | some xs=>(match zdP σ σ' xs with|some l=>some (.t l)|none=>none)
 | none=>none
def zqs (tt:TT) (res:List ResultVar) (ids:List Nat) (R:AV→Sg→Prop):Exit→Fr→Sg→Prop
 | .normal,fr,σ|.ret,fr,σ=>∃ r σ',SubS σ σ'∧(rsSg σ' σ' && zbC ids σ')=true∧zb0 tt res fr σ σ'=some r∧R r σ'
 | _,_,_=>False
def Kend (σ σ':Sg) (g:Gh) (w:World):Nat→Nat→Prop:=fun b o=>g.K b o∨∃ c ob,lk c σ=some ob∧lk c σ'=none∧blk (g.μ c)=some b∧b < w.heap.size
section
variable {P:Program} {Γ:Cx} {w0:World} {K0:Bs} {fr:Fr} {σ σ':Sg} {g:Gh} {a:Act} {w:World}
theorem zeE:Ext g.K w (Kend σ σ' g w) w:=⟨fun _ _ h=>.inl h,fun _ _ _=>rfl⟩
theorem zak {s:SV} {v:Value} (h:SR σ' g w s v):SR σ' ⟨Kend σ σ' g w,g.μ⟩ w s v:=
 SR.keep (σ:=σ') (σ':=σ') (g:=g) (g':=⟨Kend σ σ' g w,g.μ⟩) (w:=w) (w':=w) ⟨fun _ cs h=>⟨rfl,cs,h⟩,fun _ _ _ _ xs h=>.inr ⟨rfl,xs,h,rfl⟩,fun _ o h=>⟨rfl,o,h,rfl⟩⟩ zeE h
theorem Hp.atEnd (hp:Hp w0 K0 σ g w) (hs:Sup σ' σ) (ho:rsSg σ' σ'=true):Hp w0 K0 σ' ⟨Kend σ σ' g w,g.μ⟩ w:=by
 have hw:=hp.weaken hs ho;refine⟨hw.kept,hw.flt,hw.ext.trans zeE,fun b o hF hk=>?_,fun b o hk=>?_,fun id ob hid=>?_,hw.own,hw.inj⟩
 ·rcases hk with hk|⟨c,ob,hl,_,hb,_⟩
  ·exact hp.old b o hF hk
  ·exact absurd hF (hp.own c b (by rw [hl];rfl) hb)
 ·rcases hk with hk|⟨c,ob,_,_,_,h⟩
  ·exact hp.val b o hk
  ·exact h
 ·refine (hw.obs id ob hid).keep (fun s v h=>zak h) zeE rfl (fun _ _=>rfl) (fun b hb o hk=>?_)
  rcases hk with hk|⟨c,ob',hl,hn,hb',_⟩
  ·exact hw.notK hid hb o hk
  ·have:=hp.inj id c b (by rw [hs _ _ hid];rfl) (by rw [hl];rfl) hb hb';subst this;rw [hid] at hn;cases hn
theorem zko (hp:Hp w0 K0 σ g w) {c e sz st n:Nat} {xs:List (List PV)} (hl:lk c σ=some (.chain e sz st xs)) (hn:n≤xs.length) {v:Value} (hv:SR σ g w (.o c st n) v) :
  PR (fun b o=>g.K b o∨(blk (g.μ c)=some b∧b < w.heap.size)) w (.s sz (xs.take n)) v:=by
 have:=Imp.freeze.freeze_one (σ':=[]) (a:=⟨#[v],[]⟩) (t:=0) hp hl hn (show VR σ g w (.x (.o c st n)) v from hv);have h2:SR [] ⟨fun b o=>g.K b o∨(blk (g.μ c)=some b∧b < w.heap.size),g.μ⟩ w (.d (.s sz (xs.take n))) v:=this;cases h2 with|d _ _ h=>exact h
theorem zgJ:∀ {l:List SV} {t:List PV},zh2 σ σ' l=some t→t.length=l.length∧∀ (i:Nat) (y:PV),t[i]?=some y→∃ s,l[i]?=some s∧zlu σ σ' s=some y
 | [],t,h=>by cases h;exact⟨rfl,fun i y hi=>by simp at hi⟩
 | s::r,t,h=>by
  simp only [zh2] at h;cases h1:zlu σ σ' s with
  | none=>rw [h1] at h;cases h
  | some y=>
   cases h2:zh2 σ σ' r with
   | none=>rw [h1,h2] at h;cases h
   | some l=>
    rw [h1,h2] at h;cases h;obtain⟨e,ih⟩:=zgJ h2;refine⟨by simp [e],fun i z hi=>?_⟩
    cases i with
    | zero=>cases hi;exact⟨s,rfl,h1⟩
    | succ i=>exact ih i z hi
theorem znt (hp:Hp w0 K0 σ g w) {s:SV} {p:PV} (h:zlu σ σ' s=some p) {v:Value} (hv:SR σ g w s v):PR (Kend σ σ' g w) w p v:=by
 cases s with
 | d q=>cases h;cases hv with|d _ _ h=>exact h.mono zeE
 | o c st n=>
  simp only [zlu] at h;split at h
  ·cases h
  ·rename_i hno;simp only [zbq] at h;split at h
   ·rename_i p' h';cases h;split at h'
    ·rename_i e sz st' xs hl;split at h'
     ·rename_i hc;cases h';obtain⟨rfl,hn⟩:=hc;refine (zko hp hl hn hv).mono ⟨fun b o hk=>?_,fun _ _ _=>rfl⟩
      rcases hk with hk|⟨h1,h2⟩
      ·exact .inl hk
      ·exact .inr ⟨c,_,hl,hno,h1,h2⟩
     ·cases h'
    ·cases h'
   ·cases h
 | _=>cases h
theorem zir (hp:Hp w0 K0 σ g w) (hs:Sup σ' σ) {s t:SV} (h:zcy σ σ' s=some t) {v:Value} (hv:SR σ g w s v):SR σ' ⟨Kend σ σ' g w,g.μ⟩ w t v:=by
 cases s with
 | d p=>cases h;cases hv with|d _ _ h=>exact .d _ _ (h.mono zeE)
 | se e off=>cases h;exact zak (za3 hs (s:=.se e off) rfl hv)
 | j=>cases h;exact zak (za3 hs (s:=.j) rfl hv)
 | o c st n=>
  simp only [zcy] at h;split at h
  ·rename_i ob hob;cases h;exact zak (za3 hs (s:=.o c st n) (by simp [rs1,hob]) hv)
  ·rename_i hno;simp only [zbq] at h;split at h
   ·rename_i e sz st' xs hl;split at h
    ·rename_i hc;cases h;obtain⟨rfl,hn⟩:=hc;refine .d _ _ ((zko hp hl hn hv).mono ⟨fun b o hk=>?_,fun _ _ _=>rfl⟩)
     rcases hk with hk|⟨h1,h2⟩
     ·exact .inl hk
     ·exact .inr ⟨c,_,hl,hno,h1,h2⟩
    ·cases h
   ·cases h
 | b id off=>
  simp only [zcy] at h;split at h
  ·rename_i ob hob;cases h;exact zak (za3 hs (s:=.b id off) (by simp [rs1,hob]) hv)
  ·cases h
 | oe c st i off=>
  simp only [zcy] at h;split at h
  ·rename_i ob hob;cases h;exact zak (za3 hs (s:=.oe c st i off) (by simp [rs1,hob]) hv)
  ·cases h
 | os c st i off=>
  simp only [zcy] at h;split at h
  ·rename_i ob hob;cases h;exact zak (za3 hs (s:=.os c st i off) (by simp [rs1,hob]) hv)
  ·cases h
 | h id=>
  simp only [zcy] at h;split at h
  ·rename_i ob hob;cases h;exact zak (za3 hs (s:=.h id) (by simp [rs1,hob]) hv)
  ·cases h
 | sb id off n cap=>
  simp only [zcy] at h;split at h
  ·rename_i ob hob;cases h;exact zak (za3 hs (s:=.sb id off n cap) (by simp [rs1,hob]) hv)
  ·rename_i hno;split at h
   ·rename_i cs hl;split at h
    ·rename_i ps hps;split at h
     ·rename_i hn;cases h;obtain⟨hpl,hpg⟩:=zgJ hps;cases hv with
      | sb _ _ _ _ cs' k hl' hμ hn' hc'=>
       rw [hl] at hl';cases hl';obtain⟨b,vs,T,h1,h2,h3,h4,h5,h6⟩:=hp.obs _ _ hl;rw [hμ] at h1;have hkb:k=b:=by injection h1 with h1;injection h1 with h1;injection h1
       subst hkb;have hbl:blk (g.μ id)=some k:=by rw [hμ];rfl
       have hlt:k < w.heap.size:=(hp.obs _ _ hl).blk_lt hbl |>.2
       have hcell:∀ i v,vs[i]?=some v→w.cell? ⟨k,i,none⟩=some v:=fun i v hi=>by
        unfold World.cell?;rw [h3];simp [hi]
       have key:∀ (i:Nat) (p:PV),ps[i]?=some p→∃ v,vs[i]?=some v∧PR (Kend σ σ' g w) w p v:=by
        intro i p hi;obtain⟨s,hs',hr'⟩:=hpg i p hi;obtain⟨v,hv1,hv2⟩:=h5 i s hs';exact⟨v,hv1,znt hp hr' hv2⟩
       have:=PR.s (K:=Kend σ σ' g w) (w:=w) 1 (ps.map fun p=>[p]) (some ⟨k,0,none⟩) cap k 0 (fun i j=>vs.getD (i+j) undef) (by simp;omega) hc' (by simp) (fun _=>rfl)
        (fun i el hi j hj=>.inr ⟨id,_,hl,hno,hbl,hlt⟩) (fun i el hi j hj=>by
         rw [List.getElem?_map] at hi;cases hpi:ps[i]? with
         | none=>rw [hpi] at hi;cases hi
         | some p=>
          rw [hpi] at hi;cases hi;have hj0:j=0:=by simpa using hj
          subst hj0;obtain⟨v,hv1,hv2⟩:=key i p hpi;have e1:vs.getD (i+0) undef=v:=by simp [hv1]
          rw [e1];simpa using hcell i v hv1) (fun i el hi j x hj=>by
         rw [List.getElem?_map] at hi;cases hpi:ps[i]? with
         | none=>rw [hpi] at hi;cases hi
         | some p=>
          rw [hpi] at hi;cases hi;cases j with
          | succ j=>simp at hj
          | zero=>
           cases hj;obtain⟨v,hv1,hv2⟩:=key i _ hpi;have e1:vs.getD (i+0) undef=v:=by simp [hv1]
           rw [e1];exact hv2)
       rw [List.length_map,← hn] at this;exact .d _ _ this
     ·cases h
    ·cases h
   ·cases h
 | f fn a b=>
  simp only [zcy] at h;cases hc:(a.all (rs1 σ') && b.all (rs1 σ')) with
  | false=>rw [hc] at h;cases h
  | true=>rw [hc] at h;cases h;exact zak (zhn hs (s:=.f fn a b) hc hv)
theorem zis:∀ {l t:List SV},zkO σ σ' l=some t→t.length=l.length∧∀ (i:Nat) (y:SV),t[i]?=some y→∃ s,l[i]?=some s∧zcy σ σ' s=some y
 | [],t,h=>by cases h;exact⟨rfl,fun i y hi=>by simp at hi⟩
 | s::r,t,h=>by
  simp only [zkO] at h;cases h1:zcy σ σ' s with
  | none=>rw [h1] at h;cases h
  | some y=>
   cases h2:zkO σ σ' r with
   | none=>rw [h1,h2] at h;cases h
   | some l=>
    rw [h1,h2] at h;cases h;obtain⟨e,ih⟩:=zis h2;refine⟨by simp [e],fun i z hi=>?_⟩
    cases i with
    | zero=>cases hi;exact⟨s,rfl,h1⟩
    | succ i=>exact ih i z hi
theorem zgf:∀ {l t:List AV},zdP σ σ' l=some t→t.length=l.length∧∀ (i:Nat) (y:AV),t[i]?=some y→∃ s,l[i]?=some s∧zc5 σ σ' s=some y
 | [],t,h=>by cases h;exact⟨rfl,fun i y hi=>by simp at hi⟩
 | s::r,t,h=>by
  simp only [zdP] at h;cases h1:zc5 σ σ' s with
  | none=>rw [h1] at h;cases h
  | some y=>
   cases h2:zdP σ σ' r with
   | none=>rw [h1,h2] at h;cases h
   | some l=>
    rw [h1,h2] at h;cases h;obtain⟨e,ih⟩:=zgf h2;refine⟨by simp [e],fun i z hi=>?_⟩
    cases i with
    | zero=>cases hi;exact⟨s,rfl,h1⟩
    | succ i=>exact ih i z hi
theorem zgW (hp:Hp w0 K0 σ g w) (hs:Sup σ' σ) {x y:AV} (h:zc5 σ σ' x=some y) {v:Value} (hv:VR2 σ g w x v):VR1 σ' ⟨Kend σ σ' g w,g.μ⟩ w y v∧ziC y=true:=by
 cases x with
 | x s=>
  simp only [zc5] at h;cases h1:zcy σ σ' s with
  | none=>rw [h1] at h;cases h
  | some t=>rw [h1] at h;cases h;exact⟨zir hp hs h1 hv,rfl⟩
 | a cs=>
  simp only [zc5] at h;cases h1:zkO σ σ' cs with
  | none=>rw [h1] at h;cases h
  | some l=>
   rw [h1] at h;cases h;obtain⟨vs,rfl,hsz,hr⟩:=hv;obtain⟨hl,hg⟩:=zis h1;refine⟨⟨vs,rfl,by rw [hl,hsz],fun i s u hi hu=>?_⟩,rfl⟩
   obtain⟨s',h1',h2'⟩:=hg i s hi;exact zir hp hs h2' (hr i s' u h1' hu)
 | t _=>cases h
 | g _ _=>cases h
theorem zk3 {x:AV} (h:ziC x=true) {v:Value} (hv:VR1 σ g w x v):VR2 σ g w x v:=by
 cases x with
 | x _=>exact hv
 | a _=>exact hv
 | t _=>cases h
 | g _ _=>cases h
theorem zbQ {tt:TT} (htt:tt.ok P) (hr:Rel Γ fr σ g a w) (hs:Sup σ' σ) {fn:Func} {res:List ResultVar} (hres:fn.results=res.toArray) {r:AV} (h:zb0 tt res fr σ σ'=some r) :
  ∃ v,(results fn a.tmps).run P w=.ok v w∧VR2 σ' ⟨Kend σ σ' g w,g.μ⟩ w r v:=by
 unfold zb0 at h;cases hx:zbY tt σ fr res with
 | none=>rw [hx] at h;cases h
 | some xs=>
  rw [hx] at h;obtain⟨us,hus,hl,hrs⟩:=zef htt hr hx;have hm:(res.toArray.mapM (m:=Sem) (zgM a.tmps)).run P w=.ok us.toArray w:=by
   rw [Array.mapM_eq_mapM_toList,Sem.run_map,hus];rfl
  have hrun:(results fn a.tmps).run P w=.ok (if h:us.toArray.size=1 then us.toArray[0] else .tuple us.toArray) w:=by
   rw [zeS,hres,Sem.run_bind,hm];rfl
  refine⟨_,hrun,?_⟩
  have many:¬ us.toArray.size=1→(match zdP σ σ' xs with|some l=>some (AV.t l)|none=>none)=some r→VR2 σ' ⟨Kend σ σ' g w,g.μ⟩ w r (.tuple us.toArray):=by
   intro _ h;cases hk:zdP σ σ' xs with
   | none=>rw [hk] at h;cases h
   | some l=>
    rw [hk] at h;cases h;obtain⟨hll,hg⟩:=zgf hk;refine⟨_,rfl,by simp;omega,fun i z q hi hq=>?_⟩
    obtain⟨s,h1,h2⟩:=hg i z hi;exact (zgW hr.hp hs h2 (hrs i s q h1 (by simpa using hq))).1
  match xs,us,hl,hrs,h,many with
  | [],[],_,_,h,many=>rw [dif_neg (by simp)];exact many (by simp) h
  | [x],[u],_,hrs,h,_=>
   have:=zgW hr.hp hs h (hrs 0 _ u rfl rfl);exact zk3 this.2 this.1
  | x::y::xs,u::v::us,_,_,h,many=>
   have hne:¬ (u::v::us).toArray.size=1:=by simp
   rw [dif_neg hne];exact many hne h
theorem zp {tt:TT} (htt:tt.ok P) {f:FuncId} {fn:Func} {c:Code} {args:List AV} {σ:Sg} {R:AV→Sg→Prop} {res:List ResultVar} (hf:P.funcs[f]?=some fn) (hb:fn.body=some c)
  (hname:(fn.name == "runtime.NumGoroutine")=false) (hres:fn.results=res.toArray) {nt:Nat} (hnt:fn.ntmps=nt) (hle:args.length≤nt)
  (h:∀ w0 K0 B,AW P ⟨w0,K0,nt,B,σ.map (·.1),none,[],[]⟩ c (zqs tt res (σ.map (·.1)) R) (entry 0 args) σ):ACall P f args σ R:=by
 refine⟨⟨fn,hf,by rw [hb];rfl,hname⟩,fun w0 K0 g w vs hL hp hs hv=>?_⟩
 refine calls_of_wp hf hb ((wpIn_wide (n:=0)).1 ?_)
 have hrel:Rel ⟨w0,K0,nt,SR σ g w,σ.map (·.1),none,[],[]⟩ (entry 0 args) σ g ⟨vs ++ Array.replicate (fn.ntmps - vs.size) undef,[]⟩ w:=by
  refine⟨hp,fun t x ht=>?_,by simp;omega,DRb.empty,fun s v hb=>⟨hb,SR.inI hb⟩⟩
  obtain⟨_,hx⟩:=zbm args 0 t x ht;rw [Nat.sub_zero] at hx;have hlt:t < args.length:=(List.getElem?_eq_some_iff.1 hx).1;refine⟨by show t < nt;omega,?_⟩
  have hvt:vs[t]?=some (vs[t]'(by omega)):=Array.getElem?_eq_getElem (by omega);have e:(vs ++ Array.replicate (fn.ntmps - vs.size) undef).getD t undef=vs[t]'(by omega):=by
   rw [Array.getD_eq_getD_getElem?,Array.getElem?_append_left (by omega),hvt];rfl
  show VR _ _ _ _ ((vs ++ Array.replicate (fn.ntmps - vs.size) undef).getD t undef)
  rw [e];exact zZ (hv t x _ hx hvt)
 refine wpIn_mono ((h w0 K0 _).use hL hrel) ?_
 intro e a' w' ⟨fr,τ,g',hr,hq⟩;have fin:(∃ r σ',SubS τ σ'∧(rsSg σ' σ' && zbC (σ.map (·.1)) σ')=true∧zb0 tt res fr τ σ'=some r∧R r σ') →
   a'.defers=[]∧∃ v,(results fn a'.tmps).run P w'=.ok v w'∧∃ v_1 g'' σ'' r,Ending.returned v=.returned v_1∧Did w0 K0 σ g w σ'' g'' w'∧VR2 σ'' g'' w' r v_1∧R r σ'':=by
  rintro⟨r,σ',hsub,hc,ho,hR⟩;simp only [Bool.and_eq_true] at hc;have hsup:=za9 hsub;obtain⟨v,hrun,hvr⟩:=zbQ htt hr hsup hres ho;exact⟨hr.defers.nil,v,hrun,v,_,σ',r,rfl,⟨hr.hp.atEnd hsup hc.1,fun s u hs=>zak (zai hsup hc.2 (hr.base s u hs).1 (hr.base s u hs).2)⟩,hvr,hR⟩
 cases e with
 | normal=>exact fin hq
 | ret=>exact fin hq
 | _=>exact hq.elim
end
end Go.QL
namespace Go.QL
open Go Go.RowKit
def zk2:List Tmp→List AV→Fr→Fr
 | t::r,x::s,fr=>(t,x)::zk2 r s fr
 | _,_,fr=>fr
def zsi (id:Nat) (ids:List Nat) (params:Array Tmp) (assign body:Code) (nt:Nat) (fr0:Fr) (dfr:Nat) (R:AV→Sg→Prop):Exit→Fr→Sg→Prop
 | .normal,_,σ=>∃ σ' pend,SubS σ σ'∧(rsSg σ' σ' && zbC ids σ')=true∧lk id σ'=some (.x (.loop .busy pend params assign body nt fr0 dfr))∧R (bv true) (zat id (.x (.loop .ready none params assign body nt fr0 dfr)) σ')
 | .ret,_,σ=>∃ σ' pend,SubS σ σ'∧(rsSg σ' σ' && zbC ids σ')=true∧lk id σ'=some (.x (.loop .busy pend params assign body nt fr0 dfr))∧R (bv false) (zat id (.x (.loop .done (some .ret) params assign body nt fr0 dfr)) σ')
 | .exit e,_,σ=>∃ σ' pend,SubS σ σ'∧(rsSg σ' σ' && zbC ids σ')=true∧lk id σ'=some (.x (.loop .busy pend params assign body nt fr0 dfr))∧R (bv false) (zat id (.x (.loop .done (some (.exit e)) params assign body nt fr0 dfr)) σ')
 | _,_,_=>False
section
variable {P:Program} {Γ:Cx} {w0:World} {K0:Bs} {fr:Fr} {σ σ':Sg} {g:Gh} {a:Act} {w:World} {Q:Exit→Fr→Sg→Prop}
theorem Hp.setLoop (hp:Hp w0 K0 σ g w) {id:Nat} {st st':LoopState} {pend pend':Option Code} {params:Array Tmp} {assign body:Code} {nt:Nat} {fr0:Fr} {dfr:Nat}
  (hl:lk id σ=some (.x (.loop st pend params assign body nt fr0 dfr))) :
  ∃ (l:Nat) (r:Loop),g.μ id=.pointer (some ⟨l,0,none⟩)∧w.heap[l]?=some (.loop r)∧r.state=st∧r.pending=pend ∧
   Did w0 K0 σ g w (zat id (.x (.loop st' pend' params assign body nt fr0 dfr)) σ) ⟨g.K,upd g.μ id (.pointer (some ⟨l,0,none⟩))⟩ (w.putObj l (.loop { r with state:=st',pending:=pend' })):=by
 obtain⟨l,h1,h2,h3,_⟩:=hp.obs id _ hl;obtain⟨f,tmps,d,k1,k2,k3,k4⟩:=h3;refine⟨l,_,h1,k1,rfl,rfl,?_⟩
 exact hp.setX (o':=.loop st' pend' params assign body nt fr0 dfr) hl rfl h1 (.loop { state:=st',pending:=pend',fn:=f,tmps:=tmps,params:=params,assign:=assign,body:=body,defers:=d })
  (fun σ'' g'' w'' hk hw=>⟨f,tmps,d,hw,k2,fun t v ht=>⟨(k3 t v ht).1,(k3 t v ht).2.keep hk⟩,hk _ _ k4⟩)
theorem zdF:∀ (l:List (Tmp × Value)) (tmps:Array Value),(l.foldl (fun tmps (x:Tmp × Value)=>tmps.setIfInBounds x.1 x.2) tmps).size=tmps.size
 | [],_=>rfl
 | (t,v)::r,tmps=>by rw [List.foldl_cons,zdF r];simp
theorem zet:∀ (l:List (Tmp × Value)) (tmps:Array Value) (t:Nat),(∀ p ∈ l,p.1≠t)→(l.foldl (fun tmps (x:Tmp × Value)=>tmps.setIfInBounds x.1 x.2) tmps).getD t undef=tmps.getD t undef
 | [],_,_,_=>rfl
 | (s,v)::r,tmps,t,h=>by
  rw [List.foldl_cons,zet r _ t (fun p hp=>h p (List.mem_cons_of_mem _ hp))];have:=h (s,v) (by simp);simp only [Array.getD_eq_getD_getElem?];rw [Array.getElem?_setIfInBounds_ne this]
theorem ziT:∀ (ps:List Tmp) (xs:List AV) (vs:List Value) (tmps:Array Value),ps.Nodup→ps.length=xs.length→vs.length=xs.length→(∀ t ∈ ps,t < tmps.size) →
  ∀ (t:Nat) (x:AV),lk t (zk2 ps xs fr)=some x →
   (∃ (i:Nat) (v:Value),xs[i]?=some x∧vs[i]?=some v∧t < tmps.size∧((ps.zip vs).foldl (fun tmps (x:Tmp × Value)=>tmps.setIfInBounds x.1 x.2) tmps).getD t undef=v) ∨
   (lk t fr=some x∧((ps.zip vs).foldl (fun tmps (x:Tmp × Value)=>tmps.setIfInBounds x.1 x.2) tmps).getD t undef=tmps.getD t undef)
 | [],xs,vs,tmps,_,h1,h2,_,t,x,h=>.inr ⟨h,by simp⟩
 | p::ps,[],vs,tmps,_,h1,_,_,t,x,h=>by cases h1
 | p::ps,y::xs,[],tmps,_,_,h2,_,t,x,h=>by cases h2
 | p::ps,y::xs,v::vs,tmps,hnd,h1,h2,hlt,t,x,h=>by
  rw [List.nodup_cons] at hnd;unfold zk2 at h;rw [zr] at h;rw [List.zip_cons_cons,List.foldl_cons];by_cases e:p=t
  ·subst e;rw [if_pos rfl] at h;cases h;refine .inl ⟨0,v,rfl,rfl,hlt p (by simp),?_⟩
   rw [zet _ _ p (fun q hq=>by
    rintro rfl;have:=List.of_mem_zip (a:=q.1) (b:=q.2) hq;exact hnd.1 this.1)]
   have:=hlt p (by simp);simp [this]
  ·rw [if_neg e] at h;have ih:=ziT ps xs vs (tmps.setIfInBounds p v) hnd.2 (by simpa using h1) (by simpa using h2) (fun t ht=>by simp;exact hlt t (by simp [ht])) t x h;rcases ih with ⟨i,u,a1,a2,a3,a4⟩|⟨a1,a2⟩
   ·exact .inl ⟨i+1,u,a1,a2,by simpa using a3,a4⟩
   ·refine .inr ⟨a1,?_⟩
    rw [a2];simp only [Array.getD_eq_getD_getElem?];rw [Array.getElem?_setIfInBounds_ne e]
theorem zoH {id:Nat} {args:List AV} {R:AV→Sg→Prop} {pend:Option Code} {params:Array Tmp} {assign body:Code} {nt:Nat} {fr0:Fr} {dfr:Nat}
  (hl:lk id σ=some (.x (.loop .ready pend params assign body nt fr0 dfr))) (hps:params.toList.length=args.length) (hnd:params.toList.Nodup) (hpn:params.toList.all (fun t=>Nat.blt t nt)=true)
  (h:∀ w0 K0 B l,AW P ⟨w0,K0,nt,B,σ.map (·.1),some l,[],[]⟩ assign (Exit.thn (fun fr2 σ2=>∃ pend2,lk id σ2=some (.x (.loop .ready pend2 params assign body nt fr0 dfr)) ∧
    AW P ⟨w0,K0,nt,B,σ.map (·.1),some l,[],[]⟩ body (zsi id (σ.map (·.1)) params assign body nt fr0 dfr R) fr2 (zat id (.x (.loop .busy pend2 params assign body nt fr0 dfr)) σ2)) (fun _ _ _=>False))
   (zk2 params.toList args fr0) σ):YC P id args σ R:=by
 intro w0 K0 g w vs hL hp hs hv;obtain⟨l,h1,h2,h3,_⟩:=hp.obs id _ hl;obtain⟨f,tmps,d,k1,k2,k3,k4⟩:=h3;have hsz:vs.size=params.size:=by rw [hs,← hps];simp
 refine⟨l,f,_,assign,body,_,hl,rfl,h1,run_yield k1 hsz,?_⟩
 rw [List.all_eq_true] at hpn;have hfold:(params.zip vs).foldl (fun tmps (x:Tmp × Value)=>tmps.setIfInBounds x.1 x.2) tmps=(params.toList.zip vs.toList).foldl (fun tmps (x:Tmp × Value)=>tmps.setIfInBounds x.1 x.2) tmps:=by
  rw [← Array.foldl_toList,Array.toList_zip]
 have hrel:Rel ⟨w0,K0,nt,SR σ g w,σ.map (·.1),some l,[],[]⟩ (zk2 params.toList args fr0) σ g ⟨(params.zip vs).foldl (fun tmps (x:Tmp × Value)=>tmps.setIfInBounds x.1 x.2) tmps,[]⟩ w:=by
  refine⟨hp,fun t x ht=>?_,?_,DRb.empty,fun s v hb=>⟨hb,SR.inI hb⟩⟩
  ·dsimp only;rw [hfold];rcases ziT params.toList args vs.toList tmps hnd hps (by simpa using hs) (fun t ht=>by rw [k2];exact Nat.le_of_ble_eq_true (hpn t ht)) t x ht with ⟨i,v,a1,a2,a3,a4⟩|⟨a1,a2⟩
   ·refine⟨by omega,?_⟩
    rw [a4];exact zZ (hv i x v a1 (by simpa using a2))
   ·have:=k3 t x a1;refine⟨this.1,?_⟩
    rw [a2];exact this.2
  ·dsimp only;rw [hfold,zdF,k2]
 refine roundIn_of_wpIn (F:=Fence.wide) trivial ?_
 refine wpIn_mono (show assign.wpIn (FX (some l)) 0 P _ _ w from (h w0 K0 (SR σ g w) l).use hL hrel) ?_
 rintro e a1 w1 ⟨fr2,σ2,g2,hr2,hq⟩;cases e with
 | normal=>
  obtain⟨pend2,hl2,hbody⟩:=hq;obtain⟨l2,r2,hμ2,hheap2,hst2,hpe2,hd2⟩:=hr2.hp.setLoop (st':=.busy) (pend':=pend2) hl2;have hll:l2=l:=by
   have hb:=(hr2.base _ _ (SR.h id _ l hl h1)).1;generalize hvv:Kd.val l (Ob2.kd (.loop .ready pend params assign body nt fr0 dfr))=vv at hb;cases hb with
   | h _ o k hl' hμ'=>
    rw [hl2] at hl';cases hl';rw [hμ2] at hμ';cases hμ';simp [Kd.val,Ob2.kd] at hvv;exact hvv.symm
  subst hll;refine⟨_,run_beginRound hheap2 hst2,?_⟩
  have hrec:({ r2 with state:=.busy,pending:=pend2 }:Loop)={ r2 with state:=.busy }:=by rw [← hpe2]
  rw [hrec] at hd2;have hr3:=hr2.did hd2;refine wpIn_mono (show body.wpIn (FX (some l2)) 0 P _ a1 _ from hbody.use hL hr3) ?_
  rintro e a3 w3 ⟨fr3,σ3,g3,hr4,hq3⟩;have fin:∀ (jump:Option Code) (b:Bool),jump.isNone=b→(∃ σ' pend,SubS σ3 σ'∧(rsSg σ' σ' && zbC (σ.map (·.1)) σ')=true∧lk id σ'=some (.x (.loop .busy pend params assign body nt fr0 dfr))∧R (bv b) (zat id (.x (.loop (if jump.isNone then .ready else .done) jump params assign body nt fr0 dfr)) σ')) →
    ∃ v w',(Instr.endRound l2 jump).run P w3=.ok v w'∧∃ v1 g' σ' r,Ending.returned v=.returned v1∧Did w0 K0 σ g w σ' g' w'∧VR2 σ' g' w' r v1∧R r σ':=by
   rintro jump b hjb ⟨σ',pend',hsub,hc,hl',hR⟩;simp only [Bool.and_eq_true] at hc;have hsup:=za9 hsub;have hw:=hr4.hp.weaken hsup hc.1;obtain⟨l3,r3,hμ3,hheap3,hst3,hpe3,hd3⟩:=hw.setLoop (st':=if jump.isNone then .ready else .done) (pend':=jump) hl';have hll3:l3=l2:=by
    have hb:=(hr4.base _ _ (SR.h id _ l2 hl h1)).1;generalize hvv:Kd.val l2 (Ob2.kd (.loop .ready pend params assign body nt fr0 dfr))=vv at hb;cases hb with
    | h _ o k hl4 hμ'=>
     rw [hsup _ _ hl'] at hl4;cases hl4;rw [hμ3] at hμ';cases hμ';simp [Kd.val,Ob2.kd] at hvv;exact hvv.symm
   subst hll3;refine⟨.bool jump.isNone,_,run_endRound jump hheap3,_,_,_,bv b,rfl,⟨hd3.hp,fun s v hs=>hd3.keep _ _ (zai hsup hc.2 (hr4.base s v hs).1 (hr4.base s v hs).2)⟩,?_,hR⟩
   rw [hjb];exact zL _ rfl
  cases e with
  | normal=>exact fin none true rfl hq3
  | ret=>exact fin (some .ret) false rfl hq3
  | exit e=>exact fin (some (.exit e)) false rfl hq3
  | goto t=>exact hq3.elim
  | panic ch=>exact hq3.elim
  | outgrown=>exact hq3.elim
 | _=>exact hq.elim
theorem zlX {dfs:List Nat} {ds:List Deferred} {i:Nat} (h:DR dfs σ g ds) (hi:lk i σ=none):∀ is:List Nat,is.length=ds.length→(∀ (k j:Nat) (x:Deferred),is[k]?=some j→ds[k]?=some x→j ∈ dfs∧lk j σ=some (.x .dfr)∧∃ d,g.μ j=.pointer (some ⟨d,0,none⟩)∧x=⟨.collected d,#[]⟩)→i ∉ is:=by
 intro is hl h3 hm;obtain⟨k,hk,he⟩:=List.getElem_of_mem hm;have:=h3 k i (ds[k]'(by omega)) (by rw [List.getElem?_eq_getElem hk,he]) (List.getElem?_eq_getElem (by omega));rw [hi] at this;cases this.2.1
theorem ziZ {gop:Operand} {ps:Array Tmp} {assign body:Code} {fid:FuncId} {first captured:List SV} (idL idD:Nat) (hev:ev fr gop=some (none,.x (.f (.func fid) first captured)))
  (hL:lk idL σ=none) (hD:lk idD σ=none) (hne:idL≠idD) (hdfs:idD ∈ Γ.dfs) (hro:Γ.ro=none) (R:AV→Sg→Prop)
  (hcall:ACall P fid (first.map .x ++ [.x (.h idL)] ++ captured.map .x) ((idL,.x (.loop .ready none ps assign body Γ.nt fr idD))::(idD,.x .dfr) :: σ) R)
  (hk:∀ rv σ',R rv σ'→lk idD σ'=some (.x .dfr)∧∃ st pend,lk idL σ'=some (.x (.loop st pend ps assign body Γ.nt fr idD))∧st≠.busy ∧
   (match pend with
    | none=>Q .normal fr (zat idL (.x (.loop .exhausted none ps assign body Γ.nt fr idD)) σ')
    | some c=>AW P Γ c Q fr (zat idL (.x (.loop .exhausted (some c) ps assign body Γ.nt fr idD)) σ'))):AW P Γ (.rangeFunc gop ps assign body) Q fr σ:=by
 refine AW.mk fun hLd g a w hr=>?_
 rw [hro];refine wpIn_rangeFunc (F:=FX none) (n:=0) fun fn _=>?_
 have hval:SR σ g w (.f (.func fid) first captured) (a.eval gop):=by
  have h':ev1 fr none gop (fun v=>v=.x (.f (.func fid) first captured)):=by unfold ev1;rw [hev]
  obtain⟨v,hv,hvr⟩:=zK h';subst hv;exact hvr (.inl rfl) Γ σ g a w hr
 generalize hae:a.eval gop=fval at hval;cases hval with
 | f _ _ _ v1 v2 s1 s2 r1 r2=>
  let W1:=w.alloc (.deferred (some []))
  let W2:=W1.alloc (.loop { state:=.ready,pending:=none,fn:=fn,tmps:=a.tmps,params:=ps,assign:=assign,body:=body,defers:=w.heap.size })
  have d1:=hr.hp.addX idD hD .dfr (.deferred (some [])) (fun σ' g' w' _ hw=>hw);let g1:Gh:=⟨g.K,upd g.μ idD (.pointer (some ⟨w.heap.size,0,none⟩))⟩
  have hL1:lk idL ((idD,Ob.x .dfr) :: σ)=none:=by rw [zr,if_neg (fun e=>hne e.symm)];exact hL
  have d2:=d1.hp.addX idL hL1 (.loop .ready none ps assign body Γ.nt fr idD) (.loop { state:=.ready,pending:=none,fn:=fn,tmps:=a.tmps,params:=ps,assign:=assign,body:=body,defers:=w.heap.size })
   (fun σ' g' w' hk' hw=>⟨fn,a.tmps,w.heap.size,hw,hr.size,fun t v ht=>⟨(hr.fr t v ht).1,((hr.fr t v ht).2.keep d1.keep).keep hk'⟩,
    hk' _ _ (SR.h (σ:=(idD,Ob.x .dfr) :: σ) (g:=g1) (w:=W1) idD .dfr w.heap.size (by rw [zr,if_pos rfl]) (zy _ _ _))⟩)
  have d12:=d1.trans d2;have hgood:=hcall.1;obtain⟨fnr,hf1,hf2,hf3⟩:=hgood;refine⟨w.heap.size+1,[{ target:=.collected w.heap.size,args:=#[] }],W2,⟨.fn (.func fid) v2,v1 ++ #[.func (.yield (w.heap.size+1)) #[] #[]]⟩,W2,fid,v1 ++ #[.func (.yield (w.heap.size+1)) #[] #[]] ++ v2,W2,run_enterLoop_outer fn a.tmps ps assign body,?_,fun _ _=>trivial,?_,zfc,?_⟩
  ·have hres:resolve a.eval (rangeCall gop (w.heap.size+1)) 0=Deferred.ofValue (a.eval gop) #[.func (.yield (w.heap.size+1)) #[] #[]]:=by
    unfold resolve rangeCall;simp;rfl
   rw [hres,hae];rfl
  ·have hb:¬ fnr.body=none:=fun e=>by rw [e] at hf2;cases hf2
   have h3':¬ fnr.name = "runtime.NumGoroutine" :=by simpa using hf3
   simp [invoke,callFunc,hf1,h3',hb]
  ·refine zbi.2 ((hcall.2 Γ.w0 Γ.K0 _ W2 _ hLd d12.hp (by simp [s1,s2];omega) ?_).mono ?_)
   ·refine zde (us:=#[.func (.yield (w.heap.size+1)) #[] #[]]) s1 s2 (fun i s v hi hv=>d12.keep _ _ (r1 i s v hi hv)) (fun i s v hi hv=>d12.keep _ _ (r2 i s v hi hv)) rfl (fun i x v hx hv=>?_)
    match i with
    | 0=>
     cases hx;cases hv;have hh:SR ((idL,Ob.x (.loop .ready none ps assign body Γ.nt fr idD))::(idD,Ob.x .dfr) :: σ) ⟨g1.K,upd g1.μ idL (.pointer (some ⟨W1.heap.size,0,none⟩))⟩ W2 (.h idL) (.func (.yield W1.heap.size) #[] #[]):=
      SR.h idL (.loop .ready none ps assign body Γ.nt fr idD) W1.heap.size (by rw [zr,if_pos rfl]) (zy _ _ _)
     have hsz:W1.heap.size=w.heap.size+1:=by simp [W1]
     have hvv:(Value.func (.yield W1.heap.size) #[] #[])=.func (.yield (w.heap.size+1)) #[] #[]:=by rw [hsz]
     rw [hvv] at hh;exact hh
    | i+1=>simp at hx
   ·rintro e w' ⟨v,g',σ',r,he,hd,hvr,hR⟩;subst he;have hdall:=d12.trans hd;obtain⟨hlD,st,pend,hlL,hst,hq⟩:=hk r σ' hR;obtain⟨l3,r3,hμ3,hheap3,hst3,hpe3,hd3⟩:=hd.hp.setLoop (st':=.exhausted) (pend':=pend) hlL;have hll:l3=w.heap.size+1:=by
     have hh:SR ((idL,Ob.x (.loop .ready none ps assign body Γ.nt fr idD))::(idD,Ob.x .dfr) :: σ) ⟨g1.K,upd g1.μ idL (.pointer (some ⟨W1.heap.size,0,none⟩))⟩ W2 (.h idL) (.func (.yield W1.heap.size) #[] #[]):=
      SR.h idL (.loop .ready none ps assign body Γ.nt fr idD) W1.heap.size (by rw [zr,if_pos rfl]) (zy _ _ _)
     have hb:=hd.keep _ _ hh;generalize hvv:Value.func (.yield W1.heap.size) #[] #[]=vv at hb;cases hb with
     | h _ o k hl4 hμ'=>
      rw [hlL] at hl4;cases hl4;rw [hμ3] at hμ';cases hμ';simp [Kd.val,Ob2.kd] at hvv;rw [← hvv];simp [W1]
    subst hll;have hrec:({ r3 with state:=.exhausted,pending:=pend }:Loop)={ r3 with state:=.exhausted }:=by rw [← hpe3]
    rw [hrec] at hd3;have hdfin:=hdall.trans hd3;have hend:=run_endLoop (P:=P) hheap3 (by rw [hst3];exact hst);have hmark:lk idD (zat idL (.x (.loop .exhausted pend ps assign body Γ.nt fr idD)) σ')=some (.x .dfr):=by rw [zt _ _ _ _ (fun e=>hne e.symm)];exact hlD
    have hr':Rel Γ fr (zat idL (.x (.loop .exhausted pend ps assign body Γ.nt fr idD)) σ') ⟨g'.K,upd g'.μ idL (.pointer (some ⟨w.heap.size+1,0,none⟩))⟩ { a with defers:=[{ target:=.collected w.heap.size,args:=#[] }] ++ a.defers } (w'.putObj (w.heap.size+1) (.loop { r3 with state:=.exhausted })):=by
     have hbase:=hr.did hdfin;refine⟨hbase.hp,hbase.fr,hbase.size,?_,hbase.base⟩
     obtain⟨ms,hms,is,q1,q2,q3⟩:=hr.defers;have hni:=zlX (ds:=ms) ⟨is,q1,q2,q3⟩ hD is q2 q3;refine⟨[_] ++ ms,by rw [hms,List.append_assoc],idD::is,by rw [List.nodup_cons];exact⟨hni,q1⟩,by simp [q2],fun k i x hi hx=>?_⟩
     cases k with
     | zero=>
      cases hi;cases hx;refine⟨hdfs,hmark,w.heap.size,?_,rfl⟩
      have hh:SR ((idD,Ob.x .dfr) :: σ) g1 W1 (.h idD) (.chan (some w.heap.size)):=SR.h idD .dfr w.heap.size (by rw [zr,if_pos rfl]) (zy _ _ _);have hb:=(d2.trans (hd.trans hd3)).keep _ _ hh;generalize hvv:Value.chan (some w.heap.size)=vv at hb;cases hb with
      | h _ o k hl4 hμ'=>
       rw [hmark] at hl4;cases hl4;simp [Kd.val,Ob2.kd] at hvv;exact hμ'.trans (by rw [hvv])
     | succ k=>
      obtain⟨b1,b2,dd,b3,b4⟩:=q3 k i x hi hx;have hb:=hdfin.keep _ _ (SR.h (w:=w) i .dfr dd b2 b3);generalize hvv:Kd.val dd (Ob2.kd .dfr)=vv at hb;cases hb with
      | h _ o k hl4 hμ'=>
       cases o <;> simp [Kd.val,Ob2.kd] at hvv;subst hvv;exact⟨b1,hl4,dd,hμ',b4⟩
    refine⟨pend,_,by rw [← hpe3];exact hend,?_⟩
    cases pend with
    | none=>exact⟨fr,_,_,hr',hq⟩
    | some c=>
     have:=hq.use hLd hr';rw [hro] at this;exact this
end
end Go.QL
namespace Go.QL
open Go Go.RowKit
section
variable {P:Program} {Γ:Cx} {w0:World} {K0:Bs} {fr:Fr} {σ σ':Sg} {g:Gh} {a:Act} {w:World}
theorem zlp (hs:Sup σ' σ) (hr:rsSg σ' σ'=true):∀ (is:List Nat) (ds:List Deferred) (w:World),is.Nodup→is.length=ds.length→Hp w0 K0 σ' g w →
  (∀ i ∈ is,lk i σ'=none) →
  (∀ (k i:Nat) (x:Deferred),is[k]?=some i→ds[k]?=some x→∃ d,g.μ i=.pointer (some ⟨d,0,none⟩)∧x=⟨.collected d,#[]⟩∧w.heap[d]?=some (.deferred (some []))∧(∀ o,¬ g.K d o)∧¬ K0.F d∧(∀ id,(lk id σ').isSome→blk (g.μ id)≠some d)) →
  (∀ (i j:Nat),i ∈ is→j ∈ is→∀ b,blk (g.μ i)=some b→blk (g.μ j)=some b→i=j) →
  ∃ w1,Hp w0 K0 σ' g w1∧(∀ s v,SR σ' g w s v→SR σ' g w1 s v)∧w1.heap.size=w.heap.size ∧
   ∀ (F:Fence) (n:Nat) (fn:Func) (tmps:Array Value) (R:Ending→World→Prop),LeavesInM F n P fn tmps R [] .returning w1→LeavesInM F n P fn tmps R ds .returning w
 | [],ds,w,_,hl,hp,_,_,_=>by
  cases ds with
  | nil=>exact⟨w,hp,fun _ _ h=>h,rfl,fun _ _ _ _ _ h=>h⟩
  | cons _ _=>cases hl
 | i::is,ds,w,hnd,hl,hp,hno,hx,hinj=>by
  cases ds with
  | nil=>cases hl
  | cons x ds=>
   rw [List.nodup_cons] at hnd;obtain⟨d,hμ,rfl,hheap,hK,hF,hother⟩:=hx 0 i x rfl rfl;have hbi:blk (g.μ i)=some d:=by rw [hμ];rfl
   let w1:=putO w d (.deferred none)
   have hext:Ext g.K w g.K w1:=⟨fun _ _ h=>h,fun b o hk=>World.cell?_of_block (w:=w) (a:=⟨b,o,none⟩) (zan (fun e=>hK o (e ▸ hk)))⟩;have hkeep:∀ s v,SR σ' g w s v→SR σ' g w1 s v:=fun s v h=>
    SR.keep (σ:=σ') (σ':=σ') (g:=g) (g':=g) (w:=w) (w':=w1) (Compat.refl σ' g) hext h
   have hp1:Hp w0 K0 σ' g w1:=by
    refine⟨?_,hp.flt,hp.ext.trans hext,hp.old,fun b o hk=>by have:=hp.val b o hk;simpa [w1] using this,fun id obj hid=>?_,hp.own,hp.inj⟩
    ·exact hp.kept.trans ⟨rfl,rfl,rfl,by simp [w1],fun k hk=>zan (fun e=>hF (e ▸ hk))⟩
    ·exact (hp.obs id obj hid).keep hkeep hext rfl (fun b hb=>zan (fun e=>hother id (by rw [hid];rfl) (e ▸ hb))) (fun b hb o=>hp.notK hid hb o)
   have ih:=zlp hs hr is ds w1 hnd.2 (by simpa using hl) hp1 (fun j hj=>hno j (List.mem_cons_of_mem _ hj)) (fun k j y hj hy=>?_) (fun j k hj hk=>hinj j k (List.mem_cons_of_mem _ hj) (List.mem_cons_of_mem _ hk))
   ·obtain⟨w2,q1,q2,q3,q4⟩:=ih;refine⟨w2,q1,fun s v h=>q2 s v (hkeep s v h),by rw [q3];simp [w1],fun F n fn tmps R h=>?_⟩
    refine⟨by simp,.inl ⟨d,w1,rfl,run_takeDeferred hheap,q4 F n fn tmps R h⟩⟩
   ·obtain⟨d',p1,p2,p3,p4,p5,p6⟩:=hx (k+1) j y hj hy;refine⟨d',p1,p2,?_,p4,p5,p6⟩
    have hjm:j ∈ is:=List.mem_of_getElem? hj;have hne:d'≠d:=fun e=>by
     have:=hinj j i (List.mem_cons_of_mem _ hjm) (by simp) d (by rw [p1,e];rfl) hbi;subst this;exact hnd.1 hjm
    show (putO w d (.deferred none)).heap[d']?=_
    rw [zan hne];exact p3
def zk6 (tt:TT) (res:List ResultVar) (ids dfs:List Nat) (R:AV→Sg→Prop):Exit→Fr→Sg→Prop
 | .normal,fr,σ|.ret,fr,σ=>∃ fr1 σ1,SubF fr fr1∧SubS σ σ1∧(rsFr σ1 fr1 && rsSg σ1 σ1 && dfs.all (fun i=>!(lk i σ1).isSome))=true ∧
   ∃ r σ',SubS σ1 σ'∧(rsSg σ' σ' && zbC ids σ' && zbC ids σ1)=true∧zb0 tt res fr1 σ1 σ'=some r∧R r σ'
 | _,_,_=>False
theorem zdC {fn:Func} {tmps:Array Value} {R:Ending→World→Prop} {v:Value} (hr:(results fn tmps).run P w=.ok v w) (hR:R (.returned v) w):LeavesInM (FX none) 0 P fn tmps R [] .returning w:=
 ⟨v,hr,hR⟩
theorem zpe {tt:TT} (htt:tt.ok P) {f:FuncId} {fn:Func} {c:Code} {args:List AV} {σ:Sg} {R:AV→Sg→Prop} {res:List ResultVar} (dfs:List Nat) (hf:P.funcs[f]?=some fn) (hb:fn.body=some c)
  (hname:(fn.name == "runtime.NumGoroutine")=false) (hres:fn.results=res.toArray) {nt:Nat} (hnt:fn.ntmps=nt) (hle:args.length≤nt)
  (h:∀ w0 K0 B,AW P ⟨w0,K0,nt,B,σ.map (·.1),none,dfs,[]⟩ c (zk6 tt res (σ.map (·.1)) dfs R) (entry 0 args) σ):ACall P f args σ R:=by
 refine⟨⟨fn,hf,by rw [hb];rfl,hname⟩,fun w0 K0 g w vs hL hp hs hv=>?_⟩
 refine callsIn_wide.1 (callsIn_of_wp_marks (F:=Fence.wide) (n:=0) hf hb trivial ?_)
 have hrel:Rel ⟨w0,K0,nt,SR σ g w,σ.map (·.1),none,dfs,[]⟩ (entry 0 args) σ g ⟨vs ++ Array.replicate (fn.ntmps - vs.size) undef,[]⟩ w:=by
  refine⟨hp,fun t x ht=>?_,by simp;omega,DRb.empty,fun s v hb=>⟨hb,SR.inI hb⟩⟩
  obtain⟨_,hx⟩:=zbm args 0 t x ht;rw [Nat.sub_zero] at hx;have hlt:t < args.length:=(List.getElem?_eq_some_iff.1 hx).1;refine⟨by show t < nt;omega,?_⟩
  have hvt:vs[t]?=some (vs[t]'(by omega)):=Array.getElem?_eq_getElem (by omega);have e:(vs ++ Array.replicate (fn.ntmps - vs.size) undef).getD t undef=vs[t]'(by omega):=by
   rw [Array.getD_eq_getD_getElem?,Array.getElem?_append_left (by omega),hvt];rfl
  show VR _ _ _ _ ((vs ++ Array.replicate (fn.ntmps - vs.size) undef).getD t undef)
  rw [e];exact zZ (hv t x _ hx hvt)
 refine wpIn_mono (show c.wpIn (FX none) 0 P _ _ w from (h w0 K0 _).use hL hrel) ?_
 intro e a' w' ⟨fr,τ,g',hr,hq⟩;have fin:zk6 tt res (σ.map (·.1)) dfs R .ret fr τ →
   LeavesInM Fence.wide 0 P fn a'.tmps (fun e w'=>∃ v g' σ' r,e=.returned v∧Did w0 K0 σ g w σ' g' w'∧VR2 σ' g' w' r v∧R r σ') a'.defers .returning w':=by
  rintro⟨fr1,σ1,hsf,hss,hc,r,σ',hsub,hc2,ho,hR⟩;simp only [Bool.and_eq_true,List.all_eq_true,Bool.not_eq_true'] at hc hc2;obtain⟨⟨hcf,hcs⟩,hno⟩:=hc;have hsf:=ze8 hsf;have hss:=za9 hss;have hp1:=hr.hp.weaken hss hcs;obtain⟨ms,hms,is,q1,q2,q3⟩:=hr.defers;obtain rfl:ms=a'.defers:=by simpa using hms.symm
  have hnone:∀ i ∈ is,lk i σ1=none:=fun i hi=>by
   obtain⟨k,hk,he⟩:=List.getElem_of_mem hi;have:=(q3 k i (a'.defers[k]'(by omega)) (by rw [List.getElem?_eq_getElem hk,he]) (List.getElem?_eq_getElem (by omega))).1;have:=hno i this;cases hl:lk i σ1 with
   | none=>rfl
   | some _=>rw [hl] at this;cases this
  have hdfr:∀ i ∈ is,lk i τ = some (.x .dfr):=fun i hi=>by
   obtain⟨k,hk,he⟩:=List.getElem_of_mem hi;exact (q3 k i (a'.defers[k]'(by omega)) (by rw [List.getElem?_eq_getElem hk,he]) (List.getElem?_eq_getElem (by omega))).2.1
  obtain⟨w1,s1,s2,s3,s4⟩:=zlp (P:=P) (w0:=w0) (K0:=K0) (g:=g') hss hcs is a'.defers w' q1 q2 hp1 hnone (fun k i x hi hx=>by
   obtain⟨b1,b2,d,b3,b4⟩:=q3 k i x hi hx;have hbi:blk (g'.μ i)=some d:=by rw [b3];rfl
   obtain⟨b',h1,h2,h3,h4⟩:=hr.hp.obs i _ b2;rw [b3] at h1;cases h1;refine⟨d,b3,b4,h3,h4,hr.hp.own i d (by rw [b2];rfl) hbi,fun id hid hb=>?_⟩
   obtain⟨ob,hob⟩:=Option.isSome_iff_exists.1 hid;have:=hr.hp.inj id i d (by rw [hss _ _ hob];rfl) (by rw [b2];rfl) hb hbi;subst this;rw [hnone id (List.mem_of_getElem? hi)] at hob;cases hob)
   (fun i j hi hj b hb1 hb2=>hr.hp.inj i j b (by rw [hdfr i hi];rfl) (by rw [hdfr j hj];rfl) hb1 hb2)
  refine s4 Fence.wide 0 fn a'.tmps _ ?_
  have hrel1:Rel ⟨w0,K0,nt,SR σ g w,σ.map (·.1),none,[],[]⟩ fr1 σ1 g' { a' with defers:=[] } w1:=by
   refine⟨s1,fun t v ht=>⟨(hr.fr t v (hsf t v ht)).1,?_⟩,hr.size,DRb.empty,fun s v hb=>⟨s2 _ _ (zai hss hc2.2 (hr.base s v hb).1 (hr.base s v hb).2),(hr.base s v hb).2⟩⟩
   exact (zeQ hss (zaO hcf t v ht) (hr.fr t v (hsf t v ht)).2).keep s2
  have hsup:=za9 hsub;obtain⟨v,hrun,hvr⟩:=zbQ htt hrel1 hsup hres ho;refine zdC hrun ?_
  exact⟨v,_,σ',r,rfl,⟨hrel1.hp.atEnd hsup hc2.1.1,fun s u hs=>zak (zai hsup hc2.1.2 (hrel1.base s u hs).1 (hrel1.base s u hs).2)⟩,hvr,hR⟩
 cases e with
 | normal=>exact fin hq
 | ret=>exact fin hq
 | _=>exact hq.elim
end
end Go.QL
namespace Go.QL
open Go Go.RowKit
theorem znd {F:Fence} {n:Nat} {P:Program} {o:Oper} {a:Act} {w:World} {K:Act→World→Prop} {Q:Exit→Act→World→Prop}
  (hh:o.wpIn F n P a w K Q):o.wpIn F n P a w (fun a' w'=>K a' w'∧∃ v,a'.tmps=(a.put o.dst v).tmps) Q:=by
 unfold Oper.wpIn at *;refine⟨hh.1,?_⟩
 have hh:=hh.2;generalize (o.semAt F.round a.eval).run P w=r at *;cases r with
 | ok x w'=>
  cases x <;> simp only [Oper.uponIn] at hh ⊢ <;>
   first
    | exact⟨hh,_,rfl⟩
    | exact⟨hh,undef,by unfold Act.put;cases o.dst <;> rfl⟩
    | exact⟨hh.1,CallsIn.mono hh.2 (fun e w'' he=>by cases e <;> first|exact⟨he,_,rfl⟩|exact he)⟩
    | exact⟨hh.1,RowsIn.mono hh.2 (fun _ _ he=>⟨he,_,rfl⟩)⟩
    | exact⟨hh.1,RoundIn.mono hh.2 (fun e w'' he=>by cases e <;> first|exact⟨he,_,rfl⟩|exact he)⟩
 | halt x w'=>cases x <;> simp only [Oper.uponIn] at hh ⊢ <;> exact hh
theorem zgC {F:Fence} {n:Nat} {P:Program} {ops:Array Oper} {i:Nat} {o:Oper} (ho:ops[i]?=some o) {a:Act} {w:World} {K:Act→World→Prop} {Q:Exit→Act→World→Prop}
  (hh:wpOpIn F n P ops Q i K a w):wpOpIn F n P ops Q i (fun a' w'=>K a' w'∧∃ v,a'.tmps=(a.put o.dst v).tmps) a w:=by
 unfold wpOpIn at *;simp only [ho] at hh ⊢;split
 ·rename_i hw;simp only [hw,if_true] at hh;exact znd hh
 ·rename_i hw;simp only [hw] at hh;exact⟨hh.1,hh.2,undef,rfl⟩
def zcj:List Nat→Fr→Fr
 | _,[]=>[]
 | ds,(t,v)::r=>bif ds.any (Nat.beq t) then zcj ds r else (t,v)::zcj ds r
theorem ze2 {ds:List Nat}:∀ {fr:Fr} {t:Nat} {v:AV},lk t (zcj ds fr)=some v→t ∉ ds∧lk t fr=some v
 | [],t,v,h=>by cases h
 | (s,x)::r,t,v,h=>by
  unfold zcj at h;cases hb:ds.any (Nat.beq s) with
  | true=>
   rw [hb] at h;have h:=ze2 (fr:=r) h;refine⟨h.1,?_⟩
   rw [zr,if_neg]
   ·exact h.2
   ·intro e;subst e;rw [List.any_eq_true] at hb;obtain⟨d,hd,e⟩:=hb;have:=Nat.eq_of_beq_eq_true e;subst this;exact h.1 hd
  | false=>
   rw [hb] at h;simp only [cond_false] at h;rw [zr] at h ⊢;by_cases e:s=t
   ·rw [if_pos e] at h ⊢;refine⟨fun hd=>?_,h⟩
    subst e;have:ds.any (Nat.beq s)=true:=List.any_eq_true.2 ⟨s,hd,by simp⟩;rw [this] at hb;cases hb
   ·rw [if_neg e] at h ⊢;exact ze2 h
def zcx (ops:List Oper):List Nat→List Nat
 | []=>[]
 | l::r=>match (ops[l]?).bind (·.dst) with
  | some d=>d::zcx ops r
  | none=>zcx ops r
def zj8 (ops:List Oper) (ms:List Nat) (m:Nat) (dm:Option Nat):List Nat→Bool
 | []=>true
 | l::r=>(match ops[l]? with
  | some o=>Nat.blt l m && noOb o.op && (looks ops o).all (fun t=>(match dm with|some d=>!Nat.beq d t|none=>true) &&
    (List.range m).all fun k=>match (ops[k]?).bind (·.dst) with|some d=>!Nat.beq d t || Nat.testBit (ms.getD l 0) k|none=>true)
  | none=>false) && zj8 ops ms m dm r
def zfQ (P:Program) (tt:TT) (nt:Nat) (ops:List Oper) (fr:Fr) (σ:Sg) (k:Prop):List Nat→Prop
 | []=>k
 | l::r=>match ops[l]? with
  | some o=>opDr P tt ops false (selF fr (looks ops o)) σ 0 o fun gd v nob=>nob=none∧putE nt o.dst gd v fun x=>(match o.dst with|some d=>lk d fr=some x|none=>True)∧zfQ P tt nt ops fr σ k r
  | none=>False
section
variable {P:Program} {Γ:Cx} {fr:Fr} {σ:Sg} {Q:Exit→Fr→Sg→Prop}
theorem zlj {F F':Fr} (h:Sup F' F) (d:Option Tmp) (v:AV):Sup (zbl d v F') (zbl d v F):=by
 cases d with
 | none=>exact h
 | some d=>
  intro t x hl;show lk t ((d,v)::F)=some x
  have hl:lk t ((d,v)::F')=some x:=hl;rw [zr] at hl ⊢;by_cases e:d=t
  ·rw [if_pos e] at hl ⊢;exact hl
  ·rw [if_neg e] at hl ⊢;exact h t x hl
theorem zfP {tt:TT} (htt:tt.ok P) (hL:Laid P Γ.K0.K Γ.w0) {ops:List Oper} {fr:Fr} {σ:Sg} {k:Prop}:∀ {ls:List Nat},zfQ P tt Γ.nt ops fr σ k ls →
  k∧∀ l ∈ ls,∃ o x,ops[l]?=some o∧SemE P Γ ops false (selF fr (looks ops o)) σ l o x none∧∀ d,o.dst=some d→lk d fr=some x∧d < Γ.nt
 | [],h=>⟨h,fun l hl=>by cases hl⟩
 | l::r,h=>by
  unfold zfQ at h;cases ho:ops[l]? with
  | none=>rw [ho] at h;exact h.elim
  | some o=>
   rw [ho] at h;simp only at h;obtain⟨gd,x,nob,⟨hn,hk⟩,_,hsem⟩:=zdM (Γ:=Γ) htt hL h l;subst hn;obtain⟨⟨hx,hr⟩,hd⟩:=zdJ hk;obtain⟨h1,h2⟩:=zfP htt hL hr;refine⟨h1,fun l' hl'=>?_⟩
   rcases List.mem_cons.1 hl' with rfl|hl'
   ·refine⟨o,zeI gd x,ho,hsem,fun d hd'=>⟨?_,hd d hd'⟩⟩
    rw [hd'] at hx;exact hx
   ·exact h2 l' hl'
theorem zih {ops:List Oper} {ms:List Nat} {m:Nat} {dm:Option Nat}:∀ {ls:List Nat},zj8 ops ms m dm ls=true→∀ l ∈ ls,l < m∧∃ o,ops[l]?=some o∧noOb o.op=true ∧
  ∀ t ∈ looks ops o,dm≠some t∧∀ (k:Nat) (o':Oper),k < m→ops[k]?=some o'→o'.dst=some t→(ms.getD l 0).testBit k=true
 | [],_,l,hl=>by cases hl
 | l0::r,h,l,hl=>by
  unfold zj8 at h;rw [Bool.and_eq_true] at h;rcases List.mem_cons.1 hl with rfl|hl
  ·cases ho:ops[l]? with
   | none=>rw [ho] at h;cases h.1
   | some o=>
    rw [ho] at h;simp only [Bool.and_eq_true,List.all_eq_true] at h;obtain⟨⟨⟨h1,h2⟩,h3⟩,_⟩:=h;refine⟨Nat.le_of_ble_eq_true h1,o,rfl,h2,fun t ht=>⟨fun e=>?_,fun k o' hk ho' hd=>?_⟩⟩
    ·have:=(h3 t ht).1;rw [e] at this;simp at this
    ·have:=(h3 t ht).2 k (List.mem_range.2 hk);rw [ho'] at this;simp only [Option.bind_some,hd] at this;rw [Bool.or_eq_true] at this;rcases this with h|h
     ·simp at h
     ·exact h
  ·exact zih h.2 l hl
theorem zgU {ops:List Oper} {d:Nat}:∀ {ls:List Nat},d ∈ zcx ops ls↔∃ l ∈ ls,∃ o,ops[l]?=some o∧o.dst=some d
 | []=>by simp [zcx]
 | l::r=>by
  unfold zcx;have ih:=zgU (ops:=ops) (d:=d) (ls:=r);cases ho:ops[l]? with
  | none=>
   simp only [Option.bind_none,ih,List.mem_cons];constructor
   ·rintro⟨l',h,h'⟩;exact⟨l',.inr h,h'⟩
   ·rintro⟨l',rfl|h,o,h',h''⟩
    ·rw [ho] at h';cases h'
    ·exact⟨l',h,o,h',h''⟩
  | some o=>
   cases hd:o.dst with
   | none=>
    simp only [Option.bind_some,hd,ih,List.mem_cons];constructor
    ·rintro⟨l',h,h'⟩;exact⟨l',.inr h,h'⟩
    ·rintro⟨l',rfl|h,o',h',h''⟩
     ·rw [ho] at h';cases h';rw [hd] at h'';cases h''
     ·exact⟨l',h,o',h',h''⟩
   | some d'=>
    simp only [Option.bind_some,hd,ih,List.mem_cons];constructor
    ·rintro (rfl|⟨l',h,h'⟩)
     ·exact⟨l,.inl rfl,o,ho,hd⟩
     ·exact⟨l',.inr h,h'⟩
    ·rintro⟨l',rfl|h,o',h',h''⟩
     ·rw [ho] at h';cases h';rw [hd] at h'';cases h'';exact .inl rfl
     ·exact .inr ⟨l',h,o',h',h''⟩
structure LateGo (d:Option Tmp) (fr2 F:Fr) (K:AV→Prop):Prop where
 ex:∃ v,fr2=zbl d v F∧K v
theorem zW {tt:TT} (htt:tt.ok P) (hmix:P.follows .mixedOrders=true) (m:Nat) (ls:List Nat) (ob:Bool) (ms:List Nat) {id:Nat} {ops:List Oper} (om:Oper) (hms:zbe ms (m+1) ops 0=true) (hlen:Nat.ble (m+1) ops.length=true)
  (hds:zc2 (ops.take (m+1)) []=true) (hrd:zcn ops ms (ops.take m) (ops.take m) 0=true)
  (hom:ops[m]?=some om) (hmm:((List.range m).all fun b=>Nat.testBit (ms.getD m 0) b || ls.any (Nat.beq b))=true) (hls:zj8 ops ms m om.dst ls=true)
  (h:vcDr P tt Γ.nt ops ob ms fr σ (fun fr' σ'=>zah P tt Γ.nt ops (fun fr2 σ2=>LateGo om.dst fr2 (zcj (zcx ops ls) fr') fun v=>
   zfQ P tt Γ.nt ops fr' σ2 (zah P tt Γ.nt ops (Q .normal) (ops.drop (m+1)) (zbl om.dst v fr') σ2) ls) [om] (zcj (zcx ops ls) fr') σ') (ops.take m) [] 0 fr σ):AW P Γ (.region id ops.toArray true) Q fr σ:=by
 refine AW.mk fun hLd g a w hr=>?_
 have hm:=MaskOK.of hms;have hls:=zih hls;have hlen':m+1≤ops.length:=Nat.le_of_ble_eq_true hlen;have hlen:m≤ops.length:=by omega
 have hmbit:∀ b,b < m→b ∉ ls→(ms.getD m 0).testBit b=true:=by
  intro b hb hbl;rw [List.all_eq_true] at hmm;have:=hmm b (List.mem_range.2 hb);rw [Bool.or_eq_true] at this;rcases this with h|h
  ·exact h
  ·rw [List.any_eq_true] at h;obtain⟨x,hx,e⟩:=h;have:=Nat.eq_of_beq_eq_true e;subst this;exact absurd hx hbl
 have htake:(ops.take m).length=m:=by simp;omega
 obtain⟨es,hkL,hg,hlt,hcov⟩:=zdH (Γ:=Γ) htt hLd (ops.take m) [] 0 h (fun j o hj=>by
   rw [List.getElem?_take] at hj;by_cases hjm:j < m
   ·rw [if_pos hjm] at hj;simpa using hj
   ·rw [if_neg hjm] at hj;cases hj) (fun e he=>by simp at he) (fun j hj=>by omega)
   ⟨fun e he=>by simp at he,fun e he=>by simp at he,fun e he=>by simp at he,fun e he=>by simp at he,fun e he=>by simp at he⟩
 rw [htake] at hlt hcov;simp only [Nat.zero_add] at hlt hcov;obtain⟨_,hd1'⟩:=zb1 hds;have hd1:∀ (i j:Nat) (o o':Oper) (d:Nat),(ops.take m)[i]?=some o→(ops.take m)[j]?=some o'→o.dst=some d→o'.dst=some d→i=j:=by
  intro i j o o' d hi hj;rw [List.getElem?_take] at hi hj;by_cases c1:i < m
  ·rw [if_pos c1] at hi;by_cases c2:j < m
   ·rw [if_pos c2] at hj;exact hd1' i j o o' d (by rw [List.getElem?_take,if_pos (by omega)];exact hi) (by rw [List.getElem?_take,if_pos (by omega)];exact hj)
   ·rw [if_neg c2] at hj;cases hj
  ·rw [if_neg c1] at hi;cases hi
 have hrd:=fun j o h=>zaV (zbR hrd j o h)
 simp only [Nat.zero_add] at hrd;have hop:∀ e ∈ es,∃ o,(ops.take m)[e.i]?=some o∧e.d=o.dst:=fun e he=>by
  obtain⟨o,D,h1,h2,_⟩:=hg.sem e he;exact⟨o,by rw [List.getElem?_take,if_pos (hlt e he)];exact h1,h2⟩
 have hfF:∀ p ∈ frs es,∀ q ∈ frs es,p.1=q.1→p=q:=by
  intro p hp q hq hpq;obtain⟨e,he,h1,h2⟩:=zY.1 hp;obtain⟨e',he',h1',h2'⟩:=zY.1 hq;obtain⟨o,ho,hd⟩:=hop e he;obtain⟨o',ho',hd'⟩:=hop e' he';have:=hd1 e.i e'.i o o' p.1 ho ho' (by rw [← hd,h1]) (by rw [← hd',h1',hpq]);have:=hg.idx e he e' he' this;subst this;obtain⟨p1,p2⟩:=p;obtain⟨q1,q2⟩:=q;simp only at *;subst hpq;subst h2;subst h2';rfl
 have hfO:∀ p ∈ obs es,∀ q ∈ obs es,p.1=q.1→p=q:=by
  intro p hp q hq hpq;obtain⟨e,he,h1⟩:=zF.1 hp;obtain⟨e',he',h1'⟩:=zF.1 hq;have:=hg.ids e he e' he' p q h1 h1' hpq;subst this;rw [h1] at h1';cases h1';rfl
 have hfO0:∀ p ∈ obs es,lk p.1 σ=none:=by
  intro p hp;obtain⟨e,he,h1⟩:=zF.1 hp;exact (hg.id0 e he p h1).1
 have supO:∀ D E:List En,(∀ e ∈ D,e ∈ E)→(∀ e ∈ E,e ∈ es)→Sup (obs D ++ σ) (obs E ++ σ):=fun D E h1 h2=>
  zeM hfO hfO0 (fun p hp=>by obtain⟨e,he,h'⟩:=zF.1 hp;exact zF.2 ⟨e,h1 e he,h'⟩) (fun p hp=>by obtain⟨e,he,h'⟩:=zF.1 hp;exact zF.2 ⟨e,h2 e he,h'⟩)
 let InvA:(Nat→Prop)→Act→World→Prop:=fun L a w=>∃ (E:List En) (g:Gh),(∀ e ∈ E,e ∈ es)∧(∀ j,L j↔∃ e ∈ E,e.i=j)∧(∀ k,L k→∀ b,(ms.getD k 0).testBit b=true→L b)∧Rel Γ (frs E ++ fr) (obs E ++ σ) g a w
 let InvB:(Nat→Prop)→Act→World→Prop:=fun L a w=>∃ j,m+1≤j∧j≤ops.length∧(∀ b,L b↔b < j)∧wpLs Γ.ro P ops.toArray (Lift Γ Q) (ops.drop j) a w
 let InvC:(Nat→Prop)→Act→World→Prop:=fun L a w=>∃ (E:List En) (g:Gh) (v:AV) (σ2:Sg),(∀ e ∈ E,e ∈ es)∧(∀ j,L j↔(∃ e ∈ E,e.i=j)∨j=m)∧(∀ e ∈ es,e.i ∉ ls→e ∈ E)∧Rel Γ (zbl om.dst v (frs E ++ fr)) σ2 g a w ∧
  zfQ P tt Γ.nt ops (frs es ++ fr) σ2 (zah P tt Γ.nt ops (Q .normal) (ops.drop (m+1)) (zbl om.dst v (frs es ++ fr)) σ2) ls
 have hdm:∀ e ∈ es,∀ d,e.d=some d→om.dst≠some d:=by
  intro e he d hd hdm;obtain⟨o,ho,hd'⟩:=hop e he;rw [List.getElem?_take,if_pos (hlt e he)] at ho;have:=hd1' e.i m o om d (by rw [List.getElem?_take,if_pos (by have:=hlt e he;omega)];exact ho) (by rw [List.getElem?_take,if_pos (by omega)];exact hom) (by rw [← hd',hd]) hdm;have:=hlt e he;omega
 have convC:∀ L a w,InvC L a w→(∀ b,b < m→L b)→InvB L a w:=by
  intro L a w ⟨E,g,v,σ2,h1,h2,_,h3,h4⟩ hall;refine⟨m+1,Nat.le_refl _,hlen',fun b=>⟨fun hb=>?_,fun hb=>?_⟩,?_⟩
  ·rcases (h2 b).1 hb with ⟨e,he,hi⟩|rfl
   ·have:=hlt e (h1 e he);omega
   ·omega
  ·by_cases e:b=m
   ·exact (h2 b).2 (.inr e)
   ·exact hall b (by omega)
  ·have hsub:∀ e ∈ es,e ∈ E:=by
    intro e he;rcases (h2 e.i).1 (hall e.i (hlt e he)) with ⟨e',he',hi⟩|hi
    ·have:=hg.idx e' (h1 e' he') e he hi;subst this;exact he'
    ·have:=hlt e he;omega
   exact zcc htt hLd (fun _ _ h=>h) (ops.drop (m+1)) _ _ (zfP (Γ:=Γ) htt hLd h4).1 g a w (h3.subF (zlj (zb4 (fun p hp q hq=>hfF p ((zq h1) p hp) q ((zq h1) q hq)) (fun p=>⟨zq hsub p,zq h1 p⟩)) _ _))
 refine wpIn_region_any hmix ?_
 refine zbU hm (fun L a w=>InvA L a w∨InvB L a w∨InvC L a w) ?_ ?_ _ _ _ _ (by simp) ?_ ?_ ?_
 ·-- a step
  intro L a w hinv i hi hL hbits;have hi':i < ops.length:=by simpa using hi
  have stepB:InvB L a w→wpOpIn (FX Γ.ro) 0 P ops.toArray (Lift Γ Q) i (fun a w=>InvA (fun j=>L j∨j=i) a w∨InvB (fun j=>L j∨j=i) a w∨InvC (fun j=>L j∨j=i) a w) a w:=by
   intro ⟨j,hj1,hj2,hj3,hj4⟩;have hji:j≤i:=by
    rcases Nat.lt_or_ge i j with h'|h'
    ·exact absurd ((hj3 i).2 h') hL
    ·exact h'
   have hij:i=j:=by
    rcases Nat.lt_or_ge j i with h'|h'
    ·have:=hm.tail i _ (Array.getElem?_eq_getElem (by simpa using hi')) (by omega) j h';have:=(hj3 j).1 (hbits j this);omega
    ·omega
   subst hij;rw [List.drop_eq_getElem_cons hi'] at hj4;have hoi:ops.toArray[i]?=some ops[i]:=by simp [hi']
   have hnew:∀ a w,wpLs Γ.ro P ops.toArray (Lift Γ Q) (ops.drop (i+1)) a w→InvA (fun j=>L j∨j=i) a w∨InvB (fun j=>L j∨j=i) a w∨InvC (fun j=>L j∨j=i) a w:=by
    intro a w hw;refine .inr (.inl ⟨i+1,by omega,by omega,fun b=>?_,hw⟩)
    show (L b∨b=i)↔b < i+1
    rw [hj3 b];omega
   unfold wpOpIn;simp only [hoi];unfold wpLs wpLk at hj4;split
   ·rename_i hwant;rw [if_pos hwant] at hj4;exact Oper.wpIn_mono hnew hj4
   ·rename_i hwant;rw [if_neg hwant] at hj4;exact⟨fun _ _=>trivial,hnew _ _ hj4⟩
  rcases hinv with hA|hB|hC
  ·rcases Nat.lt_or_ge i m with him|him
   ·obtain⟨E,g,h1,h2,hcl,h3⟩:=hA;obtain⟨en,hen,heni⟩:=hcov i him;obtain⟨o,D,a1,a2,a3,a4,a6,a5⟩:=hg.sem en hen;rw [heni] at a1 a4 a5 a6;have hDE:∀ e ∈ D,e ∈ E:=by
     intro e he;obtain⟨he1,he2⟩:=a4 e he;obtain⟨e',he',hi'⟩:=(h2 e.i).1 (hbits e.i he2);have:=hg.idx e' (h1 e' he') e he1 hi';subst this;exact he'
    have hsup:Sup (selF (frs D ++ fr) (looks ops o)) (frs E ++ fr):=by
     intro t v hl;obtain⟨ht,hl⟩:=zbF hl;rcases zdB hl with hl|⟨hn,hl⟩
     ·exact zas (fun p hp q hq=>hfF p (zq h1 p hp) q (zq h1 q hq)) (zq hDE _ hl)
     ·rw [zU]
      ·exact hl
      ·intro p hp hpt;obtain⟨e,he,h1',h2'⟩:=zY.1 hp;obtain⟨oe,hoe,hde⟩:=hop e (h1 e he);have hLe:L e.i:=(h2 e.i).2 ⟨e,he,rfl⟩;rcases hrd i o (by rw [List.getElem?_take,if_pos him];exact a1) e.i oe t hoe (by rw [← hde,h1',hpt]) ht with hk|hk|hk
       ·exact hL (hk ▸ hLe)
       ·have hlt':e.i < i:=hm.lt i o (by simpa using a1) e.i hk;exact hn p (zY.2 ⟨e,a6 e (h1 e he) hk hlt',h1',h2'⟩) hpt
       ·exact hL (hcl e.i hLe i hk)
    refine a5 _ (frs E ++ fr) (obs E ++ σ) g a w hsup (supO D E hDE h1) ?_ ?_ h3 _ ?_ (by simpa using a1)
    ·intro hob;have hn:∀ X:List En,(∀ e ∈ X,e ∈ es)→obs X=[]:=by
      intro X hX;cases hx:obs X with
      | nil=>rfl
      | cons p r=>
       obtain⟨e,he,hp⟩:=zF.1 (show p ∈ obs X by rw [hx];exact List.mem_cons_self);have:=(hg.id0 e (hX e he) p hp).2;rw [hob] at this;cases this
     rw [hn E h1,hn D (fun e he=>h1 e (hDE e he))]
    ·intro p hp;rw [zU]
     ·exact (hg.id0 en hen p hp).1
     ·intro q hq he;obtain⟨e',he',hq'⟩:=zF.1 hq;have:=hg.ids e' (h1 e' he') en hen q p hq' hp he;subst this;exact hL ((h2 i).2 ⟨e',he',heni⟩)
    ·intro v g' w' hr' hv;left
     refine⟨en::E,g',fun e he=>?_,fun j=>?_,fun k hk b hb=>?_,?_⟩
     ·rcases List.mem_cons.1 he with rfl|he
      ·exact hen
      ·exact h1 e he
     ·show (L j∨j=i)↔_
      rw [h2 j];constructor
      ·rintro (⟨e,he,h'⟩|rfl)
       ·exact⟨e,List.mem_cons_of_mem _ he,h'⟩
       ·exact⟨en,List.mem_cons_self,heni⟩
      ·rintro⟨e,he,h'⟩;rcases List.mem_cons.1 he with rfl|he
       ·exact .inr (h'.symm.trans heni)
       ·exact .inl ⟨e,he,h'⟩
     ·rcases hk with hk|rfl
      ·exact .inl (hcl k hk b hb)
      ·exact .inl (hbits b hb)
     ·rw [← zbO,← zcL];rw [a2];cases hdd:o.dst with
      | none=>exact hr'
      | some d=>exact hr'.put (a3 d hdd) hv
   ·rcases Nat.lt_or_ge m i with hmi|hmi
    ·have hall:∀ b,b < i→L b:=fun b hb=>hbits b (hm.tail i _ (Array.getElem?_eq_getElem (by simpa using hi')) hmi b hb)
     obtain⟨E,g,h1,h2,_,h3⟩:=hA;obtain⟨e,he,hi2⟩:=(h2 m).1 (hall m hmi);have:=hlt e (h1 e he);omega
    ·have him:i=m:=by omega
     subst him;obtain⟨E,g,h1,h2,_,h3⟩:=hA;have hin:∀ e ∈ es,e.i ∉ ls→e ∈ E:=by
      intro e he hne;obtain⟨e',he',hi2⟩:=(h2 e.i).1 (hbits e.i (hmbit e.i (hlt e he) hne));have:=hg.idx e' (h1 e' he') e he hi2;subst this;exact he'
     have hsupF:Sup (zcj (zcx ops ls) (frs es ++ fr)) (frs E ++ fr):=by
      intro t v hl;obtain⟨hne,hl⟩:=ze2 hl;rcases zdB hl with hl|⟨hn,hl⟩
      ·obtain⟨e,he,hd,hx⟩:=zY.1 hl;have hel:e.i ∉ ls:=by
        intro hel;obtain⟨o,ho,hd'⟩:=hop e he;rw [List.getElem?_take,if_pos (hlt e he)] at ho;exact hne (zgU.2 ⟨e.i,hel,o,ho,by rw [← hd',hd]⟩)
       exact zas (fun p hp q hq=>hfF p (zq h1 p hp) q (zq h1 q hq)) (zY.2 ⟨e,hin e he hel,hd,hx⟩)
      ·rw [zU fun p hp=>hn p (zq h1 p hp)];exact hl
     have hobs:∀ p,p ∈ obs es→p ∈ obs E:=by
      intro p hp;obtain⟨e,he,hp⟩:=zF.1 hp;refine zF.2 ⟨e,hin e he fun hel=>?_,hp⟩
      obtain⟨o,ho,hn⟩:=hg.obk e he p hp;obtain⟨_,o',ho',hn',_⟩:=hls e.i hel;rw [ho'] at ho;cases ho;rw [hn'] at hn;cases hn
     have hs1:Sup (obs E ++ σ) (obs es ++ σ):=supO E es h1 (fun e he=>he);have hs2:Sup (obs es ++ σ) (obs E ++ σ):=zeM (fun p hp q hq=>hfO p (by obtain⟨e,he,h'⟩:=zF.1 hp;exact zF.2 ⟨e,h1 e he,h'⟩) q (by obtain⟨e,he,h'⟩:=zF.1 hq;exact zF.2 ⟨e,h1 e he,h'⟩)) (fun p hp=>hfO0 p (by obtain⟨e,he,h'⟩:=zF.1 hp;exact zF.2 ⟨e,h1 e he,h'⟩)) hobs (fun p hp=>hp);have hr':Rel Γ (zcj (zcx ops ls) (frs es ++ fr)) (obs es ++ σ) g a w:=h3.same hsupF hs1 hs2;let Γ':Cx:=⟨Γ.w0,Γ.K0,Γ.nt,SR (obs es ++ σ) g w,(obs es ++ σ).map (·.1),Γ.ro,Γ.dfs,Γ.bs⟩
     have hr2:Rel Γ' (zcj (zcx ops ls) (frs es ++ fr)) (obs es ++ σ) g a w:=⟨hr'.hp,hr'.fr,hr'.size,hr'.defers,fun s v hb=>⟨hb,SR.inI hb⟩⟩;have hw:=zaJ (Γ:=Γ') htt hLd (Qx:=Lift Γ Q) (K:=fun a w=>∃ g2 fr2 σ2,Rel Γ' fr2 σ2 g2 a w∧∃ v,fr2=zbl om.dst v (zcj (zcx ops ls) (frs es ++ fr)) ∧
      zfQ P tt Γ.nt ops (frs es ++ fr) σ2 (zah P tt Γ.nt ops (Q .normal) (ops.drop (i+1)) (zbl om.dst v (frs es ++ fr)) σ2) ls) (fun fr2 σ2 g2 a2 w2 hr2 hk2=>⟨g2,fr2,σ2,hr2,hk2.ex⟩) [om] _ _ hkL g a w hr2
     have hoi:ops.toArray[i]?=some om:=by simpa using hom
     have hw2:wpOpIn (FX Γ.ro) 0 P ops.toArray (Lift Γ Q) i (fun a w=>∃ g2 fr2 σ2,Rel Γ' fr2 σ2 g2 a w∧∃ v,fr2=zbl om.dst v (zcj (zcx ops ls) (frs es ++ fr)) ∧
      zfQ P tt Γ.nt ops (frs es ++ fr) σ2 (zah P tt Γ.nt ops (Q .normal) (ops.drop (i+1)) (zbl om.dst v (frs es ++ fr)) σ2) ls) a w:=by
      unfold wpOpIn;simp only [hoi];unfold wpLk at hw;split
      ·rename_i hwant;rw [if_pos hwant] at hw;exact hw
      ·rename_i hwant;rw [if_neg hwant] at hw;exact⟨fun _ _=>trivial,hw⟩
     refine wpOpIn_mono ?_ (zgC hoi hw2)
     rintro a2 w2 ⟨⟨g2,fr2,σ2,hr2,v,rfl,hk2⟩,v',htm⟩;refine .inr (.inr ⟨E,g2,v,σ2,h1,fun j=>?_,hin,?_,hk2⟩)
     ·show (L j∨j=i)↔_
      rw [h2 j]
     ·have keep:∀ s u,SR (obs E ++ σ) g w s u→SR σ2 g2 w2 s u:=fun s u hsu=>(hr2.base s u (hsu.sup hs1)).1
      refine⟨hr2.hp,fun t x ht=>?_,hr2.size,hr2.defers,fun s u hb=>⟨keep s u (h3.base s u hb).1,(h3.base s u hb).2⟩⟩
      by_cases hdt:om.dst=some t
      ·have:lk t (zbl om.dst v (zcj (zcx ops ls) (frs es ++ fr)))=some x:=by
        rw [hdt] at ht ⊢;have ht:lk t ((t,v)::(frs E ++ fr))=some x:=ht;show lk t ((t,v)::_)=some x
        rw [zr,if_pos rfl] at ht ⊢;exact ht
       exact hr2.fr t x this
      ·have ht:lk t (frs E ++ fr)=some x:=by
        cases hd:om.dst with
        | none=>rw [hd] at ht;exact ht
        | some d=>
         rw [hd] at ht;have ht:lk t ((d,v)::(frs E ++ fr))=some x:=ht;rw [zr,if_neg (fun e=>hdt (by rw [hd,e]))] at ht;exact ht
       have h4:=h3.fr t x ht;refine⟨h4.1,?_⟩
       have e:a2.tmps.getD t undef=a.tmps.getD t undef:=by
        rw [htm];cases hd:om.dst with
        | none=>rfl
        | some d=>
         have:¬ d=t:=fun e=>hdt (by rw [hd,e])
         simp [Act.put,this]
       rw [e];exact h4.2.keep keep
  ·exact stepB hB
  ·rcases Nat.lt_or_ge i m with him|him
   ·obtain⟨E,g,v,σ2,h1,h2,hin,h3,h4⟩:=hC;obtain⟨en,hen,heni⟩:=hcov i him;have hil:i ∈ ls:=by
     by_cases c:i ∈ ls
     ·exact c
     ·exact absurd ((h2 i).2 (.inl ⟨en,hin en hen (by rw [heni];exact c),heni⟩)) hL
    obtain⟨o,x,ho,hsem,hdx⟩:=(zfP (Γ:=Γ) htt hLd h4).2 i hil;obtain⟨_,o',ho',_,hlook⟩:=hls i hil;rw [ho] at ho';cases ho';have hend:en.d=o.dst:=by
     obtain⟨o',ho',hd⟩:=hop en hen;rw [heni,List.getElem?_take,if_pos him,ho] at ho';cases ho';exact hd
    have hsup:Sup (selF (frs es ++ fr) (looks ops o)) (zbl om.dst v (frs E ++ fr)):=by
     intro t y hl;obtain⟨ht,hl⟩:=zbF hl;obtain⟨hdt,hwr⟩:=hlook t ht;have hgo:lk t (frs E ++ fr)=some y:=by
      rcases zdB hl with hl|⟨hn,hl⟩
      ·obtain⟨e,he,hd,hx⟩:=zY.1 hl;obtain⟨oe,hoe,hde⟩:=hop e he;rw [List.getElem?_take,if_pos (hlt e he)] at hoe;have hbt:=hbits e.i (hwr e.i oe (hlt e he) hoe (by rw [← hde,hd]));rcases (h2 e.i).1 hbt with ⟨e',he',hi2⟩|hi2
       ·have:=hg.idx e' (h1 e' he') e he hi2;subst this;exact zas (fun p hp q hq=>hfF p (zq h1 p hp) q (zq h1 q hq)) (zY.2 ⟨e',he',hd,hx⟩)
       ·have:=hlt e he;omega
      ·rw [zU fun p hp=>hn p (zq h1 p hp)];exact hl
     cases hd:om.dst with
     | none=>exact hgo
     | some d=>
      show lk t ((d,v)::(frs E ++ fr))=some y
      rw [zr,if_neg (fun e=>hdt (by rw [hd,e]))];exact hgo
    refine hsem _ _ σ2 g a w hsup (fun _ _ h=>h) (fun _=>rfl) (fun p hp=>by cases hp) h3 _ (fun v' g' w' hr' hv=>.inr (.inr ⟨en::E,g',v,σ2,fun e he=>?_,fun j=>?_,fun e he hne=>List.mem_cons_of_mem _ (hin e he hne),?_,h4⟩)) (by simpa using ho)
    ·rcases List.mem_cons.1 he with rfl|he
     ·exact hen
     ·exact h1 e he
    ·show (L j∨j=i)↔_
     rw [h2 j];constructor
     ·rintro ((⟨e,he,h'⟩|h')|rfl)
      ·exact .inl ⟨e,List.mem_cons_of_mem _ he,h'⟩
      ·exact .inr h'
      ·exact .inl ⟨en,List.mem_cons_self,heni⟩
     ·rintro (⟨e,he,h'⟩|h')
      ·rcases List.mem_cons.1 he with rfl|he
       ·exact .inr (h'.symm.trans heni)
       ·exact .inl (.inl ⟨e,he,h'⟩)
      ·exact .inl (.inr h')
    ·have hr':Rel Γ (zbl om.dst v (frs E ++ fr)) σ2 g' a w':=hr';have hE':∀ e ∈ en::E,e ∈ es:=fun e he=>by
      rcases List.mem_cons.1 he with rfl|he
      ·exact hen
      ·exact h1 e he
     cases hdd:o.dst with
     | none=>
      have:frs (en::E)=frs E:=by simp only [frs,hend,hdd]
      rw [this];exact hr'
     | some d=>
      obtain⟨hx,hdn⟩:=hdx d hdd;have hxe:x=en.x:=by
       have:=zas (l0:=fr) hfF (zY.2 ⟨en,hen,by rw [hend,hdd],rfl⟩:(d,en.x) ∈ frs es);rw [hx] at this;cases this;rfl
      have hne:=hdm en hen d (by rw [hend,hdd]);refine (hr'.put hdn hv).subF ?_
      have:frs (en::E)=(d,x)::frs E:=by simp only [frs,hend,hdd,hxe]
      rw [this];intro t y hl;cases hd:om.dst with
      | none=>rw [hd] at hl;exact hl
      | some d2=>
       rw [hd] at hl;have hl:lk t ((d2,v)::(d,x)::(frs E ++ fr))=some y:=hl;show lk t ((d,x)::(d2,v)::(frs E ++ fr))=some y
       rw [zr,zr] at hl ⊢;have hdd2:¬ d2=d:=fun e=>hne (by rw [hd,e])
       by_cases c1:d2=t
       ·rw [if_pos c1] at hl;rw [if_neg (fun e=>hdd2 (c1.trans e.symm)),if_pos c1];exact hl
       ·rw [if_neg c1] at hl;by_cases c2:d=t
        ·rw [if_pos c2] at hl ⊢;exact hl
        ·rw [if_neg c2] at hl;rw [if_neg c2,if_neg c1];exact hl
   ·have him:m < i:=by
     obtain⟨E,g,v,σ2,h1,h2,_⟩:=hC;have:i≠m:=fun e=>hL ((h2 i).2 (.inr e))
     omega
    have hall:∀ b,b < i→L b:=fun b hb=>hbits b (hm.tail i _ (Array.getElem?_eq_getElem (by simpa using hi')) him b hb)
    exact stepB (convC L a w hC fun b hb=>hall b (by omega))
 ·-- the end
  intro L a w hinv hall;have hB:InvB L a w:=by
   rcases hinv with hA|hB|hC
   ·obtain⟨E,g,h1,h2,_,h3⟩:=hA;obtain⟨e,he,hi2⟩:=(h2 m).1 (hall m (by simp;omega));have:=hlt e (h1 e he);omega
   ·exact hB
   ·exact convC L a w hC fun b hb=>hall b (by simp;omega)
  obtain⟨j,hj1,hj2,hj3,hj4⟩:=hB;have:j=ops.length:=by
   rcases Nat.lt_or_ge j ops.length with h'|h'
   ·have:=(hj3 j).1 (hall j (by simpa using h'));omega
   ·omega
  subst this;rw [List.drop_length] at hj4;exact hj4
 ·intro i hi;have:(Array.replicate ops.length false)[i]?.getD false=false:=by
   rw [Array.getElem?_replicate];split <;> rfl
  simp [this] at hi
 ·unfold unl;refine Nat.le_trans (List.length_filter_le _ _) (by simp)
 ·left
  refine⟨[],g,fun e he=>by simp at he,fun j=>?_,fun k hk=>?_,hr.drawn _⟩
  rotate_left
  ·have:(Array.replicate ops.length false)[k]?.getD false=false:=by
    rw [Array.getElem?_replicate];split <;> rfl
   simp [this] at hk
  have:(Array.replicate ops.length false)[j]?.getD false=false:=by
   rw [Array.getElem?_replicate];split <;> rfl
  simp [this]
end
end Go.QL
namespace Go.QL
open Go Go.RowKit
section
variable {P:Program} {Γ:Cx} {fr:Fr} {σ:Sg} {Q:Exit→Fr→Sg→Prop}
theorem zB {l:Nat} (h:Q .normal fr σ):AW P Γ (.label l) Q fr σ:=AW.mk fun hL g a w hr=>wpIn_label ⟨fr,σ,g,hr,h⟩
def Exit.noGo (Q:Exit→Fr→Sg→Prop):Exit→Fr→Sg→Prop
 | .goto _,_,_=>False
 | e,fr,σ=>Q e fr σ
section
variable {b:Frame} {a:Act} {k:List Item} {cs:List Frame} {w:World}
theorem zjc {c:Code}:step P (lone (b.atR a (.code (.scope c)::k)) cs w)=.next (lone (b.atR a (.code c::.inScope c::k)) cs w):=
 step_lone_go (by simp [stepG,stepG.exec,Frame.atR])
theorem zhj {c:Code}:step P (lone (b.atR a (.inScope c::k)) cs w)=.next (lone (b.atR a k) cs w):=
 step_lone_go (by simp [stepG,stepG.exec,Frame.atR])
end
theorem zA {c:Code} (h:AW P Γ c (Exit.noGo Q) fr σ):AW P Γ (.scope c) Q fr σ:=by
 refine AW.mk fun hL g a w hr b k cs hro hb hrm=>?_
 obtain⟨e,a₁,w₁,⟨fr1,σ1,g1,r1,hq⟩,harr⟩:=h.use hL hr b (.inScope c::k) cs hro hb hrm;have s0:StepsIn (Machine.fenced P (FX Γ.ro)) P (lone (b.atR a (.code (.scope c)::k)) cs w) (lone (b.atR a (.code c::.inScope c::k)) cs w):=.one (fenced_calm hb hrm rfl) zjc;cases e with
 | normal=>exact⟨.normal,a₁,w₁,⟨fr1,σ1,g1,r1,hq⟩,StepsIn.trans s0 (StepsIn.trans harr (.one (fenced_calm hb hrm rfl) zhj))⟩
 | exit id=>
  refine⟨.exit id,a₁,w₁,⟨fr1,σ1,g1,r1,hq⟩,fun k' hk=>StepsIn.trans s0 (harr.1 k' hk),fun hr' hk=>?_⟩
  obtain⟨k₁,h1,h2⟩:=harr.2 hr' hk;exact⟨k₁,h1,StepsIn.trans s0 h2⟩
 | goto l=>exact hq.elim
 | ret=>exact⟨.ret,a₁,w₁,⟨fr1,σ1,g1,r1,hq⟩,fun hr'=>let ⟨t,ht⟩:=harr.1 hr';⟨t,StepsIn.trans s0 ht⟩,fun hr'=>let ⟨t,ht⟩:=harr.2 hr';⟨t,StepsIn.trans s0 ht⟩⟩
 | panic ch=>obtain⟨t,ht⟩:=harr;exact⟨.panic ch,a₁,w₁,⟨fr1,σ1,g1,r1,hq⟩,t,StepsIn.trans s0 ht⟩
 | outgrown=>exact⟨.outgrown,a₁,w₁,⟨fr1,σ1,g1,r1,hq⟩,ArrivesIn.of_steps (e:=.outgrown) (b:=b) (k:=k) (cs:=cs) (a:=a₁) (w:=w₁) s0 harr⟩
theorem FnC.of_ACall {f:FuncId} {args:List AV} {r:AV} (h:ACall P f args [] (fun r' σ'=>r'=r∧σ'=[])) (hr:zf6 r=true):FnC P f args r:=by
 refine⟨h.1,fun K w vs hL hK hs hv=>?_⟩
 have hp:Hp w ⟨K,(· < w.heap.size)⟩ [] ⟨K,fun _=>undef⟩ w:=
  ⟨.refl _ _,fun _ h=>h,.refl _ _,fun _ _ _ h=>h,hK,(fun id ob hid=>by cases hid),(fun id b hi=>by cases hi),(fun i j b hi=>by cases hi)⟩
 refine (h.2 w _ _ w vs hL hp hs hv).mono ?_
 rintro e w' ⟨v,g',σ',r',he,hd,hvr,rfl,rfl⟩;exact⟨v,g'.K,he,hd.hp.kept.below,hd.hp.ext,hd.hp.old,hd.hp.val,zcY (g:=g') (g':=⟨g'.K,fun _=>undef⟩) hr (Ext.refl g'.K w') hvr⟩
end
end Go.QL
namespace Go.QL
open Go Go.RowKit
def zsk (tt:TT) (res:List ResultVar) (r:AV):Exit→Fr→Sg→Prop
 | .normal,fr,σ|.ret,fr,σ=>∃ r',za6 tt res fr σ=some r'∧LeAV r' r
 | _,_,_=>False
theorem LeAV.refl (x:AV):LeAV x x:=by
 cases x with
 | t xs=>
  refine⟨xs,rfl,?_⟩
  induction xs with
  | nil=>trivial
  | cons x r ih=>exact⟨LeAV1.refl x,ih⟩
 | x s=>exact LeAV1.refl (.x s)
 | a s=>exact LeAV1.refl (.a s)
 | g c s=>exact LeAV1.refl (.g c s)
section
variable {P:Program}
theorem zg7 {tt:TT} (htt:tt.ok P) {f:FuncId} {fn:Func} {c:Code} {args:List AV} {r:AV} {res:List ResultVar} (hf:P.funcs[f]?=some fn) (hb:fn.body=some c)
  (hname:(fn.name == "runtime.NumGoroutine")=false) (hres:fn.results=res.toArray) {nt:Nat} (hnt:fn.ntmps=nt) (hle:args.length≤nt)
  (h:∀ w0 K0,AW P (Cx.lone w0 K0 nt) c (zsk tt res r) (entry 0 args) []):FnC P f args r:=by
 refine⟨⟨fn,hf,by rw [hb];rfl,hname⟩,fun K w vs hL hK hs hv=>?_⟩
 refine calls_of_wp hf hb ((wpIn_wide (n:=0)).1 ?_)
 have hrel:Rel (Cx.lone w ⟨K,(· < w.heap.size)⟩ nt) (entry 0 args) [] ⟨K,fun _=>undef⟩ ⟨vs ++ Array.replicate (fn.ntmps - vs.size) undef,[]⟩ w:=by
  refine⟨⟨.refl _ _,fun _ h=>h,.refl _ _,fun _ _ _ h=>h,hK,(fun id ob hid=>by cases hid),(fun id b hi=>by cases hi),(fun i j b hi=>by cases hi)⟩,fun t x ht=>?_,by simp;omega,DRb.empty,fun s v hb=>hb.elim⟩
  obtain⟨_,hx⟩:=zbm args 0 t x ht;rw [Nat.sub_zero] at hx;have hlt:t < args.length:=(List.getElem?_eq_some_iff.1 hx).1;refine⟨by show t < nt;omega,?_⟩
  have hvt:vs[t]?=some (vs[t]'(by omega)):=Array.getElem?_eq_getElem (by omega);have e:(vs ++ Array.replicate (fn.ntmps - vs.size) undef).getD t undef=vs[t]'(by omega):=by
   rw [Array.getD_eq_getD_getElem?,Array.getElem?_append_left (by omega),hvt];rfl
  show VR _ _ _ _ ((vs ++ Array.replicate (fn.ntmps - vs.size) undef).getD t undef)
  rw [e];exact zZ (hv t x _ hx hvt)
 refine wpIn_mono ((h w ⟨K,(· < w.heap.size)⟩).use hL hrel) ?_
 intro e a' w' ⟨fr,σ,g,hr,hq⟩;have fin:(∃ r',za6 tt res fr σ=some r'∧LeAV r' r)→a'.defers=[]∧∃ v,(results fn a'.tmps).run P w'=.ok v w'∧∃ v_1 K',Ending.returned v=.returned v_1∧Below w.heap.size w w'∧Ext K w K' w' ∧
   (∀ b o,b < w.heap.size→K' b o→K b o)∧(∀ b o,K' b o→b < w'.heap.size)∧VR2 [] ⟨K',fun _=>undef⟩ w' r v_1:=by
  rintro⟨r',ho,hle⟩;obtain⟨v,hrun,hvr⟩:=zeW htt hr hres ho (μ:=fun _=>undef);exact⟨hr.defers.nil,v,hrun,v,Kall σ g w',rfl,hr.hp.kept.below,hr.hp.ext.trans zcM,zfH hr.hp,zeF hr.hp,hle.ok hvr⟩
 cases e with
 | normal=>exact fin hq
 | ret=>exact fin hq
 | _=>exact hq.elim
end
end Go.QL
namespace Go.QL
open Go Go.RowKit
section
variable {w0:World} {K0:Bs} {σ:Sg} {g:Gh} {w:World}
theorem zgX (h:Hp w0 K0 σ g w) {c e sz st n:Nat} {xs:List (List PV)} (hl:lk c σ=some (.chain e sz st xs)) (hn:n≤xs.length) {v:Value} (hv:SR σ g w (.o c st n) v) :
  ∃ g',Did w0 K0 σ g w (zat c (.chain e sz (st+1) []) σ) g' w∧SR (zat c (.chain e sz (st+1) []) σ) g' w (.d (.s sz (xs.take n))) v:=by
 have hsome:(lk c σ).isSome:=by rw [hl];rfl
 let K':Nat→Nat→Prop:=fun b o=>g.K b o∨(blk (g.μ c)=some b∧b < w.heap.size)
 let g':Gh:=⟨K',upd g.μ c (.slice none 0 0)⟩
 have hext:Ext g.K w K' w:=⟨fun _ _ h=>.inl h,fun _ _ _=>rfl⟩;have hc:Compat σ g (zat c (.chain e sz (st+1) []) σ) g':=by
  refine⟨fun i cs hi=>?_,fun i e1 sz1 st1 xs1 hi=>?_,fun i o hi=>?_⟩
  ·have hne:i≠c:=fun e=>by rw [e,hl] at hi;cases hi
   exact⟨zo _ _ hne,cs,by rw [zt _ _ _ _ hne];exact hi⟩
  ·by_cases hne:i=c
   ·subst hne;rw [hl] at hi;cases hi;exact .inl ⟨_,_,_,_,zab _ _ _ hsome,Nat.lt_succ_self _⟩
   ·exact .inr ⟨zo _ _ hne,xs1,by rw [zt _ _ _ _ hne];exact hi,rfl⟩
  ·have hne:i≠c:=fun e=>by rw [e,hl] at hi;cases hi
   exact⟨zo _ _ hne,o,by rw [zt _ _ _ _ hne];exact hi,rfl⟩
 have hkeep:∀ s u,SR σ g w s u→SR (zat c (.chain e sz (st+1) []) σ) g' w s u:=fun s u hs=>hs.keep hc hext
 refine⟨g',⟨⟨h.kept,h.flt,h.ext.trans hext,?_,?_,?_,?_,?_⟩,hkeep⟩,?_⟩
 ·intro b o hb hk;rcases hk with hk|⟨hk,_⟩
  ·exact h.old b o hb hk
  ·exact absurd hb (h.own c b hsome hk)
 ·intro b o hk;rcases hk with hk|⟨_,hk⟩
  ·exact h.val b o hk
  ·exact hk
 ·intro i ob hi;by_cases hne:i=c
  ·subst hne;rw [zab _ _ _ hsome] at hi;cases hi;refine⟨[],?_,⟨none,0,zy _ _ _,Nat.le_refl _,by simp [maxLen]⟩,fun x hx=>by simp at hx,fun i x hi=>by simp at hi,fun b hb=>?_⟩
   ·show World.ownsRow w 0 e sz (upd g.μ i (.slice none 0 0) i) 0 []
    rw [zy];exact World.ownsRow_nil w _ _ _
   ·have hb:blk (upd g.μ i (.slice none 0 0) i)=some b:=hb;rw [zy] at hb;cases hb
  ·rw [zt _ _ _ _ hne] at hi;have hO:=h.obs i ob hi;refine hO.keep hkeep hext (zo _ _ hne) (fun _ _=>rfl) (fun b hb o hk=>?_)
   rcases hk with hk|⟨hk,_⟩
   ·exact h.notK hi hb o hk
   ·exact hne (h.inj i c b (by rw [hi];rfl) hsome hb hk)
 ·intro i b hi hb;have hb:blk (upd g.μ c (.slice none 0 0) i)=some b:=hb;by_cases hne:i=c
  ·subst hne;rw [zy] at hb;cases hb
  ·rw [zt _ _ _ _ hne] at hi;rw [zo _ _ hne] at hb;exact h.own i b hi hb
 ·intro i j b hi hj hbi hbj;have hbi:blk (upd g.μ c (.slice none 0 0) i)=some b:=hbi;have hbj:blk (upd g.μ c (.slice none 0 0) j)=some b:=hbj;by_cases e1:i=c
  ·subst e1;rw [zy] at hbi;cases hbi
  ·by_cases e2:j=c
   ·subst e2;rw [zy] at hbj;cases hbj
   ·rw [zt _ _ _ _ e1] at hi;rw [zt _ _ _ _ e2] at hj;rw [zo _ _ e1] at hbi;rw [zo _ _ e2] at hbj;exact h.inj i j b hi hj hbi hbj
 ·obtain⟨vs,hown,⟨a0,cap0,hμ0,hcap0,hmax0⟩,hsz,hpr,_⟩:=h.obs _ _ hl;cases hv with
  | old _ _ _ e1 sz1 st1 xs1 v hl1 hlt1 _=>rw [hl] at hl1;cases hl1;omega
  | o _ _ _ e1 sz1 xs1 a cap hl1 hn1 hμ1=>
   rw [hl] at hl1;cases hl1;have hmax1:cap≤maxLen:=by rw [hμ1] at hμ0;cases hμ0;exact hmax0
   have hcap1:xs.length≤cap:=by rw [hμ1] at hμ0;cases hμ0;exact hcap0
   have htl:(xs.take n).length=n:=by simp;omega
   rcases hown.2 with ⟨hnil,hz⟩|⟨gb,cap',cur,hv',hB,hg,_⟩
   ·have hx:xs=[]:=List.eq_nil_of_length_eq_zero hz;subst hx;have hn0:n=0:=by simpa using hn
    subst hn0;have:=PR.s (K:=K') (w:=w) sz ([]:List (List PV)) a cap 0 0 (fun _ _=>undef) (Nat.zero_le _) hmax1 (by simp) (fun h=>absurd rfl h) (fun i e hi=>by simp at hi) (fun i e hi=>by simp at hi) (fun i e hi=>by simp at hi);exact .d _ _ (by simpa using this)
   ·rw [hμ1] at hv';cases hv';have hbl:blk (g.μ c)=some gb:=by rw [hμ1];rfl
    have hlt:gb < w.heap.size:=(h.obs _ _ hl).blk_lt hbl |>.2
    have hcell:=hown.cells (g:=gb) (by rw [hμ1];rfl);have:=PR.s (K:=K') (w:=w) sz (xs.take n) (some ⟨gb,0,none⟩) cap gb 0 (fun i j=>vs.getD (i * sz+j) undef) (by rw [htl];omega) hmax1 (fun x hx=>hsz x (List.mem_of_mem_take hx)) (fun _=>rfl)
     (fun i e hi j hj=>.inr ⟨hbl,hlt⟩) (fun i e hi j hj=>by
      rw [List.getElem?_take] at hi;by_cases hin:i < n
      ·rw [if_pos hin] at hi;obtain⟨u,hu,_⟩:=hpr i e hi j _ (List.getElem?_eq_getElem hj);have:=hcell _ _ hu;rw [zad] at this;rw [this];simp [hu]
      ·rw [if_neg hin] at hi;cases hi) (fun i e hi j p hp'=>by
      rw [List.getElem?_take] at hi;by_cases hin:i < n
      ·rw [if_pos hin] at hi;obtain⟨u,hu,hpu⟩:=hpr i e hi j p hp';have e2:vs.getD (i * sz+j) undef=u:=by simp [hu]
       rw [e2];exact hpu.mono hext
      ·rw [if_neg hin] at hi;cases hi)
    rw [htl] at this;exact .d _ _ this
def FzGo (on:Bool) (σ:Sg) (v:AV) (k:AV→Sg→Prop):Prop:=
 bif on then (match v with
  | .x (.o c st n)=>(match lk c σ with
   | some (.chain e sz st' xs)=>(st'=st∧n≤xs.length)∧k (.x (.d (.s sz (xs.take n)))) (zat c (.chain e sz (st+1) []) σ)
   | _=>False)
  | .x (.d (.s sz xs))=>k (.x (.d (.s sz xs))) σ
  | _=>False)
 else k v σ
theorem zqt {P:Program} {Γ:Cx} {on:Bool} {v:AV} {k:AV→Sg→Prop} (h:FzGo on σ v k):∃ v' σ',k v' σ'∧∀ (d:Option Tmp) (fr:Fr) (g:Gh) (a:Act) (w:World),Rel Γ (zbl d v fr) σ g a w→∃ g',Rel Γ (zbl d v' fr) σ' g' a w:=by
 unfold FzGo at h;cases on with
 | false=>exact⟨v,σ,h,fun d fr g a w hr=>⟨g,hr⟩⟩
 | true=>
  simp only [cond_true] at h;split at h
  ·rename_i c st n;split at h
   ·rename_i e sz st' xs hl;obtain⟨⟨rfl,hn⟩,hk⟩:=h;refine⟨_,_,hk,fun d fr g a w hr=>?_⟩
    cases d with
    | none=>
     have hO:=hr.hp.obs _ _ hl;obtain⟨vs,hown,⟨a0,cap0,hμ0,hcap0,hmax0⟩,hsz,hpr,_⟩:=hO;obtain⟨g',hd,_⟩:=zgX hr.hp hl hn (SR.o c st' n e sz xs a0 cap0 hl hn hμ0);exact⟨g',hr.did hd⟩
    | some t=>
     have ht:=hr.fr t (.x (.o c st' n)) (by show lk t ((t,_)::fr)=_;rw [zr,if_pos rfl]);obtain⟨g',hd,hv⟩:=zgX hr.hp hl hn (show SR σ g w (.o c st' n) _ from ht.2);refine⟨g',hd.hp,fun s x hs=>?_,hr.size,(hr.did hd).defers,(hr.did hd).base⟩
     have hs:lk s ((t,_)::fr)=some x:=hs;rw [zr] at hs;by_cases e1:t=s
     ·subst e1;rw [if_pos rfl] at hs;cases hs;exact⟨ht.1,hv⟩
     ·rw [if_neg e1] at hs;refine (hr.did hd).fr s x ?_
      show lk s ((t,_)::fr)=some x
      rw [zr,if_neg e1];exact hs
   ·exact h.elim
  ·exact⟨_,σ,h,fun d fr g a w hr=>⟨g,hr⟩⟩
  ·exact h.elim
end
structure Stg where
 w:Nat
 ob:Bool
 fz:Bool
 re:List Nat
 fl:List Nat
def vcFl (P:Program) (tt:TT) (nt:Nat) (ops:List Oper) (ms:List Nat) (fr0:Fr) (σ:Sg) (k:List En→Prop):List Nat→List En→Prop
 | [],es=>k es
 | i::r,es=>match ops[i]? with
  | some o=>opDr P tt ops false (selF (frs (zaK (ms.getD i 0) es) ++ fr0) (looks ops o)) σ 0 o fun gd v nob=>nob=none∧putE nt o.dst gd v fun x=>vcFl P tt nt ops ms fr0 σ k r (⟨i,o.dst,x,none⟩::es)
  | none=>False
def getE:List En→Nat→Option AV
 | [],_=>none
 | ⟨j,_,x,_⟩::r,i=>bif Nat.beq j i then some x else getE r i
def vcRe (P:Program) (tt:TT) (nt:Nat) (ops:List Oper) (ms:List Nat) (fr0:Fr) (es:List En) (σ:Sg) (k:Prop):List Nat→Prop
 | []=>k
 | l::r=>match ops[l]? with
  | some o=>opDr P tt ops false (selF (frs (zaK (ms.getD l 0) es) ++ fr0) (looks ops o)) σ 0 o fun gd v nob=>nob=none∧putE nt o.dst gd v fun x=>getE es l=some x∧vcRe P tt nt ops ms fr0 es σ k r
  | none=>False
def vcSt (P:Program) (tt:TT) (nt:Nat) (ops:List Oper) (ms:List Nat) (fr0:Fr) (k:Fr→Sg→Prop):List Stg→List En→Sg→Prop
 | [],es,σ=>k (frs es ++ fr0) σ
 | ⟨w,mk,fz,re,fl⟩::r,es,σ=>match ops[w]? with
  | none=>False
  | some o=>
   bif mk then
    zhE σ o.dst fun id=>opDr P tt ops true (selF (frs (zaK (ms.getD w 0) es) ++ fr0) (looks ops o)) σ id o fun gd v nob=>putE nt o.dst gd v fun x=>
     FzGo fz (zdZ nob σ) x fun x σ2=>vcRe P tt nt ops ms fr0 (⟨w,o.dst,x,none⟩::es) σ2 (vcFl P tt nt ops ms fr0 σ2 (fun es'=>vcSt P tt nt ops ms fr0 k r es' σ2) fl (⟨w,o.dst,x,none⟩::es)) re
   else
    zah P tt nt ops (fun fr2 σ2=>LateGo o.dst fr2 (selF (frs (zaK (ms.getD w 0) es) ++ fr0) (looks ops o)) fun x=>FzGo fz σ2 x fun x σ2=>
     vcRe P tt nt ops ms fr0 (⟨w,o.dst,x,none⟩::es) σ2 (vcFl P tt nt ops ms fr0 σ2 (fun es'=>vcSt P tt nt ops ms fr0 k r es' σ2) fl (⟨w,o.dst,x,none⟩::es)) re)
     [o] (selF (frs (zaK (ms.getD w 0) es) ++ fr0) (looks ops o)) σ
noncomputable def lrec {α β : Type} (z : β) (s : α→List α→β→β) (l:List α) : β:=List.rec (motive:=fun _=>β) z s l
def getL {α : Type} (l:List α):Nat→Option α:=lrec (fun _=>none) (fun x _ ih i=>Nat.casesOn (motive:=fun _=>Option α) i (some x) (fun j=>ih j)) l
theorem getL_eq {α : Type}:∀ (l:List α) (i:Nat),getL l i=l[i]?
 | [],i=>by rw [List.getElem?_nil];rfl
 | x::r,0=>rfl
 | x::r,i+1=>by rw [List.getElem?_cons_succ];exact getL_eq r i
def lenL {α : Type} (l:List α):Nat:=lrec (fun n=>n) (fun _ _ ih n=>ih (Nat.add n 1)) l 0
theorem lenL_at {α : Type}:∀ (l:List α) (n:Nat),lrec (fun n=>n) (fun (_ : α) (_:List α) (ih:Nat→Nat) n=>ih (Nat.add n 1)) l n=n+l.length
 | [],n=>rfl
 | x::r,n=>by
  show lrec (fun n=>n) (fun (_ : α) (_:List α) (ih:Nat→Nat) n=>ih (Nat.add n 1)) r (n+1)=_
  rw [lenL_at r (n+1),List.length_cons];omega
theorem lenL_eq {α : Type} (l:List α):lenL l=l.length:=(lenL_at l 0).trans (Nat.zero_add _)
def takL {α : Type} (n:Nat) (l:List α):List α:=lrec (fun _=>[]) (fun x _ ih n=>Nat.casesOn (motive:=fun _=>List α) n [] (fun j=>x::ih j)) l n
theorem takL_eq {α : Type}:∀ (n:Nat) (l:List α),takL n l=l.take n
 | n,[]=>by rw [List.take_nil];rfl
 | 0,x::r=>rfl
 | n+1,x::r=>by rw [List.take_succ_cons,← takL_eq n r];rfl
def drpL {α : Type} (n:Nat) (l:List α):List α:=lrec (fun _=>[]) (fun x r ih n=>Nat.casesOn (motive:=fun _=>List α) n (x::r) (fun j=>ih j)) l n
theorem drpL_eq {α : Type}:∀ (n:Nat) (l:List α),drpL n l=l.drop n
 | n,[]=>by rw [List.drop_nil];rfl
 | 0,x::r=>rfl
 | n+1,x::r=>by rw [List.drop_succ_cons,← drpL_eq n r];rfl
def appL {α : Type} (l m:List α):List α:=lrec m (fun x _ ih=>x::ih) l
theorem appL_eq {α : Type}:∀ (l m:List α),appL l m=l ++ m
 | [],m=>rfl
 | x::r,m=>by rw [List.cons_append,← appL_eq r m];rfl
def takA {α : Type} (n:Nat) (l m:List α):List α:=lrec (fun _=>m) (fun x _ ih n=>Nat.casesOn (motive:=fun _=>List α) n m (fun j=>x::ih j)) l n
theorem takA_eq {α : Type}:∀ (n:Nat) (l m:List α),takA n l m=l.take n ++ m
 | n,[],m=>by rw [List.take_nil];rfl
 | 0,x::r,m=>rfl
 | n+1,x::r,m=>by rw [List.take_succ_cons,List.cons_append,← takA_eq n r m];rfl
def setL {α : Type} (i:Nat) (a : α) (l:List α):List α:=lrec (fun _=>[]) (fun x r ih n=>Nat.casesOn (motive:=fun _=>List α) n (a::r) (fun j=>x::ih j)) l i
theorem setL_eq {α : Type}:∀ (i:Nat) (a : α) (l:List α),setL i a l=l.set i a
 | i,a,[]=>by rw [List.set_nil];rfl
 | 0,a,x::r=>rfl
 | i+1,a,x::r=>by rw [List.set_cons_succ,← setL_eq i a r];rfl
def segL {α : Type} (cs:List α) (off:Nat) (ss:List α):List α:=takA off cs (appL ss (drpL (Nat.add off (lenL ss)) cs))
theorem segL_eq {α : Type} (cs:List α) (off:Nat) (ss:List α):segL cs off ss=seg cs off ss:=by
 unfold segL seg;rw [takA_eq,appL_eq,drpL_eq,lenL_eq,List.append_assoc];rfl
def cellsQ (σ:Sg):SV→Nat→Option (List SV)
 | .b id off,n=>match lk id σ with
  | some (.box cs)=>bif Nat.ble (Nat.add off n) (lenL cs) then some (takL n (drpL off cs)) else none
  | _=>none
 | .se e off,n=>bif Nat.ble (Nat.add off n) (lenL e) then some ((takL n (drpL off e)).map .d) else none
 | _,_=>none
theorem cellsQ_eq (σ:Sg) (s:SV) (n:Nat):cellsQ σ s n=zdd σ s n:=by
 have key:∀ (a b:Nat) {β : Type} (x y : β),(bif Nat.ble a b then x else y)=if a≤b then x else y:=by
  intro a b β x y;cases h:Nat.ble a b with
  | true=>rw [if_pos (Nat.le_of_ble_eq_true h)];rfl
  | false=>rw [if_neg (fun e=>by rw [Nat.ble_eq_true_of_le e] at h;cases h)];rfl
 cases s <;> simp only [cellsQ,zdd,key,takL_eq,drpL_eq,lenL_eq] <;> rfl
def inL (l:List Nat) (i:Nat):Bool:=lrec false (fun x _ ih=>bif Nat.beq i x then true else ih) l
theorem inL_cons (x:Nat) (l:List Nat) (i:Nat):inL (x::l) i=bif Nat.beq i x then true else inL l i:=rfl
def zlV (ms:List Nat) (m i:Nat) (ls:List Nat):Bool:=Nat.blt i m && !inL ls i && (List.range m).all fun b=>!Nat.testBit (ms.getD i 0) b || inL ls b
def okFl (ms:List Nat) (m:Nat) (k:List Nat→Bool):List Nat→List Nat→Bool
 | [],ls=>k ls
 | i::r,ls=>zlV ms m i ls && okFl ms m k r (i::ls)
def okSt (ms:List Nat) (m:Nat):List Stg→List Nat→Bool
 | [],ls=>(List.range m).all (inL ls)
 | s::r,ls=>zlV ms m s.w ls && (ls.all fun i=>Nat.testBit (ms.getD s.w 0) i || inL s.re i) && (s.re.all (inL ls)) &&
   ((List.range m).all fun i=>inL ls i || Nat.beq i s.w || Nat.testBit (ms.getD i 0) s.w) && okFl ms m (okSt ms m r) s.fl (s.w::ls)
theorem zgk {l:List Nat} {i:Nat}:inL l i=true↔i ∈ l:=by
 induction l with
 | nil=>exact⟨fun h=>(by cases h),fun h=>(by cases h)⟩
 | cons x r ih=>
  rw [inL_cons,List.mem_cons];cases hb:Nat.beq i x with
  | true=>exact⟨fun _=>.inl (Nat.eq_of_beq_eq_true hb),fun _=>rfl⟩
  | false=>
   rw [cond_false,ih];exact⟨.inr,fun h=>h.resolve_left (fun e=>by subst e;rw [Nat.beq_refl] at hb;cases hb)⟩
theorem zkn {i:Nat} {x:AV}:∀ {es:List En},getE es i=some x→∃ e ∈ es,e.i=i∧e.x=x
 | [],h=>by cases h
 | ⟨j,d,y,ob⟩::r,h=>by
  unfold getE at h;cases hb:Nat.beq j i with
  | true=>
   rw [hb] at h;cases h;exact⟨_,List.mem_cons_self,Nat.eq_of_beq_eq_true hb,rfl⟩
  | false=>
   rw [hb] at h;obtain⟨e,he,h'⟩:=zkn (es:=r) h;exact⟨e,List.mem_cons_of_mem _ he,h'⟩
section
variable {P:Program} {Γ:Cx} {fr:Fr} {σ:Sg} {Q:Exit→Fr→Sg→Prop}
structure GoodS (ops:List Oper) (ms:List Nat) (m nt:Nat) (es:List En):Prop where
 idx:∀ e ∈ es,∀ e' ∈ es,e.i=e'.i→e=e'
 lt:∀ e ∈ es,e.i < m
 op:∀ e ∈ es,∃ o,ops[e.i]?=some o∧e.d=o.dst∧∀ t,o.dst=some t→t < nt
 cl:∀ e ∈ es,∀ b,(ms.getD e.i 0).testBit b=true→b < m→b ∈ es.map (·.i)
def SemF (P:Program) (Γ:Cx) (ops:List Oper) (ms:List Nat) (fr0:Fr) (es:List En) (σ:Sg) (e:En):Prop:=
 ∃ o,ops[e.i]?=some o∧SemE P Γ ops false (selF (frs (zaK (ms.getD e.i 0) es) ++ fr0) (looks ops o)) σ e.i o e.x none
theorem zft {ms:List Nat} {m i:Nat} {ls:List Nat} (h:zlV ms m i ls=true):i < m∧i ∉ ls∧∀ b,b < m→(ms.getD i 0).testBit b=true→b ∈ ls:=by
 unfold zlV at h;simp only [Bool.and_eq_true,List.all_eq_true] at h;obtain⟨⟨h1,h2⟩,h3⟩:=h;refine⟨Nat.le_of_ble_eq_true h1,fun hm=>?_,fun b hb hbit=>?_⟩
 ·rw [zgk.2 hm] at h2;cases h2
 ·have:=h3 b (List.mem_range.2 hb);rw [hbit] at this;exact zgk.1 (by simpa using this)
theorem GoodS.add {ops:List Oper} {ms:List Nat} {m nt:Nat} {es:List En} (hg:GoodS ops ms m nt es) {i:Nat} {o:Oper} {x:AV} {ob:Option (Nat × Ob)} (ho:ops[i]?=some o) (h1:zlV ms m i (es.map (·.i))=true) (hd:∀ t,o.dst=some t→t < nt) :
  GoodS ops ms m nt (⟨i,o.dst,x,ob⟩::es):=by
 obtain⟨h1,h2,h3⟩:=zft h1;have hn:∀ e ∈ es,e.i≠i:=fun e he hi=>h2 (List.mem_map.2 ⟨e,he,hi⟩)
 refine⟨fun e he e' he' hii=>?_,fun e he=>?_,fun e he=>?_,fun e he b hb hbm=>?_⟩
 ·rcases List.mem_cons.1 he with rfl|he <;> rcases List.mem_cons.1 he' with rfl|he'
  ·rfl
  ·exact absurd hii.symm (hn e' he')
  ·exact absurd hii (hn e he)
  ·exact hg.idx e he e' he' hii
 ·rcases List.mem_cons.1 he with rfl|he
  ·exact h1
  ·exact hg.lt e he
 ·rcases List.mem_cons.1 he with rfl|he
  ·exact⟨o,ho,rfl,hd⟩
  ·exact hg.op e he
 ·rcases List.mem_cons.1 he with rfl|he
  ·exact List.mem_cons_of_mem _ (h3 b hbm hb)
  ·exact List.mem_cons_of_mem _ (hg.cl e he b hb hbm)
theorem zgS {ms k:Nat} {e:En} {es:List En} (h:ms.testBit e.i=false):zaK ms (e::es)=zaK ms es:=by
 obtain⟨i,d,x,ob⟩:=e;show (bif zm3 ms i then _ else _)=_
 rw [zeC,h];rfl
theorem SemF.add {ops:List Oper} {ms:List Nat} {m nt:Nat} {fr0:Fr} {es:List En} {σ:Sg} (hg:GoodS ops ms m nt es) {en:En} (hen:en.i ∉ es.map (·.i)) (hm:en.i < m) {e:En} (he:e ∈ es) (h:SemF P Γ ops ms fr0 es σ e):SemF P Γ ops ms fr0 (en::es) σ e:=by
 obtain⟨o,ho,hs⟩:=h;refine⟨o,ho,?_⟩
 rw [zgS (k:=0)]
 ·exact hs
 ·cases hb:(ms.getD e.i 0).testBit en.i with
  | false=>rfl
  | true=>exact absurd (hg.cl e he en.i hb hm) hen
theorem zi3 {tt:TT} (htt:tt.ok P) (hL:Laid P Γ.K0.K Γ.w0) {ops:List Oper} {ms:List Nat} {m:Nat} (hmk:MaskOK ops.toArray ms m) {fr0:Fr} {σ:Sg} {k:List En→Prop} {kb:List Nat→Bool}:∀ {l:List Nat} {es:List En},
  vcFl P tt Γ.nt ops ms fr0 σ k l es→okFl ms m kb l (es.map (·.i))=true→GoodS ops ms m Γ.nt es →
  ∃ es',k es'∧kb (es'.map (·.i))=true∧GoodS ops ms m Γ.nt es'∧(∀ e ∈ es,e ∈ es')∧(∀ e ∈ es',e ∈ es∨SemF P Γ ops ms fr0 es' σ e)∧(∀ e ∈ es,SemF P Γ ops ms fr0 es σ e→SemF P Γ ops ms fr0 es' σ e)
 | [],es,h,hb,hg=>⟨es,h,hb,hg,fun e he=>he,fun e he=>.inl he,fun e _ hs=>hs⟩
 | i::r,es,h,hb,hg=>by
  unfold vcFl at h;unfold okFl at hb;rw [Bool.and_eq_true] at hb;cases ho:ops[i]? with
  | none=>rw [ho] at h;exact h.elim
  | some o=>
   rw [ho] at h;simp only at h;obtain⟨gd,x,nob,⟨hn,hk⟩,_,hsem⟩:=zdM (Γ:=Γ) htt hL h i;subst hn;obtain⟨hk,hd⟩:=zdJ hk;obtain⟨h1,h2,h3⟩:=zft hb.1;have hg':=hg.add (x:=zeI gd x) (ob:=none) ho hb.1 hd;obtain⟨es',k1,k2,k3,k4,k5,k6⟩:=zi3 htt hL hmk hk hb.2 hg';have hself:SemF P Γ ops ms fr0 (⟨i,o.dst,zeI gd x,none⟩::es) σ ⟨i,o.dst,zeI gd x,none⟩:=by
    refine⟨o,ho,?_⟩
    rw [zgS (k:=0)]
    ·exact hsem
    ·cases hbt:(ms.getD i 0).testBit i with
     | false=>rfl
     | true=>have:=hmk.lt i o (by simpa using ho) i hbt;omega
   refine⟨es',k1,k2,k3,fun e he=>k4 e (List.mem_cons_of_mem _ he),fun e he=>?_,fun e he hs=>k6 e (List.mem_cons_of_mem _ he) (hs.add hg h2 h1 he)⟩
   rcases k5 e he with he|hs
   ·rcases List.mem_cons.1 he with rfl|he
    ·exact .inr (k6 _ List.mem_cons_self hself)
    ·exact .inl he
   ·exact .inr hs
theorem zlc {tt:TT} (htt:tt.ok P) (hL:Laid P Γ.K0.K Γ.w0) {ops:List Oper} {ms:List Nat} {m:Nat} {fr0:Fr} {es:List En} (hg:GoodS ops ms m Γ.nt es) {σ:Sg} {k:Prop}:∀ {l:List Nat},vcRe P tt Γ.nt ops ms fr0 es σ k l →
  k∧∀ e ∈ es,e.i ∈ l→SemF P Γ ops ms fr0 es σ e
 | [],h=>⟨h,fun e _ he=>by cases he⟩
 | i::r,h=>by
  unfold vcRe at h;cases ho:ops[i]? with
  | none=>rw [ho] at h;exact h.elim
  | some o=>
   rw [ho] at h;simp only at h;obtain⟨gd,x,nob,⟨hn,hk⟩,_,hsem⟩:=zdM (Γ:=Γ) htt hL h i;subst hn;obtain⟨⟨hx,hr⟩,_⟩:=zdJ hk;obtain⟨h1,h2⟩:=zlc htt hL hg hr;refine⟨h1,fun e he hi=>?_⟩
   rcases List.mem_cons.1 hi with hi|hi
   ·obtain⟨e',he',hi',hx'⟩:=zkn hx;have:=hg.idx e he e' he' (hi.trans hi'.symm);subst this;refine⟨o,by rw [hi];exact ho,?_⟩
    rw [hi,hx'];exact hsem
   ·exact h2 e he hi
abbrev InvS (P:Program) (tt:TT) (Γ:Cx) (ops:List Oper) (ms:List Nat) (m:Nat) (fr:Fr) (Q:Exit→Fr→Sg→Prop) (L:Nat→Prop) (a:Act) (w:World):Prop:=
 ∃ (E es:List En) (σ1:Sg) (rest:List Stg) (g:Gh),GoodS ops ms m Γ.nt es∧okSt ms m rest (es.map (·.i))=true ∧
  vcSt P tt Γ.nt ops ms fr (fun fr' σ'=>zah P tt Γ.nt ops (Q .normal) (ops.drop m) fr' σ') rest es σ1∧(∀ e ∈ es,¬ L e.i→SemF P Γ ops ms fr es σ1 e) ∧
  (∀ e ∈ E,e ∈ es)∧(∀ j,L j↔∃ e ∈ E,e.i=j)∧(∀ k,L k→∀ b,(ms.getD k 0).testBit b=true→L b)∧Rel Γ (frs E ++ fr) σ1 g a w
theorem draw_gen {tt:TT} (htt:tt.ok P) (hmix:P.follows .mixedOrders=true) (hLd:Laid P Γ.K0.K Γ.w0) (m:Nat) (ms:List Nat) {id:Nat} {ops:List Oper} (hms:zbe ms m ops 0=true) (hlen:Nat.ble m ops.length=true)
  (hds:zc2 (ops.take m) []=true) (hrd:zcn ops ms (ops.take m) (ops.take m) 0=true) (InvP:(Nat→Prop)→Act→World→Prop)
  (hP:∀ L a w,InvP L a w→∀ i,i < ops.length→¬ L i→(∀ b,(ms.getD i 0).testBit b=true→L b)→InvS P tt Γ ops ms m fr Q L a w∨wpOpIn (FX Γ.ro) 0 P ops.toArray (Lift Γ Q) i (InvP (fun j=>L j∨j=i)) a w)
  (hE:∀ L a w,InvP L a w→(∀ b,b < m→L b)→InvS P tt Γ ops ms m fr Q L a w) (a:Act) (w:World)
  (h0:∀ L:Nat→Prop,(∀ j,¬ L j)→∀ n,InvP L a { w with drawn:=n }∨InvS P tt Γ ops ms m fr Q L a { w with drawn:=n }):(Code.region id ops.toArray true).wpIn (FX Γ.ro) 0 P (Lift Γ Q) a w:=by
 have hm:=MaskOK.of hms;have hlen:m≤ops.length:=Nat.le_of_ble_eq_true hlen;obtain⟨_,hd1⟩:=zb1 hds;have hrd:=fun j o h=>zaV (zbR hrd j o h)
 simp only [Nat.zero_add] at hrd;have htk:∀ {i:Nat} {o:Oper},i < m→ops[i]?=some o→(ops.take m)[i]?=some o:=fun hi ho=>by rw [List.getElem?_take,if_pos hi];exact ho
 have hfF:∀ es,GoodS ops ms m Γ.nt es→∀ p ∈ frs es,∀ q ∈ frs es,p.1=q.1→p=q:=by
  intro es hg p hp q hq hpq;obtain⟨e,he,h1,h2⟩:=zY.1 hp;obtain⟨e',he',h1',h2'⟩:=zY.1 hq;obtain⟨o,ho,hd,_⟩:=hg.op e he;obtain⟨o',ho',hd',_⟩:=hg.op e' he';have:=hd1 e.i e'.i o o' p.1 (htk (hg.lt e he) ho) (htk (hg.lt e' he') ho') (by rw [← hd,h1]) (by rw [← hd',h1',hpq]);have:=hg.idx e he e' he' this;subst this;obtain⟨p1,p2⟩:=p;obtain⟨q1,q2⟩:=q;simp only at *;subst hpq;subst h2;subst h2';rfl
 let InvA:=InvS P tt Γ ops ms m fr Q
 let InvB:(Nat→Prop)→Act→World→Prop:=fun L a w=>∃ j,m≤j∧j≤ops.length∧(∀ b,L b↔b < j)∧wpLs Γ.ro P ops.toArray (Lift Γ Q) (ops.drop j) a w
 have conv:∀ L a w,InvA L a w→(∀ b,b < m→L b)→InvB L a w:=by
  intro L a w ⟨E,es,σ1,rest,g,hg,hb,hk,_,h1,h2,_,h3⟩ hall;cases rest with
  | cons s r=>
   unfold okSt at hb;simp only [Bool.and_eq_true] at hb;obtain⟨k1,k2,_⟩:=zft hb.1.1.1.1;obtain⟨e,he,hi⟩:=(h2 s.w).1 (hall s.w k1);exact absurd (List.mem_map.2 ⟨e,h1 e he,hi⟩) k2
  | nil=>
   refine⟨m,Nat.le_refl _,hlen,fun b=>⟨fun hb=>?_,hall b⟩,?_⟩
   ·obtain⟨e,he,hi⟩:=(h2 b).1 hb;rw [← hi];exact hg.lt e (h1 e he)
   ·have hsub:∀ e ∈ es,e ∈ E:=by
     intro e he;obtain⟨e',he',hi⟩:=(h2 e.i).1 (hall e.i (hg.lt e he));have:=hg.idx e' (h1 e' he') e he hi;subst this;exact he'
    have hf:=hfF es hg;have hr':Rel Γ (frs es ++ fr) σ1 g a w:=h3.subF (zb4 (fun p hp q hq=>hf p ((zq h1) p hp) q ((zq h1) q hq)) (fun p=>⟨zq hsub p,zq h1 p⟩));exact zcc htt hLd (fun _ _ h=>h) (ops.drop m) _ _ hk g a w hr'
 have look:∀ (L:Nat→Prop) (E es:List En) (i:Nat) (o:Oper),GoodS ops ms m Γ.nt es→(∀ e ∈ E,e ∈ es)→(∀ j,L j↔∃ e ∈ E,e.i=j)→(∀ k,L k→∀ b,(ms.getD k 0).testBit b=true→L b)→¬ L i→i < m→ops[i]?=some o →
   (∀ b,(ms.getD i 0).testBit b=true→L b)→Sup (selF (frs (zaK (ms.getD i 0) es) ++ fr) (looks ops o)) (frs E ++ fr):=by
  intro L E es i o hg h1 h2 hcl hL him ho hbits t v hl;have hf:=hfF es hg;obtain⟨ht,hl⟩:=zbF hl;have hpE:∀ e ∈ zaK (ms.getD i 0) es,e ∈ E:=fun e he=>by
   obtain⟨he,hbit⟩:=zap he;obtain⟨e',he',hi'⟩:=(h2 e.i).1 (hbits e.i hbit);have:=hg.idx e' (h1 e' he') e he hi';subst this;exact he'
  rcases zdB hl with hl|⟨hn,hl⟩
  ·exact zas (fun p hp q hq=>hf p (zq h1 p hp) q (zq h1 q hq)) (zq hpE _ hl)
  ·rw [zU]
   ·exact hl
   ·intro p hp hpt;obtain⟨e,he,h1',h2'⟩:=zY.1 hp;obtain⟨oe,hoe,hde,_⟩:=hg.op e (h1 e he);have hLe:L e.i:=(h2 e.i).2 ⟨e,he,rfl⟩;rcases hrd i o (htk him ho) e.i oe t (htk (hg.lt e (h1 e he)) hoe) (by rw [← hde,h1',hpt]) ht with hk|hk|hk
    ·exact hL (hk ▸ hLe)
    ·exact hn p (zY.2 ⟨e,zbt (h1 e he) hk,h1',h2'⟩) hpt
    ·exact hL (hcl e.i hLe i hk)
 refine wpIn_region_any hmix ?_
 refine zbU hm (fun L a w=>InvP L a w∨InvA L a w∨InvB L a w) ?_ ?_ _ _ _ _ (by simp) ?_ ?_ ?_
 ·-- a step
  intro L a w hinv i hi hL hbits;have hi':i < ops.length:=by simpa using hi
  have stepB:InvB L a w→wpOpIn (FX Γ.ro) 0 P ops.toArray (Lift Γ Q) i (fun a w=>InvA (fun j=>L j∨j=i) a w∨InvB (fun j=>L j∨j=i) a w) a w:=by
   intro ⟨j,hj1,hj2,hj3,hj4⟩;have hji:j≤i:=by
    rcases Nat.lt_or_ge i j with h'|h'
    ·exact absurd ((hj3 i).2 h') hL
    ·exact h'
   have hij:i=j:=by
    rcases Nat.lt_or_ge j i with h'|h'
    ·have:=hm.tail i _ (Array.getElem?_eq_getElem (by simpa using hi')) (by omega) j h';have:=(hj3 j).1 (hbits j this);omega
    ·omega
   subst hij;rw [List.drop_eq_getElem_cons hi'] at hj4;have hoi:ops.toArray[i]?=some ops[i]:=by simp [hi']
   have hnew:∀ a w,wpLs Γ.ro P ops.toArray (Lift Γ Q) (ops.drop (i+1)) a w→InvA (fun j=>L j∨j=i) a w∨InvB (fun j=>L j∨j=i) a w:=by
    intro a w hw;refine .inr ⟨i+1,by omega,by omega,fun b=>?_,hw⟩
    show (L b∨b=i)↔b < i+1
    rw [hj3 b];omega
   unfold wpOpIn;simp only [hoi];unfold wpLs wpLk at hj4;split
   ·rename_i hwant;rw [if_pos hwant] at hj4;exact Oper.wpIn_mono hnew hj4
   ·rename_i hwant;rw [if_neg hwant] at hj4;exact⟨fun _ _=>trivial,hnew _ _ hj4⟩
  have go:InvA L a w∨InvB L a w→wpOpIn (FX Γ.ro) 0 P ops.toArray (Lift Γ Q) i (fun a w=>InvA (fun j=>L j∨j=i) a w∨InvB (fun j=>L j∨j=i) a w) a w:=by
   intro hinv;rcases hinv with hA|hB
   ·rcases Nat.lt_or_ge i m with him|him
    ·obtain⟨E,es,σ1,rest,g,hg,hb,hk,hsF,h1,h2,hcl,h3⟩:=hA;have hcl':∀ k,(L k∨k=i)→∀ b,(ms.getD k 0).testBit b=true→(L b∨b=i):=by
      intro k hk b hb;rcases hk with hk|rfl
      ·exact .inl (hcl k hk b hb)
      ·exact .inl (hbits b hb)
     have hL2:∀ (en:En),en.i=i→∀ j,(L j∨j=i)↔∃ e ∈ en::E,e.i=j:=by
      intro en hen j;rw [h2 j];constructor
      ·rintro (⟨e,he,h'⟩|rfl)
       ·exact⟨e,List.mem_cons_of_mem _ he,h'⟩
       ·exact⟨en,List.mem_cons_self,hen⟩
      ·rintro⟨e,he,h'⟩;rcases List.mem_cons.1 he with rfl|he
       ·exact .inr (h'.symm.trans hen)
       ·exact .inl ⟨e,he,h'⟩
     by_cases hin:i ∈ es.map (·.i)
     ·-- one that floats
      obtain⟨en,hen,heni⟩:=List.mem_map.1 hin;obtain⟨o,ho,hsem⟩:=hsF en hen (by rw [heni];exact hL);obtain⟨o',ho',hd,hdn⟩:=hg.op en hen;rw [ho] at ho';cases ho';rw [heni] at ho hsem;refine hsem _ (frs E ++ fr) σ1 g a w (look L E es i o hg h1 h2 hcl hL him ho hbits) (fun _ _ h=>h) (fun _=>rfl) (fun p hp=>by cases hp) h3 _ (fun v g' w' hr' hv=>.inl ?_) (by simpa using ho)
      refine⟨en::E,es,σ1,rest,g',hg,hb,hk,fun e he hn=>hsF e he (fun h=>hn (.inl h)),fun e he=>?_,hL2 en heni,hcl',?_⟩
      ·rcases List.mem_cons.1 he with rfl|he
       ·exact hen
       ·exact h1 e he
      ·rw [← zbO,hd];have hr':Rel Γ (frs E ++ fr) σ1 g' a w':=hr';cases hdd:o.dst with
       | none=>exact hr'
       | some d=>exact hr'.put (hdn d hdd) hv
     ·-- the next one that writes
      cases rest with
      | nil=>
       unfold okSt at hb;rw [List.all_eq_true] at hb;exact absurd (zgk.1 (hb i (List.mem_range.2 him))) hin
      | cons s r=>
       obtain⟨sw,mk,fz,re,fl⟩:=s;unfold okSt at hb;simp only [Bool.and_eq_true] at hb;obtain⟨⟨⟨⟨hone,hre⟩,_⟩,hrst⟩,hfl⟩:=hb;obtain⟨k1,k2,k3⟩:=zft hone;have hiw:i=sw:=by
        rw [List.all_eq_true] at hrst;have:=hrst i (List.mem_range.2 him);simp only [Bool.or_eq_true] at this;rcases this with (h'|h')|h'
        ·exact absurd (zgk.1 h') hin
        ·exact Nat.eq_of_beq_eq_true h'
        ·obtain⟨e,he,hi2⟩:=(h2 sw).1 (hbits sw h');exact absurd (List.mem_map.2 ⟨e,h1 e he,hi2⟩) k2
       subst hiw;unfold vcSt at hk;have ho:ops[i]?=some ops[i]:=List.getElem?_eq_getElem hi';rw [ho] at hk;simp only at hk;generalize ops[i]=o at ho hk;have hoi:ops.toArray[i]?=some o:=by simpa using ho
       have hsup:=look L E es i o hg h1 h2 hcl hL him ho hbits;have fin:∀ (x:AV) (σ2:Sg),(∀ t,o.dst=some t→t < Γ.nt)→(FzGo fz σ2 x fun x σ2=>
         vcRe P tt Γ.nt ops ms fr (⟨i,o.dst,x,none⟩::es) σ2 (vcFl P tt Γ.nt ops ms fr σ2 (fun es'=>vcSt P tt Γ.nt ops ms fr (fun fr' σ'=>zah P tt Γ.nt ops (Q .normal) (ops.drop m) fr' σ') r es' σ2) fl (⟨i,o.dst,x,none⟩::es)) re) →
         ∀ g2 a2 w2,Rel Γ (zbl o.dst x (frs E ++ fr)) σ2 g2 a2 w2→InvA (fun j=>L j∨j=i) a2 w2:=by
        intro x1 σ3 hdn hk2 g3 a2 w2 hr3;obtain⟨x,σ2,hk2,hfz⟩:=zqt (P:=P) (Γ:=Γ) hk2;obtain⟨g2,hr2⟩:=hfz _ _ g3 a2 w2 hr3;have hg':=hg.add (x:=x) (ob:=none) ho hone hdn;obtain⟨hk3,hre2⟩:=zlc (Γ:=Γ) htt hLd hg' hk2;obtain⟨es',q1,q2,q3,q4,q5,q6⟩:=zi3 (Γ:=Γ) htt hLd hm hk3 hfl hg';refine⟨⟨i,o.dst,x,none⟩::E,es',σ2,r,g2,q3,q2,q1,fun e he hn=>?_,fun e he=>?_,hL2 _ rfl,hcl',?_⟩
        ·rcases q5 e he with he'|hs
         ·refine q6 e he' (hre2 e he' ?_)
          rcases List.mem_cons.1 he' with rfl|he'
          ·exact absurd (.inr rfl) hn
          ·rw [List.all_eq_true] at hre;have:=hre e.i (List.mem_map.2 ⟨e,he',rfl⟩);rw [Bool.or_eq_true] at this;rcases this with h'|h'
           ·exact absurd (.inl (hbits e.i h')) hn
           ·exact zgk.1 h'
         ·exact hs
        ·rcases List.mem_cons.1 he with rfl|he
         ·exact q4 _ List.mem_cons_self
         ·exact q4 e (List.mem_cons_of_mem _ (h1 e he))
        ·rw [← zbO];exact hr2
       cases mk with
       | true=>
        simp only [cond_true] at hk;obtain⟨id,hid,hk⟩:=zfA hk;obtain⟨gd,x,nob,hk,hnob,hsem⟩:=zdM (Γ:=Γ) htt hLd hk i;obtain⟨hk,hdn⟩:=zdJ hk;refine hsem _ (frs E ++ fr) σ1 g a w hsup (fun _ _ h=>h) (fun _=>rfl) (fun p hp=>?_) h3 _ (fun v g' w' hr' hv=>.inl ?_) hoi
        ·rcases hnob with hn|⟨_,_,b,hb⟩
         ·rw [hn] at hp;cases hp
         ·rw [hb] at hp;cases hp;exact hid
        ·refine fin (zeI gd x) (zdZ nob σ1) hdn hk g' _ w' ?_
         cases hdd:o.dst with
         | none=>exact hr'
         | some d=>exact hr'.put (hdn d hdd) hv
       | false=>
        simp only [cond_false] at hk;generalize hF:selF (frs (zaK (ms.getD i 0) es) ++ fr) (looks ops o)=F at hk hsup;have hr':Rel Γ F σ1 g a w:=h3.subF hsup;let Γ':Cx:=⟨Γ.w0,Γ.K0,Γ.nt,SR σ1 g w,σ1.map (·.1),Γ.ro,Γ.dfs,Γ.bs⟩
        have hr2:Rel Γ' F σ1 g a w:=⟨hr'.hp,hr'.fr,hr'.size,hr'.defers,fun s v hb=>⟨hb,SR.inI hb⟩⟩;have hw:=zaJ (Γ:=Γ') htt hLd (Qx:=Lift Γ Q) (K:=fun a w=>∃ g2 fr2 σ2,Rel Γ' fr2 σ2 g2 a w∧∃ v,fr2=zbl o.dst v F∧FzGo fz σ2 v fun v σ2=>
         vcRe P tt Γ.nt ops ms fr (⟨i,o.dst,v,none⟩::es) σ2 (vcFl P tt Γ.nt ops ms fr σ2 (fun es'=>vcSt P tt Γ.nt ops ms fr (fun fr' σ'=>zah P tt Γ.nt ops (Q .normal) (ops.drop m) fr' σ') r es' σ2) fl (⟨i,o.dst,v,none⟩::es)) re)
         (fun fr2 σ2 g2 a2 w2 hr2 hk2=>⟨g2,fr2,σ2,hr2,hk2.ex⟩) [o] _ _ hk g a w hr2
        have hw2:wpOpIn (FX Γ.ro) 0 P ops.toArray (Lift Γ Q) i (fun a w=>∃ g2 fr2 σ2,Rel Γ' fr2 σ2 g2 a w∧∃ v,fr2=zbl o.dst v F∧FzGo fz σ2 v fun v σ2=>
         vcRe P tt Γ.nt ops ms fr (⟨i,o.dst,v,none⟩::es) σ2 (vcFl P tt Γ.nt ops ms fr σ2 (fun es'=>vcSt P tt Γ.nt ops ms fr (fun fr' σ'=>zah P tt Γ.nt ops (Q .normal) (ops.drop m) fr' σ') r es' σ2) fl (⟨i,o.dst,v,none⟩::es)) re) a w:=by
         unfold wpOpIn;simp only [hoi];unfold wpLk at hw;split
         ·rename_i hwant;rw [if_pos hwant] at hw;exact hw
         ·rename_i hwant;rw [if_neg hwant] at hw;exact⟨fun _ _=>trivial,hw⟩
        refine wpOpIn_mono ?_ (zgC hoi hw2)
        rintro a2 w2 ⟨⟨g2,fr2,σ2,hr2,v,rfl,hk2⟩,v',htm⟩;have hdn:∀ t,o.dst=some t→t < Γ.nt:=fun t hd=>(hr2.fr t v (by rw [hd];show lk t ((t,v)::F)=_;rw [zr,if_pos rfl])).1
        refine .inl (fin v σ2 hdn hk2 g2 a2 w2 ?_)
        have keep:∀ s u,SR σ1 g w s u→SR σ2 g2 w2 s u:=fun s u hsu=>(hr2.base s u hsu).1
        refine⟨hr2.hp,fun t x ht=>?_,hr2.size,hr2.defers,fun s u hb=>⟨keep s u (h3.base s u hb).1,(h3.base s u hb).2⟩⟩
        by_cases hdt:o.dst=some t
        ·have:lk t (zbl o.dst v F)=some x:=by
          rw [hdt] at ht ⊢;have ht:lk t ((t,v)::(frs E ++ fr))=some x:=ht;show lk t ((t,v)::_)=some x
          rw [zr,if_pos rfl] at ht ⊢;exact ht
         exact hr2.fr t x this
        ·have ht:lk t (frs E ++ fr)=some x:=by
          cases hd:o.dst with
          | none=>rw [hd] at ht;exact ht
          | some d=>
           rw [hd] at ht;have ht:lk t ((d,v)::(frs E ++ fr))=some x:=ht;rw [zr,if_neg (fun e=>hdt (by rw [hd,e]))] at ht;exact ht
         have h4:=h3.fr t x ht;refine⟨h4.1,?_⟩
         have e:a2.tmps.getD t undef=a.tmps.getD t undef:=by
          rw [htm];cases hd:o.dst with
          | none=>rfl
          | some d=>
           have:¬ d=t:=fun e=>hdt (by rw [hd,e])
           simp [Act.put,this]
         rw [e];exact h4.2.keep keep
    ·have hall:∀ b,b < i→L b:=fun b hb=>hbits b (hm.tail i _ (Array.getElem?_eq_getElem (by simpa using hi')) him b hb)
     exact stepB (conv L a w hA fun b hb=>hall b (by omega))
   ·exact stepB hB
  rcases hinv with hp|hinv
  ·rcases hP L a w hp i hi' hL hbits with h|h
   ·exact wpOpIn_mono (fun _ _ h=>.inr h) (go (.inl h))
   ·exact wpOpIn_mono (fun _ _ h=>.inl h) h
  ·exact wpOpIn_mono (fun _ _ h=>.inr h) (go hinv)
 ·-- the end
  intro L a w hinv hall;have hB:InvB L a w:=by
   rcases hinv with hA|hA|hB
   ·exact conv L a w (hE L a w hA fun b hb=>hall b (by simp;omega)) fun b hb=>hall b (by simp;omega)
   ·exact conv L a w hA fun b hb=>hall b (by simp;omega)
   ·exact hB
  obtain⟨j,hj1,hj2,hj3,hj4⟩:=hB;have:j=ops.length:=by
   rcases Nat.lt_or_ge j ops.length with h'|h'
   ·have:=(hj3 j).1 (hall j (by simpa using h'));omega
   ·omega
  subst this;rw [List.drop_length] at hj4;exact hj4
 ·intro i hi;have:(Array.replicate ops.length false)[i]?.getD false=false:=by
   rw [Array.getElem?_replicate];split <;> rfl
  simp [this] at hi
 ·unfold unl;refine Nat.le_trans (List.length_filter_le _ _) (by simp)
 ·rcases h0 (fun j=>(Array.replicate ops.length false).getD j false=true) (fun j=>by
   have:(Array.replicate ops.length false)[j]?.getD false=false:=by
    rw [Array.getElem?_replicate];split <;> rfl
   simp [this]) _ with h|h
  ·exact .inl h
  ·exact .inr (.inl h)
theorem zkA {tt:TT} (htt:tt.ok P) (hmix:P.follows .mixedOrders=true) (m:Nat) (fl0:List Nat) (sts:List Stg) (ms:List Nat) {id:Nat} {ops:List Oper} (hms:zbe ms m ops 0=true) (hlen:Nat.ble m ops.length=true)
  (hds:zc2 (ops.take m) []=true) (hrd:zcn ops ms (ops.take m) (ops.take m) 0=true) (hst:okFl ms m (okSt ms m sts) fl0 []=true)
  (h:vcFl P tt Γ.nt ops ms fr σ (fun es=>vcSt P tt Γ.nt ops ms fr (fun fr' σ'=>zah P tt Γ.nt ops (Q .normal) (ops.drop m) fr' σ') sts es σ) fl0 []):AW P Γ (.region id ops.toArray true) Q fr σ:=by
 refine AW.mk fun hLd g a w hr=>?_
 obtain⟨es0,hk0,hb0,hg0,_,hs0,_⟩:=zi3 (Γ:=Γ) htt hLd (MaskOK.of hms) h hst ⟨fun e he=>by simp at he,fun e he=>by simp at he,fun e he=>by simp at he,fun e he=>by simp at he⟩;have hs0:∀ e ∈ es0,SemF P Γ ops ms fr es0 σ e:=fun e he=>(hs0 e he).resolve_left (by simp)
 exact draw_gen htt hmix hLd m ms hms hlen hds hrd (fun _ _ _=>False) (fun _ _ _ h=>h.elim) (fun _ _ _ h=>h.elim) a w (fun L hL n=>
  .inr ⟨[],es0,σ,sts,g,hg0,hb0,hk0,fun e he _=>hs0 e he,fun e he=>by simp at he,fun j=>⟨fun h=>(hL j h).elim,fun⟨e,he,_⟩=>by simp at he⟩,fun k hk=>(hL k hk).elim,hr.drawn n⟩)
end
end Go.QL
namespace Go.QL
open Go Go.RowKit
section
variable {P:Program} {Γ:Cx} {fr:Fr} {σ:Sg} {Q:Exit→Fr→Sg→Prop}
end
end Go.QL
namespace Go.QL
open Go Go.RowKit
def PCall (P:Program) (f:FuncId) (args:List AV) (σ:Sg) (R:AV→Sg→Prop) (Rp:Value→Sg→Prop):Prop:=
 Good P f∧∀ (w0:World) (K0:Bs) (g:Gh) (w:World) (vs:Array Value),Laid P K0.K w0→Hp w0 K0 σ g w→vs.size=args.length →
  (∀ (i:Nat) (x:AV) (v:Value),args[i]?=some x→vs[i]?=some v→VR2 σ g w x v) →
  Calls P f vs w (fun e w'=>(∃ v g' σ' r,e=.returned v∧Did w0 K0 σ g w σ' g' w'∧VR2 σ' g' w' r v∧R r σ') ∨
   ∃ v g' σ',e=.panicked [{ v:=v,recovered:=false }]∧Did w0 K0 σ g w σ' g' w'∧Rp v σ')
theorem ACall.toP {P:Program} {f:FuncId} {args:List AV} {σ:Sg} {R:AV→Sg→Prop} (h:ACall P f args σ R):PCall P f args σ R fun _ _=>False:=
 ⟨h.1,fun w0 K0 g w vs hL hp hs hv=>(h.2 w0 K0 g w vs hL hp hs hv).mono fun e w' h=>.inl h⟩
theorem PCall.toA {P:Program} {f:FuncId} {args:List AV} {σ:Sg} {R:AV→Sg→Prop} (h:PCall P f args σ R fun _ _=>False):ACall P f args σ R:=
 ⟨h.1,fun w0 K0 g w vs hL hp hs hv=>(h.2 w0 K0 g w vs hL hp hs hv).mono fun e w' h=>h.elim id fun⟨_,_,_,_,_,h⟩=>h.elim⟩
theorem PCall.mono {P:Program} {f:FuncId} {args:List AV} {σ:Sg} {R R':AV→Sg→Prop} {Rp Rp':Value→Sg→Prop} (h:PCall P f args σ R Rp) (hr:∀ r σ',R r σ'→R' r σ') (hp:∀ v σ',Rp v σ'→Rp' v σ'):PCall P f args σ R' Rp':=
 ⟨h.1,fun w0 K0 g w vs hL hp' hs hv=>(h.2 w0 K0 g w vs hL hp' hs hv).mono fun e w' h=>h.elim (fun⟨v,g',σ',r,a,b,c,d⟩=>.inl ⟨v,g',σ',r,a,b,c,hr _ _ d⟩) fun⟨v,g',σ',a,b,c⟩=>.inr ⟨v,g',σ',a,b,hp _ _ c⟩⟩
def zhH (P:Program) (T:TypeId):Prop:=∃ d,P.underlying T=some d∧(match d with|.interface _=>false|_=>true)=true
def zp2 (op:BinOp) (u:AV) (k:AV→Prop):Prop:=
 match op,u with
 | .eql,.x (.f _ _ _)=>k (bv false)
 | .neq,.x (.f _ _ _)=>k (bv true)
 | .eql,.x (.d (.v .nilFunc))=>k (bv true)
 | .neq,.x (.d (.v .nilFunc))=>k (bv false)
 | _,_=>False
def fnF:AV→AV
 | .x (.d (.v (.func (.func fid) ⟨[]⟩ ⟨[]⟩)))=>.x (.f (.func fid) [] [])
 | x=>x
theorem fnF_ok {σ:Sg} {g:Gh} {w:World} {x:AV} {v:Value} (h:VR σ g w x v):VR σ g w (fnF x) v:=by
 unfold fnF;split
 ·obtain rfl:=zm (show VR2 σ g w _ v from h);exact .f _ [] [] _ _ rfl rfl (fun i s v h=>by simp at h) (fun i s v h=>by simp at h)
 ·exact h
def opP (P:Program) (tt:TT) (nt:Nat) (all:List Oper) (kp:Value→Fr→Sg→Prop) (o:Oper) (fr:Fr) (σ:Sg) (k:Fr→Sg→Prop):Prop:=
 match o.guard,o.op with
 | none,.panic x=>ev1 fr none x fun u=>(match u with|.x (.d (.v (.iface T v)))=>kp (.iface T v) fr σ|_=>False)
 | none,.makeInterface T x=>zhH P T∧ev1 fr none x fun u=>(match u with|.x (.d (.v v))=>zba nt o.dst none (.x (.d (.v (.iface T v)))) fr fun fr'=>k fr' σ|_=>False)
 | none,.typeAssert x _ T false=>zhH P T∧ev1 fr none x fun u=>(match u with|.x (.d (.v (.iface S v)))=>S=T∧v.oneCell'=true∧zba nt o.dst none (.x (.d (.v v))) fr fun fr'=>k fr' σ|_=>False)
 | none,.typeAssert x _ T true=>zhH P T∧ev1 fr none x fun u=>(match u with
   | .x (.d (.v (.iface S v)))=>(S=T→v.oneCell'=true∧zba nt o.dst none (.t [.x (.d (.v v)),bv true]) fr fun fr'=>k fr' σ) ∧
     (S≠T→(match tt T with|some ti=>(match zk7 ti with|some z=>zba nt o.dst none (.t [z,bv false]) fr fun fr'=>k fr' σ|none=>False)|none=>False))
   | _=>False)
 | none,.binOp op xT x (.const .nilIface) _=>(∃ ms,P.underlying xT=some (.interface ms))∧ev1 fr none x fun u=>zgg op u fun v=>zba nt o.dst none v fr fun fr'=>k fr' σ
 | none,.binOp op xT x (.const .nilFunc) _=>(∃ ps rs v,P.underlying xT=some (.func ps rs v))∧ev1 fr none x fun u=>zp2 op u fun v=>zba nt o.dst none v fr fun fr'=>k fr' σ
 | none,.call ⟨.value f,args,_⟩=>ev1 fr none f fun fv=>evL fr none args.toList fun vs=>
   (match fnF fv with
   | .x (.f (.func fid) first captured)=>∃ R Rp,PCall P fid (first.map .x ++ vs ++ captured.map .x) σ R Rp∧(∀ rv σ',R rv σ'→zba nt o.dst none rv fr fun fr'=>k fr' σ')∧∀ v σ',Rp v σ'→kp v fr σ'
   | _=>False)
 | _,_=>zah P tt nt all k [o] fr σ
def zhO (P:Program) (tt:TT) (nt:Nat) (all:List Oper) (kp:Value→Fr→Sg→Prop) (k:Fr→Sg→Prop):List Oper→Fr→Sg→Prop
 | [],fr,σ=>k fr σ
 | o::r,fr,σ=>opP P tt nt all kp o fr σ (zhO P tt nt all kp k r)
section
variable {P:Program} {Γ:Cx} {fr:Fr} {σ:Sg} {Q:Exit→Fr→Sg→Prop}
theorem znq {op:BinOp} {xT:TypeId} {ps rs:Array TypeId} {va:Bool} (hu:P.underlying xT=some (.func ps rs va)) {X:Operand} {u:AV} {k:AV→Prop} (h:zp2 op u k) {g:Gh} {w:World} {v:Value} (hv:VR2 σ g w u v) :
  ∃ b,k (bv b)∧(do eqGuard op xT X (.const .nilFunc) v .nilFunc;binOp op xT v .nilFunc:Sem Value).run P w=.ok (.bool b) w:=by
 have hun:=run_underlying hu w;have e1:∀ f a b,(Op.equal xT (.func f a b) .nilFunc).run P w=.ok false w:=fun f a b=>by
  show (Op.equalIn (Op.maxDepth - 1+1) xT (.func f a b) .nilFunc).run P w=_
  rw [Op.equalIn,Sem.run_bind,hun];rfl
 have e2:(Op.equal xT .nilFunc .nilFunc).run P w=.ok true w:=by
  show (Op.equalIn (Op.maxDepth - 1+1) xT .nilFunc .nilFunc).run P w=_
  rw [Op.equalIn,Sem.run_bind,hun];rfl
 unfold zp2 at h;split at h
 ·cases hv with
  | f _ _ _ v1 v2 s1 s2 r1 r2=>
   refine⟨_,h,?_⟩
   show ((do pure (.bool (← Op.equal xT _ .nilFunc)):Sem Value)).run P w=_
   rw [Sem.run_bind,e1];rfl
 ·cases hv with
  | f _ _ _ v1 v2 s1 s2 r1 r2=>
   refine⟨_,h,?_⟩
   show ((do pure (.bool (!(← Op.equal xT _ .nilFunc))):Sem Value)).run P w=_
   rw [Sem.run_bind,e1];rfl
 ·have:=zm hv;subst this;refine⟨_,h,?_⟩
  show ((do pure (.bool (← Op.equal xT .nilFunc .nilFunc)):Sem Value)).run P w=_
  rw [Sem.run_bind,e2];rfl
 ·have:=zm hv;subst this;refine⟨_,h,?_⟩
  show ((do pure (.bool (!(← Op.equal xT .nilFunc .nilFunc))):Sem Value)).run P w=_
  rw [Sem.run_bind,e2];rfl
 ·exact h.elim
theorem zlT {tt:TT} (htt:tt.ok P) (hL:Laid P Γ.K0.K Γ.w0) {all:List Oper} {E:Exit→Act→World→Prop} {kp:Value→Fr→Sg→Prop} {k:Fr→Sg→Prop} {K:Act→World→Prop}
  (hE:∀ v fr σ g a w,Rel Γ fr σ g a w→kp v fr σ→E (.panic [{ v:=v,recovered:=false }]) a w) (rest:List Oper) (hk:∀ fr σ g a w,Rel Γ fr σ g a w→k fr σ→wpLk Γ.ro P all.toArray E K rest a w)
  (o:Oper) (fr:Fr) (σ:Sg) (h:opP P tt Γ.nt all kp o fr σ k) (g:Gh) (a:Act) (w:World) (hr:Rel Γ fr σ g a w):wpLk Γ.ro P all.toArray E K (o::rest) a w:=by
 have easy:zah P tt Γ.nt all k [o] fr σ→wpLk Γ.ro P all.toArray E K (o::rest) a w:=fun h=>by
  have h2:=zaJ (Γ:=Γ) htt hL (Qx:=E) (K:=wpLk Γ.ro P all.toArray E K rest) hk [o] fr σ h g a w hr;unfold wpLk at h2 ⊢;exact h2
 unfold opP at h;have val:o.guard=none→∀ (x:AV) (v:Value),(execOp a.eval o).run P w=.ok (.value v) w→(∀ c,¬ o.op=.defer c)→VR2 σ g w x v→zba Γ.nt o.dst none x fr (fun fr'=>k fr' σ)→wpLk Γ.ro P all.toArray E K (o::rest) a w:=by
  intro hg x v hrun hnc hv hput;unfold wpLk;rw [if_pos (show Region.wanted o _=true by simp [Region.wanted,hg])];refine⟨fun _ _=>trivial,?_⟩
  rw [Oper.semAt_eq _ _ o hnc,hrun];obtain⟨fr',hk',hr''⟩:=zcf hr hput (v:=v) (zZ hv);exact hk _ _ _ _ _ hr'' hk'
 split at h
 ·rename_i x hg ho;obtain⟨u,hk,hu⟩:=zK h;split at hk
  ·rename_i T v;have hv:=zm (hu (.inl rfl) Γ σ g a w hr);unfold wpLk;rw [if_pos (show Region.wanted o _=true by simp [Region.wanted,hg])];refine⟨fun _ _=>trivial,?_⟩
   rw [Oper.semAt_eq _ _ o (by intro c hc;rw [ho] at hc;cases hc)];have hrun:(execOp a.eval o).run P w=.halt (.panic (.iface T v)) w:=by
    simp only [execOp,ho];rw [hv];rfl
   rw [hrun];exact hE _ _ _ _ _ _ hr hk
  ·exact hk.elim
 ·rename_i T x hg ho;obtain⟨⟨d,hd,hdc⟩,h⟩:=h;obtain⟨u,hk,hu⟩:=zK h;split at hk
  ·rename_i v;have hv:=zm (hu (.inl rfl) Γ σ g a w hr);refine val hg _ (.iface T v) ?_ (by intro c hc;rw [ho] at hc;cases hc) (zL _ rfl) hk
   simp only [execOp,ho];rw [hv];simp only [Instr.makeInterface,Sem.run_bind,run_underlying hd,Result.andThen_ok];cases d <;> first|(cases hdc;done)|rfl
  ·exact hk.elim
 ·rename_i x xT T hg ho;obtain⟨⟨d,hd,hdc⟩,h⟩:=h;obtain⟨u,hk,hu⟩:=zK h;split at hk
  ·rename_i S v;obtain⟨rfl,h1,hk⟩:=hk;have hv:=zm (hu (.inl rfl) Γ σ g a w hr);refine val hg _ v ?_ (by intro c hc;rw [ho] at hc;cases hc) (zL _ h1) hk
   simp only [execOp,ho];rw [hv];simp only [Instr.typeAssert,Sem.run_bind,run_underlying hd,Result.andThen_ok];cases d <;> first|(cases hdc;done)|simp
  ·exact hk.elim
 ·rename_i x xT T hg ho;obtain⟨⟨d,hd,hdc⟩,h⟩:=h;obtain⟨u,hk,hu⟩:=zK h;split at hk
  ·rename_i S v;have hv:=zm (hu (.inl rfl) Γ σ g a w hr);by_cases e:S=T
   ·obtain⟨h1,h2⟩:=hk.1 e;refine val hg _ (.tuple #[v,.bool true]) ?_ (by intro c hc;rw [ho] at hc;cases hc) ?_ h2
    ·simp only [execOp,ho];rw [hv];simp only [Instr.typeAssert,Sem.run_bind,run_underlying hd,Result.andThen_ok];cases d <;> first|(cases hdc;done)|simp [e]
    ·refine⟨#[v,.bool true],rfl,rfl,fun j x u hx hu=>?_⟩
     match j with
     | 0=>cases hx;cases hu;exact zL (σ:=σ) (g:=g) (w:=w) _ h1
     | 1=>cases hx;cases hu;exact zL (σ:=σ) (g:=g) (w:=w) _ rfl
     | j+2=>cases hx
   ·have h2:=hk.2 e;split at h2
    ·rename_i ti hti;split at h2
     ·rename_i z hz;obtain⟨_,zv,hrun,hzr⟩:=zhM (P:=P) htt hti hz w;refine val hg _ (.tuple #[zv,.bool false]) ?_ (by intro c hc;rw [ho] at hc;cases hc) ?_ h2
      ·simp only [execOp,ho];rw [hv];simp only [Instr.typeAssert,Sem.run_bind,run_underlying hd,Result.andThen_ok];cases d <;> first|(cases hdc;done)|(simp [e,Sem.run_bind,hrun];done)
      ·refine⟨#[zv,.bool false],rfl,rfl,fun j x u hx hu=>?_⟩
       match j with
       | 0=>cases hx;cases hu;exact hzr σ g w
       | 1=>cases hx;cases hu;exact zL (σ:=σ) (g:=g) (w:=w) _ rfl
       | j+2=>cases hx
     ·exact h2.elim
    ·exact h2.elim
  ·exact hk.elim
 ·rename_i op xT x yT hg ho;obtain⟨⟨ms,hms⟩,h⟩:=h;obtain⟨u,hk,hu⟩:=zK h;obtain⟨b,hb,hrun⟩:=zj1 (X:=x) hms hk (hu (.inl rfl) Γ σ g a w hr);refine val hg _ (.bool b) ?_ (by intro c hc;rw [ho] at hc;cases hc) (zL _ rfl) hb
  simp only [execOp,ho];show ((do eqGuard op xT x (.const .nilIface) (a.eval x) .nilIface;binOp op xT (a.eval x) .nilIface) >>= fun x=>pure (Next.value x):Sem Next).run P w=_
  rw [Sem.run_bind,hrun];rfl
 ·rename_i op xT x yT hg ho;obtain⟨⟨ps,rs,va,hms⟩,h⟩:=h;obtain⟨u,hk,hu⟩:=zK h;obtain⟨b,hb,hrun⟩:=znq (X:=x) hms hk (hu (.inl rfl) Γ σ g a w hr);refine val hg _ (.bool b) ?_ (by intro c hc;rw [ho] at hc;cases hc) (zL _ rfl) hb
  simp only [execOp,ho];show ((do eqGuard op xT x (.const .nilFunc) (a.eval x) .nilFunc;binOp op xT (a.eval x) .nilFunc) >>= fun x=>pure (Next.value x):Sem Next).run P w=_
  rw [Sem.run_bind,hrun];rfl
 ·rename_i f args ts hg ho;obtain⟨fv,h2,hfv⟩:=zK h;clear h;obtain⟨vs,h,hl,hvs⟩:=zbE h2;clear h2;split at h
  ·rename_i fid first captured hfF
   obtain⟨R,Rp,hac,hcont,hpan⟩:=h;unfold wpLk;rw [if_pos (show Region.wanted o _=true by simp [Region.wanted,hg])];refine⟨fun _ _=>trivial,?_⟩
   rw [Oper.semAt_eq _ _ o (by intro c hc;rw [ho] at hc;cases hc)];have hsr:SR σ g w (.f (.func fid) first captured) (a.eval f):=by
    have h0:=fnF_ok (zZ (hfv (.inl rfl) Γ σ g a w hr));rw [hfF] at h0;exact h0
   generalize hae:a.eval f=fval at hsr;cases hsr with
   | f _ _ _ v1 v2 s1 s2 r1 r2=>
    have hvl:vs.length=(args.map a.eval).size:=by simpa using hl
    have hargs:=zde (us:=args.map a.eval) s1 s2 r1 r2 hvl (fun j x v hx hv=>by
     rw [Array.getElem?_map] at hv;cases ha:args[j]? with
     | none=>rw [ha] at hv;cases hv
     | some y=>rw [ha] at hv;cases hv;exact hvs (.inl rfl) Γ σ g a w hr _ x y hx (by simpa using ha))
    have hsize:(v1 ++ args.map a.eval ++ v2).size=(first.map AV.x ++ vs ++ captured.map AV.x).length:=by
     simp at hvl;simp [s1,s2,hvl]
    rw [zdl ho hae hac.1 w];refine⟨zfc,zbi.2 ?_⟩
    refine (hac.2 Γ.w0 Γ.K0 g w _ hL hr.hp hsize hargs).mono fun e w' h=>?_
    rcases h with ⟨v,g',σ',r,he,hd,hv,hR⟩|⟨v,g',σ',he,hd,hR⟩
    ·subst he;have hr':=hr.did hd;obtain⟨fr',hk',hr''⟩:=zcf hr' (hcont r σ' hR) (v:=v) (zZ hv);exact hk _ _ _ _ _ hr'' hk'
    ·subst he;exact hE _ _ _ _ _ _ (hr.did hd) (hpan v σ' hR)
  ·exact h.elim
 ·exact easy h
theorem zgF {tt:TT} (htt:tt.ok P) (hL:Laid P Γ.K0.K Γ.w0) {all:List Oper} {E:Exit→Act→World→Prop} {kp:Value→Fr→Sg→Prop} {k:Fr→Sg→Prop} {K:Act→World→Prop}
  (hE:∀ v fr σ g a w,Rel Γ fr σ g a w→kp v fr σ→E (.panic [{ v:=v,recovered:=false }]) a w) (hk:∀ fr σ g a w,Rel Γ fr σ g a w→k fr σ→K a w) :
  ∀ (rest:List Oper) (fr:Fr) (σ:Sg),zhO P tt Γ.nt all kp k rest fr σ→∀ (g:Gh) (a:Act) (w:World),Rel Γ fr σ g a w→wpLk Γ.ro P all.toArray E K rest a w
 | [],fr,σ,h,g,a,w,hr=>by unfold zhO at h;exact hk _ _ _ _ _ hr h
 | o::rest,fr,σ,h,g,a,w,hr=>by
  unfold zhO at h;exact zlT htt hL hE rest (fun fr σ g a w hr hh=>zgF htt hL hE hk rest fr σ hh g a w hr) o fr σ h g a w hr
theorem zH {tt:TT} (htt:tt.ok P) {id:Nat} {ops:List Oper} (h:zhO P tt Γ.nt ops (fun v fr σ=>Q (.panic [{ v:=v,recovered:=false }]) fr σ) (Q .normal) ops fr σ):AW P Γ (.region id ops.toArray false) Q fr σ:=
 AW.mk fun hL g a w hr=>wpIn_region_lit (zgF htt hL (E:=Lift Γ Q) (fun _ _ _ _ _ _ hr hq=>⟨_,_,_,hr,hq⟩) (fun _ _ _ _ _ hr hq=>⟨_,_,_,hr,hq⟩) ops fr σ h g a w hr)
def zsj (tt:TT) (res:List ResultVar) (ids:List Nat) (R:AV→Sg→Prop) (Rp:Value→Sg→Prop):Exit→Fr→Sg→Prop
 | .normal,fr,σ|.ret,fr,σ=>∃ r σ',SubS σ σ'∧(rsSg σ' σ' && zbC ids σ')=true∧zb0 tt res fr σ σ'=some r∧R r σ'
 | .panic ch,fr,σ=>∃ v σ',ch=[{ v:=v,recovered:=false }]∧SubS σ σ'∧(rsSg σ' σ' && zbC ids σ')=true∧Rp v σ'
 | _,_,_=>False
theorem z6 {tt:TT} (htt:tt.ok P) {f:FuncId} {fn:Func} {c:Code} {args:List AV} {σ:Sg} {R:AV→Sg→Prop} {Rp:Value→Sg→Prop} {res:List ResultVar} (hf:P.funcs[f]?=some fn) (hb:fn.body=some c)
  (hname:(fn.name == "runtime.NumGoroutine")=false) (hres:fn.results=res.toArray) {nt:Nat} (hnt:fn.ntmps=nt) (hle:args.length≤nt)
  (h:∀ w0 K0 B,AW P ⟨w0,K0,nt,B,σ.map (·.1),none,[],[]⟩ c (zsj tt res (σ.map (·.1)) R Rp) (entry 0 args) σ):PCall P f args σ R Rp:=by
 refine⟨⟨fn,hf,by rw [hb];rfl,hname⟩,fun w0 K0 g w vs hL hp hs hv=>?_⟩
 refine calls_of_wp hf hb ((wpIn_wide (n:=0)).1 ?_)
 have hrel:Rel ⟨w0,K0,nt,SR σ g w,σ.map (·.1),none,[],[]⟩ (entry 0 args) σ g ⟨vs ++ Array.replicate (fn.ntmps - vs.size) undef,[]⟩ w:=by
  refine⟨hp,fun t x ht=>?_,by simp;omega,DRb.empty,fun s v hb=>⟨hb,SR.inI hb⟩⟩
  obtain⟨_,hx⟩:=zbm args 0 t x ht;rw [Nat.sub_zero] at hx;have hlt:t < args.length:=(List.getElem?_eq_some_iff.1 hx).1;refine⟨by show t < nt;omega,?_⟩
  have hvt:vs[t]?=some (vs[t]'(by omega)):=Array.getElem?_eq_getElem (by omega);have e:(vs ++ Array.replicate (fn.ntmps - vs.size) undef).getD t undef=vs[t]'(by omega):=by
   rw [Array.getD_eq_getD_getElem?,Array.getElem?_append_left (by omega),hvt];rfl
  show VR _ _ _ _ ((vs ++ Array.replicate (fn.ntmps - vs.size) undef).getD t undef)
  rw [e];exact zZ (hv t x _ hx hvt)
 refine wpIn_mono ((h w0 K0 _).use hL hrel) ?_
 intro e a' w' ⟨fr,τ,g',hr,hq⟩;have fin:(∃ r σ',SubS τ σ'∧(rsSg σ' σ' && zbC (σ.map (·.1)) σ')=true∧zb0 tt res fr τ σ'=some r∧R r σ') →
   a'.defers=[]∧∃ v,(results fn a'.tmps).run P w'=.ok v w'∧((∃ v_1 g'' σ'' r,Ending.returned v=.returned v_1∧Did w0 K0 σ g w σ'' g'' w'∧VR2 σ'' g'' w' r v_1∧R r σ'') ∨
    ∃ v_1 g'' σ'',Ending.returned v=.panicked [{ v:=v_1,recovered:=false }]∧Did w0 K0 σ g w σ'' g'' w'∧Rp v_1 σ''):=by
  rintro⟨r,σ',hss,hc,ho,hR⟩;simp only [Bool.and_eq_true] at hc;have hsup:=za9 hss;obtain⟨v,hrun,hvr⟩:=zbQ htt hr hsup hres ho;exact⟨hr.defers.nil,v,hrun,.inl ⟨v,_,σ',r,rfl,⟨hr.hp.atEnd hsup hc.1,fun s u hs=>zak (zai hsup hc.2 (hr.base s u hs).1 (hr.base s u hs).2)⟩,hvr,hR⟩⟩
 cases e with
 | normal=>exact fin hq
 | ret=>exact fin hq
 | panic ch=>
  obtain⟨v,σ',rfl,hss,hc,hR⟩:=hq;simp only [Bool.and_eq_true] at hc;have hsup:=za9 hss;exact⟨hr.defers.nil,.inr ⟨v,g',σ',rfl,⟨hr.hp.weaken hsup hc.1,fun s u hs=>zai hsup hc.2 (hr.base s u hs).1 (hr.base s u hs).2⟩,hR⟩⟩
 | exit id=>exact hq.elim
 | goto l=>exact hq.elim
 | outgrown=>exact hq.elim
end
end Go.QL
namespace Go.QL.DS
open Go Go.RowKit Go.QL
structure En where
 i:Nat
 d:Option Tmp
 x:AV
 ob:Sg
def frs:List En→Fr
 | []=>[]
 | ⟨_,d,x,_⟩::r=>match d with|some d=>(d,x)::frs r|none=>frs r
def obs:List En→Sg
 | []=>[]
 | ⟨_,_,_,ob⟩::r=>ob ++ obs r
def zaK (m:Nat):List En→List En
 | []=>[]
 | ⟨i,d,x,ob⟩::r=>bif zm3 m i then ⟨i,d,x,ob⟩::zaK m r else zaK m r
def zdZ (ob:Sg) (σ:Sg):Sg:=ob ++ σ
def ndB:List Nat→Bool
 | []=>true
 | x::r=>r.all (fun y=>!Nat.beq x y) && ndB r
def zcF (nob σ:Sg):Bool:=nob.all (fun p=>!(lk p.1 σ).isSome) && ndB (nob.map (·.1))
def oL:Option (Nat × Ob)→Sg
 | some p=>[p]
 | none=>[]
def zpI (P:Program) (tt:TT) (all:List Oper) (ob:Bool) (fr:Fr) (σ σt:Sg) (id:Nat) (o:Oper) (kk:Option Bool→AV→Sg→Prop):Prop:=
 match o.op with
 | .call ⟨.value f,args,_⟩=>zix all fr o.guard fun gd=>ev1 fr gd f fun fv=>evL fr gd args.toList fun vs=>
  (match fv,gd with
  | .x (.f (.func fid) first captured),none=>∃ rv nob,(ob && zcF nob σt)=true∧(∀ σE,(∀ p ∈ nob,lk p.1 σE=none)→Sup σ σE→ACall P fid (first.map .x ++ vs ++ captured.map .x) σE fun r' σ'=>r'=rv∧σ'=nob ++ σE)∧kk none rv nob
  | _,_=>False)
 | .makeInterface T x=>zix all fr o.guard fun gd=>zhH P T∧ev1 fr gd x fun u=>(match u with|.x (.d (.v v))=>kk gd (.x (.d (.v (.iface T v)))) []|_=>False)
 | _=>opDr P tt all ob fr σ id o fun gd v nob=>kk gd v (oL nob)
def dn:Nat→List Nat
 | 0=>[]
 | n+1=>n::dn n
theorem mem_dn {j:Nat}:∀ {n:Nat},j ∈ dn n↔j < n
 | 0=>by simp [dn]
 | n+1=>by rw [dn,List.mem_cons,mem_dn];omega
def vcDr (P:Program) (tt:TT) (nt:Nat) (all:List Oper) (ob:Bool) (ms:List Nat) (fr0:Fr) (σ0:Sg) (k:List En→Fr→Sg→Prop):List Oper→List En→Nat→Fr→Sg→Prop
 | [],es,_,fr,σ=>k es fr σ
 | o::r,es,i,fr,σ=>
  zhE σ o.dst fun id=>zpI P tt all ob (selF (frs (zaK (ms.getD i 0) es) ++ fr0) (looks all o)) (obs (zaK (ms.getD i 0) es) ++ σ0) σ id o fun gd v nob=>
   putE nt o.dst gd v fun x=>vcDr P tt nt all ob ms fr0 σ0 k r (⟨i,o.dst,x,nob⟩::es) (i+1) (zbl o.dst x fr) (zdZ nob σ)
section
variable {P:Program} {Γ:Cx} {Qq:Exit→Act→World→Prop}
def SemE (P:Program) (Γ:Cx) (all:List Oper) (ob:Bool) (fr:Fr) (σ:Sg) (i:Nat) (o:Oper) (x:AV) (nob:Sg):Prop:=
 ∀ (Qq:Exit→Act→World→Prop) (frE:Fr) (σE:Sg) (g:Gh) (a:Act) (w:World),Sup fr frE→Sup σ σE→(ob=false→σE=σ)→(∀ p,p ∈ nob→lk p.1 σE=none)→Rel Γ frE σE g a w →
  ∀ K:Act→World→Prop,(∀ v g' w',Rel Γ frE (zdZ nob σE) g' a w'→VR (zdZ nob σE) g' w' x v→K (a.put o.dst v) w')→all.toArray[i]?=some o→wpOpIn (FX Γ.ro) 0 P all.toArray Qq i K a w
theorem SemE.of {all:List Oper} {ob:Bool} {fr:Fr} {σ:Sg} {i:Nat} {o:Oper} {x:AV} {nob:Option (Nat × Ob)} (h:QL.SemE P Γ all ob fr σ i o x nob):SemE P Γ all ob fr σ i o x (oL nob):=by
 intro Qq frE σE g a w hf hs hob hid hr K hK ho;refine h Qq frE σE g a w hf hs hob (fun p hp=>hid p (by subst hp;exact List.mem_singleton.2 rfl)) hr K (fun v g' w' hr' hv=>hK v g' w' ?_ ?_) ho
 ·cases nob <;> exact hr'
 ·cases nob <;> exact hv
theorem znL {tt:TT} (htt:tt.ok P) (hL:Laid P Γ.K0.K Γ.w0) {all:List Oper} {ob:Bool} {fr:Fr} {σ σt:Sg} {id:Nat} (hid:lk id σt=none) {o:Oper} {kk:Option Bool→AV→Sg→Prop}
  (h:zpI P tt all ob fr σ σt id o kk) (i:Nat) :
  ∃ gd x nob,kk gd x nob∧(nob=[]∨(ob=true∧zcF nob σt=true))∧SemE P Γ all ob fr σ i o (zeI gd x) nob:=by
 unfold zpI at h;split at h
 ·rename_i f args ts hop;have hnd:∀ c,o.op≠.defer c:=fun c hc=>by rw [hc] at hop;cases hop
  obtain⟨gd,h,hgd⟩:=zgl h;obtain⟨fv,h2,hfv⟩:=zK h;clear h;obtain⟨vs,h,hl,hvs⟩:=zbE h2;clear h2;split at h
  ·rename_i fid first captured
   obtain⟨rv,nob,hnn,hac,hk⟩:=h;simp only [Bool.and_eq_true] at hnn;refine⟨none,rv,nob,hk,.inr hnn,?_⟩
   intro Qq frE σE g a w hf hs hob hid' hr K hK ho;obtain⟨hwant,_⟩:=hgd Γ σE g a w (hr.subF hf) o rfl;unfold wpOpIn;simp only [ho];rw [if_pos (hwant.2 (.inl rfl))];have hac:=hac σE hid' hs;have hrD:=hr.subF hf;have hsr:SR σE g w (.f (.func fid) first captured) (a.eval f):=hfv (.inl rfl) Γ σE g a w hrD;generalize hae:a.eval f=fval at hsr;cases hsr with
   | f _ _ _ v1 v2 s1 s2 r1 r2=>
    have hvl:vs.length=(args.map a.eval).size:=by simpa using hl
    have hargs:=zde (us:=args.map a.eval) s1 s2 r1 r2 hvl (fun j x v hx hv=>by
     rw [Array.getElem?_map] at hv;cases ha:args[j]? with
     | none=>rw [ha] at hv;cases hv
     | some y=>rw [ha] at hv;cases hv;exact hvs (.inl rfl) Γ σE g a w hrD _ x y hx (by simpa using ha))
    have hsize:(v1 ++ args.map a.eval ++ v2).size=(first.map AV.x ++ vs ++ captured.map AV.x).length:=by
     simp at hvl;simp [s1,s2,hvl]
    refine⟨fun _ _=>trivial,?_⟩
    rw [Oper.semAt_eq _ _ o hnd,zdl hop hae hac.1 w];refine⟨zfc,zbi.2 ?_⟩
    refine (hac.2 Γ.w0 Γ.K0 g w _ hL hr.hp hsize hargs).mono fun e w' ⟨v,g',σ',r,he,hd,hv,hR⟩=>?_
    obtain⟨rfl,rfl⟩:=hR;subst he;exact hK v g' w' (hr.did hd) (zZ hv)
  ·exact h.elim
 ·rename_i T x hop;obtain⟨gd,⟨⟨d,hd,hdc⟩,h⟩,hgd⟩:=zgl h;obtain⟨u,h,hu⟩:=zK h;have hnd:∀ c,o.op≠.defer c:=by intro c e;rw [hop] at e;cases e
  split at h
  ·rename_i v;refine⟨gd,_,[],h,.inl rfl,SemE.of (nob:=none) (SemE.mk hgd (fun _=>rfl) ?_)⟩
   intro hon Qq frE σE g a w hs hob hid hr hf K hK;have hv:=zm (hu hon Γ σE g a w (hr.subF hf));refine zcq hnd (v:=.iface T v) (w':=w) ?_ (hK _ g w (.refl hr.hp) (zL _ rfl))
   simp only [execOp,hop];rw [hv];simp only [Instr.makeInterface,Sem.run_bind,run_underlying hd,Result.andThen_ok];cases d <;> first|(cases hdc;done)|rfl
  ·exact h.elim
 ·obtain⟨gd,x,nob,hk,hn,hs⟩:=zdM (Γ:=Γ) htt hL h i;refine⟨gd,x,oL nob,hk,?_,SemE.of hs⟩
  rcases hn with rfl|⟨h1,_,b,rfl⟩
  ·exact .inl rfl
  ·exact .inr ⟨h1,by simp [zcF,oL,hid,ndB]⟩
theorem zY {E:List En} {p:Nat × AV}:p ∈ frs E↔∃ e ∈ E,e.d=some p.1∧e.x=p.2:=by
 induction E with
 | nil=>simp [frs]
 | cons e r ih=>
  unfold frs;cases hd:e.d with
  | none=>
   simp only [ih,List.mem_cons];constructor
   ·rintro⟨e',h,h'⟩;exact⟨e',.inr h,h'⟩
   ·rintro⟨e',rfl|h,h'⟩
    ·rw [hd] at h';cases h'.1
    ·exact⟨e',h,h'⟩
  | some d=>
   simp only [List.mem_cons,ih];constructor
   ·rintro (rfl|⟨e',h,h'⟩)
    ·exact⟨e,.inl rfl,hd,rfl⟩
    ·exact⟨e',.inr h,h'⟩
   ·rintro⟨e',rfl|h,h1,h2⟩
    ·left;rw [hd] at h1;cases h1;obtain⟨a,b⟩:=p;cases h2;rfl
    ·exact .inr ⟨e',h,h1,h2⟩
theorem zF {E:List En} {p:Nat × Ob}:p ∈ obs E↔∃ e ∈ E,p ∈ e.ob:=by
 induction E with
 | nil=>simp [obs]
 | cons e r ih=>
  unfold obs;rw [List.mem_append,ih];constructor
  ·rintro (h|⟨e',h,h'⟩)
   ·exact⟨e,List.mem_cons_self,h⟩
   ·exact⟨e',List.mem_cons_of_mem _ h,h'⟩
  ·rintro⟨e',h,h'⟩;rcases List.mem_cons.1 h with rfl|h
   ·exact .inl h'
   ·exact .inr ⟨e',h,h'⟩
theorem zap {m:Nat} {e:En}:∀ {E:List En},e ∈ zaK m E→e ∈ E∧m.testBit e.i=true
 | [],h=>by simp [zaK] at h
 | x::r,h=>by
  unfold zaK at h;rw [zeC] at h;cases hb:m.testBit x.i with
  | true=>
   rw [hb] at h;rcases List.mem_cons.1 h with rfl|h
   ·exact⟨List.mem_cons_self,hb⟩
   ·exact⟨List.mem_cons_of_mem _ (zap h).1,(zap h).2⟩
  | false=>
   rw [hb] at h;exact⟨List.mem_cons_of_mem _ (zap h).1,(zap h).2⟩
theorem zbt {m:Nat} {e:En}:∀ {E:List En},e ∈ E→m.testBit e.i=true→e ∈ zaK m E
 | [],h,_=>by simp at h
 | x::r,h,hb=>by
  unfold zaK;rw [zeC];rcases List.mem_cons.1 h with rfl|h
  ·rw [hb];exact List.mem_cons_self
  ·cases m.testBit x.i with
   | true=>exact List.mem_cons_of_mem _ (zbt h hb)
   | false=>exact zbt h hb
theorem zbO (e:En) (E:List En) (fr0:Fr):zbl e.d e.x (frs E ++ fr0)=frs (e::E) ++ fr0:=by
 unfold zbl;simp only [frs];cases e.d <;> rfl
theorem zcL (e:En) (E:List En) (σ0:Sg):zdZ e.ob (obs E ++ σ0)=obs (e::E) ++ σ0:=by
 unfold zdZ;simp only [obs];rw [List.append_assoc]
theorem zo0:∀ {l:Sg},ndB (l.map (·.1))=true→∀ p ∈ l,∀ q ∈ l,p.1=q.1→p=q
 | [],_,p,hp,_,_,_=>by cases hp
 | x::r,h,p,hp,q,hq,e=>by
  simp only [List.map_cons,ndB,Bool.and_eq_true,List.all_eq_true] at h;have hx:∀ y ∈ r,x.1≠y.1:=fun y hy he=>by
   have:=h.1 y.1 (List.mem_map.2 ⟨y,hy,rfl⟩);rw [he] at this;simp at this
  rcases List.mem_cons.1 hp with hp1|hp1 <;> rcases List.mem_cons.1 hq with hq1|hq1
  ·rw [hp1,hq1]
  ·exact absurd (by rw [← hp1];exact e) (hx q hq1)
  ·exact absurd (by rw [← hq1];exact e.symm) (hx p hp1)
  ·exact zo0 h.2 p hp1 q hq1 e
theorem zjn {nob σ:Sg} (h:zcF nob σ=true):(∀ p ∈ nob,lk p.1 σ=none)∧∀ p ∈ nob,∀ q ∈ nob,p.1=q.1→p=q:=by
 unfold zcF at h;simp only [Bool.and_eq_true,List.all_eq_true] at h;refine⟨fun p hp=>?_,zo0 h.2⟩
 have:=h.1 p hp;cases hl:lk p.1 σ with
 | none=>rfl
 | some _=>rw [hl] at this;cases this
structure GoodE (P:Program) (Γ:Cx) (all:List Oper) (ob:Bool) (ms:List Nat) (fr0:Fr) (σ0:Sg) (es:List En):Prop where
 idx:∀ e ∈ es,∀ e' ∈ es,e.i=e'.i→e=e'
 ids:∀ e ∈ es,∀ e' ∈ es,∀ p q,p ∈ e.ob→q ∈ e'.ob→p.1=q.1→e=e'∧p=q
 id0:∀ e ∈ es,∀ p,p ∈ e.ob→lk p.1 σ0=none∧ob=true
 sem:∀ e ∈ es,∃ o D,all[e.i]?=some o∧e.d=o.dst∧(∀ t,o.dst=some t→t < Γ.nt)∧(∀ e' ∈ D,e' ∈ es∧(ms.getD e.i 0).testBit e'.i=true)∧(∀ e' ∈ es,(ms.getD e.i 0).testBit e'.i=true→e'.i < e.i→e' ∈ D) ∧
  SemE P Γ all ob (selF (frs D ++ fr0) (looks all o)) (obs D ++ σ0) e.i o e.x e.ob
theorem zdH {tt:TT} (htt:tt.ok P) (hL:Laid P Γ.K0.K Γ.w0) {all:List Oper} {ob:Bool} {ms:List Nat} {fr0:Fr} {σ0:Sg} {k:List En→Fr→Sg→Prop}:∀ (rest:List Oper) (es:List En) (i:Nat),
  vcDr P tt Γ.nt all ob ms fr0 σ0 k rest es i (frs es ++ fr0) (obs es ++ σ0)→(∀ (j:Nat) (o:Oper),rest[j]?=some o→all[i+j]?=some o)→es.map (·.i)=dn i→GoodE P Γ all ob ms fr0 σ0 es →
  ∃ es',k es' (frs es' ++ fr0) (obs es' ++ σ0)∧GoodE P Γ all ob ms fr0 σ0 es'∧es'.map (·.i)=dn (i+rest.length)
 | [],es,i,h,_,hdn,hg=>⟨es,h,hg,hdn⟩
 | o::rest,es,i,h,hall,hdn,hg=>by
  have hlt:∀ e ∈ es,e.i < i:=fun e he=>mem_dn.1 (hdn ▸ List.mem_map.2 ⟨e,he,rfl⟩)
  unfold vcDr at h;obtain⟨id,hidn,h⟩:=zfA h;obtain⟨gd,x,nob,hk,hnob,hsem⟩:=znL (Γ:=Γ) htt hL hidn h i;obtain⟨hk,hd⟩:=zdJ hk;let en:En:=⟨i,o.dst,zeI gd x,nob⟩
  have e1:=zbO en es fr0;have e2:=zcL en es σ0;have hk:vcDr P tt Γ.nt all ob ms fr0 σ0 k rest (en::es) (i+1) (frs (en::es) ++ fr0) (obs (en::es) ++ σ0):=by
   rw [← e1,← e2];exact hk
  have hfresh:ob=true∧zcF nob (obs es ++ σ0)=true→(∀ p ∈ nob,∀ e ∈ es,∀ q ∈ e.ob,q.1≠p.1)∧(∀ p ∈ nob,lk p.1 σ0=none)∧∀ p ∈ nob,∀ q ∈ nob,p.1=q.1→p=q:=by
   rintro⟨_,hn⟩;obtain⟨h1,h2⟩:=zjn hn;have key:∀ (L l0:List (Nat × Ob)) (t:Nat),lk t (L ++ l0)=none→∀ p ∈ L,p.1≠t:=by
    intro L l0 t;induction L with
    | nil=>intro _ p hp;simp at hp
    | cons q r ih=>
     intro h p hp;obtain⟨j,y⟩:=q;rw [List.cons_append,zr] at h;by_cases ej:j=t
     ·rw [if_pos ej] at h;cases h
     ·rw [if_neg ej] at h;rcases List.mem_cons.1 hp with rfl|hp
      ·exact ej
      ·exact ih h p hp
   refine⟨fun p hp e he q hq=>key _ _ _ (h1 p hp) q (zF.2 ⟨e,he,hq⟩),fun p hp=>?_,h2⟩
   rw [← zU (L:=obs es) (key _ _ _ (h1 p hp))];exact h1 p hp
  have hnob:∀ p ∈ nob,ob=true∧zcF nob (obs es ++ σ0)=true:=fun p hp=>by
   rcases hnob with hn|hn
   ·rw [hn] at hp;cases hp
   ·exact hn
  have:=zdH htt hL rest (en::es) (i+1) hk (fun j o' hj=>by
   have:=hall (j+1) o' hj;rwa [Nat.add_assoc,Nat.add_comm 1 j]) (by rw [List.map_cons,hdn];rfl) ?_
  ·obtain⟨es',h1,h2,h3⟩:=this;exact⟨es',h1,h2,by rw [h3,List.length_cons];congr 1;omega⟩
  ·refine⟨fun e he e' he' hii=>?_,fun e he e' he' p q hp hq hpq=>?_,fun e he p hp=>?_,fun e he=>?_⟩
   ·rcases List.mem_cons.1 he with rfl|he <;> rcases List.mem_cons.1 he' with rfl|he'
    ·rfl
    ·have:=hlt e' he';have:i=e'.i:=hii;omega
    ·have:=hlt e he;have:e.i=i:=hii;omega
    ·exact hg.idx e he e' he' hii
   ·rcases List.mem_cons.1 he with rfl|he <;> rcases List.mem_cons.1 he' with rfl|he'
    ·exact⟨rfl,(hfresh (hnob p hp)).2.2 p hp q hq hpq⟩
    ·exact absurd hpq.symm ((hfresh (hnob p hp)).1 p hp e' he' q hq)
    ·exact absurd hpq ((hfresh (hnob q hq)).1 q hq e he p hp)
    ·exact hg.ids e he e' he' p q hp hq hpq
   ·rcases List.mem_cons.1 he with rfl|he
    ·exact⟨(hfresh (hnob p hp)).2.1 p hp,(hnob p hp).1⟩
    ·exact hg.id0 e he p hp
   ·rcases List.mem_cons.1 he with rfl|he
    ·refine⟨o,zaK (ms.getD i 0) es,by simpa using hall 0 o rfl,rfl,hd,fun e' he'=>⟨List.mem_cons_of_mem _ (zap he').1,(zap he').2⟩,fun e' he' hb hlt'=>?_,hsem⟩
     rcases List.mem_cons.1 he' with rfl|he'
     ·exact absurd hlt' (Nat.lt_irrefl _)
     ·exact zbt he' hb
    ·obtain⟨o',D,a1,a2,a3,a4,a6,a5⟩:=hg.sem e he;refine⟨o',D,a1,a2,a3,fun e' he'=>⟨List.mem_cons_of_mem _ (a4 e' he').1,(a4 e' he').2⟩,fun e' he' hb hlt'=>?_,a5⟩
     rcases List.mem_cons.1 he' with rfl|he'
     ·have:=hlt e he;have hlt':i < e.i:=hlt';omega
     ·exact a6 e' he' hb hlt'
theorem zq {D E:List En} (h:∀ e ∈ D,e ∈ E):∀ p,p ∈ frs D→p ∈ frs E:=fun p hp=>by
 obtain⟨e,he,h'⟩:=zY.1 hp;exact zY.2 ⟨e,h e he,h'⟩
variable {fr:Fr} {σ:Sg} {Q:Exit→Fr→Sg→Prop}
def cv:List En→List QL.En
 | []=>[]
 | ⟨i,d,x,_⟩::r=>⟨i,d,x,none⟩::cv r
theorem cv_frs:∀ (E:List En),QL.frs (cv E)=frs E
 | []=>rfl
 | ⟨i,d,x,ob⟩::r=>by
  cases d with
  | none=>exact cv_frs r
  | some d=>exact congrArg ((d,x) :: ·) (cv_frs r)
theorem cv_map:∀ (E:List En),(cv E).map (·.i)=E.map (·.i)
 | []=>rfl
 | ⟨i,d,x,ob⟩::r=>congrArg (i :: ·) (cv_map r)
theorem mem_cv {c:QL.En} {E:List En}:c ∈ cv E↔∃ e ∈ E,c=⟨e.i,e.d,e.x,none⟩:=by
 induction E with
 | nil=>simp [cv]
 | cons e r ih=>obtain⟨i,d,x,ob⟩:=e;simp [cv,ih]
def okRe (re:List Nat):List En→Bool
 | []=>true
 | ⟨i,_,_,ob⟩::r=>(!inL re i || ob.isEmpty) && okRe re r
theorem okRe_ok {re:List Nat}:∀ {E:List En},okRe re E=true→∀ e ∈ E,e.i ∈ re→e.ob=[]
 | [],_,e,he,_=>by cases he
 | ⟨i,d,x,ob⟩::r,h,e,he,hi=>by
  unfold okRe at h;rw [Bool.and_eq_true] at h;rcases List.mem_cons.1 he with rfl|he
  ·have h1:=h.1;rw [zgk.2 hi] at h1;simpa using h1
  ·exact okRe_ok h.2 e he hi
def okM (ms re:List Nat) (l:List Nat):List Stg→Bool
 | []=>true
 | s::_=>l.all fun i=>Nat.testBit (ms.getD s.w 0) i || inL re i
theorem AW_drawT {tt:TT} (htt:tt.ok P) (hmix:P.follows .mixedOrders=true) (m1 m:Nat) (ob:Bool) (re:List Nat) (sts:List Stg) (ms:List Nat) {id:Nat} {ops:List Oper} (hms:zbe ms m ops 0=true) (hlen:Nat.ble m ops.length=true)
  (hds:zc2 (ops.take m) []=true) (hrd:zcn ops ms (ops.take m) (ops.take m) 0=true) (hok:(Nat.ble m1 m && okSt ms m sts (dn m1) && okM ms re (dn m1) sts)=true)
  (h:vcDr P tt Γ.nt ops ob ms fr σ (fun es _ σ'=>okRe re es=true∧vcRe P tt Γ.nt ops ms fr (cv es) σ' (vcSt P tt Γ.nt ops ms fr (fun fr' σ'=>zah P tt Γ.nt ops (Q .normal) (ops.drop m) fr' σ') sts (cv es) σ') re) (ops.take m1) [] 0 fr σ) :
  AW P Γ (.region id ops.toArray true) Q fr σ:=by
 refine AW.mk fun hLd g a w hr=>?_
 have hm:=MaskOK.of hms;simp only [Bool.and_eq_true] at hok;obtain⟨⟨hm1,hst⟩,hM⟩:=hok;have hm1:m1≤m:=Nat.le_of_ble_eq_true hm1;have hlen':m≤ops.length:=Nat.le_of_ble_eq_true hlen;have htake:(ops.take m1).length=m1:=by simp;omega
 obtain⟨es,hk,hg,hdn⟩:=zdH (Γ:=Γ) htt hLd (ops.take m1) [] 0 h (fun j o hj=>by
   rw [List.getElem?_take] at hj;by_cases hjm:j < m1
   ·rw [if_pos hjm] at hj;simpa using hj
   ·rw [if_neg hjm] at hj;cases hj) rfl
   ⟨fun e he=>by simp at he,fun e he=>by simp at he,fun e he=>by simp at he,fun e he=>by simp at he⟩
 rw [htake,Nat.zero_add] at hdn;have hlt:∀ e ∈ es,e.i < m1:=fun e he=>mem_dn.1 (hdn ▸ List.mem_map.2 ⟨e,he,rfl⟩)
 have hcov:∀ j,j < m1→∃ e ∈ es,e.i=j:=fun j hj=>List.mem_map.1 (hdn ▸ mem_dn.2 hj)
 obtain⟨hoR,hk⟩:=hk;have hoR:=okRe_ok hoR;obtain⟨_,hd1⟩:=zb1 hds;have hrd':=fun j o h=>zaV (zbR hrd j o h)
 simp only [Nat.zero_add] at hrd';have hop:∀ e ∈ es,∃ o,(ops.take m)[e.i]?=some o∧ops[e.i]?=some o∧e.d=o.dst∧∀ t,o.dst=some t→t < Γ.nt:=fun e he=>by
  obtain⟨o,D,h1,h2,h3,_⟩:=hg.sem e he;exact⟨o,by rw [List.getElem?_take,if_pos (Nat.lt_of_lt_of_le (hlt e he) hm1)];exact h1,h1,h2,h3⟩
 have hfF:∀ p ∈ frs es,∀ q ∈ frs es,p.1=q.1→p=q:=by
  intro p hp q hq hpq;obtain⟨e,he,h1,h2⟩:=zY.1 hp;obtain⟨e',he',h1',h2'⟩:=zY.1 hq;obtain⟨o,ho,_,hd,_⟩:=hop e he;obtain⟨o',ho',_,hd',_⟩:=hop e' he';have:=hd1 e.i e'.i o o' p.1 ho ho' (by rw [← hd,h1]) (by rw [← hd',h1',hpq]);have:=hg.idx e he e' he' this;subst this;obtain⟨p1,p2⟩:=p;obtain⟨q1,q2⟩:=q;simp only at *;subst hpq;subst h2;subst h2';rfl
 have hfO:∀ p ∈ obs es,∀ q ∈ obs es,p.1=q.1→p=q:=by
  intro p hp q hq hpq;obtain⟨e,he,h1⟩:=zF.1 hp;obtain⟨e',he',h1'⟩:=zF.1 hq;exact (hg.ids e he e' he' p q h1 h1' hpq).2
 have hfO0:∀ p ∈ obs es,lk p.1 σ=none:=by
  intro p hp;obtain⟨e,he,h1⟩:=zF.1 hp;exact (hg.id0 e he p h1).1
 have supO:∀ D E:List En,(∀ p ∈ obs D,p ∈ obs E)→(∀ p ∈ obs E,p ∈ obs es)→Sup (obs D ++ σ) (obs E ++ σ):=fun D E h1 h2=>zeM hfO hfO0 h1 h2
 have obSub:∀ {D E:List En},(∀ e ∈ D,e ∈ E)→∀ p ∈ obs D,p ∈ obs E:=fun h p hp=>by obtain⟨e,he,h'⟩:=zF.1 hp;exact zF.2 ⟨e,h e he,h'⟩
 have hgS:GoodS ops ms m Γ.nt (cv es):=by
  refine⟨fun c hc c' hc' hi=>?_,fun c hc=>?_,fun c hc=>?_,fun c hc b hb hbm=>?_⟩
  ·obtain⟨e,he,rfl⟩:=mem_cv.1 hc;obtain⟨e',he',rfl⟩:=mem_cv.1 hc';have:=hg.idx e he e' he' hi;subst this;rfl
  ·obtain⟨e,he,rfl⟩:=mem_cv.1 hc;exact Nat.lt_of_lt_of_le (hlt e he) hm1
  ·obtain⟨e,he,rfl⟩:=mem_cv.1 hc;obtain⟨o,_,h2,h3⟩:=hop e he;exact⟨o,h2,h3⟩
  ·obtain⟨e,he,rfl⟩:=mem_cv.1 hc;obtain⟨o,_,h2,_⟩:=hop e he;have h1:=hm.lt e.i o (by simpa using h2) b hb;rw [cv_map,hdn];exact mem_dn.2 (Nat.lt_trans h1 (hlt e he))
 obtain⟨hk,hre⟩:=zlc (Γ:=Γ) htt hLd hgS hk;let InvP:(Nat→Prop)→Act→World→Prop:=fun L a w=>∃ (E:List En) (g:Gh),(∀ e ∈ E,e ∈ es)∧(∀ j,L j↔∃ e ∈ E,e.i=j)∧(∀ k,L k→∀ b,(ms.getD k 0).testBit b=true→L b)∧Rel Γ (frs E ++ fr) (obs E ++ σ) g a w
 have conv:∀ L a w,InvP L a w→(∀ e ∈ es,¬ L e.i→e.i ∈ re)→InvS P tt Γ ops ms m fr Q L a w:=by
  intro L a w ⟨E,g,h1,h2,hcl,h3⟩ hu;refine⟨cv E,cv es,obs es ++ σ,sts,g,hgS,by rw [cv_map,hdn];exact hst,hk,fun c hc hn=>?_,fun c hc=>?_,fun j=>?_,hcl,?_⟩
  ·obtain⟨e,he,rfl⟩:=mem_cv.1 hc;exact hre _ hc (hu e he hn)
  ·obtain⟨e,he,rfl⟩:=mem_cv.1 hc;exact mem_cv.2 ⟨e,h1 e he,rfl⟩
  ·rw [h2 j];exact⟨fun⟨e,he,h'⟩=>⟨_,mem_cv.2 ⟨e,he,rfl⟩,h'⟩,fun⟨c,hc,h'⟩=>by obtain⟨e,he,rfl⟩:=mem_cv.1 hc;exact⟨e,he,h'⟩⟩
  ·rw [cv_frs];refine h3.same (fun _ _ h=>h) (supO E es (obSub h1) (fun p hp=>hp)) (supO es E (fun p hp=>?_) (obSub h1))
   obtain⟨e,he,hp⟩:=zF.1 hp;have hL:L e.i:=Classical.byContradiction fun hn=>by
    rw [hoR e he (hu e he hn)] at hp;cases hp
   obtain⟨e',he',hi⟩:=(h2 e.i).1 hL;have:=hg.idx e' (h1 e' he') e he hi;subst this;exact zF.2 ⟨_,he',hp⟩
 have hLm:∀ L a w,InvP L a w→∀ j,L j→j < m1:=fun L a w ⟨E,g,h1,h2,_⟩ j hj=>by
  obtain⟨e,he,hi⟩:=(h2 j).1 hj;rw [← hi];exact hlt e (h1 e he)
 have hend:∀ L a w,InvP L a w→(∀ b,b < m→L b)→InvS P tt Γ ops ms m fr Q L a w:=by
  intro L a w hI hall;exact conv L a w hI fun e he hn=>absurd (hall e.i (Nat.lt_of_lt_of_le (hlt e he) hm1)) hn
 refine draw_gen htt hmix hLd m ms hms hlen hds hrd InvP ?_ hend a w ?_
 ·intro L a w hI i hi hL hbits;rcases Nat.lt_or_ge i m1 with him|him
  ·right
   obtain⟨E,g,h1,h2,hcl,h3⟩:=hI;obtain⟨en,hen,heni⟩:=hcov i him;obtain⟨o,D,a1,a2,a3,a4,a6,a5⟩:=hg.sem en hen;rw [heni] at a1 a4 a5 a6;have hDE:∀ e ∈ D,e ∈ E:=by
    intro e he;obtain⟨he1,he2⟩:=a4 e he;obtain⟨e',he',hi'⟩:=(h2 e.i).1 (hbits e.i he2);have:=hg.idx e' (h1 e' he') e he1 hi';subst this;exact he'
   have hsup:Sup (selF (frs D ++ fr) (looks ops o)) (frs E ++ fr):=by
    intro t v hl;obtain⟨ht,hl⟩:=zbF hl;rcases zdB hl with hl|⟨hn,hl⟩
    ·exact zas (fun p hp q hq=>hfF p (zq h1 p hp) q (zq h1 q hq)) (zq hDE _ hl)
    ·rw [zU]
     ·exact hl
     ·intro p hp hpt;obtain⟨e,he,h1',h2'⟩:=zY.1 hp;obtain⟨oe,hoe,_,hde,_⟩:=hop e (h1 e he);have hLe:L e.i:=(h2 e.i).2 ⟨e,he,rfl⟩;rcases hrd' i o (by rw [List.getElem?_take,if_pos (Nat.lt_of_lt_of_le him hm1)];exact a1) e.i oe t hoe (by rw [← hde,h1',hpt]) ht with hk|hk|hk
      ·exact hL (hk ▸ hLe)
      ·have hlt':e.i < i:=hm.lt i o (by simpa using a1) e.i hk;exact hn p (zY.2 ⟨e,a6 e (h1 e he) hk hlt',h1',h2'⟩) hpt
      ·exact hL (hcl e.i hLe i hk)
   refine a5 _ (frs E ++ fr) (obs E ++ σ) g a w hsup (supO D E (obSub hDE) (obSub h1)) ?_ ?_ h3 _ ?_ (by simpa using a1)
   ·intro hob;have hn:∀ X:List En,(∀ e ∈ X,e ∈ es)→obs X=[]:=by
     intro X hX;cases hx:obs X with
     | nil=>rfl
     | cons p r=>
      obtain⟨e,he,hp⟩:=zF.1 (show p ∈ obs X by rw [hx];exact List.mem_cons_self);have:=(hg.id0 e (hX e he) p hp).2;rw [hob] at this;cases this
    rw [hn E h1,hn D (fun e he=>h1 e (hDE e he))]
   ·intro p hp;rw [zU]
    ·exact (hg.id0 en hen p hp).1
    ·intro q hq he;obtain⟨e',he',hq'⟩:=zF.1 hq;have:=(hg.ids e' (h1 e' he') en hen q p hq' hp he).1;subst this;exact hL ((h2 i).2 ⟨e',he',heni⟩)
   ·intro v g' w' hr' hv;refine⟨en::E,g',fun e he=>?_,fun j=>?_,fun k hk b hb=>?_,?_⟩
    ·rcases List.mem_cons.1 he with rfl|he
     ·exact hen
     ·exact h1 e he
    ·show (L j∨j=i)↔_
     rw [h2 j];constructor
     ·rintro (⟨e,he,h'⟩|rfl)
      ·exact⟨e,List.mem_cons_of_mem _ he,h'⟩
      ·exact⟨en,List.mem_cons_self,heni⟩
     ·rintro⟨e,he,h'⟩;rcases List.mem_cons.1 he with rfl|he
      ·exact .inr (h'.symm.trans heni)
      ·exact .inl ⟨e,he,h'⟩
    ·rcases hk with hk|rfl
     ·exact .inl (hcl k hk b hb)
     ·exact .inl (hbits b hb)
    ·rw [← zbO,← zcL];rw [a2];cases hdd:o.dst with
     | none=>exact hr'
     | some d=>exact hr'.put (a3 d hdd) hv
  ·left
   have hLm':=hLm L a w hI;cases sts with
   | nil=>
    refine hend L a w hI fun b hb=>?_
    unfold okSt at hst;rw [List.all_eq_true] at hst;have h1:=mem_dn.1 (zgk.1 (hst b (List.mem_range.2 hb)));rcases Nat.lt_or_ge i m with h'|h'
    ·have:=mem_dn.1 (zgk.1 (hst i (List.mem_range.2 h')));omega
    ·exact hbits b (hm.tail i _ (Array.getElem?_eq_getElem (by simpa using hi)) h' b (by omega))
   | cons s r=>
    have hst':=hst;unfold okSt at hst';simp only [Bool.and_eq_true] at hst';obtain⟨⟨⟨⟨hone,_⟩,_⟩,hrst⟩,_⟩:=hst';obtain⟨k1,k2,_⟩:=zft hone;have hiw:i=s.w:=by
     have him':i < m:=by
      rcases Nat.lt_or_ge i m with h'|h'
      ·exact h'
      ·exact absurd (mem_dn.2 (hLm' _ (hbits s.w (hm.tail i _ (Array.getElem?_eq_getElem (by simpa using hi)) h' s.w (by omega))))) k2
     rw [List.all_eq_true] at hrst;have:=hrst i (List.mem_range.2 him');simp only [Bool.or_eq_true] at this;rcases this with (h'|h')|h'
     ·have:=mem_dn.1 (zgk.1 h');omega
     ·exact Nat.eq_of_beq_eq_true h'
     ·exact absurd (mem_dn.2 (hLm' _ (hbits s.w h'))) k2
    refine conv L a w hI fun e he hn=>?_
    unfold okM at hM;rw [List.all_eq_true] at hM;have:=hM e.i (mem_dn.2 (hlt e he));rw [Bool.or_eq_true] at this;rcases this with h'|h'
    ·rw [← hiw] at h';exact absurd (hbits e.i h') hn
    ·exact zgk.1 h'
 ·intro L hL n;left
  exact⟨[],g,fun e he=>by simp at he,fun j=>⟨fun h=>(hL j h).elim,fun⟨e,he,_⟩=>by simp at he⟩,fun k hk=>(hL k hk).elim,hr.drawn n⟩
end
theorem ziH:∀ (σ:Sg),ziI [] σ=σ
 | []=>rfl
 | (i,o)::r=>by
  show (bif false then _ else _)=_
  rw [cond_false,ziH r]
theorem ACall.anew {P:Program} {f:FuncId} {args:List AV} {rv:AV} {nob:Sg} (h:ACall P f args [] (fun r σ'=>r=rv∧σ'=nob)) (ρ : Nat→Nat) {args':List AV} {rv':AV} {nob':Sg}
  (ha:args'=args.map (rnAV ρ)) (hr:rv'=rnAV ρ rv) (hn:nob'=rnSg ρ nob) (hc:(args.all (zeR []) && injK ρ (nob.map (·.1)))=true) (σE:Sg) (hf:∀ p ∈ nob',lk p.1 σE=none) :
  ACall P f args' σE (fun r' σ'=>r'=rv'∧σ'=nob' ++ σE):=by
 subst ha;subst hr;subst hn;simp only [Bool.and_eq_true] at hc;refine (h.frame ρ (σ:=σE) trivial (by simp [hc.1,rsSg,injK]) ?_).mono ?_
 ·rintro r1 σ1 ⟨rfl,rfl⟩;unfold zdN;simp only [List.map_nil,List.all_nil,Bool.and_true,List.any_nil,Bool.false_or,Bool.and_eq_true,List.all_eq_true,Bool.not_eq_true'];refine⟨hc.2,fun i hi=>?_⟩
  obtain⟨p,hp,rfl⟩:=List.mem_map.1 hi;have hm:∃ q ∈ rnSg ρ σ1,q.1 = ρ p.1:=by
   clear hc hf hi h;induction σ1 with
   | nil=>cases hp
   | cons x r ih=>
    rcases List.mem_cons.1 hp with rfl|hp
    ·exact⟨_,List.mem_cons_self,rfl⟩
    ·obtain⟨q,hq,e⟩:=ih hp;exact⟨q,List.mem_cons_of_mem _ hq,e⟩
  obtain⟨q,hq,e⟩:=hm;have h1:=hf q hq;rw [e] at h1;cases hb:(σE.map (·.1)).any (Nat.beq (ρ p.1)) with
  | false=>rfl
  | true=>
   have:=zz.2 (zdY.1 hb);rw [h1] at this;cases this
 ·rintro r σ' ⟨r1,σ1,⟨rfl,rfl⟩,rfl,rfl⟩;refine⟨rfl,?_⟩
  unfold after;congr 1
  exact ziH σE
end Go.QL.DS
namespace Go.Proofs.YtnkhljdifljdbaaGreatDoor
open Go Go.QL
def tab:List (Nat × TI):=[
 (1,⟨.other,1,8,[.nilFunc]⟩),
 (2,⟨.int .i64,1,8,[.int .i64 0]⟩),
 (3,⟨.int .i64,1,8,[.int .i64 0]⟩),
 (4,⟨.bool,1,1,[.bool false]⟩),
 (5,⟨.int .u8,1,1,[.int .u8 0]⟩),
 (6,⟨.int .u8,1,1,[.int .u8 0]⟩),
 (7,⟨.st [(0,2),(1,3),(2,4),(3,6)] [.int .i64,.int .i64,.bool,.int .u8],4,24,[.int .i64 0,.int .i64 0,.bool false,.int .u8 0]⟩),
 (8,⟨.st [(0,2),(1,3),(2,4),(3,6)] [.int .i64,.int .i64,.bool,.int .u8],4,24,[.int .i64 0,.int .i64 0,.bool false,.int .u8 0]⟩),
 (9,⟨.str,1,16,[.string ByteArray.empty]⟩),
 (10,⟨.str,1,16,[.string ByteArray.empty]⟩),
 (11,⟨.str,1,16,[.string ByteArray.empty]⟩),
 (12,⟨.int .u64,1,8,[.int .u64 0]⟩),
 (13,⟨.st [(0,9),(1,12)] [],2,24,[.string ByteArray.empty,.int .u64 0]⟩),
 (14,⟨.st [(0,9),(1,12)] [],2,24,[.string ByteArray.empty,.int .u64 0]⟩),
 (15,⟨.other,1,8,[.pointer none]⟩),
 (16,⟨.other,1,8,[.pointer none]⟩),
 (17,⟨.other,1,8,[.pointer none]⟩),
 (18,⟨.st [(0,17)] [],1,8,[.pointer none]⟩),
 (19,⟨.st [(0,17)] [],1,8,[.pointer none]⟩),
 (20,⟨.ifc,1,16,[.nilIface]⟩),
 (21,⟨.int .i32,1,4,[.int .i32 0]⟩),
 (22,⟨.st [(0,3),(1,3)] [.int .i64,.int .i64],2,16,[.int .i64 0,.int .i64 0]⟩),
 (23,⟨.st [(0,3),(1,3)] [.int .i64,.int .i64],2,16,[.int .i64 0,.int .i64 0]⟩),
 (24,⟨.sl 43,1,24,[.slice none 0 0]⟩),
 (25,⟨.st [(0,3),(1,23),(3,24)] [],4,48,[.int .i64 0,.int .i64 0,.int .i64 0,.slice none 0 0]⟩),
 (26,⟨.st [(0,3),(1,23),(3,24)] [],4,48,[.int .i64 0,.int .i64 0,.int .i64 0,.slice none 0 0]⟩),
 (27,⟨.sl 71,1,24,[.slice none 0 0]⟩),
 (28,⟨.sl 5,1,24,[.slice none 0 0]⟩),
 (29,⟨.sl 4,1,24,[.slice none 0 0]⟩),
 (30,⟨.st [(0,26),(4,27),(5,28),(6,27),(7,29)] [],8,144,[.int .i64 0,.int .i64 0,.int .i64 0,.slice none 0 0,.slice none 0 0,.slice none 0 0,.slice none 0 0,.slice none 0 0]⟩),
 (31,⟨.st [(0,26),(4,27),(5,28),(6,27),(7,29)] [],8,144,[.int .i64 0,.int .i64 0,.int .i64 0,.slice none 0 0,.slice none 0 0,.slice none 0 0,.slice none 0 0,.slice none 0 0]⟩),
 (32,⟨.int .i64,1,8,[.int .i64 0]⟩),
 (33,⟨.other,1,8,[.nilFunc]⟩),
 (34,⟨.other,1,8,[.nilFunc]⟩),
 (35,⟨.st [(0,3),(1,3),(2,3),(3,3),(4,3)] [.int .i64,.int .i64,.int .i64,.int .i64,.int .i64],5,40,[.int .i64 0,.int .i64 0,.int .i64 0,.int .i64 0,.int .i64 0]⟩),
 (36,⟨.st [(0,3),(1,3),(2,3),(3,3),(4,3)] [.int .i64,.int .i64,.int .i64,.int .i64,.int .i64],5,40,[.int .i64 0,.int .i64 0,.int .i64 0,.int .i64 0,.int .i64 0]⟩),
 (37,⟨.sl 9,1,24,[.slice none 0 0]⟩),
 (38,⟨.sl 26,1,24,[.slice none 0 0]⟩),
 (39,⟨.st [(0,36),(5,37),(6,38)] [],7,88,[.int .i64 0,.int .i64 0,.int .i64 0,.int .i64 0,.int .i64 0,.slice none 0 0,.slice none 0 0]⟩),
 (40,⟨.st [(0,36),(5,37),(6,38)] [],7,88,[.int .i64 0,.int .i64 0,.int .i64 0,.int .i64 0,.int .i64 0,.slice none 0 0,.slice none 0 0]⟩),
 (41,⟨.other,1,8,[.nilFunc]⟩),
 (42,⟨.st [(0,3),(1,3)] [.int .i64,.int .i64],2,16,[.int .i64 0,.int .i64 0]⟩),
 (43,⟨.st [(0,3),(1,3)] [.int .i64,.int .i64],2,16,[.int .i64 0,.int .i64 0]⟩),
 (44,⟨.other,1,8,[.nilFunc]⟩),
 (45,⟨.other,1,8,[.nilFunc]⟩),
 (46,⟨.other,1,8,[.nilFunc]⟩),
 (48,⟨.other,1,8,[.nilFunc]⟩),
 (49,⟨.sl 89,1,24,[.slice none 0 0]⟩),
 (50,⟨.sl 3,1,24,[.slice none 0 0]⟩),
 (51,⟨.st [(0,3),(1,3),(2,3),(3,3)] [.int .i64,.int .i64,.int .i64,.int .i64],4,32,[.int .i64 0,.int .i64 0,.int .i64 0,.int .i64 0]⟩),
 (52,⟨.st [(0,3),(1,3),(2,3),(3,3)] [.int .i64,.int .i64,.int .i64,.int .i64],4,32,[.int .i64 0,.int .i64 0,.int .i64 0,.int .i64 0]⟩),
 (53,⟨.sl 60,1,24,[.slice none 0 0]⟩),
 (54,⟨.st [(0,3),(1,49),(2,50),(3,52),(7,53)] [],8,112,[.int .i64 0,.slice none 0 0,.slice none 0 0,.int .i64 0,.int .i64 0,.int .i64 0,.int .i64 0,.slice none 0 0]⟩),
 (55,⟨.st [(0,3),(1,49),(2,50),(3,52),(7,53)] [],8,112,[.int .i64 0,.slice none 0 0,.slice none 0 0,.int .i64 0,.int .i64 0,.int .i64 0,.int .i64 0,.slice none 0 0]⟩),
 (57,⟨.other,1,8,[.nilFunc]⟩),
 (58,⟨.other,1,8,[.nilFunc]⟩),
 (59,⟨.st [(0,3),(1,3)] [.int .i64,.int .i64],2,16,[.int .i64 0,.int .i64 0]⟩),
 (60,⟨.st [(0,3),(1,3)] [.int .i64,.int .i64],2,16,[.int .i64 0,.int .i64 0]⟩),
 (61,⟨.other,1,8,[.nilFunc]⟩),
 (62,⟨.other,1,8,[.nilFunc]⟩),
 (64,⟨.other,1,8,[.nilFunc]⟩),
 (65,⟨.sl 94,1,24,[.slice none 0 0]⟩),
 (66,⟨.other,1,8,[.nilFunc]⟩),
 (67,⟨.other,1,8,[.nilFunc]⟩),
 (69,⟨.other,1,8,[.nilFunc]⟩),
 (70,⟨.other,1,8,[.nilFunc]⟩),
 (71,⟨.int .u16,1,2,[.int .u16 0]⟩),
 (72,⟨.other,1,8,[.pointer none]⟩),
 (74,⟨.other,1,8,[.nilFunc]⟩),
 (75,⟨.other,1,8,[.nilFunc]⟩),
 (76,⟨.sl 87,1,24,[.slice none 0 0]⟩),
 (77,⟨.st [(0,3),(1,76)] [],2,32,[.int .i64 0,.slice none 0 0]⟩),
 (78,⟨.st [(0,3),(1,76)] [],2,32,[.int .i64 0,.slice none 0 0]⟩),
 (79,⟨.sl 172,1,24,[.slice none 0 0]⟩),
 (80,⟨.sl 190,1,24,[.slice none 0 0]⟩),
 (81,⟨.sl 124,1,24,[.slice none 0 0]⟩),
 (82,⟨.st [(0,40),(7,78),(9,79),(10,49),(11,80),(12,81),(13,52)] [],17,248,[.int .i64 0,.int .i64 0,.int .i64 0,.int .i64 0,.int .i64 0,.slice none 0 0,.slice none 0 0,.int .i64 0,.slice none 0 0,.slice none 0 0,.slice none 0 0,.slice none 0 0,.slice none 0 0,.int .i64 0,.int .i64 0,.int .i64 0,.int .i64 0]⟩),
 (83,⟨.st [(0,40),(7,78),(9,79),(10,49),(11,80),(12,81),(13,52)] [],17,248,[.int .i64 0,.int .i64 0,.int .i64 0,.int .i64 0,.int .i64 0,.slice none 0 0,.slice none 0 0,.int .i64 0,.slice none 0 0,.slice none 0 0,.slice none 0 0,.slice none 0 0,.slice none 0 0,.int .i64 0,.int .i64 0,.int .i64 0,.int .i64 0]⟩),
 (84,⟨.st [(0,9),(1,3),(2,3),(3,3)] [.str,.int .i64,.int .i64,.int .i64],4,40,[.string ByteArray.empty,.int .i64 0,.int .i64 0,.int .i64 0]⟩),
 (85,⟨.st [(0,9),(1,3),(2,3),(3,3)] [.str,.int .i64,.int .i64,.int .i64],4,40,[.string ByteArray.empty,.int .i64 0,.int .i64 0,.int .i64 0]⟩),
 (86,⟨.st [(0,3),(1,3),(2,3),(3,3),(4,3)] [.int .i64,.int .i64,.int .i64,.int .i64,.int .i64],5,40,[.int .i64 0,.int .i64 0,.int .i64 0,.int .i64 0,.int .i64 0]⟩),
 (87,⟨.st [(0,3),(1,3),(2,3),(3,3),(4,3)] [.int .i64,.int .i64,.int .i64,.int .i64,.int .i64],5,40,[.int .i64 0,.int .i64 0,.int .i64 0,.int .i64 0,.int .i64 0]⟩),
 (88,⟨.st [(0,9),(1,3),(2,50),(3,3),(4,85),(8,87)] [],13,136,[.string ByteArray.empty,.int .i64 0,.slice none 0 0,.int .i64 0,.string ByteArray.empty,.int .i64 0,.int .i64 0,.int .i64 0,.int .i64 0,.int .i64 0,.int .i64 0,.int .i64 0,.int .i64 0]⟩),
 (89,⟨.st [(0,9),(1,3),(2,50),(3,3),(4,85),(8,87)] [],13,136,[.string ByteArray.empty,.int .i64 0,.slice none 0 0,.int .i64 0,.string ByteArray.empty,.int .i64 0,.int .i64 0,.int .i64 0,.int .i64 0,.int .i64 0,.int .i64 0,.int .i64 0,.int .i64 0]⟩),
 (90,⟨.other,1,8,[.nilFunc]⟩),
 (91,⟨.other,1,8,[.nilFunc]⟩),
 (92,⟨.other,1,8,[.nilFunc]⟩),
 (93,⟨.st [(0,9),(1,9)] [.str,.str],2,32,[.string ByteArray.empty,.string ByteArray.empty]⟩),
 (94,⟨.st [(0,9),(1,9)] [.str,.str],2,32,[.string ByteArray.empty,.string ByteArray.empty]⟩),
 (95,⟨.other,1,8,[.nilFunc]⟩),
 (96,⟨.other,1,8,[.pointer none]⟩),
 (97,⟨.st [(0,96),(1,28)] [],2,32,[.pointer none,.slice none 0 0]⟩),
 (98,⟨.st [(0,96),(1,28)] [],2,32,[.pointer none,.slice none 0 0]⟩),
 (99,⟨.other,1,8,[.nilFunc]⟩),
 (100,⟨.ifc,1,16,[.nilIface]⟩),
 (101,⟨.ifc,1,16,[.nilIface]⟩),
 (103,⟨.other,1,8,[.nilFunc]⟩),
 (104,⟨.other,1,8,[.nilFunc]⟩),
 (105,⟨.other,1,8,[.nilFunc]⟩),
 (107,⟨.other,1,8,[.nilFunc]⟩),
 (108,⟨.other,1,8,[.nilFunc]⟩),
 (109,⟨.other,1,8,[.nilFunc]⟩),
 (110,⟨.other,1,8,[.nilFunc]⟩),
 (111,⟨.other,1,8,[.nilFunc]⟩),
 (112,⟨.other,1,8,[.nilFunc]⟩),
 (113,⟨.other,1,8,[.nilFunc]⟩),
 (114,⟨.mp 9 112,1,8,[.map none]⟩),
 (116,⟨.other,1,8,[.pointer none]⟩),
 (118,⟨.other,1,8,[.nilFunc]⟩),
 (119,⟨.other,1,8,[.nilFunc]⟩),
 (121,⟨.other,1,8,[.nilFunc]⟩),
 (122,⟨.sl 177,1,24,[.slice none 0 0]⟩),
 (123,⟨.st [(0,3),(1,122)] [],2,32,[.int .i64 0,.slice none 0 0]⟩),
 (124,⟨.st [(0,3),(1,122)] [],2,32,[.int .i64 0,.slice none 0 0]⟩),
 (125,⟨.other,1,8,[.pointer none]⟩),
 (126,⟨.sl 125,1,24,[.slice none 0 0]⟩),
 (127,⟨.other,1,8,[.nilFunc]⟩),
 (128,⟨.other,1,8,[.nilFunc]⟩),
 (129,⟨.other,1,8,[.pointer none]⟩),
 (130,⟨.other,1,8,[.nilFunc]⟩),
 (131,⟨.sl 85,1,24,[.slice none 0 0]⟩),
 (132,⟨.st [(0,36),(5,131),(6,79)] [],7,88,[.int .i64 0,.int .i64 0,.int .i64 0,.int .i64 0,.int .i64 0,.slice none 0 0,.slice none 0 0]⟩),
 (133,⟨.st [(0,36),(5,131),(6,79)] [],7,88,[.int .i64 0,.int .i64 0,.int .i64 0,.int .i64 0,.int .i64 0,.slice none 0 0,.slice none 0 0]⟩),
 (134,⟨.sl 20,1,24,[.slice none 0 0]⟩),
 (136,⟨.other,1,8,[.nilFunc]⟩),
 (137,⟨.other,1,8,[.nilFunc]⟩),
 (138,⟨.other,1,8,[.nilFunc]⟩),
 (139,⟨.other,1,8,[.nilFunc]⟩),
 (140,⟨.st [(0,50),(1,3),(2,3)] [],3,40,[.slice none 0 0,.int .i64 0,.int .i64 0]⟩),
 (141,⟨.st [(0,50),(1,3),(2,3)] [],3,40,[.slice none 0 0,.int .i64 0,.int .i64 0]⟩),
 (142,⟨.sl 228,1,24,[.slice none 0 0]⟩),
 (143,⟨.st [(0,37),(1,142)] [],2,48,[.slice none 0 0,.slice none 0 0]⟩),
 (144,⟨.st [(0,37),(1,142)] [],2,48,[.slice none 0 0,.slice none 0 0]⟩),
 (146,⟨.other,1,8,[.nilFunc]⟩),
 (147,⟨.other,1,8,[.nilFunc]⟩),
 (148,⟨.other,1,8,[.nilFunc]⟩),
 (149,⟨.other,1,8,[.nilFunc]⟩),
 (151,⟨.other,1,8,[.nilFunc]⟩),
 (152,⟨.other,1,8,[.nilFunc]⟩),
 (153,⟨.st [(0,50),(1,50),(2,3),(3,3),(4,3),(5,50)] [],6,96,[.slice none 0 0,.slice none 0 0,.int .i64 0,.int .i64 0,.int .i64 0,.slice none 0 0]⟩),
 (154,⟨.st [(0,50),(1,50),(2,3),(3,3),(4,3),(5,50)] [],6,96,[.slice none 0 0,.slice none 0 0,.int .i64 0,.int .i64 0,.int .i64 0,.slice none 0 0]⟩),
 (155,⟨.other,1,8,[.nilFunc]⟩),
 (157,⟨.other,1,8,[.nilFunc]⟩),
 (158,⟨.st [(0,9),(1,50),(2,3)] [],3,48,[.string ByteArray.empty,.slice none 0 0,.int .i64 0]⟩),
 (159,⟨.st [(0,9),(1,50),(2,3)] [],3,48,[.string ByteArray.empty,.slice none 0 0,.int .i64 0]⟩),
 (160,⟨.other,1,8,[.nilFunc]⟩),
 (161,⟨.st [(0,9),(1,3),(2,154)] [],8,120,[.string ByteArray.empty,.int .i64 0,.slice none 0 0,.slice none 0 0,.int .i64 0,.int .i64 0,.int .i64 0,.slice none 0 0]⟩),
 (162,⟨.st [(0,9),(1,3),(2,154)] [],8,120,[.string ByteArray.empty,.int .i64 0,.slice none 0 0,.slice none 0 0,.int .i64 0,.int .i64 0,.int .i64 0,.slice none 0 0]⟩),
 (163,⟨.sl 162,1,24,[.slice none 0 0]⟩),
 (164,⟨.sl 159,1,24,[.slice none 0 0]⟩),
 (165,⟨.other,1,8,[.nilFunc]⟩),
 (166,⟨.other,1,8,[.nilFunc]⟩),
 (167,⟨.other,1,8,[.nilFunc]⟩),
 (168,⟨.other,1,8,[.nilFunc]⟩),
 (169,⟨.st [(0,3),(1,3),(2,3),(3,3)] [.int .i64,.int .i64,.int .i64,.int .i64],4,32,[.int .i64 0,.int .i64 0,.int .i64 0,.int .i64 0]⟩),
 (170,⟨.st [(0,3),(1,3),(2,3),(3,3)] [.int .i64,.int .i64,.int .i64,.int .i64],4,32,[.int .i64 0,.int .i64 0,.int .i64 0,.int .i64 0]⟩),
 (171,⟨.st [(0,3),(1,3)] [.int .i64,.int .i64],2,16,[.int .i64 0,.int .i64 0]⟩),
 (172,⟨.st [(0,3),(1,3)] [.int .i64,.int .i64],2,16,[.int .i64 0,.int .i64 0]⟩),
 (173,⟨.other,1,8,[.nilFunc]⟩),
 (174,⟨.other,1,8,[.nilFunc]⟩),
 (175,⟨.other,1,8,[.nilFunc]⟩),
 (176,⟨.st [(0,3),(1,3),(2,4)] [.int .i64,.int .i64,.bool],3,24,[.int .i64 0,.int .i64 0,.bool false]⟩),
 (177,⟨.st [(0,3),(1,3),(2,4)] [.int .i64,.int .i64,.bool],3,24,[.int .i64 0,.int .i64 0,.bool false]⟩),
 (178,⟨.other,1,8,[.nilFunc]⟩),
 (180,⟨.other,1,8,[.nilFunc]⟩),
 (181,⟨.other,1,8,[.nilFunc]⟩),
 (182,⟨.other,1,8,[.nilFunc]⟩),
 (183,⟨.st [(0,3),(1,3),(2,3),(3,3)] [.int .i64,.int .i64,.int .i64,.int .i64],4,32,[.int .i64 0,.int .i64 0,.int .i64 0,.int .i64 0]⟩),
 (184,⟨.st [(0,3),(1,3),(2,3),(3,3)] [.int .i64,.int .i64,.int .i64,.int .i64],4,32,[.int .i64 0,.int .i64 0,.int .i64 0,.int .i64 0]⟩),
 (185,⟨.st [(0,3),(1,184),(5,3),(6,3)] [.int .i64,.int .i64,.int .i64,.int .i64,.int .i64,.int .i64,.int .i64],7,56,[.int .i64 0,.int .i64 0,.int .i64 0,.int .i64 0,.int .i64 0,.int .i64 0,.int .i64 0]⟩),
 (186,⟨.st [(0,3),(1,184),(5,3),(6,3)] [.int .i64,.int .i64,.int .i64,.int .i64,.int .i64,.int .i64,.int .i64],7,56,[.int .i64 0,.int .i64 0,.int .i64 0,.int .i64 0,.int .i64 0,.int .i64 0,.int .i64 0]⟩),
 (188,⟨.other,1,8,[.nilFunc]⟩),
 (189,⟨.st [(0,50),(1,50),(2,3),(3,50),(4,3),(5,3),(6,3),(7,3)] [],8,112,[.slice none 0 0,.slice none 0 0,.int .i64 0,.slice none 0 0,.int .i64 0,.int .i64 0,.int .i64 0,.int .i64 0]⟩),
 (190,⟨.st [(0,50),(1,50),(2,3),(3,50),(4,3),(5,3),(6,3),(7,3)] [],8,112,[.slice none 0 0,.slice none 0 0,.int .i64 0,.slice none 0 0,.int .i64 0,.int .i64 0,.int .i64 0,.int .i64 0]⟩),
 (191,⟨.st [(0,3),(1,3),(2,3)] [.int .i64,.int .i64,.int .i64],3,24,[.int .i64 0,.int .i64 0,.int .i64 0]⟩),
 (192,⟨.st [(0,3),(1,3),(2,3)] [.int .i64,.int .i64,.int .i64],3,24,[.int .i64 0,.int .i64 0,.int .i64 0]⟩),
 (193,⟨.sl 192,1,24,[.slice none 0 0]⟩),
 (194,⟨.other,1,8,[.nilFunc]⟩),
 (196,⟨.other,1,8,[.nilFunc]⟩),
 (197,⟨.other,1,8,[.nilFunc]⟩),
 (199,⟨.other,1,8,[.nilFunc]⟩),
 (200,⟨.other,1,8,[.nilFunc]⟩),
 (201,⟨.other,1,8,[.pointer none]⟩),
 (203,⟨.other,1,8,[.nilFunc]⟩),
 (204,⟨.other,1,8,[.nilFunc]⟩),
 (205,⟨.other,1,8,[.nilFunc]⟩),
 (206,⟨.other,1,8,[.pointer none]⟩),
 (207,⟨.other,1,8,[.nilFunc]⟩),
 (208,⟨.other,1,8,[.nilFunc]⟩),
 (209,⟨.mp 9 4,1,8,[.map none]⟩),
 (210,⟨.other,1,8,[.nilFunc]⟩),
 (211,⟨.other,1,8,[.nilFunc]⟩),
 (212,⟨.other,1,8,[.nilFunc]⟩),
 (213,⟨.other,1,8,[.nilFunc]⟩),
 (214,⟨.other,1,8,[.nilFunc]⟩),
 (215,⟨.other,1,8,[.nilFunc]⟩),
 (216,⟨.other,1,8,[.pointer none]⟩),
 (217,⟨.st [(0,144),(2,50),(3,37)] [],4,96,[.slice none 0 0,.slice none 0 0,.slice none 0 0,.slice none 0 0]⟩),
 (218,⟨.st [(0,144),(2,50),(3,37)] [],4,96,[.slice none 0 0,.slice none 0 0,.slice none 0 0,.slice none 0 0]⟩),
 (219,⟨.other,1,8,[.nilFunc]⟩),
 (220,⟨.other,1,8,[.nilFunc]⟩),
 (221,⟨.other,1,8,[.nilFunc]⟩),
 (222,⟨.other,1,8,[.nilFunc]⟩),
 (223,⟨.other,1,8,[.nilFunc]⟩),
 (224,⟨.other,1,8,[.pointer none]⟩),
 (225,⟨.st [(0,144),(2,50)] [],3,72,[.slice none 0 0,.slice none 0 0,.slice none 0 0]⟩),
 (226,⟨.st [(0,144),(2,50)] [],3,72,[.slice none 0 0,.slice none 0 0,.slice none 0 0]⟩),
 (227,⟨.st [(0,3),(1,3),(2,3),(3,3)] [.int .i64,.int .i64,.int .i64,.int .i64],4,32,[.int .i64 0,.int .i64 0,.int .i64 0,.int .i64 0]⟩),
 (228,⟨.st [(0,3),(1,3),(2,3),(3,3)] [.int .i64,.int .i64,.int .i64,.int .i64],4,32,[.int .i64 0,.int .i64 0,.int .i64 0,.int .i64 0]⟩),
 (230,⟨.other,1,8,[.nilFunc]⟩),
 (231,⟨.other,1,8,[.nilFunc]⟩),
 (232,⟨.other,1,8,[.nilFunc]⟩),
 (233,⟨.other,1,8,[.pointer none]⟩),
 (234,⟨.mp 9 3,1,8,[.map none]⟩),
 (235,⟨.st [(0,154),(6,234)] [],7,104,[.slice none 0 0,.slice none 0 0,.int .i64 0,.int .i64 0,.int .i64 0,.slice none 0 0,.map none]⟩),
 (236,⟨.st [(0,154),(6,234)] [],7,104,[.slice none 0 0,.slice none 0 0,.int .i64 0,.int .i64 0,.int .i64 0,.slice none 0 0,.map none]⟩),
 (237,⟨.other,1,8,[.nilFunc]⟩),
 (238,⟨.other,1,8,[.nilFunc]⟩),
 (239,⟨.other,1,8,[.nilFunc]⟩),
 (240,⟨.other,1,8,[.nilFunc]⟩),
 (241,⟨.sl 245,1,24,[.slice none 0 0]⟩),
 (243,⟨.other,1,8,[.nilFunc]⟩),
 (244,⟨.st [(0,159),(3,3)] [],4,56,[.string ByteArray.empty,.slice none 0 0,.int .i64 0,.int .i64 0]⟩),
 (245,⟨.st [(0,159),(3,3)] [],4,56,[.string ByteArray.empty,.slice none 0 0,.int .i64 0,.int .i64 0]⟩),
 (246,⟨.mp 3 3,1,8,[.map none]⟩),
 (247,⟨.other,1,8,[.nilFunc]⟩),
 (248,⟨.other,1,8,[.nilFunc]⟩),
 (249,⟨.other,1,8,[.nilFunc]⟩),
 (250,⟨.other,1,8,[.nilFunc]⟩),
 (251,⟨.other,1,8,[.nilFunc]⟩),
 (252,⟨.other,1,8,[.nilFunc]⟩),
 (254,⟨.other,1,8,[.nilFunc]⟩),
 (255,⟨.other,1,8,[.nilFunc]⟩),
 (256,⟨.other,1,8,[.nilFunc]⟩),
 (257,⟨.st [(0,26),(4,23),(6,3)] [],7,72,[.int .i64 0,.int .i64 0,.int .i64 0,.slice none 0 0,.int .i64 0,.int .i64 0,.int .i64 0]⟩),
 (258,⟨.st [(0,26),(4,23),(6,3)] [],7,72,[.int .i64 0,.int .i64 0,.int .i64 0,.slice none 0 0,.int .i64 0,.int .i64 0,.int .i64 0]⟩),
 (259,⟨.other,1,8,[.nilFunc]⟩),
 (260,⟨.other,1,8,[.nilFunc]⟩),
 (261,⟨.other,1,8,[.nilFunc]⟩),
 (262,⟨.other,1,8,[.pointer none]⟩),
 (263,⟨.other,1,8,[.nilFunc]⟩),
 (264,⟨.other,1,8,[.nilFunc]⟩),
 (265,⟨.other,1,8,[.nilFunc]⟩),
 (266,⟨.other,1,8,[.nilFunc]⟩),
 (267,⟨.other,1,8,[.nilFunc]⟩),
 (268,⟨.mp 3 193,1,8,[.map none]⟩),
 (269,⟨.st [(0,190),(8,268),(9,3)] [],10,128,[.slice none 0 0,.slice none 0 0,.int .i64 0,.slice none 0 0,.int .i64 0,.int .i64 0,.int .i64 0,.int .i64 0,.map none,.int .i64 0]⟩),
 (270,⟨.st [(0,190),(8,268),(9,3)] [],10,128,[.slice none 0 0,.slice none 0 0,.int .i64 0,.slice none 0 0,.int .i64 0,.int .i64 0,.int .i64 0,.int .i64 0,.map none,.int .i64 0]⟩),
 (272,⟨.other,1,8,[.nilFunc]⟩),
 (273,⟨.other,1,8,[.nilFunc]⟩),
 (274,⟨.other,1,8,[.nilFunc]⟩),
 (275,⟨.other,1,8,[.pointer none]⟩),
 (277,⟨.other,1,8,[.nilFunc]⟩),
 (278,⟨.other,1,8,[.nilFunc]⟩),
 (279,⟨.other,1,8,[.nilFunc]⟩),
 (280,⟨.st [(0,190),(8,184)] [],12,144,[.slice none 0 0,.slice none 0 0,.int .i64 0,.slice none 0 0,.int .i64 0,.int .i64 0,.int .i64 0,.int .i64 0,.int .i64 0,.int .i64 0,.int .i64 0,.int .i64 0]⟩),
 (281,⟨.st [(0,190),(8,184)] [],12,144,[.slice none 0 0,.slice none 0 0,.int .i64 0,.slice none 0 0,.int .i64 0,.int .i64 0,.int .i64 0,.int .i64 0,.int .i64 0,.int .i64 0,.int .i64 0,.int .i64 0]⟩),
 (283,⟨.other,1,8,[.nilFunc]⟩),
 (284,⟨.other,1,8,[.pointer none]⟩),
 (285,⟨.st [(0,50)] [],1,24,[.slice none 0 0]⟩),
 (286,⟨.st [(0,50)] [],1,24,[.slice none 0 0]⟩),
 (287,⟨.other,1,8,[.nilFunc]⟩),
 (288,⟨.other,1,8,[.nilFunc]⟩),
 (289,⟨.other,1,8,[.nilFunc]⟩),
 (290,⟨.other,1,8,[.nilFunc]⟩),
 (291,⟨.other,1,8,[.nilFunc]⟩),
 (292,⟨.st [(0,291)] [],1,8,[.nilFunc]⟩),
 (293,⟨.st [(0,291)] [],1,8,[.nilFunc]⟩),
 (294,⟨.other,1,8,[.nilFunc]⟩),
 (295,⟨.other,1,8,[.nilFunc]⟩),
 (296,⟨.other,1,8,[.nilFunc]⟩),
 (298,⟨.other,1,8,[.nilFunc]⟩),
 (299,⟨.other,1,8,[.nilFunc]⟩),
 (300,⟨.other,1,8,[.nilFunc]⟩),
 (301,⟨.other,1,8,[.nilFunc]⟩),
 (303,⟨.other,1,8,[.nilFunc]⟩),
 (304,⟨.other,1,8,[.nilFunc]⟩),
 (305,⟨.other,1,8,[.nilFunc]⟩),
 (306,⟨.ar 7 3,7,56,[.int .i64 0,.int .i64 0,.int .i64 0,.int .i64 0,.int .i64 0,.int .i64 0,.int .i64 0]⟩),
 (307,⟨.other,1,8,[.nilFunc]⟩),
 (308,⟨.sl 184,1,24,[.slice none 0 0]⟩),
 (309,⟨.other,1,8,[.nilFunc]⟩),
 (310,⟨.sl 50,1,24,[.slice none 0 0]⟩),
 (311,⟨.other,1,8,[.nilFunc]⟩),
 (312,⟨.other,1,8,[.nilFunc]⟩),
 (313,⟨.other,1,8,[.nilFunc]⟩),
 (314,⟨.ar 8 4,8,8,[.bool false,.bool false,.bool false,.bool false,.bool false,.bool false,.bool false,.bool false]⟩),
 (315,⟨.other,1,8,[.nilFunc]⟩),
 (316,⟨.other,1,8,[.nilFunc]⟩),
 (317,⟨.st [(0,3)] [.int .i64],1,8,[.int .i64 0]⟩),
 (318,⟨.st [(0,3)] [.int .i64],1,8,[.int .i64 0]⟩),
 (319,⟨.other,1,8,[.nilFunc]⟩),
 (320,⟨.other,1,8,[.nilFunc]⟩),
 (321,⟨.other,1,8,[.nilFunc]⟩),
 (322,⟨.other,1,8,[.pointer none]⟩),
 (323,⟨.st [(0,78)] [],2,32,[.int .i64 0,.slice none 0 0]⟩),
 (324,⟨.st [(0,78)] [],2,32,[.int .i64 0,.slice none 0 0]⟩),
 (325,⟨.st [(0,133),(7,324)] [],9,120,[.int .i64 0,.int .i64 0,.int .i64 0,.int .i64 0,.int .i64 0,.slice none 0 0,.slice none 0 0,.int .i64 0,.slice none 0 0]⟩),
 (326,⟨.st [(0,133),(7,324)] [],9,120,[.int .i64 0,.int .i64 0,.int .i64 0,.int .i64 0,.int .i64 0,.slice none 0 0,.slice none 0 0,.int .i64 0,.slice none 0 0]⟩),
 (327,⟨.other,1,8,[.nilFunc]⟩),
 (328,⟨.other,1,8,[.nilFunc]⟩),
 (329,⟨.other,1,8,[.nilFunc]⟩),
 (330,⟨.other,1,8,[.nilFunc]⟩),
 (331,⟨.other,1,8,[.nilFunc]⟩),
 (332,⟨.other,1,8,[.nilFunc]⟩),
 (333,⟨.other,1,8,[.nilFunc]⟩),
 (334,⟨.other,1,8,[.nilFunc]⟩),
 (335,⟨.other,1,8,[.nilFunc]⟩),
 (336,⟨.other,1,8,[.nilFunc]⟩),
 (337,⟨.other,1,8,[.nilFunc]⟩),
 (338,⟨.other,1,8,[.nilFunc]⟩),
 (339,⟨.other,1,8,[.nilFunc]⟩),
 (340,⟨.other,1,8,[.nilFunc]⟩),
 (341,⟨.other,1,8,[.nilFunc]⟩),
 (342,⟨.other,1,8,[.nilFunc]⟩),
 (343,⟨.other,1,8,[.nilFunc]⟩),
 (344,⟨.other,1,8,[.nilFunc]⟩),
 (345,⟨.other,1,8,[.nilFunc]⟩),
 (346,⟨.other,1,8,[.nilFunc]⟩),
 (347,⟨.other,1,8,[.nilFunc]⟩),
 (348,⟨.other,1,8,[.nilFunc]⟩),
 (349,⟨.other,1,8,[.nilFunc]⟩),
 (350,⟨.int .u64,1,8,[.int .u64 0]⟩),
 (351,⟨.other,1,8,[.nilFunc]⟩),
 (352,⟨.other,1,8,[.nilFunc]⟩),
 (353,⟨.other,1,8,[.nilFunc]⟩),
 (354,⟨.other,1,8,[.nilFunc]⟩),
 (355,⟨.ar 24 5,24,24,[.int .u8 0,.int .u8 0,.int .u8 0,.int .u8 0,.int .u8 0,.int .u8 0,.int .u8 0,.int .u8 0,.int .u8 0,.int .u8 0,.int .u8 0,.int .u8 0,.int .u8 0,.int .u8 0,.int .u8 0,.int .u8 0,.int .u8 0,.int .u8 0,.int .u8 0,.int .u8 0,.int .u8 0,.int .u8 0,.int .u8 0,.int .u8 0]⟩),
 (356,⟨.int .u64,1,8,[.int .u64 0]⟩),
 (357,⟨.other,1,8,[.nilFunc]⟩),
 (358,⟨.other,1,8,[.nilFunc]⟩),
 (360,⟨.other,1,8,[.nilFunc]⟩),
 (361,⟨.other,1,8,[.nilFunc]⟩),
 (362,⟨.other,1,8,[.nilFunc]⟩),
 (363,⟨.other,1,8,[.nilFunc]⟩),
 (364,⟨.other,1,8,[.nilFunc]⟩),
 (365,⟨.int .i64,1,8,[.int .i64 0]⟩),
 (367,⟨.other,1,8,[.nilFunc]⟩),
 (368,⟨.other,1,8,[.pointer none]⟩),
 (369,⟨.other,1,8,[.nilFunc]⟩),
 (370,⟨.other,1,8,[.nilFunc]⟩),
 (371,⟨.other,1,8,[.pointer none]⟩),
 (372,⟨.other,1,8,[.nilFunc]⟩),
 (373,⟨.other,1,8,[.nilFunc]⟩),
 (374,⟨.ar 3 327,3,24,[.nilFunc,.nilFunc,.nilFunc]⟩),
 (375,⟨.other,1,8,[.nilFunc]⟩),
 (376,⟨.other,1,8,[.nilFunc]⟩),
 (377,⟨.other,1,8,[.nilFunc]⟩),
 (378,⟨.other,1,8,[.nilFunc]⟩),
 (379,⟨.other,1,8,[.nilFunc]⟩),
 (380,⟨.other,1,8,[.nilFunc]⟩),
 (381,⟨.other,1,8,[.nilFunc]⟩),
 (382,⟨.other,1,8,[.nilFunc]⟩),
 (383,⟨.other,1,8,[.nilFunc]⟩),
 (384,⟨.other,1,8,[.nilFunc]⟩),
 (385,⟨.ar 20 356,20,160,[.int .u64 0,.int .u64 0,.int .u64 0,.int .u64 0,.int .u64 0,.int .u64 0,.int .u64 0,.int .u64 0,.int .u64 0,.int .u64 0,.int .u64 0,.int .u64 0,.int .u64 0,.int .u64 0,.int .u64 0,.int .u64 0,.int .u64 0,.int .u64 0,.int .u64 0,.int .u64 0]⟩),
 (386,⟨.int .u32,1,4,[.int .u32 0]⟩),
 (387,⟨.ar 65 5,65,65,[.int .u8 0,.int .u8 0,.int .u8 0,.int .u8 0,.int .u8 0,.int .u8 0,.int .u8 0,.int .u8 0,.int .u8 0,.int .u8 0,.int .u8 0,.int .u8 0,.int .u8 0,.int .u8 0,.int .u8 0,.int .u8 0,.int .u8 0,.int .u8 0,.int .u8 0,.int .u8 0,.int .u8 0,.int .u8 0,.int .u8 0,.int .u8 0,.int .u8 0,.int .u8 0,.int .u8 0,.int .u8 0,.int .u8 0,.int .u8 0,.int .u8 0,.int .u8 0,.int .u8 0,.int .u8 0,.int .u8 0,.int .u8 0,.int .u8 0,.int .u8 0,.int .u8 0,.int .u8 0,.int .u8 0,.int .u8 0,.int .u8 0,.int .u8 0,.int .u8 0,.int .u8 0,.int .u8 0,.int .u8 0,.int .u8 0,.int .u8 0,.int .u8 0,.int .u8 0,.int .u8 0,.int .u8 0,.int .u8 0,.int .u8 0,.int .u8 0,.int .u8 0,.int .u8 0,.int .u8 0,.int .u8 0,.int .u8 0,.int .u8 0,.int .u8 0,.int .u8 0]⟩),
 (388,⟨.other,1,8,[.nilFunc]⟩),
 (390,⟨.st [(0,5),(1,5)] [.int .u8,.int .u8],2,2,[.int .u8 0,.int .u8 0]⟩),
 (391,⟨.st [(0,5),(1,5)] [.int .u8,.int .u8],2,2,[.int .u8 0,.int .u8 0]⟩),
 (392,⟨.ar 16 391,32,32,[.int .u8 0,.int .u8 0,.int .u8 0,.int .u8 0,.int .u8 0,.int .u8 0,.int .u8 0,.int .u8 0,.int .u8 0,.int .u8 0,.int .u8 0,.int .u8 0,.int .u8 0,.int .u8 0,.int .u8 0,.int .u8 0,.int .u8 0,.int .u8 0,.int .u8 0,.int .u8 0,.int .u8 0,.int .u8 0,.int .u8 0,.int .u8 0,.int .u8 0,.int .u8 0,.int .u8 0,.int .u8 0,.int .u8 0,.int .u8 0,.int .u8 0,.int .u8 0]⟩),
 (394,⟨.other,1,8,[.nilFunc]⟩),
 (395,⟨.other,1,8,[.nilFunc]⟩),
 (397,⟨.other,1,8,[.nilFunc]⟩),
 (398,⟨.other,1,8,[.nilFunc]⟩),
 (400,⟨.other,1,8,[.nilFunc]⟩),
 (401,⟨.st [(0,9),(1,9),(2,101)] [],3,48,[.string ByteArray.empty,.string ByteArray.empty,.nilIface]⟩),
 (402,⟨.st [(0,9),(1,9),(2,101)] [],3,48,[.string ByteArray.empty,.string ByteArray.empty,.nilIface]⟩),
 (403,⟨.other,1,8,[.nilFunc]⟩),
 (404,⟨.other,1,8,[.nilFunc]⟩),
 (405,⟨.other,1,8,[.nilFunc]⟩),
 (406,⟨.other,1,8,[.nilFunc]⟩),
 (407,⟨.other,1,8,[.nilFunc]⟩),
 (408,⟨.other,1,8,[.nilFunc]⟩),
 (409,⟨.ar 3 3,3,24,[.int .i64 0,.int .i64 0,.int .i64 0]⟩),
 (410,⟨.other,1,8,[.nilFunc]⟩),
 (411,⟨.other,1,8,[.nilFunc]⟩),
 (412,⟨.other,1,8,[.nilFunc]⟩),
 (413,⟨.other,1,8,[.nilFunc]⟩),
 (414,⟨.other,1,8,[.nilFunc]⟩),
 (415,⟨.other,1,8,[.nilFunc]⟩),
 (416,⟨.other,1,8,[.nilFunc]⟩),
 (417,⟨.other,1,8,[.pointer none]⟩),
 (418,⟨.st [(0,9)] [.str],1,16,[.string ByteArray.empty]⟩),
 (419,⟨.st [(0,9)] [.str],1,16,[.string ByteArray.empty]⟩),
 (420,⟨.other,1,8,[.nilFunc]⟩),
 (421,⟨.other,1,8,[.nilFunc]⟩),
 (422,⟨.other,1,8,[.nilFunc]⟩),
 (423,⟨.other,1,8,[.nilFunc]⟩),
 (424,⟨.ar 32 5,32,32,[.int .u8 0,.int .u8 0,.int .u8 0,.int .u8 0,.int .u8 0,.int .u8 0,.int .u8 0,.int .u8 0,.int .u8 0,.int .u8 0,.int .u8 0,.int .u8 0,.int .u8 0,.int .u8 0,.int .u8 0,.int .u8 0,.int .u8 0,.int .u8 0,.int .u8 0,.int .u8 0,.int .u8 0,.int .u8 0,.int .u8 0,.int .u8 0,.int .u8 0,.int .u8 0,.int .u8 0,.int .u8 0,.int .u8 0,.int .u8 0,.int .u8 0,.int .u8 0]⟩),
 (425,⟨.ar 64 5,64,64,[.int .u8 0,.int .u8 0,.int .u8 0,.int .u8 0,.int .u8 0,.int .u8 0,.int .u8 0,.int .u8 0,.int .u8 0,.int .u8 0,.int .u8 0,.int .u8 0,.int .u8 0,.int .u8 0,.int .u8 0,.int .u8 0,.int .u8 0,.int .u8 0,.int .u8 0,.int .u8 0,.int .u8 0,.int .u8 0,.int .u8 0,.int .u8 0,.int .u8 0,.int .u8 0,.int .u8 0,.int .u8 0,.int .u8 0,.int .u8 0,.int .u8 0,.int .u8 0,.int .u8 0,.int .u8 0,.int .u8 0,.int .u8 0,.int .u8 0,.int .u8 0,.int .u8 0,.int .u8 0,.int .u8 0,.int .u8 0,.int .u8 0,.int .u8 0,.int .u8 0,.int .u8 0,.int .u8 0,.int .u8 0,.int .u8 0,.int .u8 0,.int .u8 0,.int .u8 0,.int .u8 0,.int .u8 0,.int .u8 0,.int .u8 0,.int .u8 0,.int .u8 0,.int .u8 0,.int .u8 0,.int .u8 0,.int .u8 0,.int .u8 0,.int .u8 0]⟩),
 (426,⟨.other,1,8,[.nilFunc]⟩),
 (427,⟨.st [(0,17),(1,17),(2,17),(3,9)] [],4,40,[.pointer none,.pointer none,.pointer none,.string ByteArray.empty]⟩),
 (428,⟨.st [(0,17),(1,17),(2,17),(3,9)] [],4,40,[.pointer none,.pointer none,.pointer none,.string ByteArray.empty]⟩),
 (429,⟨.ar 0 16,0,0,[]⟩),
 (430,⟨.st [(0,429)] [],0,0,[]⟩),
 (431,⟨.st [(0,429)] [],0,0,[]⟩),
 (432,⟨.int .u8,1,1,[.int .u8 0]⟩),
 (433,⟨.int .u8,1,1,[.int .u8 0]⟩),
 (434,⟨.other,1,8,[.nilFunc]⟩),
 (435,⟨.int .i32,1,4,[.int .i32 0]⟩),
 (436,⟨.int .i32,1,4,[.int .i32 0]⟩),
 (437,⟨.st [(0,12),(1,12),(2,386),(3,432),(4,5),(5,5),(6,433),(7,434),(8,129),(9,435),(10,436)] [],11,48,[.int .u64 0,.int .u64 0,.int .u32 0,.int .u8 0,.int .u8 0,.int .u8 0,.int .u8 0,.nilFunc,.pointer none,.int .i32 0,.int .i32 0]⟩),
 (438,⟨.st [(0,12),(1,12),(2,386),(3,432),(4,5),(5,5),(6,433),(7,434),(8,129),(9,435),(10,436)] [],11,48,[.int .u64 0,.int .u64 0,.int .u32 0,.int .u8 0,.int .u8 0,.int .u8 0,.int .u8 0,.nilFunc,.pointer none,.int .i32 0,.int .i32 0]⟩)]
set_option maxRecDepth 100000 in
theorem zqI:tab.map (fun p=>tiOf Tryz.prog p.1)=tab.map (fun p=>some p.2):=by kernel_rfl
theorem znj:tab.all (fun p=>zjU p.2)=true:=by kernel_rfl
def Tt:TT:=fun T=>lk T tab
theorem hTt:Tt.ok Tryz.prog:=zqH zqI znj
theorem hMix:Tryz.prog.follows .mixedOrders=true:=by kernel_rfl
end Go.Proofs.YtnkhljdifljdbaaGreatDoor
namespace Go.Proofs.YtnkhljdifljdbaaGreatDoor
open Go Go.QL
theorem zay {p:Prop} (h:p):Gd none p:=h
theorem ze {gd:Option Bool} {p:Prop} (h:p):Gd gd p:=by
 cases gd with
 | none=>exact h
 | some c=>exact fun _=>h
theorem zqb {c:Bool}:Gd (some c) (c=true):=fun h=>h
theorem zax {c:Bool} {p:Prop} (h:c=true→p):Gd (some c) p:=h
theorem zn {α β : Type} {f : α→β} {l:List α} {i:Nat} (h:i < l.length):(l.map f)[((i:Int)).toNat]?=some (f l[i]):=by
 simp [h]
theorem zh {α β : Type} {f : α→β} {l:List α} {n:Int} (h0:0≤n) (h:n.toNat < l.length):(l.map f)[n.toNat]?=some (f (l[n.toNat]'h)):=by
 simp [h]
theorem map_some {α β : Type} {f : α→β} {l:List α} {i:Nat} {x : α} (h:l[i]?=some x):(l.map f)[((i:Int)).toNat]?=some (f x):=by simp [h]
theorem zgb {α β : Type} {f : α→β} {l:List α} {i:Int} {x : α} (h:l[i.toNat]?=some x):(l.map f)[i.toNat]?=some (f x):=by simp [h]
theorem andA {p q:Prop} (hq:q) (hp:p:=by first|exact trivial|rfl|exact zqb|exact ze (by omega)|exact fun h=>h|decide|(constructor <;> simp [zO,maxLen];done)|(intro h;simpa using h)):p∧q:=⟨hp,hq⟩
theorem ivE {k:IntKind} {a b:Int} (h:a=b):some (iv k a)=some (iv k b):=by rw [h]
theorem oE {c st n m:Nat} (h:n=m):some (AV.x (.o c st n))=some (AV.x (.o c st m)):=by rw [h]
theorem chE {e:TypeId} {sz st:Nat} {l m:List (List PV)} (h:l=m):some (Ob.chain e sz st l)=some (Ob.chain e sz st m):=by rw [h]
theorem impA {Γ:Cx} {fr fr':Fr} {σ σ':Sg}
  (hf:SubF fr fr':=by repeat' (first|exact trivial|refine And.intro ?_ ?_|exact chE (by assumption)|rfl|exact ivE (by first|omega|(simp only [List.length_map,List.length_append,List.length_singleton] <;> omega))|exact oE (by first|omega|(simp only [List.length_map,List.length_append,List.length_singleton] <;> omega))))
  (hs:SubS σ σ':=by repeat' (first|exact trivial|refine And.intro ?_ ?_|exact chE (by assumption)|rfl|exact ivE (by first|omega|(simp only [List.length_map,List.length_append,List.length_singleton] <;> omega))|exact oE (by first|omega|(simp only [List.length_map,List.length_append,List.length_singleton] <;> omega))))
  (hr:(rsFr σ' fr' && rsSg σ' σ')=true:=by kernel_rfl) (hB:zbC Γ.ids σ'=true:=by kernel_rfl) (hD:ziL Γ.dfs σ σ'=true:=by kernel_rfl):Imp Γ fr σ fr' σ':=Imp.forget hf hs hr hB hD
def asc (l:List (Nat × Nat)) (i:Nat):Nat:=match lk i l with
 | some j=>j
 | none=>i
def sl (l:List Int):AV:=.x (.d (.s 1 (l.map fun n=>[.v (.int .i64 n)])))
def zR (l:List Int):PV:=.s 1 (l.map fun n=>[.v (.int .i64 n)])
def i64 (n:Int):Prop:=-9223372036854775808≤n∧n≤9223372036854775807
end Go.Proofs.YtnkhljdifljdbaaGreatDoor
namespace Go.Proofs.YtnkhljdifljdbaaGreatDoor
open Go Go.QL
section
variable {P:Program} {Γ:Cx} {fr:Fr} {σ:Sg} {Q:Exit→Fr→Sg→Prop}
theorem zaf {b:Bool} {P:Prop} (h:b=true):b=false→P:=fun e=>by rw [h] at e;cases e
theorem zM {b:Bool} {P:Prop} (h:b=false):b=true→P:=fun e=>by rw [h] at e;cases e
theorem zu {a b:Bool} (h1:a=true) (h2:b=true):(a && b)=true:=by rw [h1,h2];rfl
theorem zw {a b:Bool} (h1:a=true) (h2:b=false):(a && !b)=true:=by rw [h1,h2];rfl
theorem zx {a b:Bool} (h1:a=false) (h2:b=false):(!a && !b)=true:=by rw [h1,h2];rfl
theorem zE {b:Bool} (h:b=false):(!b)=true:=by rw [h];rfl
theorem zso {c:Operand} {x y:Code} {b:Bool} {p q:Prop} (hc:ev fr c=some (none,bv b)) (ht:p→AW P Γ x Q fr σ) (hf:q→AW P Γ y Q fr σ)
  (hp:b=true→p:=by intro h;first|(replace h:=of_decide_eq_true h;(try simp only [List.length_map] at h);exact h)|(simp only [List.length_map,bne_iff_ne,ne_eq,beq_iff_eq,bne_eq_false_iff_eq,beq_eq_false_iff_ne,decide_eq_true_eq,decide_eq_false_iff_not,Bool.not_eq_true',Bool.not_eq_false',Int.natCast_inj] at h;exact h)|exact h)
  (hq:b=false→q:=by intro h;first|(replace h:=of_decide_eq_false h;(try simp only [List.length_map] at h);exact h)|(simp only [List.length_map,bne_iff_ne,ne_eq,beq_iff_eq,bne_eq_false_iff_eq,beq_eq_false_iff_ne,decide_eq_true_eq,decide_eq_false_iff_not,Bool.not_eq_true',Bool.not_eq_false',Int.natCast_inj] at h;exact h)|exact h):AW P Γ (.cond c x y) Q fr σ:=
 za hc (fun h=>ht (hp h)) (fun h=>hf (hq h))
theorem zst {c:Operand} {x y:Code} (hc:ev fr c=some (none,bv true)) (h:AW P Γ x Q fr σ):AW P Γ (.cond c x y) Q fr σ:=za hc (fun _=>h) (fun e=>nomatch e)
theorem zss {c:Operand} {x y:Code} (hc:ev fr c=some (none,bv false)) (h:AW P Γ y Q fr σ):AW P Γ (.cond c x y) Q fr σ:=za hc (fun e=>nomatch e) (fun _=>h)
theorem zsu {c:Operand} {x y:Code} {b:Bool} (hc:ev fr c=some (none,bv b)) (h:AW P Γ x Q fr σ) (hb:¬(b=false):=by decide):AW P Γ (.cond c x y) Q fr σ:=za hc (fun _=>h) (fun e=>absurd e hb)
theorem zsv {c:Operand} {x y:Code} {b:Bool} (hc:ev fr c=some (none,bv b)) (h:AW P Γ y Q fr σ) (hb:¬(b=true):=by decide):AW P Γ (.cond c x y) Q fr σ:=za hc (fun e=>absurd e hb) (fun _=>h)
theorem zsq {n:Int} {G:Int→Prop} (hG:G n) (h : -9223372036854775808≤n∧n≤9223372036854775807:=by first|omega|(simp only [List.length_map];omega)):∃ r,IntKind.i64.wrap n=r∧G r:=⟨n,zg h,hG⟩
theorem lnA {p q G:Prop} (h:q→G) (e:p=q:=by conv=>{ lhs;(first|rewrite [List.length_map]|skip);unfold maxLen } <;> exact rfl):p→G:=fun x=>h (e ▸ x)
theorem pkA {p q:Prop} (hq:q) (hp:p:=by first|(exact trivial)|(exact fun h=>h)|(exact zu)|(exact zw)|(exact zx)|(exact zE)|(exact fun h _=>h)):p∧q:=⟨hp,hq⟩
theorem abA {p G:Prop} (h:p) (n:¬p:=by omega):G:=absurd h n
theorem zsn {f:FuncId} {args:List AV} {r:AV} {G:AV→Sg→Prop} (h:FnC P f args r) (hG:G r σ) (hp:args.all zf6=true:=by exact rfl) (hr:zf6 r=true:=by exact rfl) :
  ∃ R,ACall P f args σ R∧∀ rv σ',R rv σ'→G rv σ':=⟨_,h.call hp hr,by rintro _ _ ⟨rfl,rfl⟩;exact hG⟩
theorem zsp {ι : Sort _} {s : ι→Sg} {f:FuncId} {args:List AV} {r:AV} {G:AV→Prop} (h:FnC P f args r) (hG:G r) (hp:args.all zf6=true:=by exact rfl) (hr:zf6 r=true:=by exact rfl) :
  ∃ rv,(∀ i : ι,ACall P f args (s i) fun r' σ'=>r'=rv∧σ'=s i)∧G rv:=⟨_,fun _=>h.call hp hr,hG⟩
theorem frA {f:FuncId} {args args':List AV} {σ0 σ1:Sg} {r1:AV} {G:AV→Sg→Prop} (h:ACall P f args σ0 fun r σ'=>r=r1∧σ'=σ1) (l:List (Nat × Nat)) (hG:G (rnAV (asc l) r1) (after (asc l) σ0 σ1 σ))
  (ha:args.map (rnAV (asc l))=args':=by exact rfl) (hl:SubR (asc l) σ σ0:=by repeat (first|exact trivial|refine⟨rfl,?_⟩)) (hc:(args.all (zeR σ0) && rsSg σ0 σ0 && injK (asc l) (σ0.map (·.1)))=true:=by exact rfl)
  (hn:zdN (asc l) σ0 σ1 σ=true:=by exact rfl):∃ R,ACall P f args' σ R∧∀ rv σ',R rv σ'→G rv σ':=
 ⟨_,ha ▸ h.frame (asc l) hl hc (by rintro _ _ ⟨rfl,rfl⟩;exact hn),by rintro _ _ ⟨_,_,⟨rfl,rfl⟩,rfl,rfl⟩;exact hG⟩
theorem exA {α β : Type} {f : α→β} {l:List α} {i:Nat} {gd:Option Bool} {p:Prop} {G : β→Prop} (hG:∀ h:i < l.length,G (f (l[i]'h))) (h:i < l.length:=by omega) (hp:p:=by omega) :
  ∃ x,Gd gd (p∧(l.map f)[((i:Int)).toNat]?=some x)∧G x:=⟨_,ze ⟨hp,zn h⟩,hG h⟩
end
theorem regA {Γ:Cx} {fr:Fr} {σ:Sg} {Q:Exit→Fr→Sg→Prop} {id:Nat} {ops:List Oper} (h:zah Tryz.prog Tt Γ.nt ops (Q .normal) ops fr σ):AW Tryz.prog Γ (.region id ops.toArray false) Q fr σ:=zb hTt h
theorem drA {Γ:Cx} {fr:Fr} {σ:Sg} {Q:Exit→Fr→Sg→Prop} (m:Nat) (ob:Bool) (ms:List Nat) {id:Nat} {ops:List Oper} (h:vcDr Tryz.prog Tt Γ.nt ops ob ms fr σ (fun fr' σ'=>zah Tryz.prog Tt Γ.nt ops (Q .normal) (ops.drop m) fr' σ') (ops.take m) [] 0 fr σ)
  (hms:zbe ms m ops 0=true:=by kernel_rfl) (hlen:Nat.ble m ops.length=true:=by exact rfl) (hds:zc2 (ops.take m) []=true:=by exact rfl) (hrd:zcn ops ms (ops.take m) (ops.take m) 0=true:=by kernel_rfl):AW Tryz.prog Γ (.region id ops.toArray true) Q fr σ:=
 zl hTt hMix m ob ms hms hlen hds hrd h
theorem drM {Γ:Cx} {fr:Fr} {σ:Sg} {Q:Exit→Fr→Sg→Prop} (m:Nat) (ls:List Nat) (ob:Bool) (ms:List Nat) {id:Nat} {ops:List Oper} {om:Oper}
  (h:vcDr Tryz.prog Tt Γ.nt ops ob ms fr σ (fun fr' σ'=>zah Tryz.prog Tt Γ.nt ops (fun fr2 σ2=>LateGo om.dst fr2 (zcj (zcx ops ls) fr') fun v=>
   zfQ Tryz.prog Tt Γ.nt ops fr' σ2 (zah Tryz.prog Tt Γ.nt ops (Q .normal) (ops.drop (m+1)) (zbl om.dst v fr') σ2) ls) [om] (zcj (zcx ops ls) fr') σ') (ops.take m) [] 0 fr σ)
  (hms:zbe ms (m+1) ops 0=true:=by kernel_rfl) (hlen:Nat.ble (m+1) ops.length=true:=by exact rfl) (hds:zc2 (ops.take (m+1)) []=true:=by exact rfl) (hrd:zcn ops ms (ops.take m) (ops.take m) 0=true:=by kernel_rfl)
  (hom:ops[m]?=some om:=by exact rfl) (hmm:((List.range m).all fun b=>Nat.testBit (ms.getD m 0) b || ls.any (Nat.beq b))=true:=by kernel_rfl) (hls:zj8 ops ms m om.dst ls=true:=by kernel_rfl):AW Tryz.prog Γ (.region id ops.toArray true) Q fr σ:=
 zW hTt hMix m ls ob ms om hms hlen hds hrd hom hmm hls h
theorem hdC {f:FuncId} {fn:Func} {c:Code} {args:List AV} {r:AV} {res:List ResultVar} {nt:Nat} {fr:Fr} (hf:Tryz.prog.funcs[f]?=some fn) (hnt:fn.ntmps=nt)
  (h:∀ w0 K0,AW Tryz.prog (Cx.lone w0 K0 nt) c (Post Tt res r) fr []) (hb:fn.body=some c:=by exact rfl) (hname:(fn.name == "runtime.NumGoroutine")=false:=by kernel_rfl) (hres:fn.results=res.toArray:=by exact rfl) (hle:args.length≤nt:=by simp) (he:entry 0 args=fr:=by dsimp only [entry] <;> exact rfl):FnC Tryz.prog f args r:=
 zj hTt hf hb hname hres hnt hle fun w0 K0=>he ▸ h w0 K0
theorem hdD {f:FuncId} {fn:Func} {c:Code} {args:List AV} {σ:Sg} {R:AV→Sg→Prop} {res:List ResultVar} {nt:Nat} {fr:Fr} (hf:Tryz.prog.funcs[f]?=some fn) (hnt:fn.ntmps=nt)
  (h:∀ w0 K0 B,AW Tryz.prog ⟨w0,K0,nt,B,σ.map (·.1),none,[],[]⟩ c (zqs Tt res (σ.map (·.1)) R) fr σ) (hb:fn.body=some c:=by exact rfl) (hname:(fn.name == "runtime.NumGoroutine")=false:=by kernel_rfl) (hres:fn.results=res.toArray:=by exact rfl) (hle:args.length≤nt:=by simp) (he:entry 0 args=fr:=by dsimp only [entry] <;> exact rfl):ACall Tryz.prog f args σ R:=
 zp hTt hf hb hname hres hnt hle fun w0 K0 B=>he ▸ h w0 K0 B
theorem zsw {p:Prop} (h:p:=by first|rfl|exact ivE (by first|omega|(simp only [List.length_map,List.length_append,List.length_singleton] <;> omega))|exact oE (by first|omega|(simp only [List.length_map,List.length_append,List.length_singleton] <;> omega))):p:=h
theorem impX {Γ:Cx} {fr fr':Fr} {σ σ':Sg} (h:SubF fr fr'∧SubS σ σ') (hr:(rsFr σ' fr' && rsSg σ' σ')=true:=by kernel_rfl) (hB:zbC Γ.ids σ'=true:=by kernel_rfl) (hD:ziL Γ.dfs σ σ'=true:=by kernel_rfl):Imp Γ fr σ fr' σ':=Imp.forget h.1 h.2 hr hB hD
end Go.Proofs.YtnkhljdifljdbaaGreatDoor
namespace FoT
structure FNode where
 kind:Int
 var:Int
 num:Int
 places:Int
deriving DecidableEq
abbrev Bs8:=List UInt8
def zaM (c:UInt8):Bool:=(97≤c && c≤122) || (65≤c && c≤90) || (48≤c && c≤57) || c == 95 || c == 46
def zc7:Option (Nat × Bs8)→List (Nat × Bs8)
 | none=>[]
 | some p=>[p]
def tk:Nat→Option (Nat × Bs8)→Bs8→List (Nat × Bs8)
 | at_,st,[]=>zc7 st ++ [(at_,[])]
 | at_,st,c::r=>
  if zaM c then
   match st with
   | none=>tk (at_+1) (some (at_,[c])) r
   | some (a,w)=>tk (at_+1) (some (a,w ++ [c])) r
  else zc7 st ++ (if c=32 then [] else [(at_,[c])]) ++ tk (at_+1) none r
structure PS where
 toks:List (Nat × Bs8)
 vars:List Bs8
 code:List FNode
deriving DecidableEq
def zg2 (first:Bool) (c:UInt8):Bool:=(97≤c && c≤122) || (!first && ((48≤c && c≤57) || c == 95))
def z7:Bool→Bs8→Bool
 | _,[]=>true
 | f,c::r=>zg2 f c && z7 false r
def zbb (l:Bs8):Bool:=decide (1≤l.length) && decide (l.length≤20) && !(l.getLastD 0 == 95) && z7 true l
def digs:Nat→Bs8→Option Nat
 | acc,[]=>some acc
 | acc,c::r=>if 48≤c.toNat∧c.toNat≤57 then digs (10 * acc+(c.toNat - 48)) r else none
def zaW (t:Bs8):Option FNode:=
 match t with
 | a::b::ds=>
  if a=48∧b=46∧1≤ds.length∧ds.length≤6 then
   match digs 0 ds with
   | some n=>if ds.length=1∨n % 10≠0 then some ⟨2,0,n,ds.length⟩ else none
   | none=>none
  else none
 | _=>none
def idxB:List Bs8→Bs8→Nat→Option Nat
 | [],_,_=>none
 | v::r,t,i=>if v=t then some i else idxB r t (i+1)
def zen (vars:List Bs8) (t:Bs8):Option (FNode × List Bs8):=
 if zbb t then
  match idxB vars t 0 with
  | some i=>some (⟨1,i,0,0⟩,vars)
  | none=>some (⟨1,vars.length,0,0⟩,vars ++ [t])
 else match zaW t with
  | some n=>some (n,vars)
  | none=>none
def opN (k:Int):FNode:=⟨k,0,0,0⟩
abbrev Rs:=Option (Except Nat PS)
mutual
def opM:Nat→PS→Rs
 | 0,_=>none
 | k+1,st=>
  match st.toks with
  | []=>some (.error 0)
  | (a,t)::rest=>
   if t=[40] then
    match sumM k ⟨rest,st.vars,st.code⟩ with
    | none=>none
    | some (.error e)=>some (.error e)
    | some (.ok st')=>
     match st'.toks with
     | []=>some (.error 0)
     | (a',t')::rest'=>if t'=[41] then some (.ok ⟨rest',st'.vars,st'.code⟩) else some (.error a')
   else match zen st.vars t with
    | none=>some (.error a)
    | some (n,vs)=>some (.ok ⟨rest,vs,st.code ++ [n]⟩)
def zaY:Nat→PS→Rs
 | 0,_=>none
 | k+1,st=>
  match opM k st with
  | none=>none
  | some (.error e)=>some (.error e)
  | some (.ok st')=>zcb k st'
def zcb:Nat→PS→Rs
 | 0,_=>none
 | k+1,st=>
  match st.toks with
  | []=>some (.error 0)
  | (_,t)::rest=>
   if t=[42] then
    match opM k ⟨rest,st.vars,st.code⟩ with
    | none=>none
    | some (.error e)=>some (.error e)
    | some (.ok st')=>zcb k ⟨st'.toks,st'.vars,st'.code ++ [opN 5]⟩
   else some (.ok st)
def sumM:Nat→PS→Rs
 | 0,_=>none
 | k+1,st=>
  match zaY k st with
  | none=>none
  | some (.error e)=>some (.error e)
  | some (.ok st')=>sumT k st'
def sumT:Nat→PS→Rs
 | 0,_=>none
 | k+1,st=>
  match st.toks with
  | []=>some (.error 0)
  | (_,t)::rest=>
   if t=[43]∨t=[45] then
    match zaY k ⟨rest,st.vars,st.code⟩ with
    | none=>none
    | some (.error e)=>some (.error e)
    | some (.ok st')=>sumT k ⟨st'.toks,st'.vars,st'.code ++ [opN (if t=[45] then 4 else 3)]⟩
   else some (.ok st)
end
theorem mono:∀ k:Nat,(∀ st r,opM k st=some r→opM (k+1) st=some r)∧(∀ st r,zaY k st=some r→zaY (k+1) st=some r)∧(∀ st r,zcb k st=some r→zcb (k+1) st=some r) ∧
  (∀ st r,sumM k st=some r→sumM (k+1) st=some r)∧∀ st r,sumT k st=some r→sumT (k+1) st=some r:=by
 intro k;induction k with
 | zero=>exact⟨fun _ _ h=>by simp [opM] at h,fun _ _ h=>by simp [zaY] at h,fun _ _ h=>by simp [zcb] at h,fun _ _ h=>by simp [sumM] at h,fun _ _ h=>by simp [sumT] at h⟩
 | succ k ih=>
  obtain⟨h1,h2,h3,h4,h5⟩:=ih;refine⟨fun st r h=>?_,fun st r h=>?_,fun st r h=>?_,fun st r h=>?_,fun st r h=>?_⟩
  ·rw [opM] at h ⊢;cases ht:st.toks with
   | nil=>rw [ht] at h;exact h
   | cons p rest=>
    obtain⟨a,t⟩:=p;rw [ht] at h;dsimp only at h ⊢;by_cases hc:t=[40]
    ·rw [if_pos hc] at h ⊢;cases hs:sumM k ⟨rest,st.vars,st.code⟩ with
     | none=>rw [hs] at h;cases h
     | some x=>rw [h4 _ _ hs];rw [hs] at h;exact h
    ·rw [if_neg hc] at h ⊢;exact h
  ·rw [zaY] at h ⊢;cases hs:opM k st with
   | none=>rw [hs] at h;cases h
   | some x=>
    rw [h1 _ _ hs];rw [hs] at h;cases x with
    | error e=>exact h
    | ok st'=>exact h3 _ _ h
  ·rw [zcb] at h ⊢;cases ht:st.toks with
   | nil=>rw [ht] at h;exact h
   | cons p rest=>
    obtain⟨a,t⟩:=p;rw [ht] at h;dsimp only at h ⊢;by_cases hc:t=[42]
    ·rw [if_pos hc] at h ⊢;cases hs:opM k ⟨rest,st.vars,st.code⟩ with
     | none=>rw [hs] at h;cases h
     | some x=>
      rw [h1 _ _ hs];rw [hs] at h;cases x with
      | error e=>exact h
      | ok st'=>exact h3 _ _ h
    ·rw [if_neg hc] at h ⊢;exact h
  ·rw [sumM] at h ⊢;cases hs:zaY k st with
   | none=>rw [hs] at h;cases h
   | some x=>
    rw [h2 _ _ hs];rw [hs] at h;cases x with
    | error e=>exact h
    | ok st'=>exact h5 _ _ h
  ·rw [sumT] at h ⊢;cases ht:st.toks with
   | nil=>rw [ht] at h;exact h
   | cons p rest=>
    obtain⟨a,t⟩:=p;rw [ht] at h;dsimp only at h ⊢;by_cases hc:t=[43]∨t=[45]
    ·rw [if_pos hc] at h ⊢;cases hs:zaY k ⟨rest,st.vars,st.code⟩ with
     | none=>rw [hs] at h;cases h
     | some x=>
      rw [h2 _ _ hs];rw [hs] at h;cases x with
      | error e=>exact h
      | ok st'=>exact h5 _ _ h
    ·rw [if_neg hc] at h ⊢;exact h
end FoT
namespace FoT
inductive E where
 | leaf (n:FNode)
 | op (k:Int) (a b:E)
def E.post:E→List FNode
 | .leaf n=>[n]
 | .op k a b=>a.post ++ (b.post ++ [opN k])
def E.binds:E→Nat
 | .leaf _=>3
 | .op k _ _=>if k=5 then 2 else 1
def zca (k:Int):Bs8:=if k=5 then [42] else if k=4 then [45] else [43]
def E.words (tx:FNode→Bs8):E→Nat→List Bs8
 | .leaf n,_=>[tx n]
 | .op k a b,w=>
  let m:=if k=5 then 2 else 1
  let t:=a.words tx m ++ (zca k::b.words tx (m+1))
  if w≤m then t else [40]::(t ++ [[41]])
abbrev wds (l:List (Nat × Bs8)):List Bs8:=l.map (·.2)
def E.good (V:List Bs8) (tx:FNode→Bs8):E→Nat→Nat→Prop
 | .leaf n,u,u'=>u'≤V.length∧tx n≠[40]∧zen (V.take u) (tx n)=some (n,V.take u')
 | .op k a b,u,u'=>(k=3∨k=4∨k=5)∧∃ m,a.good V tx u m∧b.good V tx m u'
section
variable {V:List Bs8} {tx:FNode→Bs8}
def Beg (ws:List Bs8) (toks rest:List (Nat × Bs8)):Prop:=∃ pre,toks=pre ++ rest∧wds pre=ws
theorem Beg.app {w1 w2:List Bs8} {toks rest:List (Nat × Bs8)} (h:Beg (w1 ++ w2) toks rest):∃ mid,Beg w1 toks mid∧Beg w2 mid rest:=by
 obtain⟨pre,rfl,hp⟩:=h;have h1:(pre.take w1.length).map (·.2)=w1:=by
  have:=congrArg (List.take w1.length) hp;simpa [List.map_take] using this
 have h2:(pre.drop w1.length).map (·.2)=w2:=by
  have:=congrArg (List.drop w1.length) hp;simpa [List.map_drop] using this
 exact⟨pre.drop w1.length ++ rest,⟨pre.take w1.length,by rw [← List.append_assoc,List.take_append_drop],h1⟩,⟨_,rfl,h2⟩⟩
theorem Beg.cons {w:Bs8} {ws:List Bs8} {toks rest:List (Nat × Bs8)} (h:Beg (w::ws) toks rest):∃ a mid,toks=(a,w)::mid∧Beg ws mid rest:=by
 obtain⟨pre,rfl,hp⟩:=h;cases pre with
 | nil=>cases hp
 | cons p r=>
  obtain⟨a,t⟩:=p;simp only [wds,List.map_cons,List.cons.injEq] at hp;obtain⟨rfl,hp⟩:=hp;exact⟨a,r ++ rest,rfl,r,rfl,hp⟩
theorem Beg.nil {toks rest:List (Nat × Bs8)} (h:Beg [] toks rest):toks=rest:=by
 obtain⟨pre,rfl,hp⟩:=h;cases pre with
 | nil=>rfl
 | cons _ _=>cases hp
end
end FoT
namespace FoT
def rowW (w:Bs8):Prop:=w≠[]∧∀ c ∈ w,zaM c=true
def E.rows (tx:FNode→Bs8):E→Prop
 | .leaf n=>rowW (tx n)
 | .op _ a b=>a.rows tx∧b.rows tx
def E.text (tx:FNode→Bs8) (e:E):Bs8:=(e.words tx 1).flatten
structure FormT where
 vars:List Bs8
 code:List FNode
deriving DecidableEq
def fine (nv:Nat) (n:FNode):Prop:=
 if n.kind=1 then 0≤n.var∧n.var≤(nv:Int) - 1∧n.num=0∧n.places=0
 else if n.kind=2 then n.var=0∧1≤n.places∧n.places≤6∧0≤n.num∧n.num≤10 ^ n.places.toNat - 1∧(n.places=1∨n.num % 10≠0)
 else n.var=0∧n.num=0∧n.places=0
instance (nv:Nat) (n:FNode):Decidable (fine nv n):=by unfold fine;infer_instance
structure CS where
 p:Nat
 u:Nat
 b:Bool
deriving DecidableEq
def chain (V:List Bs8) (tx:FNode→Bs8):List E→Nat→Nat→Prop
 | [],u,u'=>u=u'
 | e::r,u,u'=>∃ m,e.good V tx u m∧chain V tx r m u'
structure TxOK (V:List Bs8) (tx:FNode→Bs8):Prop where
 var:∀ i:Nat,∀ h:i < V.length,tx ⟨1,i,0,0⟩=V[i]
 const:∀ n:FNode,n.kind=2→fine V.length n→zbb (tx n)=false∧zaW (tx n)=some n
end FoT
namespace FoT
end FoT
namespace FoT
structure FloT where
 mant:Int
 exp:Int
deriving DecidableEq
def zeroFl:FloT:=⟨0,0⟩
def sg (n:Int):Int:=if n < 0 then -1 else 1
def hlv:Nat→Nat→Int→Nat × Int
 | 0,m,e=>(m,e)
 | k+1,m,e=>if 8388608≤m then hlv k (m / 2) (e+1) else (m,e)
def dbl:Nat→Nat→Int→Nat × Int
 | 0,m,e=>(m,e)
 | k+1,m,e=>if m≠0∧m < 4194304 then dbl k (m * 2) (e - 1) else (m,e)
def fin (s:Int) (m:Nat) (e:Int):FloT × Int:=
 if m=0∨e < -64 then (zeroFl,0) else if 63 < e then (zeroFl,171) else (⟨s * m,e⟩,0)
def zaj (n exp:Int):FloT × Int:=
 let h:=hlv 64 n.natAbs (exp+23)
 let d:=dbl 23 h.1 h.2
 fin (sg n) d.1 d.2
def zG (x:FloT):Prop:=x=zeroFl∨(4194304≤x.mant.natAbs∧x.mant.natAbs≤8388607∧-64≤x.exp∧x.exp≤63)
instance (x:FloT):Decidable (zG x):=by unfold zG;infer_instance
def zbd (m d:Int):Int:=if d < 60 then (m * 1073741824).tdiv (2 ^ d.toNat) else 0
def zfh (a b:FloT):FloT × Int:=zaj (a.mant * 1073741824+zbd b.mant (a.exp - b.exp)) (a.exp - 53)
def zbz (a b:FloT):FloT × Int:=
 if a.mant=0 then (b,0) else if b.mant=0 then (a,0) else if a.exp < b.exp then zfh b a else zfh a b
def stepM (op:Int) (a b:FloT):FloT × Int:=
 if op=3 then zbz a b
 else if op=4 then zbz a ⟨-b.mant,b.exp⟩
 else if op=5 then zaj (a.mant * b.mant) (a.exp+b.exp - 46)
 else if b.mant=0 then (zeroFl,8) else zaj ((a.mant * 1073741824).tdiv b.mant) (a.exp - b.exp - 30)
structure StepT where
 op:Int
 a:Int
 b:Int
 to:Int
deriving DecidableEq
def runS:List StepT→Nat→List FloT→Except (Nat × Int) (List FloT)
 | [],_,l=>.ok l
 | s::r,i,l=>
  let x:=stepM s.op (l.getD s.a.toNat zeroFl) (l.getD s.b.toNat zeroFl)
  if x.2=0 then runS r (i+1) (l.set s.to.toNat x.1) else .error (i,x.2)
end FoT
namespace FoT
def ten (n:FNode):Int:=10 ^ n.places.toNat
def zbo (n:FNode):Int:=(n.num * 8388608+ten n / 2) / ten n
def zdz (n:FNode):Int:=if n.num * 8388608 % ten n=0 then 0 else 1
def sgnW (w:Int):Int:=if 8388608≤w then w - 16777216 else w
def opV (k a b:Int):Int:=if k=3 then a+b else if k=4 then a - b else a * b / 8388608
def zP (w:Int):Prop:=0≤w∧w≤16777215
instance (w:Int):Decidable (zP w):=by unfold zP;infer_instance
structure SpanT where
 lo:Int
 hi:Int
deriving DecidableEq
structure RangeT where
 lo:Int
 hi:Int
 err:Int
deriving DecidableEq
def zaI:RangeT:=⟨0,0,0⟩
def zC (n:Int):Bool:=decide (n < -8388608) || decide (8388607 < n)
def zbB (spans:List SpanT) (n:FNode):RangeT:=
 if n.kind=1 then ⟨(spans.getD n.var.toNat ⟨0,0⟩).lo,(spans.getD n.var.toNat ⟨0,0⟩).hi,0⟩ else ⟨zbo n,zbo n,zdz n⟩
def farR (a:RangeT):Int:=max (max a.lo (-a.lo)) (max a.hi (-a.hi))
def min4 (a b c d:Int):Int:=min (min a b) (min c d)
def max4 (a b c d:Int):Int:=max (max a b) (max c d)
def zT (k:Int) (a b:RangeT):RangeT:=
 ⟨min4 (opV k a.lo b.lo) (opV k a.lo b.hi) (opV k a.hi b.lo) (opV k a.hi b.hi),max4 (opV k a.lo b.lo) (opV k a.lo b.hi) (opV k a.hi b.lo) (opV k a.hi b.hi),
  if k=5 then (2 * farR a * b.err+2 * farR b * a.err+a.err * b.err+16777215) / 16777216+2 else a.err+b.err⟩
def rngS (spans:List SpanT):Nat→List FNode→List RangeT→Except Nat (List RangeT)
 | _,[],st=>.ok st
 | i,n::r,st=>
  if n.kind < 3 then rngS spans (i+1) r (st ++ [zbB spans n])
  else
   let x:=zT n.kind (st.getD (st.length - 2) zaI) (st.getD (st.length - 1) zaI)
   if zC x.lo=true∨zC x.hi=true then .error i else rngS spans (i+1) r (st.take (st.length - 2) ++ [x])
def encW (op a b c:Int):Int:=((op * 128+a) * 128+b) * 128+c
structure ES where
 next:Int
 h:Int
 most:Int
deriving DecidableEq
structure ProgT where
 store:List Int
 start:Int
 orders:Int
deriving DecidableEq
theorem zdO {a A x y:Int} (h1:a≤x) (h2:x≤A):min (a * y) (A * y)≤x * y∧x * y≤max (a * y) (A * y):=by
 rcases Int.le_total 0 y with hy|hy
 ·have:=Int.mul_le_mul_of_nonneg_right h1 hy;have:=Int.mul_le_mul_of_nonneg_right h2 hy;omega
 ·have:=Int.mul_le_mul_of_nonpos_right h1 hy;have:=Int.mul_le_mul_of_nonpos_right h2 hy;omega
end FoT
namespace FoT
structure OrS where
 store:List Int
 tape:List Int
 taken:Int
 printed:List Int
 time:Int
 at_:Int
 done:Int
 why:Int
deriving DecidableEq
structure OrO where
 op:Int
 a:Int
 b:Int
 n:Int
deriving DecidableEq
def decO (w:Int):OrO:=⟨w / 2097152,w / 16384 % 128,w / 128 % 128,w % 128⟩
theorem dec_enc {op a b n:Int} (ha:0≤a∧a≤127) (hb:0≤b∧b≤127) (hn:0≤n∧n≤127):decO (encW op a b n)=⟨op,a,b,n⟩:=by
 unfold decO encW;have e1:(((op * 128+a) * 128+b) * 128+n) / 2097152=op:=by omega
 have e2:(((op * 128+a) * 128+b) * 128+n) / 16384 % 128=a:=by omega
 have e3:(((op * 128+a) * 128+b) * 128+n) / 128 % 128=b:=by omega
 have e4:(((op * 128+a) * 128+b) * 128+n) % 128=n:=by omega
 rw [e1,e2,e3,e4]
def afterO (time addr:Int):Int:=time+1+(addr - time - 1) % 16
def untilO (o:OrO) (time at_:Int):Int:=
 afterO (if o.op=5∨o.op=7 then afterO time o.a else if o.op=6 then afterO time o.b
  else if o.op=4 then afterO (afterO (afterO time o.a) o.b+12) o.b else afterO (afterO time o.a) o.b) at_
def rdO (s:OrS) (a:Int):Int:=s.store.getD a.toNat 0
def wrO (s:OrS) (a v:Int):OrS:={ s with store:=s.store.set a.toNat v }
def doO (s:OrS) (o:OrO):OrS:=
 if o.op=1 then wrO s o.b (rdO s o.a)
 else if o.op=2 then wrO s o.b ((rdO s o.b+rdO s o.a) % 16777216)
 else if o.op=3 then wrO s o.b ((rdO s o.b - rdO s o.a) % 16777216)
 else if o.op=4 then wrO s o.b (sgnW (rdO s o.a) * sgnW (rdO s o.b) / 8388608 % 16777216)
 else if o.op=6 then { wrO s o.b (s.tape.getD s.taken.toNat 0) with taken:=s.taken+1 }
 else if o.op=7 then { s with printed:=s.printed ++ [rdO s o.a] }
 else s
def stepO (s:OrS):OrS:=
 let o:=decO (rdO s s.at_)
 let at':=if o.op=5∧sgnW (rdO s o.a) < 0 then o.b else o.n
 let u:=untilO o s.time at'
 let why:=if o.op=0 then 1 else if o.op=6∧s.taken=s.tape.length then 2 else if o.op=7∧s.printed.length=200 then 3 else s.why
 let why:=if why=0∧1000000000 < u then 4 else why
 if why=0 then { doO s o with at_:=at',time:=u,done:=s.done+1,why:=0 } else { s with why:=why }
def runO:Nat→OrS→OrS
 | 0,s=>s
 | n+1,s=>if s.why=0 then runO n (stepO s) else s
theorem after_le (t a:Int):t < afterO t a∧afterO t a≤t+16:=by unfold afterO;omega
theorem until_le (o:OrO) (t a:Int):t < untilO o t a∧untilO o t a≤t+100:=by
 unfold untilO;split
 ·have h1:=after_le t o.a;have h2:=after_le (afterO t o.a) a;omega
 ·split
  ·have h1:=after_le t o.b;have h2:=after_le (afterO t o.b) a;omega
  ·split
   ·have h1:=after_le t o.a;have h2:=after_le (afterO t o.a) o.b;have h3:=after_le (afterO (afterO t o.a) o.b+12) o.b;have h4:=after_le (afterO (afterO (afterO t o.a) o.b+12) o.b) a;omega
   ·have h1:=after_le t o.a;have h2:=after_le (afterO t o.a) o.b;have h3:=after_le (afterO (afterO t o.a) o.b) a;omega
theorem step_on {s:OrS} {op a b n:Int} (hw:s.why=0) (hr:rdO s s.at_=encW op a b n) (ha:0≤a∧a≤127) (hb:0≤b∧b≤127) (hn:0≤n∧n≤127) (h0:1≤op∧op≠5∧op≤7)
  (h6:op=6→s.taken≠s.tape.length) (h7:op=7→s.printed.length≠200) (ht:s.time≤999999000) :
  ∃ t,s.time < t∧t≤s.time+100∧stepO s={ doO s ⟨op,a,b,n⟩ with at_:=n,time:=t,done:=s.done+1,why:=0 }:=by
 have hu:=until_le ⟨op,a,b,n⟩ s.time n;refine⟨_,hu.1,hu.2,?_⟩
 unfold stepO;rw [hr,dec_enc ha hb hn];dsimp only;rw [if_neg (show ¬ (op=5∧_) from fun h=>h0.2.1 h.1),if_neg (show ¬ op=0 by omega),if_neg (show ¬ (op=6∧s.taken=s.tape.length) from fun h=>h6 h.1 h.2),if_neg (show ¬ (op=7∧s.printed.length=200) from fun h=>h7 h.1 h.2),hw];rw [if_neg (show ¬ ((0:Int)=0∧1000000000 < untilO ⟨op,a,b,n⟩ s.time n) from fun h=>by have:=h.2;omega),if_pos rfl]
end FoT
namespace FoT
theorem rd_wr {s:OrS} {a b v:Int} (ha:0≤a) (hb:0≤b) (hl:b < s.store.length):rdO (wrO s b v) a=if a=b then v else rdO s a:=by
 unfold rdO wrO;dsimp only;rw [List.getD_eq_getElem?_getD,List.getD_eq_getElem?_getD,List.getElem?_set];by_cases h:a=b
 ·subst h;rw [if_pos rfl,if_pos rfl,if_pos (by omega)];rfl
 ·rw [if_neg h,if_neg (by omega)]
theorem wr_len (s:OrS) (b v:Int):(wrO s b v).store.length=s.store.length:=by simp [wrO]
structure MI (P:List Int) (o pl:Int) (nv:Nat) (tape W C st:List Int) (k:Nat) (s:OrS):Prop where
 why:s.why=0
 at_:s.at_=k
 done:s.done=k
 len:s.store.length=128
 code:∀ j (h:j < P.length),rdO s (j:Int)=P[j]
 vars:∀ j (h:j < W.length),rdO s (o+j)=W[j]
 cons:∀ j (h:j < C.length),rdO s (o+nv+j)=C[j]
 pile:∀ j (h:j < st.length),rdO s (pl+j)=st[j]
 time:0≤s.time∧s.time≤100+100 * k
 tp:s.tape=tape
 tk:s.taken=W.length
 pr:s.printed=[]
section
variable {P tape W C st:List Int} {o pl:Int} {nv k:Nat} {s:OrS}
theorem MI.push (h:MI P o pl nv tape W C st k s) (hP:P.length≤o) (hkP:k < P.length) (ho:0≤o) (hW:W.length≤nv) (hC:o+nv+C.length≤pl) (hs:pl+st.length≤127) {a v:Int} (ha:0≤a∧a≤127) (hk:k≤100)
  (he:P[k]=encW 1 a (pl+st.length) (k+1)) (hv:rdO s a=v):MI P o pl nv tape W C (st ++ [v]) (k+1) (stepO s):=by
 have hr:rdO s s.at_=encW 1 a (pl+st.length) ((k:Int)+1):=by rw [h.at_,h.code k hkP,he]
 obtain⟨t,t1,t2,e⟩:=step_on h.why hr ha ⟨by omega,hs⟩ ⟨by omega,by omega⟩ (by decide) (fun x=>by cases x) (fun x=>by cases x) (by have:=h.time;omega);have hd:doO s ⟨1,a,pl+st.length,(k:Int)+1⟩=wrO s (pl+st.length) v:=by unfold doO;rw [if_pos rfl,hv]
 rw [hd] at e;have hl:=h.len;have R:∀ x:Int,0≤x→x≠pl+st.length→rdO (stepO s) x=rdO s x:=by
  intro x h0 h1;rw [e];show rdO (wrO s (pl+st.length) v) x=_
  rw [rd_wr h0 (by omega) (by omega),if_neg h1]
 refine⟨by rw [e],by rw [e];push_cast;rfl,by rw [e];show s.done+1=_;rw [h.done];push_cast;rfl,by rw [e];show (wrO s _ v).store.length=_;rw [wr_len,hl],?_,?_,?_,?_,?_,by rw [e];exact h.tp,by rw [e];exact h.tk,by rw [e];exact h.pr⟩
 ·intro j hj;rw [R _ (by omega) (by omega)];exact h.code j hj
 ·intro j hj;rw [R _ (by omega) (by omega)];exact h.vars j hj
 ·intro j hj;rw [R _ (by omega) (by omega)];exact h.cons j hj
 ·intro j hj;rw [List.length_append,List.length_singleton] at hj;by_cases hjs:j < st.length
  ·rw [R _ (by omega) (by omega),h.pile j hjs,List.getElem_append_left hjs]
  ·have:j=st.length:=by omega
   subst this;rw [List.getElem_append_right (Nat.le_refl _)];simp only [Nat.sub_self,List.getElem_singleton];rw [e];show rdO (wrO s (pl+st.length) v) _=_
   rw [rd_wr (by omega) (by omega) (by omega),if_pos rfl]
 ·rw [e];have:=h.time;show 0≤t∧t≤_
  push_cast;omega
theorem MI.read (h:MI P o pl nv tape W C [] k s) (hP:P.length≤o) (hkP:k < P.length) (ho:0≤o) (hW:W.length < nv) (hC:o+nv+C.length≤127) (hk:k≤100) {v:Int} (hv:tape[W.length]?=some v)
  (he:P[k]=encW 6 0 (o+W.length) (k+1)):MI P o pl nv tape (W ++ [v]) C [] (k+1) (stepO s):=by
 have hr:rdO s s.at_=encW 6 0 (o+W.length) ((k:Int)+1):=by rw [h.at_,h.code k hkP,he]
 have htl:=(List.getElem?_eq_some_iff.1 hv).1;obtain⟨t,t1,t2,e⟩:=step_on h.why hr ⟨by decide,by decide⟩ ⟨by omega,by omega⟩ ⟨by omega,by omega⟩ (by decide) (fun _=>by rw [h.tk,h.tp];omega) (fun x=>by cases x) (by have:=h.time;omega);have hd:doO s ⟨6,0,o+W.length,(k:Int)+1⟩={ wrO s (o+W.length) v with taken:=s.taken+1 }:=by
  unfold doO;dsimp only;rw [if_neg (by decide),if_neg (by decide),if_neg (by decide),if_neg (by decide),if_pos rfl,h.tk,h.tp,Int.toNat_natCast,List.getD_eq_getElem?_getD,hv];rfl
 rw [hd] at e;have hl:=h.len;have R:∀ q:Int,0≤q→q≠o+W.length→rdO (stepO s) q=rdO s q:=by
  intro q h0 h1;rw [e];show rdO (wrO s (o+W.length) v) q=_
  rw [rd_wr h0 (by omega) (by omega),if_neg h1]
 refine⟨by rw [e],by rw [e];push_cast;rfl,by rw [e];show s.done+1=_;rw [h.done];push_cast;rfl,by rw [e];show (wrO s _ v).store.length=_;rw [wr_len,hl],?_,?_,?_,fun j hj=>by simp at hj,?_,by rw [e];exact h.tp,by rw [e];show s.taken+1=_;rw [h.tk,List.length_append];rfl,by rw [e];exact h.pr⟩
 ·intro j hj;rw [R _ (by omega) (by omega)];exact h.code j hj
 ·intro j hj;rw [List.length_append,List.length_singleton] at hj;by_cases hjs:j < W.length
  ·rw [R _ (by omega) (by omega),h.vars j hjs,List.getElem_append_left hjs]
  ·have:j=W.length:=by omega
   subst this;rw [List.getElem_append_right (Nat.le_refl _)];simp only [Nat.sub_self,List.getElem_singleton];rw [e];show rdO (wrO s (o+W.length) v) _=_
   rw [rd_wr (by omega) (by omega) (by omega),if_pos rfl]
 ·intro j hj;rw [R _ (by omega) (by omega)];exact h.cons j hj
 ·rw [e];have:=h.time;show 0≤t∧t≤_
  push_cast;omega
end
end FoT
namespace FoT
def Sub (x y:RangeT):Prop:=y.lo≤x.lo∧x.lo≤x.hi∧x.hi≤y.hi∧0≤x.err∧x.err≤y.err
def SubL:List RangeT→List RangeT→Prop
 | [],[]=>True
 | x::r,y::q=>Sub x y∧SubL r q
 | _,_=>False
theorem SubL.len:∀ {a b:List RangeT},SubL a b→a.length=b.length
 | [],[],_=>rfl
 | x::r,y::q,h=>by simp [SubL.len h.2]
 | [],_::_,h=>h.elim
 | _::_,[],h=>h.elim
theorem SubL.app:∀ {a b c d:List RangeT},SubL a b→SubL c d→SubL (a ++ c) (b ++ d)
 | [],[],_,_,_,h=>h
 | x::r,y::q,_,_,h,g=>⟨h.1,SubL.app h.2 g⟩
 | [],_::_,_,_,h,_=>h.elim
 | _::_,[],_,_,h,_=>h.elim
theorem SubL.take:∀ {a b:List RangeT} (k:Nat),SubL a b→SubL (a.take k) (b.take k)
 | _,_,0,_=>by simp [SubL]
 | [],[],k+1,_=>by simp [SubL]
 | x::r,y::q,k+1,h=>by rw [List.take_succ_cons,List.take_succ_cons];exact⟨h.1,SubL.take k h.2⟩
 | [],_::_,_+1,h=>h.elim
 | _::_,[],_+1,h=>h.elim
theorem sub_zero:Sub zaI zaI:=by unfold Sub zaI;decide
theorem SubL.getD:∀ {a b:List RangeT} (k:Nat),SubL a b→Sub (a.getD k zaI) (b.getD k zaI)
 | [],[],_,_=>sub_zero
 | x::r,y::q,0,h=>h.1
 | x::r,y::q,k+1,h=>by rw [List.getD_cons_succ,List.getD_cons_succ];exact SubL.getD k h.2
 | [],_::_,_,h=>h.elim
 | _::_,[],_,h=>h.elim
end FoT
namespace FoT
abbrev Fr2:=Int × Int
def zcu (s e:Int) (x:Fr2):Prop:=2 * s * x.2 - 2 * x.1≤e * x.2∧2 * x.1 - 2 * s * x.2≤e * x.2
def In3 (w:Int) (x:RangeT) (y:Fr2):Prop:=zP w∧-8388608≤x.lo∧x.lo≤sgnW w∧sgnW w≤x.hi∧x.hi≤8388607∧0≤x.err∧0 < y.2∧zcu (sgnW w) x.err y
def In3L:List Int→List RangeT→List Fr2→Prop
 | [],[],[]=>True
 | a::r,b::q,c::s=>In3 a b c∧In3L r q s
 | _,_,_=>False
theorem In3L.len:∀ {a b c},In3L a b c→a.length=b.length∧c.length=b.length
 | [],[],[],_=>⟨rfl,rfl⟩
 | a::r,b::q,c::s,h=>by simp [(In3L.len h.2).1,(In3L.len h.2).2]
 | [],[],_::_,h=>h.elim
 | [],_::_,_,h=>h.elim
 | _::_,[],_,h=>h.elim
 | _::_,_::_,[],h=>h.elim
theorem In3L.app:∀ {a b c a' b' c'},In3L a b c→In3L a' b' c'→In3L (a ++ a') (b ++ b') (c ++ c')
 | [],[],[],_,_,_,_,h=>h
 | a::r,b::q,c::s,_,_,_,h,g=>⟨h.1,In3L.app h.2 g⟩
 | [],[],_::_,_,_,_,h,_=>h.elim
 | [],_::_,_,_,_,_,h,_=>h.elim
 | _::_,[],_,_,_,_,h,_=>h.elim
 | _::_,_::_,[],_,_,_,h,_=>h.elim
theorem In3L.take:∀ {a b c} (k:Nat),In3L a b c→In3L (a.take k) (b.take k) (c.take k)
 | _,_,_,0,_=>by simp [In3L]
 | [],[],[],k+1,_=>by simp [In3L]
 | a::r,b::q,c::s,k+1,h=>by rw [List.take_succ_cons,List.take_succ_cons,List.take_succ_cons];exact⟨h.1,In3L.take k h.2⟩
 | [],[],_::_,_+1,h=>h.elim
 | [],_::_,_,_+1,h=>h.elim
 | _::_,[],_,_+1,h=>h.elim
 | _::_,_::_,[],_+1,h=>h.elim
theorem zof:In3 0 zaI (0,1):=by unfold In3 zP sgnW zaI zcu;decide
theorem In3L.getD:∀ {a b c} (k:Nat),In3L a b c→In3 (a.getD k 0) (b.getD k zaI) (c.getD k (0,1))
 | [],[],[],_,_=>zof
 | a::r,b::q,c::s,0,h=>h.1
 | a::r,b::q,c::s,k+1,h=>by rw [List.getD_cons_succ,List.getD_cons_succ,List.getD_cons_succ];exact In3L.getD k h.2
 | [],[],_::_,_,h=>h.elim
 | [],_::_,_,_,h=>h.elim
 | _::_,[],_,_,h=>h.elim
 | _::_,_::_,[],_,h=>h.elim
structure LeafOK (words units:List Int) (spans:List SpanT) (nv:Nat):Prop where
 ok:∀ i:Nat,i < nv→zP (words.getD i 0)∧sgnW (words.getD i 0)=units.getD i 0∧(spans.getD i ⟨0,0⟩).lo≤units.getD i 0∧units.getD i 0≤(spans.getD i ⟨0,0⟩).hi∧-8388608≤(spans.getD i ⟨0,0⟩).lo∧(spans.getD i ⟨0,0⟩).hi≤8388607
end FoT
namespace FoT
section
variable {P tape W C:List Int} {o pl:Int} {nv:Nat}
end
end FoT
namespace FoT
end FoT
end
