/- The logic of walks, and what the functions of the program return: part 2. No condition. -/
import Derived.Test.YtidkoikjdghlmaaGreatDoorB01
import Derived.Test.YtidkoikjdghlmaaGreatDoorProg
import Derived.KernelRfl
import Derived.Lib.ItoaNum
set_option linter.all false
noncomputable section
namespace Go.QL
open Go Go.RowKit
def rnSV (ρ : Nat→Nat):SV→SV
 | .d x=>.d x
 | .o c st n=>.o (ρ c) st n
 | .b id off=>.b (ρ id) off
 | .se e off=>.se e off
 | .oe c st i off=>.oe (ρ c) st i off
 | .os c st i off=>.os (ρ c) st i off
 | .f fn a b=>.f fn (a.map (rn1 ρ)) (b.map (rn1 ρ))
 | .j=>.j
 | .h id=>.h (ρ id)
 | .sb id off n cap=>.sb (ρ id) off n cap
where
 rn1 (ρ : Nat→Nat):SV→SV
  | .o c st n=>.o (ρ c) st n
  | .b id off=>.b (ρ id) off
  | .oe c st i off=>.oe (ρ c) st i off
  | .os c st i off=>.os (ρ c) st i off
  | .f ..=>.j
  | .h id=>.h (ρ id)
  | .sb id off n cap=>.sb (ρ id) off n cap
  | s=>s
def zh6 (ρ : Nat→Nat):AV→AV
 | .x s=>.x (rnSV ρ s)
 | .a cs=>.a (cs.map (rnSV ρ))
 | x=>x
def rnAV (ρ : Nat→Nat):AV→AV
 | .t xs=>.t (xs.map (zh6 ρ))
 | x=>zh6 ρ x
def rnV (ρ : Nat→Nat):AV→AV
 | .g c x=>.g c (rnAV ρ x)
 | x=>rnAV ρ x
def rnKv (ρ : Nat→Nat):List (Value × AV)→List (Value × AV)
 | []=>[]
 | (k,x)::r=>(k,zh6 ρ x)::rnKv ρ r
def rnFr (ρ : Nat→Nat):Fr→Fr
 | []=>[]
 | (t,x)::r=>(t,rnV ρ x)::rnFr ρ r
def rnO2 (ρ : Nat→Nat):Ob2→Ob2
 | .map kt kvs=>.map kt kvs
 | .mapIter (some m) since seen last=>.mapIter (some (ρ m)) since seen last
 | .loop st pend params assign body nt fr dfr=>.loop st pend params assign body nt (rnFr ρ fr) (ρ dfr)
 | o=>o
theorem zlx (ρ : Nat→Nat) (o:Ob2):(rnO2 ρ o).kd=o.kd:=by
 cases o with
 | mapIter m since seen last=>cases m <;> rfl
 | _=>rfl
theorem znA {ρ : Nat→Nat}:∀ {l:List (Value × AV)} {i:Nat} {k:Value} {x:AV},(rnKv ρ l)[i]?=some (k,x)↔∃ y,l[i]?=some (k,y)∧zh6 ρ y=x
 | [],i,k,x=>by simp [rnKv]
 | (k0,x0)::r,i,k,x=>by
  cases i with
  | zero=>
   show some (k0,zh6 ρ x0)=some (k,x)↔∃ y,some (k0,x0)=some (k,y)∧_
   constructor
   ·intro h;cases h;exact⟨x0,rfl,rfl⟩
   ·rintro⟨y,h,rfl⟩;cases h;rfl
  | succ i=>exact znA (l:=r) (i:=i)
theorem znz {ρ : Nat→Nat}:∀ {l:List (Value × AV)},(rnKv ρ l).length=l.length
 | []=>rfl
 | (k0,x0)::r=>by simp [rnKv,znz (l:=r)]
theorem zjq {ρ : Nat→Nat} {t:Nat}:∀ {l:Fr},lk t (rnFr ρ l)=(lk t l).map (rnV ρ)
 | []=>rfl
 | (k0,x0)::r=>by
  unfold rnFr;rw [zr,zr];by_cases e:k0=t
  ·rw [if_pos e,if_pos e];rfl
  ·rw [if_neg e,if_neg e];exact zjq
def rnOb (ρ : Nat→Nat):Ob→Ob
 | .box cs=>.box (cs.map (rnSV ρ))
 | .chain e sz st xs=>.chain e sz st xs
 | .x o=>.x (rnO2 ρ o)
def rnSg (ρ : Nat→Nat):Sg→Sg
 | []=>[]
 | (i,o)::r=>(ρ i,rnOb ρ o)::rnSg ρ r
def ziI (ids:List Nat):Sg→Sg
 | []=>[]
 | (i,o)::r=>bif ids.any (Nat.beq i) then ziI ids r else (i,o)::ziI ids r
theorem beq_ne {i j:Nat} (h:i≠j):Nat.beq i j=false:=by
 cases hb:Nat.beq i j with
 | false=>rfl
 | true=>exact absurd (Nat.eq_of_beq_eq_true hb) h
theorem zdY {ids:List Nat} {i:Nat}:ids.any (Nat.beq i)=true↔i ∈ ids:=by
 rw [List.any_eq_true];constructor
 ·rintro⟨x,hx,h⟩;rw [Nat.eq_of_beq_eq_true h];exact hx
 ·intro h;exact⟨i,h,by simp⟩
theorem zpR {ids:List Nat} {i:Nat} (h:i ∈ ids) (σ:Sg):lk i (ziI ids σ)=none:=by
 induction σ with
 | nil=>rfl
 | cons p r ih=>
  obtain⟨j,o⟩:=p;unfold ziI;cases hb:ids.any (Nat.beq j) with
  | true=>exact ih
  | false=>
   simp only [cond_false];rw [zr,if_neg]
   ·exact ih
   ·rintro rfl;rw [zdY.2 h] at hb;cases hb
theorem zfb {ids:List Nat} {i:Nat} (h:i ∉ ids) (σ:Sg):lk i (ziI ids σ)=lk i σ:=by
 induction σ with
 | nil=>rfl
 | cons p r ih=>
  obtain⟨j,o⟩:=p;unfold ziI;cases hb:ids.any (Nat.beq j) with
  | true=>
   simp only [cond_true];rw [zr,if_neg (fun e:j=i=>by subst e;exact h (zdY.1 hb))];exact ih
  | false=>
   simp only [cond_false];rw [zr,zr,ih]
theorem zel {α : Type} {i:Nat} (l r:List (Nat × α)):lk i (l ++ r)=match lk i l with|some x=>some x|none=>lk i r:=by
 induction l with
 | nil=>rfl
 | cons p l ih=>
  obtain⟨j,x⟩:=p;rw [List.cons_append,zr,zr];by_cases e:j=i
  ·rw [if_pos e,if_pos e]
  ·rw [if_neg e,if_neg e];exact ih
def injK (ρ : Nat→Nat):List Nat→Bool
 | []=>true
 | i::r=>(r.all fun j=>Nat.beq i j || !Nat.beq (ρ i) (ρ j)) && injK ρ r
theorem zgj {ρ : Nat→Nat}:∀ {l:List Nat},injK ρ l=true→∀ i ∈ l,∀ j ∈ l,ρ i = ρ j→i=j
 | [],_,i,hi,_,_,_=>by simp at hi
 | k::r,h,i,hi,j,hj,he=>by
  unfold injK at h;simp only [Bool.and_eq_true,List.all_eq_true,Bool.or_eq_true,Bool.not_eq_true'] at h;have key:∀ j ∈ r,ρ k = ρ j→k=j:=fun j hj he=>by
   rcases h.1 j hj with h|h
   ·exact Nat.eq_of_beq_eq_true h
   ·rw [he,show Nat.beq (ρ j) (ρ j)=true by simp] at h;cases h
  rw [List.mem_cons] at hi hj;rcases hi with hi|hi <;> rcases hj with hj|hj
  ·rw [hi,hj]
  ·subst hi;exact key j hj he
  ·subst hj;exact (key i hi he.symm).symm
  ·exact zgj h.2 i hi j hj he
theorem zz {α : Type} {i:Nat} {l:List (Nat × α)}:(lk i l).isSome=true↔i ∈ l.map (·.1):=by
 induction l with
 | nil=>simp [lk]
 | cons p r ih=>
  obtain⟨j,x⟩:=p;rw [zr];by_cases e:j=i
  ·rw [if_pos e];simp [e]
  ·rw [if_neg e,ih];simp only [List.map_cons,List.mem_cons];exact⟨.inr,fun h=>h.resolve_left (fun h=>e h.symm)⟩
theorem zjp {ρ : Nat→Nat}:∀ {σ:Sg} {ks:List Nat} (_:∀ i ∈ ks,∀ j ∈ ks,ρ i = ρ j→i=j) (_:∀ i ∈ σ.map (·.1),i ∈ ks) {i:Nat} (_:i ∈ ks),lk (ρ i) (rnSg ρ σ)=(lk i σ).map (rnOb ρ)
 | [],_,_,_,_,_=>rfl
 | (j,o)::r,ks,hinj,hsub,i,hi=>by
  unfold rnSg;rw [zr,zr];by_cases e:j=i
  ·subst e;rw [if_pos rfl,if_pos rfl];rfl
  ·rw [if_neg e,if_neg (fun h=>e (hinj j (hsub j (by simp)) i hi h))];exact zjp hinj (fun k hk=>hsub k (by simp at hk ⊢;exact .inr hk)) hi
theorem zc4 {ρ : Nat→Nat} {k:Nat}:∀ {σ:Sg},(∀ i ∈ σ.map (·.1),ρ i≠k)→lk k (rnSg ρ σ)=none
 | [],_=>rfl
 | (j,o)::r,h=>by
  unfold rnSg;rw [zr,if_neg (h j (by simp))];exact zc4 fun i hi=>h i (by simp at hi ⊢;exact .inr hi)
def unrn (ρ : Nat→Nat):List Nat→Nat→Option Nat
 | [],_=>none
 | i::r,k=>if ρ i=k then some i else unrn ρ r k
theorem zle {ρ : Nat→Nat} {k i:Nat}:∀ {l:List Nat},unrn ρ l k=some i→i ∈ l∧ρ i=k
 | [],h=>by cases h
 | j::r,h=>by
  unfold unrn at h;by_cases e : ρ j=k
  ·rw [if_pos e] at h;cases h;exact⟨by simp,e⟩
  ·rw [if_neg e] at h;have:=zle h;exact⟨List.mem_cons_of_mem _ this.1,this.2⟩
theorem zjS {ρ : Nat→Nat} {l:List Nat} (hinj:∀ i ∈ l,∀ j ∈ l,ρ i = ρ j→i=j) {i:Nat} (hi:i ∈ l):unrn ρ l (ρ i)=some i:=by
 have:∀ (m:List Nat),(∀ j ∈ m,j ∈ l)→i ∈ m→unrn ρ m (ρ i)=some i:=by
  intro m;induction m with
  | nil=>intro _ h;simp at h
  | cons j r ih=>
   intro hm hi';unfold unrn;by_cases e : ρ j = ρ i
   ·rw [if_pos e,hinj j (hm j (by simp)) i hi e]
   ·rw [if_neg e];rcases List.mem_cons.1 hi' with rfl|h
    ·exact absurd rfl e
    ·exact ih (fun j hj=>hm j (List.mem_cons_of_mem _ hj)) h
 exact this l (fun _ h=>h) hi
theorem zfS {ρ : Nat→Nat} {k:Nat}:∀ {l:List Nat},(∀ i ∈ l,ρ i≠k)→unrn ρ l k=none
 | [],_=>rfl
 | j::r,h=>by
  unfold unrn;rw [if_neg (h j (by simp))];exact zfS fun i hi=>h i (List.mem_cons_of_mem _ hi)
section
variable {P:Program} {σ0 σ1 σ σ'':Sg} {g g0 g1 g'':Gh} {w w':World} {ρ : Nat→Nat}
theorem zV (hl:∀ id ob,lk id σ0=some ob→lk (ρ id) σ=some (rnOb ρ ob)) {s:SV} (hs:rs1 σ0 s=true) {v:Value} (hv:SR σ g w (rnSV.rn1 ρ s) v):SR σ0 ⟨g.K,fun i=>g.μ (ρ i)⟩ w s v:=by
 have chain:∀ c,(lk c σ0).isSome=true→∀ {e sz st xs},lk (ρ c) σ=some (.chain e sz st xs)→lk c σ0=some (.chain e sz st xs):=by
  intro c hc e sz st xs h;obtain⟨ob,hob⟩:=Option.isSome_iff_exists.1 hc;have:=hl c ob hob;rw [h] at this;cases ob with
  | box cs=>cases this
  | chain=>cases this;exact hob
  | x _=>cases this
 have oth:∀ c,(lk c σ0).isSome=true→∀ {o},lk (ρ c) σ=some (.x o)→∃ o',lk c σ0=some (.x o')∧o.kd=o'.kd:=by
  intro c hc o h;obtain⟨ob,hob⟩:=Option.isSome_iff_exists.1 hc;have:=hl c ob hob;rw [h] at this;cases ob with
  | box cs'=>cases this
  | chain=>cases this
  | x o'=>cases this;exact⟨o',hob,zlx _ _⟩
 have box:∀ c,(lk c σ0).isSome=true→∀ {cs},lk (ρ c) σ=some (.box cs)→∃ cs',lk c σ0=some (.box cs'):=by
  intro c hc cs h;obtain⟨ob,hob⟩:=Option.isSome_iff_exists.1 hc;have:=hl c ob hob;rw [h] at this;cases ob with
  | box cs'=>exact⟨cs',hob⟩
  | chain=>cases this
  | x _=>cases this
 cases s with
 | d x=>cases hv with|d _ _ h=>exact .d _ _ h
 | o c st n=>
  cases hv with
  | old _ _ _ e sz st' xs v h hlt h1=>exact .old c st n e sz st' xs v (chain c hs h) hlt h1
  | o _ _ _ e sz xs a cap h hn hμ=>exact .o c st n e sz xs a cap (chain c hs h) hn hμ
 | b id off=>
  cases hv with
  | b _ _ cs k h hμ=>obtain⟨cs',h'⟩:=box id hs h;exact .b id off cs' k h' hμ
 | se e off=>cases hv with|se _ _ k l vs h1 h2 h3=>exact .se e off k l vs h1 h2 h3
 | oe c st i off=>
  cases hv with
  | oeold _ _ _ _ e sz st' xs v h hlt h1=>exact .oeold c st i off e sz st' xs v (chain c hs h) hlt h1
  | oe _ _ _ _ e sz xs k cap h hμ=>exact .oe c st i off e sz xs k cap (chain c hs h) hμ
 | os c st i off=>
  cases hv with
  | osold _ _ _ _ e sz st' xs v h hlt h1=>exact .osold c st i off e sz st' xs v (chain c hs h) hlt h1
  | os _ _ _ _ e sz xs k cap h hμ hn=>exact .os c st i off e sz xs k cap (chain c hs h) hμ hn
 | f=>cases hs
 | j=>cases hv with|j _ h=>exact .j _ h
 | h id=>
  cases hv with
  | h _ o k h hμ=>obtain⟨o',h',hk⟩:=oth id hs h;rw [hk];exact .h id o' k h' hμ
 | sb id off n cap=>
  cases hv with
  | sb _ _ _ _ cs k h hμ hn hc=>obtain⟨cs',h'⟩:=box id hs h;exact .sb id off n cap cs' k h' hμ hn hc
theorem zed (hl:∀ id ob,lk id σ0=some ob→lk (ρ id) σ=some (rnOb ρ ob)) {s:SV} (hs:rsSV σ0 s=true) {v:Value} (hv:SR σ g w (rnSV ρ s) v):SR σ0 ⟨g.K,fun i=>g.μ (ρ i)⟩ w s v:=by
 cases s with
 | f fn a b=>
  simp only [rsSV,Bool.and_eq_true,List.all_eq_true] at hs;cases hv with
  | f _ _ _ v1 v2 h1 h2 r1 r2=>
   refine .f fn a b v1 v2 (by simpa using h1) (by simpa using h2) (fun i s v hi hv=>?_) (fun i s v hi hv=>?_)
   ·exact zV hl (hs.1 s (List.mem_of_getElem? hi)) (r1 i _ v (by rw [List.getElem?_map,hi];rfl) hv)
   ·exact zV hl (hs.2 s (List.mem_of_getElem? hi)) (r2 i _ v (by rw [List.getElem?_map,hi];rfl) hv)
 | d x=>exact zV hl (s:=.d x) hs hv
 | o c st n=>exact zV hl (s:=.o c st n) hs hv
 | b id off=>exact zV hl (s:=.b id off) hs hv
 | se e off=>exact zV hl (s:=.se e off) hs hv
 | oe c st i off=>exact zV hl (s:=.oe c st i off) hs hv
 | os c st i off=>exact zV hl (s:=.os c st i off) hs hv
 | j=>exact zV hl (s:=.j) hs hv
 | h id=>exact zV hl (s:=.h id) hs hv
 | sb id off n cap=>exact zV hl (s:=.sb id off n cap) hs hv
theorem zdm (hl:∀ id ob,lk id σ0=some ob→lk (ρ id) σ=some (rnOb ρ ob)) {x:AV} (hs:zec σ0 x=true) {v:Value} (hv:VR1 σ g w (zh6 ρ x) v):VR1 σ0 ⟨g.K,fun i=>g.μ (ρ i)⟩ w x v:=by
 cases x with
 | x s=>exact zed hl hs hv
 | a cs=>
  simp only [zec,List.all_eq_true] at hs;obtain⟨vs,rfl,h1,h2⟩:=hv;exact⟨vs,rfl,by simpa using h1,fun i s u hi hu=>zed hl (hs s (List.mem_of_getElem? hi)) (h2 i _ u (by rw [List.getElem?_map,hi];rfl) hu)⟩
 | _=>exact hv.elim
theorem zcr (hl:∀ id ob,lk id σ0=some ob→lk (ρ id) σ=some (rnOb ρ ob)) {x:AV} (hs:zeR σ0 x=true) {v:Value} (hv:VR2 σ g w (rnAV ρ x) v):VR2 σ0 ⟨g.K,fun i=>g.μ (ρ i)⟩ w x v:=by
 cases x with
 | t xs=>
  simp only [zeR,List.all_eq_true] at hs;obtain⟨vs,rfl,h1,h2⟩:=hv;exact⟨vs,rfl,by simpa using h1,fun i s u hi hu=>zdm hl (hs s (List.mem_of_getElem? hi)) (h2 i _ u (by rw [List.getElem?_map,hi];rfl) hu)⟩
 | x s=>exact zdm (x:=.x s) hl hs hv
 | a cs=>exact zdm (x:=.a cs) hl hs hv
 | g _ _=>exact hv.elim
theorem zny (hl:∀ id ob,lk id σ0=some ob→lk (ρ id) σ=some (rnOb ρ ob)) {x:AV} (hs:rsAV σ0 x=true) {v:Value} (hv:VR σ g w (rnV ρ x) v):VR σ0 ⟨g.K,fun i=>g.μ (ρ i)⟩ w x v:=by
 cases x with
 | g c y=>exact⟨fun hc=>zcr hl hs (hv.1 hc),hv.2⟩
 | t xs=>exact zcr (x:=.t xs) hl hs hv
 | x s=>exact zcr (x:=.x s) hl hs hv
 | a cs=>exact zcr (x:=.a cs) hl hs hv
theorem zj4 {ρ : Nat→Nat} {s:SV} (h:datS s=true):rnSV ρ s=s:=by cases s <;> first|rfl|cases h
theorem zh5 {ρ : Nat→Nat} {x:AV} (h:zkZ x=true):zh6 ρ x=x:=by
 cases x with
 | x s=>exact congrArg AV.x (zj4 h)
 | a cs=>
  simp only [zkZ,List.all_eq_true] at h;show AV.a (cs.map (rnSV ρ))=.a cs
  rw [List.map_congr_left (fun s hs=>zj4 (h s hs)),List.map_id']
 | _=>cases h
theorem zh4 (hl:∀ id ob,lk id σ0=some ob→lk (ρ id) σ=some (rnOb ρ ob)) {o:Ob2} (hs:rsO2 σ0 o=true) {b:Nat} (hv:O2 σ g w b (rnO2 ρ o)):O2 σ0 ⟨g.K,fun i=>g.μ (ρ i)⟩ w b o:=by
 cases o with
 | map kt kvs=>
  obtain⟨es,h1,h2,h3,h4,h5,h6⟩:=hv;refine⟨es,h1,h2,fun i k x hi=>?_,h4,h5,h6⟩
  obtain⟨e,a,c,d,f⟩:=h3 i k x hi;have hd:=h6 i k x hi;exact⟨e,a,c,d,zdm hl (zeb hd) (by rw [zh5 hd];exact f)⟩
 | mapIter m since seen last=>
  cases m with
  | some m=>obtain⟨mb,h1,h2⟩:=hv;exact⟨mb,h1,zV hl (s:=.h m) hs h2⟩
  | none=>exact hv
 | strIter s pos=>exact hv
 | loop st pend params assign body nt fr dfr=>
  simp only [rsO2,Bool.and_eq_true] at hs;obtain⟨f,tmps,d,h1,h2,h3,h4⟩:=hv;refine⟨f,tmps,d,h1,h2,fun t v ht=>?_,zV hl (s:=.h dfr) hs.2 h4⟩
  have:=h3 t (rnV ρ v) (by rw [zjq,ht];rfl);exact⟨this.1,zny hl (zaO hs.1 t v ht) this.2⟩
 | dfr=>exact hv
theorem zbs (hl:∀ id ob,lk id σ1=some ob→lk (ρ id) σ''=some (rnOb ρ ob)∧g''.μ (ρ id)=g1.μ id) (hK:g''.K=g1.K) {s:SV} {v:Value} (hv:SR σ1 g1 w s v):SR σ'' g'' w (rnSV ρ s) v∧SR σ'' g'' w (rnSV.rn1 ρ s) v:=by
 induction hv with
 | d x v h=>exact⟨.d x v (by rw [hK];exact h),.d x v (by rw [hK];exact h)⟩
 | old c st n e sz st' xs v h hlt h1=>exact⟨.old _ st n e sz st' xs v (hl _ _ h).1 hlt h1,.old _ st n e sz st' xs v (hl _ _ h).1 hlt h1⟩
 | o c st n e sz xs a cap h hn hμ=>exact⟨.o _ st n e sz xs a cap (hl _ _ h).1 hn (by rw [(hl _ _ h).2,hμ]),.o _ st n e sz xs a cap (hl _ _ h).1 hn (by rw [(hl _ _ h).2,hμ])⟩
 | b id off cs k h hμ=>exact⟨.b _ off _ k (hl _ _ h).1 (by rw [(hl _ _ h).2,hμ]),.b _ off _ k (hl _ _ h).1 (by rw [(hl _ _ h).2,hμ])⟩
 | se e off k l vs h1 h2 h3=>exact⟨.se e off k l vs (by rw [hK];exact h1) h2 (by rw [hK];exact h3),.se e off k l vs (by rw [hK];exact h1) h2 (by rw [hK];exact h3)⟩
 | oeold c st i off e sz st' xs v h hlt h1=>exact⟨.oeold _ st i off e sz st' xs v (hl _ _ h).1 hlt h1,.oeold _ st i off e sz st' xs v (hl _ _ h).1 hlt h1⟩
 | osold c st i off e sz st' xs v h hlt h1=>exact⟨.osold _ st i off e sz st' xs v (hl _ _ h).1 hlt h1,.osold _ st i off e sz st' xs v (hl _ _ h).1 hlt h1⟩
 | oe c st i off e sz xs k cap h hμ=>exact⟨.oe _ st i off e sz xs k cap (hl _ _ h).1 (by rw [(hl _ _ h).2,hμ]),.oe _ st i off e sz xs k cap (hl _ _ h).1 (by rw [(hl _ _ h).2,hμ])⟩
 | os c st i off e sz xs k cap h hμ hn=>exact⟨.os _ st i off e sz xs k cap (hl _ _ h).1 (by rw [(hl _ _ h).2,hμ]) hn,.os _ st i off e sz xs k cap (hl _ _ h).1 (by rw [(hl _ _ h).2,hμ]) hn⟩
 | f fn a b v1 v2 h1 h2 _ _ ih1 ih2=>
  refine⟨.f fn _ _ v1 v2 (by simpa using h1) (by simpa using h2) (fun i s v hi hv=>?_) (fun i s v hi hv=>?_),.j _ rfl⟩
  ·rw [List.getElem?_map] at hi;cases hs:a[i]? with
   | none=>rw [hs] at hi;cases hi
   | some s0=>rw [hs] at hi;cases hi;exact (ih1 i s0 v hs hv).2
  ·rw [List.getElem?_map] at hi;cases hs:b[i]? with
   | none=>rw [hs] at hi;cases hi
   | some s0=>rw [hs] at hi;cases hi;exact (ih2 i s0 v hs hv).2
 | j v h1=>exact⟨.j v h1,.j v h1⟩
 | h id o k h hμ=>
  have e:=(zlx ρ o).symm;rw [e];exact⟨.h _ _ k (hl _ _ h).1 (by rw [(hl _ _ h).2,hμ]),.h _ _ k (hl _ _ h).1 (by rw [(hl _ _ h).2,hμ])⟩
 | sb id off n cap cs k h hμ hn hc=>exact⟨.sb _ off n cap _ k (hl _ _ h).1 (by rw [(hl _ _ h).2,hμ]) hn hc,.sb _ off n cap _ k (hl _ _ h).1 (by rw [(hl _ _ h).2,hμ]) hn hc⟩
theorem zgK (hl:∀ id ob,lk id σ1=some ob→lk (ρ id) σ''=some (rnOb ρ ob)∧g''.μ (ρ id)=g1.μ id) (hK:g''.K=g1.K) {x:AV} {v:Value} (hv:VR1 σ1 g1 w x v):VR1 σ'' g'' w (zh6 ρ x) v:=by
 cases x with
 | x s=>exact (zbs hl hK hv).1
 | a cs=>
  obtain⟨vs,rfl,h1,h2⟩:=hv;refine⟨vs,rfl,by simpa using h1,fun i s u hi hu=>?_⟩
  rw [List.getElem?_map] at hi;cases hs:cs[i]? with
  | none=>rw [hs] at hi;cases hi
  | some s0=>rw [hs] at hi;cases hi;exact (zbs hl hK (h2 i s0 u hs hu)).1
 | _=>exact hv.elim
theorem zf5 (hl:∀ id ob,lk id σ1=some ob→lk (ρ id) σ''=some (rnOb ρ ob)∧g''.μ (ρ id)=g1.μ id) (hK:g''.K=g1.K) {x:AV} {v:Value} (hv:VR2 σ1 g1 w x v):VR2 σ'' g'' w (rnAV ρ x) v:=by
 have one:=fun (x:AV) (v:Value) (hv:VR1 σ1 g1 w x v)=>zgK (g'':=g'') hl hK hv
 cases x with
 | t xs=>
  obtain⟨vs,rfl,h1,h2⟩:=hv;refine⟨vs,rfl,by simpa using h1,fun i s u hi hu=>?_⟩
  rw [List.getElem?_map] at hi;cases hs:xs[i]? with
  | none=>rw [hs] at hi;cases hi
  | some s0=>rw [hs] at hi;cases hi;exact one _ _ (h2 i s0 u hs hu)
 | x s=>exact one (.x s) v hv
 | a cs=>exact one (.a cs) v hv
 | g _ _=>exact hv.elim
theorem znx (hl:∀ id ob,lk id σ1=some ob→lk (ρ id) σ''=some (rnOb ρ ob)∧g''.μ (ρ id)=g1.μ id) (hK:g''.K=g1.K) {x:AV} {v:Value} (hv:VR σ1 g1 w x v):VR σ'' g'' w (rnV ρ x) v:=by
 have up:∀ {x:AV} {v:Value},VR2 σ1 g1 w x v→VR2 σ'' g'' w (rnAV ρ x) v:=fun h=>zf5 (g'':=g'') hl hK h
 cases x with
 | g c y=>exact⟨fun hc=>up (hv.1 hc),hv.2⟩
 | t xs=>exact zZ (up (x:=.t xs) hv)
 | x s=>exact zZ (up (x:=.x s) hv)
 | a cs=>exact zZ (up (x:=.a cs) hv)
theorem zh3 (hl:∀ id ob,lk id σ1=some ob→lk (ρ id) σ''=some (rnOb ρ ob)∧g''.μ (ρ id)=g1.μ id) (hK:g''.K=g1.K) {b:Nat} {o:Ob2} (hv:O2 σ1 g1 w b o):O2 σ'' g'' w b (rnO2 ρ o):=by
 cases o with
 | map kt kvs=>
  obtain⟨es,h1,h2,h3,h4,h5,h6⟩:=hv;refine⟨es,h1,h2,fun i k x hi=>?_,h4,h5,h6⟩
  obtain⟨e,a,c,d,f⟩:=h3 i k x hi;exact⟨e,a,c,d,by have:=zgK hl hK f;rwa [zh5 (h6 i k x hi)] at this⟩
 | mapIter m since seen last=>
  cases m with
  | some m=>obtain⟨mb,h1,h2⟩:=hv;exact⟨mb,h1,(zbs hl hK h2).1⟩
  | none=>exact hv
 | strIter s pos=>exact hv
 | loop st pend params assign body nt fr dfr=>
  obtain⟨f,tmps,d,h1,h2,h3,h4⟩:=hv;refine⟨f,tmps,d,h1,h2,fun t v ht=>?_,(zbs hl hK h4).1⟩
  rw [zjq] at ht;cases hx:lk t fr with
  | none=>rw [hx] at ht;cases ht
  | some x=>rw [hx] at ht;cases ht;exact⟨(h3 t x hx).1,znx hl hK (h3 t x hx).2⟩
 | dfr=>exact hv
end
def after (ρ : Nat→Nat) (σ0 σ1 σ:Sg):Sg:=rnSg ρ σ1 ++ ziI ((σ0.map (·.1)).map ρ) σ
def zdN (ρ : Nat→Nat) (σ0 σ1 σ:Sg):Bool:=
 injK ρ (σ1.map (·.1)) && (σ0.map (·.1)).all (fun i=>(σ1.map (·.1)).any (Nat.beq i)) && (σ1.map (·.1)).all (fun i=>(σ0.map (·.1)).any (Nat.beq i) || !((σ.map (·.1)).any (Nat.beq (ρ i))))
def SubR (ρ : Nat→Nat) (σ:Sg):Sg→Prop
 | []=>True
 | (i,o)::r=>lk (ρ i) σ=some (rnOb ρ o)∧SubR ρ σ r
theorem zjN {ρ : Nat→Nat} {σ:Sg}:∀ {σ0:Sg},SubR ρ σ σ0→∀ id ob,lk id σ0=some ob→lk (ρ id) σ=some (rnOb ρ ob)
 | [],_,id,ob,h=>by cases h
 | (j,o)::r,hs,id,ob,h=>by
  rw [zr] at h;by_cases e:j=id
  ·subst e;rw [if_pos rfl] at h;cases h;exact hs.1
  ·rw [if_neg e] at h;exact zjN hs.2 id ob h
theorem ACall.frame {P:Program} {f:FuncId} {args:List AV} {σ0 σ:Sg} {R:AV→Sg→Prop} (h:ACall P f args σ0 R) (ρ : Nat→Nat) (hl:SubR ρ σ σ0)
  (hc:(args.all (zeR σ0) && rsSg σ0 σ0 && injK ρ (σ0.map (·.1)))=true) (hn:∀ r1 σ1,R r1 σ1→zdN ρ σ0 σ1 σ=true) :
  ACall P f (args.map (rnAV ρ)) σ (fun r σ'=>∃ r1 σ1,R r1 σ1∧r=rnAV ρ r1∧σ'=after ρ σ0 σ1 σ):=by
 refine⟨h.1,fun w0 K0 g w vs hL hp hs hv=>?_⟩
 have hl:=zjN hl;simp only [Bool.and_eq_true,List.all_eq_true] at hc;obtain⟨⟨hca,hcs⟩,hinj0⟩:=hc;have hinj0:=zgj hinj0;have dom0:∀ {i:Nat},(lk i σ0).isSome=true→(lk (ρ i) σ).isSome=true:=fun {i} hi=>by
  obtain⟨ob,hob⟩:=Option.isSome_iff_exists.1 hi;rw [hl i ob hob];rfl
 let g0:Gh:=⟨g.K,fun i=>g.μ (ρ i)⟩
 let F':Nat→Prop:=fun b=>b < w.heap.size∧∀ i,(lk i σ0).isSome=true→blk (g.μ (ρ i))≠some b
 have hp0:Hp w ⟨g.K,F'⟩ σ0 g0 w:=by
  refine⟨.refl _ _,fun b hb=>hb.1,.refl _ _,fun _ _ _ h=>h,hp.val,fun id ob hid=>?_,fun id b hid hb hF=>hF.2 id hid hb,fun i j b hi hj hbi hbj=>?_⟩
  ·have hO:=hp.obs (ρ id) _ (hl id ob hid);cases ob with
   | box cs=>
    have hcs':=za2 hcs _ _ hid;simp only [rsOb,List.all_eq_true] at hcs';obtain⟨b,us,T,k1,k2,k3,k4,k5,k6⟩:=hO;refine⟨b,us,T,k1,k2,k3,by simpa using k4,fun i s hi=>?_,k6⟩
    obtain⟨v,hv,hr⟩:=k5 i (rnSV ρ s) (by rw [List.getElem?_map,hi];rfl);exact⟨v,hv,zed hl (hcs' s (List.mem_of_getElem? hi)) hr⟩
   | chain e sz st xs=>exact hO
   | x o=>obtain⟨b,k1,k2,k3,k4⟩:=hO;exact⟨b,k1,k2,zh4 hl (za2 hcs _ _ hid) k3,k4⟩
  ·have:=hp.inj (ρ i) (ρ j) b (dom0 hi) (dom0 hj) hbi hbj;exact hinj0 i (zz.1 hi) j (zz.1 hj) this
 refine (h.2 w ⟨g.K,F'⟩ g0 w vs (hL.mono hp.ext) hp0 (by simpa using hs) fun i x v hi hu=>?_).mono ?_
 ·exact zcr hl (hca x (List.mem_of_getElem? hi)) (hv i (rnAV ρ x) v (by rw [List.getElem?_map,hi];rfl) hu)
 rintro e w' ⟨v,g1,σ1,r1,he,hd,hvr,hR⟩;have hon:=hn r1 σ1 hR;unfold zdN at hon;simp only [Bool.and_eq_true,List.all_eq_true,Bool.or_eq_true,Bool.not_eq_true',zdY] at hon;obtain⟨⟨hi1,hsub⟩,hnew⟩:=hon;have hi1:=zgj hi1;let ks:=σ1.map (·.1)
 let g'':Gh:=⟨g1.K,fun k=>match unrn ρ ks k with|some i=>g1.μ i|none=>g.μ k⟩
 have out:∀ {k:Nat},(lk k σ).isSome=true→(∀ i,(lk i σ0).isSome=true→ρ i≠k)→∀ i ∈ ks,ρ i≠k:=by
  intro k hk hno i hi he';rcases hnew i hi with h1|h1
  ·exact hno i (zz.2 h1) he'
  ·have : ρ i ∈ σ.map (·.1):=by rw [he'];exact zz.1 hk
   rw [zdY.2 this] at h1;cases h1
 have lkin:∀ {i:Nat},i ∈ ks→lk (ρ i) (after ρ σ0 σ1 σ)=(lk i σ1).map (rnOb ρ)∧g''.μ (ρ i)=g1.μ i:=by
  intro i hi;have h1:=zjp (ρ:=ρ) (σ:=σ1) (ks:=ks) hi1 (fun _ h=>h) hi;refine⟨?_,?_⟩
  ·unfold after;rw [zel,h1];obtain⟨ob,hob⟩:=Option.isSome_iff_exists.1 (zz.2 hi);rw [hob];rfl
  ·show (match unrn ρ ks (ρ i) with|some i=>g1.μ i|none=>_)=_
   rw [zjS hi1 hi]
 have lkout:∀ {k:Nat},(∀ i ∈ ks,ρ i≠k)→(∀ i,(lk i σ0).isSome=true→ρ i≠k)→lk k (after ρ σ0 σ1 σ)=lk k σ∧g''.μ k=g.μ k:=by
  intro k hk hk0;refine⟨?_,?_⟩
  ·unfold after;rw [zel,zc4 hk];exact zfb (fun hm=>by
    obtain⟨i,hi,he'⟩:=List.mem_map.1 hm;exact hk0 i (zz.2 hi) he') σ
  ·show (match unrn ρ ks k with|some i=>g1.μ i|none=>_)=_
   rw [zfS hk]
 have hlp:∀ id ob,lk id σ1=some ob→lk (ρ id) (after ρ σ0 σ1 σ)=some (rnOb ρ ob)∧g''.μ (ρ id)=g1.μ id:=by
  intro id ob hid;have:=lkin (i:=id) (zz.1 (by rw [hid];rfl));rw [hid] at this;exact this
 have hext:Ext g.K w g1.K w':=hd.hp.ext;have leaf:∀ {s:SV} {u:Value},SR σ0 g0 w s u→SR (after ρ σ0 σ1 σ) g'' w' (rnSV ρ s) u:=fun hs=>(zbs hlp rfl (hd.keep _ _ hs)).1
 have isin:∀ k,(∃ i,(lk i σ0).isSome=true∧ρ i=k)∨(∀ i,(lk i σ0).isSome=true→ρ i≠k):=by
  intro k;by_cases hk:∃ i,(lk i σ0).isSome=true∧ρ i=k
  ·exact .inl hk
  ·exact .inr fun i hi he'=>hk ⟨i,hi,he'⟩
 have keep:∀ s u,SR σ g w s u→SR (after ρ σ0 σ1 σ) g'' w' s u:=by
  intro s u hs;induction hs with
  | d x v h=>exact .d x v (h.mono hext)
  | old c st n e sz st' xs v h hlt h1=>
   rcases isin c with ⟨i,hi,rfl⟩|hno
   ·exact leaf (s:=.o i st n) (zV hl (s:=.o i st n) hi (SR.old (σ:=σ) (ρ i) st n e sz st' xs v h hlt h1))
   ·have:=lkout (out (by rw [h];rfl) hno) hno;exact .old c st n e sz st' xs v (by rw [this.1];exact h) hlt h1
  | o c st n e sz xs a cap h hn hμ=>
   rcases isin c with ⟨i,hi,rfl⟩|hno
   ·exact leaf (s:=.o i st n) (zV hl (s:=.o i st n) hi (SR.o (σ:=σ) (ρ i) st n e sz xs a cap h hn hμ))
   ·have:=lkout (out (by rw [h];rfl) hno) hno;exact .o c st n e sz xs a cap (by rw [this.1];exact h) hn (by rw [this.2];exact hμ)
  | b id off cs k h hμ=>
   rcases isin id with ⟨i,hi,rfl⟩|hno
   ·exact leaf (s:=.b i off) (zV hl (s:=.b i off) hi (SR.b (σ:=σ) (ρ i) off cs k h hμ))
   ·have:=lkout (out (by rw [h];rfl) hno) hno;exact .b id off cs k (by rw [this.1];exact h) (by rw [this.2];exact hμ)
  | se e off k l vs hK hc' hr=>
   exact .se e off k l vs (fun j hj=>hext.sub _ _ (hK j hj)) (fun j hj=>by rw [hext.cell _ _ (hK j hj)];exact hc' j hj) (fun j x hx=>(hr j x hx).mono hext)
  | oeold c st i0 off e sz st' xs v h hlt h1=>
   rcases isin c with ⟨i,hi,rfl⟩|hno
   ·exact leaf (s:=.oe i st i0 off) (zV hl (s:=.oe i st i0 off) hi (SR.oeold (σ:=σ) (ρ i) st i0 off e sz st' xs v h hlt h1))
   ·have:=lkout (out (by rw [h];rfl) hno) hno;exact .oeold c st i0 off e sz st' xs v (by rw [this.1];exact h) hlt h1
  | osold c st i0 off e sz st' xs v h hlt h1=>
   rcases isin c with ⟨i,hi,rfl⟩|hno
   ·exact leaf (s:=.os i st i0 off) (zV hl (s:=.os i st i0 off) hi (SR.osold (σ:=σ) (ρ i) st i0 off e sz st' xs v h hlt h1))
   ·have:=lkout (out (by rw [h];rfl) hno) hno;exact .osold c st i0 off e sz st' xs v (by rw [this.1];exact h) hlt h1
  | oe c st i0 off e sz xs k cap h hμ=>
   rcases isin c with ⟨i,hi,rfl⟩|hno
   ·exact leaf (s:=.oe i st i0 off) (zV hl (s:=.oe i st i0 off) hi (SR.oe (σ:=σ) (ρ i) st i0 off e sz xs k cap h hμ))
   ·have:=lkout (out (by rw [h];rfl) hno) hno;exact .oe c st i0 off e sz xs k cap (by rw [this.1];exact h) (by rw [this.2];exact hμ)
  | os c st i0 off e sz xs k cap h hμ hn=>
   rcases isin c with ⟨i,hi,rfl⟩|hno
   ·exact leaf (s:=.os i st i0 off) (zV hl (s:=.os i st i0 off) hi (SR.os (σ:=σ) (ρ i) st i0 off e sz xs k cap h hμ hn))
   ·have:=lkout (out (by rw [h];rfl) hno) hno;exact .os c st i0 off e sz xs k cap (by rw [this.1];exact h) (by rw [this.2];exact hμ) hn
  | f fn first captured v1 v2 h1 h2 _ _ ih1 ih2=>exact .f fn first captured v1 v2 h1 h2 ih1 ih2
  | j v h1=>exact .j v h1
  | h id o k h hμ=>
   rcases isin id with ⟨i,hi,rfl⟩|hno
   ·exact leaf (s:=.h i) (zV hl (s:=.h i) hi (SR.h (σ:=σ) (ρ i) o k h hμ))
   ·have:=lkout (out (by rw [h];rfl) hno) hno;exact .h id o k (by rw [this.1];exact h) (by rw [this.2];exact hμ)
  | sb id off n cap cs k h hμ hn' hc'=>
   rcases isin id with ⟨i,hi,rfl⟩|hno
   ·exact leaf (s:=.sb i off n cap) (zV hl (s:=.sb i off n cap) hi (SR.sb (σ:=σ) (ρ i) off n cap cs k h hμ hn' hc'))
   ·have:=lkout (out (by rw [h];rfl) hno) hno;exact .sb id off n cap cs k (by rw [this.1];exact h) (by rw [this.2];exact hμ) hn' hc'
 have fsub:∀ b,K0.F b→F' b:=fun b hb=>⟨hp.F_lt b hb,fun i hi he'=>hp.own (ρ i) b (dom0 hi) he' hb⟩
 have cases':∀ {k:Nat},(lk k (after ρ σ0 σ1 σ)).isSome=true→(∃ i,i ∈ ks∧ρ i=k)∨((∀ i ∈ ks,ρ i≠k)∧(∀ i,(lk i σ0).isSome=true→ρ i≠k)∧(lk k σ).isSome=true):=by
  intro k hk;by_cases hin:∃ i,i ∈ ks∧ρ i=k
  ·exact .inl hin
  ·have hks:∀ i ∈ ks,ρ i≠k:=fun i hi he'=>hin ⟨i,hi,he'⟩
   have hk0:∀ i,(lk i σ0).isSome=true→ρ i≠k:=fun i hi=>hks i (hsub i (zz.1 hi))
   refine .inr ⟨hks,hk0,?_⟩
   rw [(lkout hks hk0).1] at hk;exact hk
 have frameF:∀ {k b:Nat},(lk k σ).isSome=true→(∀ i,(lk i σ0).isSome=true→ρ i≠k)→blk (g.μ k)=some b→F' b:=by
  intro k b hk hno hb;obtain⟨ob,hob⟩:=Option.isSome_iff_exists.1 hk;exact⟨((hp.obs k ob hob).blk_lt hb).2,fun i hi he'=>hno i hi (hp.inj (ρ i) k b (dom0 hi) hk he' hb)⟩
 have hd1:=hd.hp;refine⟨v,g'',after ρ σ0 σ1 σ,rnAV ρ r1,he,⟨⟨?_,hp.flt,hp.ext.trans hext,?_,hd1.val,?_,?_,?_⟩,keep⟩,zf5 hlp rfl hvr,r1,σ1,hR,rfl,rfl⟩
 ·exact hp.kept.trans ⟨hd1.kept.os,hd1.kept.tape,hd1.kept.output,hd1.kept.size,fun b hb=>hd1.kept.block b (fsub b hb)⟩
 ·exact fun b o hF hk=>hp.old b o hF (hd1.old b o (fsub b hF) hk)
 ·intro k ob hk;rcases cases' (by rw [hk];rfl) with ⟨i,hi,rfl⟩|⟨hks,hk0,hkσ⟩
  ·have h2:=lkin hi;obtain⟨ob1,hob1⟩:=Option.isSome_iff_exists.1 (zz.2 hi);rw [hob1,hk] at h2;obtain⟨h2,h3⟩:=h2;cases h2;have hO:=hd1.obs i ob1 hob1;cases ob1 with
   | box cs=>
    obtain⟨b,us,T,k1,k2,k3,k4,k5,k6⟩:=hO;refine⟨b,us,T,by rw [h3];exact k1,k2,k3,by simpa using k4,fun j s hj=>?_,k6⟩
    rw [List.getElem?_map] at hj;cases hs':cs[j]? with
    | none=>rw [hs'] at hj;cases hj
    | some s0=>
     rw [hs'] at hj;cases hj;obtain⟨u,hu,hr⟩:=k5 j s0 hs';exact⟨u,hu,(zbs hlp rfl hr).1⟩
   | chain e sz st xs=>
    obtain⟨us,k1,k2,k3,k4,k5⟩:=hO;exact⟨us,by rw [h3];exact k1,by rw [h3];exact k2,k3,k4,fun b hb=>k5 b (by rw [← h3];exact hb)⟩
   | x o=>obtain⟨b,k1,k2,k3,k4⟩:=hO;exact⟨b,by rw [h3];exact k1,k2,zh3 hlp rfl k3,k4⟩
  ·have h2:=lkout hks hk0;rw [h2.1] at hk;have hO:=hp.obs k ob hk;refine hO.keep keep hext h2.2 (fun b hb=>hd1.kept.block b (frameF hkσ hk0 hb)) (fun b hb o hkk=>?_)
   exact hp.notK hk hb o (hd1.old b o (frameF hkσ hk0 hb) hkk)
 ·intro k b hk hb hF;rcases cases' hk with ⟨i,hi,rfl⟩|⟨hks,hk0,hkσ⟩
  ·rw [(lkin hi).2] at hb;exact hd1.own i b (zz.2 hi) hb (fsub b hF)
  ·rw [(lkout hks hk0).2] at hb;exact hp.own k b hkσ hb hF
 ·intro k k' b hk hk' hb hb';rcases cases' hk with ⟨i,hi,rfl⟩|⟨hks,hk0,hkσ⟩ <;> rcases cases' hk' with ⟨j,hj,rfl⟩|⟨hks',hk0',hkσ'⟩
  ·rw [(lkin hi).2] at hb;rw [(lkin hj).2] at hb';rw [hd1.inj i j b (zz.2 hi) (zz.2 hj) hb hb']
  ·rw [(lkin hi).2] at hb;rw [(lkout hks' hk0').2] at hb';exact absurd (frameF hkσ' hk0' hb') (hd1.own i b (zz.2 hi) hb)
  ·rw [(lkout hks hk0).2] at hb;rw [(lkin hj).2] at hb';exact absurd (frameF hkσ hk0 hb) (hd1.own j b (zz.2 hj) hb')
  ·rw [(lkout hks hk0).2] at hb;rw [(lkout hks' hk0').2] at hb';exact hp.inj k k' b hkσ hkσ' hb hb'
end Go.QL
namespace Go.QL
open Go Go.RowKit
def zlu (σ σ':Sg):SV→Option PV
 | .d p=>some p
 | .o c st n=>match lk c σ' with
  | some _=>none
  | none=>(match zbq σ (.o c st n) with|some (.d p)=>some p|_=>none)
 | _=>none
def zh2 (σ σ':Sg):List SV→Option (List PV)
 | []=>some []
 | s::r=>match zlu σ σ' s,zh2 σ σ' r with|some t,some l=>some (t::l)|_,_=>none
def zcy (σ σ':Sg):SV→Option SV
 | .d p=>some (.d p)
 | .se e off=>some (.se e off)
 | .j=>some .j
 | .o c st n=>match lk c σ' with
  | some _=>some (.o c st n)
  | none=>zbq σ (.o c st n)
 | .b id off=>match lk id σ' with
  | some _=>some (.b id off)
  | none=>none
 | .oe c st i off=>match lk c σ' with
  | some _=>some (.oe c st i off)
  | none=>none
 | .os c st i off=>match lk c σ' with
  | some _=>some (.os c st i off)
  | none=>none
 | .h id=>match lk id σ' with
  | some _=>some (.h id)
  | none=>none
 | .sb id off n cap=>match lk id σ' with
  | some _=>some (.sb id off n cap)
  | none=>(match lk id σ with
   | some (.box cs)=>(match off,zh2 σ σ' cs with
    | 0,some ps=>if n=ps.length then some (.d (.s 1 (ps.map fun p=>[p]))) else none
    | _,_=>none)
   | _=>none)
 | .f fn a b=>bif a.all (rs1 σ') && b.all (rs1 σ') then some (.f fn a b) else none
def zkO (σ σ':Sg):List SV→Option (List SV)
 | []=>some []
 | s::r=>match zcy σ σ' s,zkO σ σ' r with|some t,some l=>some (t::l)|_,_=>none
def zc5 (σ σ':Sg):AV→Option AV
 | .x s=>match zcy σ σ' s with|some t=>some (.x t)|none=>none
 | .a cs=>match zkO σ σ' cs with|some l=>some (.a l)|none=>none
 | _=>none
def zdP (σ σ':Sg):List AV→Option (List AV)
 | []=>some []
 | x::r=>match zc5 σ σ' x,zdP σ σ' r with|some y,some l=>some (y::l)|_,_=>none
def zb0 (tt:TT) (res:List ResultVar) (fr:Fr) (σ σ':Sg):Option AV:=
 match zbY tt σ fr res with
 | some [x]=>zc5 σ σ' x
 | some xs=>(match zdP σ σ' xs with|some l=>some (.t l)|none=>none)
 | none=>none
def zqs (tt:TT) (res:List ResultVar) (ids:List Nat) (R:AV→Sg→Prop):Exit→Fr→Sg→Prop
 | .normal,fr,σ|.ret,fr,σ=>∃ r σ',SubS σ σ'∧(rsSg σ' σ' && zbC ids σ')=true∧zb0 tt res fr σ σ'=some r∧R r σ'
 | _,_,_=>False
def Kend (σ σ':Sg) (g:Gh) (w:World):Nat→Nat→Prop:=fun b o=>g.K b o∨∃ c ob,lk c σ=some ob∧lk c σ'=none∧blk (g.μ c)=some b∧b < w.heap.size
section
variable {P:Program} {Γ:Cx} {w0:World} {K0:Bs} {fr:Fr} {σ σ':Sg} {g:Gh} {a:Act} {w:World}
theorem zeE:Ext g.K w (Kend σ σ' g w) w:=⟨fun _ _ h=>.inl h,fun _ _ _=>rfl⟩
theorem zak {s:SV} {v:Value} (h:SR σ' g w s v):SR σ' ⟨Kend σ σ' g w,g.μ⟩ w s v:=
 SR.keep (σ:=σ') (σ':=σ') (g:=g) (g':=⟨Kend σ σ' g w,g.μ⟩) (w:=w) (w':=w) ⟨fun _ cs h=>⟨rfl,cs,h⟩,fun _ _ _ _ xs h=>.inr ⟨rfl,xs,h,rfl⟩,fun _ o h=>⟨rfl,o,h,rfl⟩⟩ zeE h
theorem Hp.atEnd (hp:Hp w0 K0 σ g w) (hs:Sup σ' σ) (ho:rsSg σ' σ'=true):Hp w0 K0 σ' ⟨Kend σ σ' g w,g.μ⟩ w:=by
 have hw:=hp.weaken hs ho;refine⟨hw.kept,hw.flt,hw.ext.trans zeE,fun b o hF hk=>?_,fun b o hk=>?_,fun id ob hid=>?_,hw.own,hw.inj⟩
 ·rcases hk with hk|⟨c,ob,hl,_,hb,_⟩
  ·exact hp.old b o hF hk
  ·exact absurd hF (hp.own c b (by rw [hl];rfl) hb)
 ·rcases hk with hk|⟨c,ob,_,_,_,h⟩
  ·exact hp.val b o hk
  ·exact h
 ·refine (hw.obs id ob hid).keep (fun s v h=>zak h) zeE rfl (fun _ _=>rfl) (fun b hb o hk=>?_)
  rcases hk with hk|⟨c,ob',hl,hn,hb',_⟩
  ·exact hw.notK hid hb o hk
  ·have:=hp.inj id c b (by rw [hs _ _ hid];rfl) (by rw [hl];rfl) hb hb';subst this;rw [hid] at hn;cases hn
theorem zko (hp:Hp w0 K0 σ g w) {c e sz st n:Nat} {xs:List (List PV)} (hl:lk c σ=some (.chain e sz st xs)) (hn:n≤xs.length) {v:Value} (hv:SR σ g w (.o c st n) v) :
  PR (fun b o=>g.K b o∨(blk (g.μ c)=some b∧b < w.heap.size)) w (.s sz (xs.take n)) v:=by
 have:=Imp.freeze.freeze_one (σ':=[]) (a:=⟨#[v],[]⟩) (t:=0) hp hl hn (show VR σ g w (.x (.o c st n)) v from hv);have h2:SR [] ⟨fun b o=>g.K b o∨(blk (g.μ c)=some b∧b < w.heap.size),g.μ⟩ w (.d (.s sz (xs.take n))) v:=this;cases h2 with|d _ _ h=>exact h
theorem zgJ:∀ {l:List SV} {t:List PV},zh2 σ σ' l=some t→t.length=l.length∧∀ (i:Nat) (y:PV),t[i]?=some y→∃ s,l[i]?=some s∧zlu σ σ' s=some y
 | [],t,h=>by cases h;exact⟨rfl,fun i y hi=>by simp at hi⟩
 | s::r,t,h=>by
  simp only [zh2] at h;cases h1:zlu σ σ' s with
  | none=>rw [h1] at h;cases h
  | some y=>
   cases h2:zh2 σ σ' r with
   | none=>rw [h1,h2] at h;cases h
   | some l=>
    rw [h1,h2] at h;cases h;obtain⟨e,ih⟩:=zgJ h2;refine⟨by simp [e],fun i z hi=>?_⟩
    cases i with
    | zero=>cases hi;exact⟨s,rfl,h1⟩
    | succ i=>exact ih i z hi
theorem znt (hp:Hp w0 K0 σ g w) {s:SV} {p:PV} (h:zlu σ σ' s=some p) {v:Value} (hv:SR σ g w s v):PR (Kend σ σ' g w) w p v:=by
 cases s with
 | d q=>cases h;cases hv with|d _ _ h=>exact h.mono zeE
 | o c st n=>
  simp only [zlu] at h;split at h
  ·cases h
  ·rename_i hno;simp only [zbq] at h;split at h
   ·rename_i p' h';cases h;split at h'
    ·rename_i e sz st' xs hl;split at h'
     ·rename_i hc;cases h';obtain⟨rfl,hn⟩:=hc;refine (zko hp hl hn hv).mono ⟨fun b o hk=>?_,fun _ _ _=>rfl⟩
      rcases hk with hk|⟨h1,h2⟩
      ·exact .inl hk
      ·exact .inr ⟨c,_,hl,hno,h1,h2⟩
     ·cases h'
    ·cases h'
   ·cases h
 | _=>cases h
theorem zir (hp:Hp w0 K0 σ g w) (hs:Sup σ' σ) {s t:SV} (h:zcy σ σ' s=some t) {v:Value} (hv:SR σ g w s v):SR σ' ⟨Kend σ σ' g w,g.μ⟩ w t v:=by
 cases s with
 | d p=>cases h;cases hv with|d _ _ h=>exact .d _ _ (h.mono zeE)
 | se e off=>cases h;exact zak (za3 hs (s:=.se e off) rfl hv)
 | j=>cases h;exact zak (za3 hs (s:=.j) rfl hv)
 | o c st n=>
  simp only [zcy] at h;split at h
  ·rename_i ob hob;cases h;exact zak (za3 hs (s:=.o c st n) (by simp [rs1,hob]) hv)
  ·rename_i hno;simp only [zbq] at h;split at h
   ·rename_i e sz st' xs hl;split at h
    ·rename_i hc;cases h;obtain⟨rfl,hn⟩:=hc;refine .d _ _ ((zko hp hl hn hv).mono ⟨fun b o hk=>?_,fun _ _ _=>rfl⟩)
     rcases hk with hk|⟨h1,h2⟩
     ·exact .inl hk
     ·exact .inr ⟨c,_,hl,hno,h1,h2⟩
    ·cases h
   ·cases h
 | b id off=>
  simp only [zcy] at h;split at h
  ·rename_i ob hob;cases h;exact zak (za3 hs (s:=.b id off) (by simp [rs1,hob]) hv)
  ·cases h
 | oe c st i off=>
  simp only [zcy] at h;split at h
  ·rename_i ob hob;cases h;exact zak (za3 hs (s:=.oe c st i off) (by simp [rs1,hob]) hv)
  ·cases h
 | os c st i off=>
  simp only [zcy] at h;split at h
  ·rename_i ob hob;cases h;exact zak (za3 hs (s:=.os c st i off) (by simp [rs1,hob]) hv)
  ·cases h
 | h id=>
  simp only [zcy] at h;split at h
  ·rename_i ob hob;cases h;exact zak (za3 hs (s:=.h id) (by simp [rs1,hob]) hv)
  ·cases h
 | sb id off n cap=>
  simp only [zcy] at h;split at h
  ·rename_i ob hob;cases h;exact zak (za3 hs (s:=.sb id off n cap) (by simp [rs1,hob]) hv)
  ·rename_i hno;split at h
   ·rename_i cs hl;split at h
    ·rename_i ps hps;split at h
     ·rename_i hn;cases h;obtain⟨hpl,hpg⟩:=zgJ hps;cases hv with
      | sb _ _ _ _ cs' k hl' hμ hn' hc'=>
       rw [hl] at hl';cases hl';obtain⟨b,vs,T,h1,h2,h3,h4,h5,h6⟩:=hp.obs _ _ hl;rw [hμ] at h1;have hkb:k=b:=by injection h1 with h1;injection h1 with h1;injection h1
       subst hkb;have hbl:blk (g.μ id)=some k:=by rw [hμ];rfl
       have hlt:k < w.heap.size:=(hp.obs _ _ hl).blk_lt hbl |>.2
       have hcell:∀ i v,vs[i]?=some v→w.cell? ⟨k,i,none⟩=some v:=fun i v hi=>by
        unfold World.cell?;rw [h3];simp [hi]
       have key:∀ (i:Nat) (p:PV),ps[i]?=some p→∃ v,vs[i]?=some v∧PR (Kend σ σ' g w) w p v:=by
        intro i p hi;obtain⟨s,hs',hr'⟩:=hpg i p hi;obtain⟨v,hv1,hv2⟩:=h5 i s hs';exact⟨v,hv1,znt hp hr' hv2⟩
       have:=PR.s (K:=Kend σ σ' g w) (w:=w) 1 (ps.map fun p=>[p]) (some ⟨k,0,none⟩) cap k 0 (fun i j=>vs.getD (i+j) undef) (by simp;omega) hc' (by simp) (fun _=>rfl)
        (fun i el hi j hj=>.inr ⟨id,_,hl,hno,hbl,hlt⟩) (fun i el hi j hj=>by
         rw [List.getElem?_map] at hi;cases hpi:ps[i]? with
         | none=>rw [hpi] at hi;cases hi
         | some p=>
          rw [hpi] at hi;cases hi;have hj0:j=0:=by simpa using hj
          subst hj0;obtain⟨v,hv1,hv2⟩:=key i p hpi;have e1:vs.getD (i+0) undef=v:=by simp [hv1]
          rw [e1];simpa using hcell i v hv1) (fun i el hi j x hj=>by
         rw [List.getElem?_map] at hi;cases hpi:ps[i]? with
         | none=>rw [hpi] at hi;cases hi
         | some p=>
          rw [hpi] at hi;cases hi;cases j with
          | succ j=>simp at hj
          | zero=>
           cases hj;obtain⟨v,hv1,hv2⟩:=key i _ hpi;have e1:vs.getD (i+0) undef=v:=by simp [hv1]
           rw [e1];exact hv2)
       rw [List.length_map,← hn] at this;exact .d _ _ this
     ·cases h
    ·cases h
   ·cases h
 | f fn a b=>
  simp only [zcy] at h;cases hc:(a.all (rs1 σ') && b.all (rs1 σ')) with
  | false=>rw [hc] at h;cases h
  | true=>rw [hc] at h;cases h;exact zak (zhn hs (s:=.f fn a b) hc hv)
theorem zis:∀ {l t:List SV},zkO σ σ' l=some t→t.length=l.length∧∀ (i:Nat) (y:SV),t[i]?=some y→∃ s,l[i]?=some s∧zcy σ σ' s=some y
 | [],t,h=>by cases h;exact⟨rfl,fun i y hi=>by simp at hi⟩
 | s::r,t,h=>by
  simp only [zkO] at h;cases h1:zcy σ σ' s with
  | none=>rw [h1] at h;cases h
  | some y=>
   cases h2:zkO σ σ' r with
   | none=>rw [h1,h2] at h;cases h
   | some l=>
    rw [h1,h2] at h;cases h;obtain⟨e,ih⟩:=zis h2;refine⟨by simp [e],fun i z hi=>?_⟩
    cases i with
    | zero=>cases hi;exact⟨s,rfl,h1⟩
    | succ i=>exact ih i z hi
theorem zgf:∀ {l t:List AV},zdP σ σ' l=some t→t.length=l.length∧∀ (i:Nat) (y:AV),t[i]?=some y→∃ s,l[i]?=some s∧zc5 σ σ' s=some y
 | [],t,h=>by cases h;exact⟨rfl,fun i y hi=>by simp at hi⟩
 | s::r,t,h=>by
  simp only [zdP] at h;cases h1:zc5 σ σ' s with
  | none=>rw [h1] at h;cases h
  | some y=>
   cases h2:zdP σ σ' r with
   | none=>rw [h1,h2] at h;cases h
   | some l=>
    rw [h1,h2] at h;cases h;obtain⟨e,ih⟩:=zgf h2;refine⟨by simp [e],fun i z hi=>?_⟩
    cases i with
    | zero=>cases hi;exact⟨s,rfl,h1⟩
    | succ i=>exact ih i z hi
theorem zgW (hp:Hp w0 K0 σ g w) (hs:Sup σ' σ) {x y:AV} (h:zc5 σ σ' x=some y) {v:Value} (hv:VR2 σ g w x v):VR1 σ' ⟨Kend σ σ' g w,g.μ⟩ w y v∧ziC y=true:=by
 cases x with
 | x s=>
  simp only [zc5] at h;cases h1:zcy σ σ' s with
  | none=>rw [h1] at h;cases h
  | some t=>rw [h1] at h;cases h;exact⟨zir hp hs h1 hv,rfl⟩
 | a cs=>
  simp only [zc5] at h;cases h1:zkO σ σ' cs with
  | none=>rw [h1] at h;cases h
  | some l=>
   rw [h1] at h;cases h;obtain⟨vs,rfl,hsz,hr⟩:=hv;obtain⟨hl,hg⟩:=zis h1;refine⟨⟨vs,rfl,by rw [hl,hsz],fun i s u hi hu=>?_⟩,rfl⟩
   obtain⟨s',h1',h2'⟩:=hg i s hi;exact zir hp hs h2' (hr i s' u h1' hu)
 | t _=>cases h
 | g _ _=>cases h
theorem zk3 {x:AV} (h:ziC x=true) {v:Value} (hv:VR1 σ g w x v):VR2 σ g w x v:=by
 cases x with
 | x _=>exact hv
 | a _=>exact hv
 | t _=>cases h
 | g _ _=>cases h
theorem zbQ {tt:TT} (htt:tt.ok P) (hr:Rel Γ fr σ g a w) (hs:Sup σ' σ) {fn:Func} {res:List ResultVar} (hres:fn.results=res.toArray) {r:AV} (h:zb0 tt res fr σ σ'=some r) :
  ∃ v,(results fn a.tmps).run P w=.ok v w∧VR2 σ' ⟨Kend σ σ' g w,g.μ⟩ w r v:=by
 unfold zb0 at h;cases hx:zbY tt σ fr res with
 | none=>rw [hx] at h;cases h
 | some xs=>
  rw [hx] at h;obtain⟨us,hus,hl,hrs⟩:=zef htt hr hx;have hm:(res.toArray.mapM (m:=Sem) (zgM a.tmps)).run P w=.ok us.toArray w:=by
   rw [Array.mapM_eq_mapM_toList,Sem.run_map,hus];rfl
  have hrun:(results fn a.tmps).run P w=.ok (if h:us.toArray.size=1 then us.toArray[0] else .tuple us.toArray) w:=by
   rw [zeS,hres,Sem.run_bind,hm];rfl
  refine⟨_,hrun,?_⟩
  have many:¬ us.toArray.size=1→(match zdP σ σ' xs with|some l=>some (AV.t l)|none=>none)=some r→VR2 σ' ⟨Kend σ σ' g w,g.μ⟩ w r (.tuple us.toArray):=by
   intro _ h;cases hk:zdP σ σ' xs with
   | none=>rw [hk] at h;cases h
   | some l=>
    rw [hk] at h;cases h;obtain⟨hll,hg⟩:=zgf hk;refine⟨_,rfl,by simp;omega,fun i z q hi hq=>?_⟩
    obtain⟨s,h1,h2⟩:=hg i z hi;exact (zgW hr.hp hs h2 (hrs i s q h1 (by simpa using hq))).1
  match xs,us,hl,hrs,h,many with
  | [],[],_,_,h,many=>rw [dif_neg (by simp)];exact many (by simp) h
  | [x],[u],_,hrs,h,_=>
   have:=zgW hr.hp hs h (hrs 0 _ u rfl rfl);exact zk3 this.2 this.1
  | x::y::xs,u::v::us,_,_,h,many=>
   have hne:¬ (u::v::us).toArray.size=1:=by simp
   rw [dif_neg hne];exact many hne h
theorem zp {tt:TT} (htt:tt.ok P) {f:FuncId} {fn:Func} {c:Code} {args:List AV} {σ:Sg} {R:AV→Sg→Prop} {res:List ResultVar} (hf:P.funcs[f]?=some fn) (hb:fn.body=some c)
  (hname:(fn.name == "runtime.NumGoroutine")=false) (hres:fn.results=res.toArray) {nt:Nat} (hnt:fn.ntmps=nt) (hle:args.length≤nt)
  (h:∀ w0 K0 B,AW P ⟨w0,K0,nt,B,σ.map (·.1),none,[],[]⟩ c (zqs tt res (σ.map (·.1)) R) (entry 0 args) σ):ACall P f args σ R:=by
 refine⟨⟨fn,hf,by rw [hb];rfl,hname⟩,fun w0 K0 g w vs hL hp hs hv=>?_⟩
 refine calls_of_wp hf hb ((wpIn_wide (n:=0)).1 ?_)
 have hrel:Rel ⟨w0,K0,nt,SR σ g w,σ.map (·.1),none,[],[]⟩ (entry 0 args) σ g ⟨vs ++ Array.replicate (fn.ntmps - vs.size) undef,[]⟩ w:=by
  refine⟨hp,fun t x ht=>?_,by simp;omega,DRb.empty,fun s v hb=>⟨hb,SR.inI hb⟩⟩
  obtain⟨_,hx⟩:=zbm args 0 t x ht;rw [Nat.sub_zero] at hx;have hlt:t < args.length:=(List.getElem?_eq_some_iff.1 hx).1;refine⟨by show t < nt;omega,?_⟩
  have hvt:vs[t]?=some (vs[t]'(by omega)):=Array.getElem?_eq_getElem (by omega);have e:(vs ++ Array.replicate (fn.ntmps - vs.size) undef).getD t undef=vs[t]'(by omega):=by
   rw [Array.getD_eq_getD_getElem?,Array.getElem?_append_left (by omega),hvt];rfl
  show VR _ _ _ _ ((vs ++ Array.replicate (fn.ntmps - vs.size) undef).getD t undef)
  rw [e];exact zZ (hv t x _ hx hvt)
 refine wpIn_mono ((h w0 K0 _).use hL hrel) ?_
 intro e a' w' ⟨fr,τ,g',hr,hq⟩;have fin:(∃ r σ',SubS τ σ'∧(rsSg σ' σ' && zbC (σ.map (·.1)) σ')=true∧zb0 tt res fr τ σ'=some r∧R r σ') →
   a'.defers=[]∧∃ v,(results fn a'.tmps).run P w'=.ok v w'∧∃ v_1 g'' σ'' r,Ending.returned v=.returned v_1∧Did w0 K0 σ g w σ'' g'' w'∧VR2 σ'' g'' w' r v_1∧R r σ'':=by
  rintro⟨r,σ',hsub,hc,ho,hR⟩;simp only [Bool.and_eq_true] at hc;have hsup:=za9 hsub;obtain⟨v,hrun,hvr⟩:=zbQ htt hr hsup hres ho;exact⟨hr.defers.nil,v,hrun,v,_,σ',r,rfl,⟨hr.hp.atEnd hsup hc.1,fun s u hs=>zak (zai hsup hc.2 (hr.base s u hs).1 (hr.base s u hs).2)⟩,hvr,hR⟩
 cases e with
 | normal=>exact fin hq
 | ret=>exact fin hq
 | _=>exact hq.elim
end
end Go.QL
namespace Go.QL
open Go Go.RowKit
def zk2:List Tmp→List AV→Fr→Fr
 | t::r,x::s,fr=>(t,x)::zk2 r s fr
 | _,_,fr=>fr
def zsi (id:Nat) (ids:List Nat) (params:Array Tmp) (assign body:Code) (nt:Nat) (fr0:Fr) (dfr:Nat) (R:AV→Sg→Prop):Exit→Fr→Sg→Prop
 | .normal,_,σ=>∃ σ' pend,SubS σ σ'∧(rsSg σ' σ' && zbC ids σ')=true∧lk id σ'=some (.x (.loop .busy pend params assign body nt fr0 dfr))∧R (bv true) (zat id (.x (.loop .ready none params assign body nt fr0 dfr)) σ')
 | .ret,_,σ=>∃ σ' pend,SubS σ σ'∧(rsSg σ' σ' && zbC ids σ')=true∧lk id σ'=some (.x (.loop .busy pend params assign body nt fr0 dfr))∧R (bv false) (zat id (.x (.loop .done (some .ret) params assign body nt fr0 dfr)) σ')
 | .exit e,_,σ=>∃ σ' pend,SubS σ σ'∧(rsSg σ' σ' && zbC ids σ')=true∧lk id σ'=some (.x (.loop .busy pend params assign body nt fr0 dfr))∧R (bv false) (zat id (.x (.loop .done (some (.exit e)) params assign body nt fr0 dfr)) σ')
 | _,_,_=>False
section
variable {P:Program} {Γ:Cx} {w0:World} {K0:Bs} {fr:Fr} {σ σ':Sg} {g:Gh} {a:Act} {w:World} {Q:Exit→Fr→Sg→Prop}
theorem Hp.setLoop (hp:Hp w0 K0 σ g w) {id:Nat} {st st':LoopState} {pend pend':Option Code} {params:Array Tmp} {assign body:Code} {nt:Nat} {fr0:Fr} {dfr:Nat}
  (hl:lk id σ=some (.x (.loop st pend params assign body nt fr0 dfr))) :
  ∃ (l:Nat) (r:Loop),g.μ id=.pointer (some ⟨l,0,none⟩)∧w.heap[l]?=some (.loop r)∧r.state=st∧r.pending=pend ∧
   Did w0 K0 σ g w (zat id (.x (.loop st' pend' params assign body nt fr0 dfr)) σ) ⟨g.K,upd g.μ id (.pointer (some ⟨l,0,none⟩))⟩ (w.putObj l (.loop { r with state:=st',pending:=pend' })):=by
 obtain⟨l,h1,h2,h3,_⟩:=hp.obs id _ hl;obtain⟨f,tmps,d,k1,k2,k3,k4⟩:=h3;refine⟨l,_,h1,k1,rfl,rfl,?_⟩
 exact hp.setX (o':=.loop st' pend' params assign body nt fr0 dfr) hl rfl h1 (.loop { state:=st',pending:=pend',fn:=f,tmps:=tmps,params:=params,assign:=assign,body:=body,defers:=d })
  (fun σ'' g'' w'' hk hw=>⟨f,tmps,d,hw,k2,fun t v ht=>⟨(k3 t v ht).1,(k3 t v ht).2.keep hk⟩,hk _ _ k4⟩)
theorem zdF:∀ (l:List (Tmp × Value)) (tmps:Array Value),(l.foldl (fun tmps (x:Tmp × Value)=>tmps.setIfInBounds x.1 x.2) tmps).size=tmps.size
 | [],_=>rfl
 | (t,v)::r,tmps=>by rw [List.foldl_cons,zdF r];simp
theorem zet:∀ (l:List (Tmp × Value)) (tmps:Array Value) (t:Nat),(∀ p ∈ l,p.1≠t)→(l.foldl (fun tmps (x:Tmp × Value)=>tmps.setIfInBounds x.1 x.2) tmps).getD t undef=tmps.getD t undef
 | [],_,_,_=>rfl
 | (s,v)::r,tmps,t,h=>by
  rw [List.foldl_cons,zet r _ t (fun p hp=>h p (List.mem_cons_of_mem _ hp))];have:=h (s,v) (by simp);simp only [Array.getD_eq_getD_getElem?];rw [Array.getElem?_setIfInBounds_ne this]
theorem ziT:∀ (ps:List Tmp) (xs:List AV) (vs:List Value) (tmps:Array Value),ps.Nodup→ps.length=xs.length→vs.length=xs.length→(∀ t ∈ ps,t < tmps.size) →
  ∀ (t:Nat) (x:AV),lk t (zk2 ps xs fr)=some x →
   (∃ (i:Nat) (v:Value),xs[i]?=some x∧vs[i]?=some v∧t < tmps.size∧((ps.zip vs).foldl (fun tmps (x:Tmp × Value)=>tmps.setIfInBounds x.1 x.2) tmps).getD t undef=v) ∨
   (lk t fr=some x∧((ps.zip vs).foldl (fun tmps (x:Tmp × Value)=>tmps.setIfInBounds x.1 x.2) tmps).getD t undef=tmps.getD t undef)
 | [],xs,vs,tmps,_,h1,h2,_,t,x,h=>.inr ⟨h,by simp⟩
 | p::ps,[],vs,tmps,_,h1,_,_,t,x,h=>by cases h1
 | p::ps,y::xs,[],tmps,_,_,h2,_,t,x,h=>by cases h2
 | p::ps,y::xs,v::vs,tmps,hnd,h1,h2,hlt,t,x,h=>by
  rw [List.nodup_cons] at hnd;unfold zk2 at h;rw [zr] at h;rw [List.zip_cons_cons,List.foldl_cons];by_cases e:p=t
  ·subst e;rw [if_pos rfl] at h;cases h;refine .inl ⟨0,v,rfl,rfl,hlt p (by simp),?_⟩
   rw [zet _ _ p (fun q hq=>by
    rintro rfl;have:=List.of_mem_zip (a:=q.1) (b:=q.2) hq;exact hnd.1 this.1)]
   have:=hlt p (by simp);simp [this]
  ·rw [if_neg e] at h;have ih:=ziT ps xs vs (tmps.setIfInBounds p v) hnd.2 (by simpa using h1) (by simpa using h2) (fun t ht=>by simp;exact hlt t (by simp [ht])) t x h;rcases ih with ⟨i,u,a1,a2,a3,a4⟩|⟨a1,a2⟩
   ·exact .inl ⟨i+1,u,a1,a2,by simpa using a3,a4⟩
   ·refine .inr ⟨a1,?_⟩
    rw [a2];simp only [Array.getD_eq_getD_getElem?];rw [Array.getElem?_setIfInBounds_ne e]
theorem zoH {id:Nat} {args:List AV} {R:AV→Sg→Prop} {pend:Option Code} {params:Array Tmp} {assign body:Code} {nt:Nat} {fr0:Fr} {dfr:Nat}
  (hl:lk id σ=some (.x (.loop .ready pend params assign body nt fr0 dfr))) (hps:params.toList.length=args.length) (hnd:params.toList.Nodup) (hpn:params.toList.all (fun t=>Nat.blt t nt)=true)
  (h:∀ w0 K0 B l,AW P ⟨w0,K0,nt,B,σ.map (·.1),some l,[],[]⟩ assign (Exit.thn (fun fr2 σ2=>∃ pend2,lk id σ2=some (.x (.loop .ready pend2 params assign body nt fr0 dfr)) ∧
    AW P ⟨w0,K0,nt,B,σ.map (·.1),some l,[],[]⟩ body (zsi id (σ.map (·.1)) params assign body nt fr0 dfr R) fr2 (zat id (.x (.loop .busy pend2 params assign body nt fr0 dfr)) σ2)) (fun _ _ _=>False))
   (zk2 params.toList args fr0) σ):YC P id args σ R:=by
 intro w0 K0 g w vs hL hp hs hv;obtain⟨l,h1,h2,h3,_⟩:=hp.obs id _ hl;obtain⟨f,tmps,d,k1,k2,k3,k4⟩:=h3;have hsz:vs.size=params.size:=by rw [hs,← hps];simp
 refine⟨l,f,_,assign,body,_,hl,rfl,h1,run_yield k1 hsz,?_⟩
 rw [List.all_eq_true] at hpn;have hfold:(params.zip vs).foldl (fun tmps (x:Tmp × Value)=>tmps.setIfInBounds x.1 x.2) tmps=(params.toList.zip vs.toList).foldl (fun tmps (x:Tmp × Value)=>tmps.setIfInBounds x.1 x.2) tmps:=by
  rw [← Array.foldl_toList,Array.toList_zip]
 have hrel:Rel ⟨w0,K0,nt,SR σ g w,σ.map (·.1),some l,[],[]⟩ (zk2 params.toList args fr0) σ g ⟨(params.zip vs).foldl (fun tmps (x:Tmp × Value)=>tmps.setIfInBounds x.1 x.2) tmps,[]⟩ w:=by
  refine⟨hp,fun t x ht=>?_,?_,DRb.empty,fun s v hb=>⟨hb,SR.inI hb⟩⟩
  ·dsimp only;rw [hfold];rcases ziT params.toList args vs.toList tmps hnd hps (by simpa using hs) (fun t ht=>by rw [k2];exact Nat.le_of_ble_eq_true (hpn t ht)) t x ht with ⟨i,v,a1,a2,a3,a4⟩|⟨a1,a2⟩
   ·refine⟨by omega,?_⟩
    rw [a4];exact zZ (hv i x v a1 (by simpa using a2))
   ·have:=k3 t x a1;refine⟨this.1,?_⟩
    rw [a2];exact this.2
  ·dsimp only;rw [hfold,zdF,k2]
 refine roundIn_of_wpIn (F:=Fence.wide) trivial ?_
 refine wpIn_mono (show assign.wpIn (FX (some l)) 0 P _ _ w from (h w0 K0 (SR σ g w) l).use hL hrel) ?_
 rintro e a1 w1 ⟨fr2,σ2,g2,hr2,hq⟩;cases e with
 | normal=>
  obtain⟨pend2,hl2,hbody⟩:=hq;obtain⟨l2,r2,hμ2,hheap2,hst2,hpe2,hd2⟩:=hr2.hp.setLoop (st':=.busy) (pend':=pend2) hl2;have hll:l2=l:=by
   have hb:=(hr2.base _ _ (SR.h id _ l hl h1)).1;generalize hvv:Kd.val l (Ob2.kd (.loop .ready pend params assign body nt fr0 dfr))=vv at hb;cases hb with
   | h _ o k hl' hμ'=>
    rw [hl2] at hl';cases hl';rw [hμ2] at hμ';cases hμ';simp [Kd.val,Ob2.kd] at hvv;exact hvv.symm
  subst hll;refine⟨_,run_beginRound hheap2 hst2,?_⟩
  have hrec:({ r2 with state:=.busy,pending:=pend2 }:Loop)={ r2 with state:=.busy }:=by rw [← hpe2]
  rw [hrec] at hd2;have hr3:=hr2.did hd2;refine wpIn_mono (show body.wpIn (FX (some l2)) 0 P _ a1 _ from hbody.use hL hr3) ?_
  rintro e a3 w3 ⟨fr3,σ3,g3,hr4,hq3⟩;have fin:∀ (jump:Option Code) (b:Bool),jump.isNone=b→(∃ σ' pend,SubS σ3 σ'∧(rsSg σ' σ' && zbC (σ.map (·.1)) σ')=true∧lk id σ'=some (.x (.loop .busy pend params assign body nt fr0 dfr))∧R (bv b) (zat id (.x (.loop (if jump.isNone then .ready else .done) jump params assign body nt fr0 dfr)) σ')) →
    ∃ v w',(Instr.endRound l2 jump).run P w3=.ok v w'∧∃ v1 g' σ' r,Ending.returned v=.returned v1∧Did w0 K0 σ g w σ' g' w'∧VR2 σ' g' w' r v1∧R r σ':=by
   rintro jump b hjb ⟨σ',pend',hsub,hc,hl',hR⟩;simp only [Bool.and_eq_true] at hc;have hsup:=za9 hsub;have hw:=hr4.hp.weaken hsup hc.1;obtain⟨l3,r3,hμ3,hheap3,hst3,hpe3,hd3⟩:=hw.setLoop (st':=if jump.isNone then .ready else .done) (pend':=jump) hl';have hll3:l3=l2:=by
    have hb:=(hr4.base _ _ (SR.h id _ l2 hl h1)).1;generalize hvv:Kd.val l2 (Ob2.kd (.loop .ready pend params assign body nt fr0 dfr))=vv at hb;cases hb with
    | h _ o k hl4 hμ'=>
     rw [hsup _ _ hl'] at hl4;cases hl4;rw [hμ3] at hμ';cases hμ';simp [Kd.val,Ob2.kd] at hvv;exact hvv.symm
   subst hll3;refine⟨.bool jump.isNone,_,run_endRound jump hheap3,_,_,_,bv b,rfl,⟨hd3.hp,fun s v hs=>hd3.keep _ _ (zai hsup hc.2 (hr4.base s v hs).1 (hr4.base s v hs).2)⟩,?_,hR⟩
   rw [hjb];exact zL _ rfl
  cases e with
  | normal=>exact fin none true rfl hq3
  | ret=>exact fin (some .ret) false rfl hq3
  | exit e=>exact fin (some (.exit e)) false rfl hq3
  | goto t=>exact hq3.elim
  | panic ch=>exact hq3.elim
  | outgrown=>exact hq3.elim
 | _=>exact hq.elim
theorem zlX {dfs:List Nat} {ds:List Deferred} {i:Nat} (h:DR dfs σ g ds) (hi:lk i σ=none):∀ is:List Nat,is.length=ds.length→(∀ (k j:Nat) (x:Deferred),is[k]?=some j→ds[k]?=some x→j ∈ dfs∧lk j σ=some (.x .dfr)∧∃ d,g.μ j=.pointer (some ⟨d,0,none⟩)∧x=⟨.collected d,#[]⟩)→i ∉ is:=by
 intro is hl h3 hm;obtain⟨k,hk,he⟩:=List.getElem_of_mem hm;have:=h3 k i (ds[k]'(by omega)) (by rw [List.getElem?_eq_getElem hk,he]) (List.getElem?_eq_getElem (by omega));rw [hi] at this;cases this.2.1
theorem ziZ {gop:Operand} {ps:Array Tmp} {assign body:Code} {fid:FuncId} {first captured:List SV} (idL idD:Nat) (hev:ev fr gop=some (none,.x (.f (.func fid) first captured)))
  (hL:lk idL σ=none) (hD:lk idD σ=none) (hne:idL≠idD) (hdfs:idD ∈ Γ.dfs) (hro:Γ.ro=none) (R:AV→Sg→Prop)
  (hcall:ACall P fid (first.map .x ++ [.x (.h idL)] ++ captured.map .x) ((idL,.x (.loop .ready none ps assign body Γ.nt fr idD))::(idD,.x .dfr) :: σ) R)
  (hk:∀ rv σ',R rv σ'→lk idD σ'=some (.x .dfr)∧∃ st pend,lk idL σ'=some (.x (.loop st pend ps assign body Γ.nt fr idD))∧st≠.busy ∧
   (match pend with
    | none=>Q .normal fr (zat idL (.x (.loop .exhausted none ps assign body Γ.nt fr idD)) σ')
    | some c=>AW P Γ c Q fr (zat idL (.x (.loop .exhausted (some c) ps assign body Γ.nt fr idD)) σ'))):AW P Γ (.rangeFunc gop ps assign body) Q fr σ:=by
 refine AW.mk fun hLd g a w hr=>?_
 rw [hro];refine wpIn_rangeFunc (F:=FX none) (n:=0) fun fn _=>?_
 have hval:SR σ g w (.f (.func fid) first captured) (a.eval gop):=by
  have h':ev1 fr none gop (fun v=>v=.x (.f (.func fid) first captured)):=by unfold ev1;rw [hev]
  obtain⟨v,hv,hvr⟩:=zK h';subst hv;exact hvr (.inl rfl) Γ σ g a w hr
 generalize hae:a.eval gop=fval at hval;cases hval with
 | f _ _ _ v1 v2 s1 s2 r1 r2=>
  let W1:=w.alloc (.deferred (some []))
  let W2:=W1.alloc (.loop { state:=.ready,pending:=none,fn:=fn,tmps:=a.tmps,params:=ps,assign:=assign,body:=body,defers:=w.heap.size })
  have d1:=hr.hp.addX idD hD .dfr (.deferred (some [])) (fun σ' g' w' _ hw=>hw);let g1:Gh:=⟨g.K,upd g.μ idD (.pointer (some ⟨w.heap.size,0,none⟩))⟩
  have hL1:lk idL ((idD,Ob.x .dfr) :: σ)=none:=by rw [zr,if_neg (fun e=>hne e.symm)];exact hL
  have d2:=d1.hp.addX idL hL1 (.loop .ready none ps assign body Γ.nt fr idD) (.loop { state:=.ready,pending:=none,fn:=fn,tmps:=a.tmps,params:=ps,assign:=assign,body:=body,defers:=w.heap.size })
   (fun σ' g' w' hk' hw=>⟨fn,a.tmps,w.heap.size,hw,hr.size,fun t v ht=>⟨(hr.fr t v ht).1,((hr.fr t v ht).2.keep d1.keep).keep hk'⟩,
    hk' _ _ (SR.h (σ:=(idD,Ob.x .dfr) :: σ) (g:=g1) (w:=W1) idD .dfr w.heap.size (by rw [zr,if_pos rfl]) (zy _ _ _))⟩)
  have d12:=d1.trans d2;have hgood:=hcall.1;obtain⟨fnr,hf1,hf2,hf3⟩:=hgood;refine⟨w.heap.size+1,[{ target:=.collected w.heap.size,args:=#[] }],W2,⟨.fn (.func fid) v2,v1 ++ #[.func (.yield (w.heap.size+1)) #[] #[]]⟩,W2,fid,v1 ++ #[.func (.yield (w.heap.size+1)) #[] #[]] ++ v2,W2,run_enterLoop_outer fn a.tmps ps assign body,?_,fun _ _=>trivial,?_,zfc,?_⟩
  ·have hres:resolve a.eval (rangeCall gop (w.heap.size+1)) 0=Deferred.ofValue (a.eval gop) #[.func (.yield (w.heap.size+1)) #[] #[]]:=by
    unfold resolve rangeCall;simp;rfl
   rw [hres,hae];rfl
  ·have hb:¬ fnr.body=none:=fun e=>by rw [e] at hf2;cases hf2
   have h3':¬ fnr.name = "runtime.NumGoroutine" :=by simpa using hf3
   simp [invoke,callFunc,hf1,h3',hb]
  ·refine zbi.2 ((hcall.2 Γ.w0 Γ.K0 _ W2 _ hLd d12.hp (by simp [s1,s2];omega) ?_).mono ?_)
   ·refine zde (us:=#[.func (.yield (w.heap.size+1)) #[] #[]]) s1 s2 (fun i s v hi hv=>d12.keep _ _ (r1 i s v hi hv)) (fun i s v hi hv=>d12.keep _ _ (r2 i s v hi hv)) rfl (fun i x v hx hv=>?_)
    match i with
    | 0=>
     cases hx;cases hv;have hh:SR ((idL,Ob.x (.loop .ready none ps assign body Γ.nt fr idD))::(idD,Ob.x .dfr) :: σ) ⟨g1.K,upd g1.μ idL (.pointer (some ⟨W1.heap.size,0,none⟩))⟩ W2 (.h idL) (.func (.yield W1.heap.size) #[] #[]):=
      SR.h idL (.loop .ready none ps assign body Γ.nt fr idD) W1.heap.size (by rw [zr,if_pos rfl]) (zy _ _ _)
     have hsz:W1.heap.size=w.heap.size+1:=by simp [W1]
     have hvv:(Value.func (.yield W1.heap.size) #[] #[])=.func (.yield (w.heap.size+1)) #[] #[]:=by rw [hsz]
     rw [hvv] at hh;exact hh
    | i+1=>simp at hx
   ·rintro e w' ⟨v,g',σ',r,he,hd,hvr,hR⟩;subst he;have hdall:=d12.trans hd;obtain⟨hlD,st,pend,hlL,hst,hq⟩:=hk r σ' hR;obtain⟨l3,r3,hμ3,hheap3,hst3,hpe3,hd3⟩:=hd.hp.setLoop (st':=.exhausted) (pend':=pend) hlL;have hll:l3=w.heap.size+1:=by
     have hh:SR ((idL,Ob.x (.loop .ready none ps assign body Γ.nt fr idD))::(idD,Ob.x .dfr) :: σ) ⟨g1.K,upd g1.μ idL (.pointer (some ⟨W1.heap.size,0,none⟩))⟩ W2 (.h idL) (.func (.yield W1.heap.size) #[] #[]):=
      SR.h idL (.loop .ready none ps assign body Γ.nt fr idD) W1.heap.size (by rw [zr,if_pos rfl]) (zy _ _ _)
     have hb:=hd.keep _ _ hh;generalize hvv:Value.func (.yield W1.heap.size) #[] #[]=vv at hb;cases hb with
     | h _ o k hl4 hμ'=>
      rw [hlL] at hl4;cases hl4;rw [hμ3] at hμ';cases hμ';simp [Kd.val,Ob2.kd] at hvv;rw [← hvv];simp [W1]
    subst hll;have hrec:({ r3 with state:=.exhausted,pending:=pend }:Loop)={ r3 with state:=.exhausted }:=by rw [← hpe3]
    rw [hrec] at hd3;have hdfin:=hdall.trans hd3;have hend:=run_endLoop (P:=P) hheap3 (by rw [hst3];exact hst);have hmark:lk idD (zat idL (.x (.loop .exhausted pend ps assign body Γ.nt fr idD)) σ')=some (.x .dfr):=by rw [zt _ _ _ _ (fun e=>hne e.symm)];exact hlD
    have hr':Rel Γ fr (zat idL (.x (.loop .exhausted pend ps assign body Γ.nt fr idD)) σ') ⟨g'.K,upd g'.μ idL (.pointer (some ⟨w.heap.size+1,0,none⟩))⟩ { a with defers:=[{ target:=.collected w.heap.size,args:=#[] }] ++ a.defers } (w'.putObj (w.heap.size+1) (.loop { r3 with state:=.exhausted })):=by
     have hbase:=hr.did hdfin;refine⟨hbase.hp,hbase.fr,hbase.size,?_,hbase.base⟩
     obtain⟨ms,hms,is,q1,q2,q3⟩:=hr.defers;have hni:=zlX (ds:=ms) ⟨is,q1,q2,q3⟩ hD is q2 q3;refine⟨[_] ++ ms,by rw [hms,List.append_assoc],idD::is,by rw [List.nodup_cons];exact⟨hni,q1⟩,by simp [q2],fun k i x hi hx=>?_⟩
     cases k with
     | zero=>
      cases hi;cases hx;refine⟨hdfs,hmark,w.heap.size,?_,rfl⟩
      have hh:SR ((idD,Ob.x .dfr) :: σ) g1 W1 (.h idD) (.chan (some w.heap.size)):=SR.h idD .dfr w.heap.size (by rw [zr,if_pos rfl]) (zy _ _ _);have hb:=(d2.trans (hd.trans hd3)).keep _ _ hh;generalize hvv:Value.chan (some w.heap.size)=vv at hb;cases hb with
      | h _ o k hl4 hμ'=>
       rw [hmark] at hl4;cases hl4;simp [Kd.val,Ob2.kd] at hvv;exact hμ'.trans (by rw [hvv])
     | succ k=>
      obtain⟨b1,b2,dd,b3,b4⟩:=q3 k i x hi hx;have hb:=hdfin.keep _ _ (SR.h (w:=w) i .dfr dd b2 b3);generalize hvv:Kd.val dd (Ob2.kd .dfr)=vv at hb;cases hb with
      | h _ o k hl4 hμ'=>
       cases o <;> simp [Kd.val,Ob2.kd] at hvv;subst hvv;exact⟨b1,hl4,dd,hμ',b4⟩
    refine⟨pend,_,by rw [← hpe3];exact hend,?_⟩
    cases pend with
    | none=>exact⟨fr,_,_,hr',hq⟩
    | some c=>
     have:=hq.use hLd hr';rw [hro] at this;exact this
end
end Go.QL
namespace Go.QL
open Go Go.RowKit
section
variable {P:Program} {Γ:Cx} {w0:World} {K0:Bs} {fr:Fr} {σ σ':Sg} {g:Gh} {a:Act} {w:World}
theorem Hp.shut (hp:Hp w0 K0 σ g w) {i d:Nat} (hi:lk i σ=some (.x .dfr)) (hμ:g.μ i=.pointer (some ⟨d,0,none⟩)) (hs:Sup σ' σ) (hn:lk i σ'=none) (hr:rsSg σ' σ'=true) (ob:Obj) :
  Hp w0 K0 σ' g (putO w d ob)∧(∀ s v,SR σ' g w s v→SR σ' g (putO w d ob) s v):=by
 have hw:=hp.weaken hs hr;obtain⟨b',h1,h2,_,h4⟩:=hp.obs i _ hi;rw [hμ] at h1;cases h1;have hbi:blk (g.μ i)=some d:=by rw [hμ];rfl
 have hKd:∀ b o,g.K b o→b≠d:=fun b o hk e=>h4 o (e ▸ hk)
 have hext:Ext g.K w g.K (putO w d ob):=⟨fun _ _ h=>h,fun b o hk=>World.cell?_of_block (w:=w) (a:=⟨b,o,none⟩) (zan (hKd b o hk))⟩;have hkeep:∀ s v,SR σ' g w s v→SR σ' g (putO w d ob) s v:=fun s v h=>
  SR.keep (σ:=σ') (σ':=σ') (g:=g) (g':=g) (w:=w) (w':=putO w d ob) (Compat.refl σ' g) hext h
 refine⟨⟨?_,hw.flt,hw.ext.trans hext,hw.old,fun b o hk=>by have:=hw.val b o hk;simpa using this,fun id obj hid=>?_,hw.own,hw.inj⟩,hkeep⟩
 ·exact hw.kept.trans ⟨rfl,rfl,rfl,by simp,fun k hk=>zan (fun e=>hp.own i d (by rw [hi];rfl) hbi (e ▸ hk))⟩
 ·have hO:=hw.obs id obj hid;refine hO.keep hkeep hext rfl (fun b hb=>zan (fun e=>?_)) (fun b hb o=>hw.notK hid hb o)
  have:=hp.inj id i b (by rw [hs _ _ hid];rfl) (by rw [hi];rfl) hb (by rw [e];exact hbi);subst this;rw [hid] at hn;cases hn
theorem zlp (hs:Sup σ' σ) (hr:rsSg σ' σ'=true):∀ (is:List Nat) (ds:List Deferred) (w:World),is.Nodup→is.length=ds.length→Hp w0 K0 σ' g w →
  (∀ i ∈ is,lk i σ'=none) →
  (∀ (k i:Nat) (x:Deferred),is[k]?=some i→ds[k]?=some x→∃ d,g.μ i=.pointer (some ⟨d,0,none⟩)∧x=⟨.collected d,#[]⟩∧w.heap[d]?=some (.deferred (some []))∧(∀ o,¬ g.K d o)∧¬ K0.F d∧(∀ id,(lk id σ').isSome→blk (g.μ id)≠some d)) →
  (∀ (i j:Nat),i ∈ is→j ∈ is→∀ b,blk (g.μ i)=some b→blk (g.μ j)=some b→i=j) →
  ∃ w1,Hp w0 K0 σ' g w1∧(∀ s v,SR σ' g w s v→SR σ' g w1 s v)∧w1.heap.size=w.heap.size ∧
   ∀ (F:Fence) (n:Nat) (fn:Func) (tmps:Array Value) (R:Ending→World→Prop),LeavesInM F n P fn tmps R [] .returning w1→LeavesInM F n P fn tmps R ds .returning w
 | [],ds,w,_,hl,hp,_,_,_=>by
  cases ds with
  | nil=>exact⟨w,hp,fun _ _ h=>h,rfl,fun _ _ _ _ _ h=>h⟩
  | cons _ _=>cases hl
 | i::is,ds,w,hnd,hl,hp,hno,hx,hinj=>by
  cases ds with
  | nil=>cases hl
  | cons x ds=>
   rw [List.nodup_cons] at hnd;obtain⟨d,hμ,rfl,hheap,hK,hF,hother⟩:=hx 0 i x rfl rfl;have hbi:blk (g.μ i)=some d:=by rw [hμ];rfl
   let w1:=putO w d (.deferred none)
   have hext:Ext g.K w g.K w1:=⟨fun _ _ h=>h,fun b o hk=>World.cell?_of_block (w:=w) (a:=⟨b,o,none⟩) (zan (fun e=>hK o (e ▸ hk)))⟩;have hkeep:∀ s v,SR σ' g w s v→SR σ' g w1 s v:=fun s v h=>
    SR.keep (σ:=σ') (σ':=σ') (g:=g) (g':=g) (w:=w) (w':=w1) (Compat.refl σ' g) hext h
   have hp1:Hp w0 K0 σ' g w1:=by
    refine⟨?_,hp.flt,hp.ext.trans hext,hp.old,fun b o hk=>by have:=hp.val b o hk;simpa [w1] using this,fun id obj hid=>?_,hp.own,hp.inj⟩
    ·exact hp.kept.trans ⟨rfl,rfl,rfl,by simp [w1],fun k hk=>zan (fun e=>hF (e ▸ hk))⟩
    ·exact (hp.obs id obj hid).keep hkeep hext rfl (fun b hb=>zan (fun e=>hother id (by rw [hid];rfl) (e ▸ hb))) (fun b hb o=>hp.notK hid hb o)
   have ih:=zlp hs hr is ds w1 hnd.2 (by simpa using hl) hp1 (fun j hj=>hno j (List.mem_cons_of_mem _ hj)) (fun k j y hj hy=>?_) (fun j k hj hk=>hinj j k (List.mem_cons_of_mem _ hj) (List.mem_cons_of_mem _ hk))
   ·obtain⟨w2,q1,q2,q3,q4⟩:=ih;refine⟨w2,q1,fun s v h=>q2 s v (hkeep s v h),by rw [q3];simp [w1],fun F n fn tmps R h=>?_⟩
    refine⟨by simp,.inl ⟨d,w1,rfl,run_takeDeferred hheap,q4 F n fn tmps R h⟩⟩
   ·obtain⟨d',p1,p2,p3,p4,p5,p6⟩:=hx (k+1) j y hj hy;refine⟨d',p1,p2,?_,p4,p5,p6⟩
    have hjm:j ∈ is:=List.mem_of_getElem? hj;have hne:d'≠d:=fun e=>by
     have:=hinj j i (List.mem_cons_of_mem _ hjm) (by simp) d (by rw [p1,e];rfl) hbi;subst this;exact hnd.1 hjm
    show (putO w d (.deferred none)).heap[d']?=_
    rw [zan hne];exact p3
def zk6 (tt:TT) (res:List ResultVar) (ids dfs:List Nat) (R:AV→Sg→Prop):Exit→Fr→Sg→Prop
 | .normal,fr,σ|.ret,fr,σ=>∃ fr1 σ1,SubF fr fr1∧SubS σ σ1∧(rsFr σ1 fr1 && rsSg σ1 σ1 && dfs.all (fun i=>!(lk i σ1).isSome))=true ∧
   ∃ r σ',SubS σ1 σ'∧(rsSg σ' σ' && zbC ids σ' && zbC ids σ1)=true∧zb0 tt res fr1 σ1 σ'=some r∧R r σ'
 | _,_,_=>False
theorem zdC {fn:Func} {tmps:Array Value} {R:Ending→World→Prop} {v:Value} (hr:(results fn tmps).run P w=.ok v w) (hR:R (.returned v) w):LeavesInM (FX none) 0 P fn tmps R [] .returning w:=
 ⟨v,hr,hR⟩
theorem zpe {tt:TT} (htt:tt.ok P) {f:FuncId} {fn:Func} {c:Code} {args:List AV} {σ:Sg} {R:AV→Sg→Prop} {res:List ResultVar} (dfs:List Nat) (hf:P.funcs[f]?=some fn) (hb:fn.body=some c)
  (hname:(fn.name == "runtime.NumGoroutine")=false) (hres:fn.results=res.toArray) {nt:Nat} (hnt:fn.ntmps=nt) (hle:args.length≤nt)
  (h:∀ w0 K0 B,AW P ⟨w0,K0,nt,B,σ.map (·.1),none,dfs,[]⟩ c (zk6 tt res (σ.map (·.1)) dfs R) (entry 0 args) σ):ACall P f args σ R:=by
 refine⟨⟨fn,hf,by rw [hb];rfl,hname⟩,fun w0 K0 g w vs hL hp hs hv=>?_⟩
 refine callsIn_wide.1 (callsIn_of_wp_marks (F:=Fence.wide) (n:=0) hf hb trivial ?_)
 have hrel:Rel ⟨w0,K0,nt,SR σ g w,σ.map (·.1),none,dfs,[]⟩ (entry 0 args) σ g ⟨vs ++ Array.replicate (fn.ntmps - vs.size) undef,[]⟩ w:=by
  refine⟨hp,fun t x ht=>?_,by simp;omega,DRb.empty,fun s v hb=>⟨hb,SR.inI hb⟩⟩
  obtain⟨_,hx⟩:=zbm args 0 t x ht;rw [Nat.sub_zero] at hx;have hlt:t < args.length:=(List.getElem?_eq_some_iff.1 hx).1;refine⟨by show t < nt;omega,?_⟩
  have hvt:vs[t]?=some (vs[t]'(by omega)):=Array.getElem?_eq_getElem (by omega);have e:(vs ++ Array.replicate (fn.ntmps - vs.size) undef).getD t undef=vs[t]'(by omega):=by
   rw [Array.getD_eq_getD_getElem?,Array.getElem?_append_left (by omega),hvt];rfl
  show VR _ _ _ _ ((vs ++ Array.replicate (fn.ntmps - vs.size) undef).getD t undef)
  rw [e];exact zZ (hv t x _ hx hvt)
 refine wpIn_mono (show c.wpIn (FX none) 0 P _ _ w from (h w0 K0 _).use hL hrel) ?_
 intro e a' w' ⟨fr,τ,g',hr,hq⟩;have fin:zk6 tt res (σ.map (·.1)) dfs R .ret fr τ →
   LeavesInM Fence.wide 0 P fn a'.tmps (fun e w'=>∃ v g' σ' r,e=.returned v∧Did w0 K0 σ g w σ' g' w'∧VR2 σ' g' w' r v∧R r σ') a'.defers .returning w':=by
  rintro⟨fr1,σ1,hsf,hss,hc,r,σ',hsub,hc2,ho,hR⟩;simp only [Bool.and_eq_true,List.all_eq_true,Bool.not_eq_true'] at hc hc2;obtain⟨⟨hcf,hcs⟩,hno⟩:=hc;have hsf:=ze8 hsf;have hss:=za9 hss;have hp1:=hr.hp.weaken hss hcs;obtain⟨ms,hms,is,q1,q2,q3⟩:=hr.defers;obtain rfl:ms=a'.defers:=by simpa using hms.symm
  have hnone:∀ i ∈ is,lk i σ1=none:=fun i hi=>by
   obtain⟨k,hk,he⟩:=List.getElem_of_mem hi;have:=(q3 k i (a'.defers[k]'(by omega)) (by rw [List.getElem?_eq_getElem hk,he]) (List.getElem?_eq_getElem (by omega))).1;have:=hno i this;cases hl:lk i σ1 with
   | none=>rfl
   | some _=>rw [hl] at this;cases this
  have hdfr:∀ i ∈ is,lk i τ = some (.x .dfr):=fun i hi=>by
   obtain⟨k,hk,he⟩:=List.getElem_of_mem hi;exact (q3 k i (a'.defers[k]'(by omega)) (by rw [List.getElem?_eq_getElem hk,he]) (List.getElem?_eq_getElem (by omega))).2.1
  obtain⟨w1,s1,s2,s3,s4⟩:=zlp (P:=P) (w0:=w0) (K0:=K0) (g:=g') hss hcs is a'.defers w' q1 q2 hp1 hnone (fun k i x hi hx=>by
   obtain⟨b1,b2,d,b3,b4⟩:=q3 k i x hi hx;have hbi:blk (g'.μ i)=some d:=by rw [b3];rfl
   obtain⟨b',h1,h2,h3,h4⟩:=hr.hp.obs i _ b2;rw [b3] at h1;cases h1;refine⟨d,b3,b4,h3,h4,hr.hp.own i d (by rw [b2];rfl) hbi,fun id hid hb=>?_⟩
   obtain⟨ob,hob⟩:=Option.isSome_iff_exists.1 hid;have:=hr.hp.inj id i d (by rw [hss _ _ hob];rfl) (by rw [b2];rfl) hb hbi;subst this;rw [hnone id (List.mem_of_getElem? hi)] at hob;cases hob)
   (fun i j hi hj b hb1 hb2=>hr.hp.inj i j b (by rw [hdfr i hi];rfl) (by rw [hdfr j hj];rfl) hb1 hb2)
  refine s4 Fence.wide 0 fn a'.tmps _ ?_
  have hrel1:Rel ⟨w0,K0,nt,SR σ g w,σ.map (·.1),none,[],[]⟩ fr1 σ1 g' { a' with defers:=[] } w1:=by
   refine⟨s1,fun t v ht=>⟨(hr.fr t v (hsf t v ht)).1,?_⟩,hr.size,DRb.empty,fun s v hb=>⟨s2 _ _ (zai hss hc2.2 (hr.base s v hb).1 (hr.base s v hb).2),(hr.base s v hb).2⟩⟩
   exact (zeQ hss (zaO hcf t v ht) (hr.fr t v (hsf t v ht)).2).keep s2
  have hsup:=za9 hsub;obtain⟨v,hrun,hvr⟩:=zbQ htt hrel1 hsup hres ho;refine zdC hrun ?_
  exact⟨v,_,σ',r,rfl,⟨hrel1.hp.atEnd hsup hc2.1.1,fun s u hs=>zak (zai hsup hc2.1.2 (hrel1.base s u hs).1 (hrel1.base s u hs).2)⟩,hvr,hR⟩
 cases e with
 | normal=>exact fin hq
 | ret=>exact fin hq
 | _=>exact hq.elim
end
end Go.QL
namespace Go.QL
open Go Go.RowKit
theorem znd {F:Fence} {n:Nat} {P:Program} {o:Oper} {a:Act} {w:World} {K:Act→World→Prop} {Q:Exit→Act→World→Prop}
  (hh:o.wpIn F n P a w K Q):o.wpIn F n P a w (fun a' w'=>K a' w'∧∃ v,a'.tmps=(a.put o.dst v).tmps) Q:=by
 unfold Oper.wpIn at *;refine⟨hh.1,?_⟩
 have hh:=hh.2;generalize (o.semAt F.round a.eval).run P w=r at *;cases r with
 | ok x w'=>
  cases x <;> simp only [Oper.uponIn] at hh ⊢ <;>
   first
    | exact⟨hh,_,rfl⟩
    | exact⟨hh,undef,by unfold Act.put;cases o.dst <;> rfl⟩
    | exact⟨hh.1,CallsIn.mono hh.2 (fun e w'' he=>by cases e <;> first|exact⟨he,_,rfl⟩|exact he)⟩
    | exact⟨hh.1,RowsIn.mono hh.2 (fun _ _ he=>⟨he,_,rfl⟩)⟩
    | exact⟨hh.1,RoundIn.mono hh.2 (fun e w'' he=>by cases e <;> first|exact⟨he,_,rfl⟩|exact he)⟩
 | halt x w'=>cases x <;> simp only [Oper.uponIn] at hh ⊢ <;> exact hh
theorem zgC {F:Fence} {n:Nat} {P:Program} {ops:Array Oper} {i:Nat} {o:Oper} (ho:ops[i]?=some o) {a:Act} {w:World} {K:Act→World→Prop} {Q:Exit→Act→World→Prop}
  (hh:wpOpIn F n P ops Q i K a w):wpOpIn F n P ops Q i (fun a' w'=>K a' w'∧∃ v,a'.tmps=(a.put o.dst v).tmps) a w:=by
 unfold wpOpIn at *;simp only [ho] at hh ⊢;split
 ·rename_i hw;simp only [hw,if_true] at hh;exact znd hh
 ·rename_i hw;simp only [hw] at hh;exact⟨hh.1,hh.2,undef,rfl⟩
def zcj:List Nat→Fr→Fr
 | _,[]=>[]
 | ds,(t,v)::r=>bif ds.any (Nat.beq t) then zcj ds r else (t,v)::zcj ds r
theorem ze2 {ds:List Nat}:∀ {fr:Fr} {t:Nat} {v:AV},lk t (zcj ds fr)=some v→t ∉ ds∧lk t fr=some v
 | [],t,v,h=>by cases h
 | (s,x)::r,t,v,h=>by
  unfold zcj at h;cases hb:ds.any (Nat.beq s) with
  | true=>
   rw [hb] at h;have h:=ze2 (fr:=r) h;refine⟨h.1,?_⟩
   rw [zr,if_neg]
   ·exact h.2
   ·intro e;subst e;rw [List.any_eq_true] at hb;obtain⟨d,hd,e⟩:=hb;have:=Nat.eq_of_beq_eq_true e;subst this;exact h.1 hd
  | false=>
   rw [hb] at h;simp only [cond_false] at h;rw [zr] at h ⊢;by_cases e:s=t
   ·rw [if_pos e] at h ⊢;refine⟨fun hd=>?_,h⟩
    subst e;have:ds.any (Nat.beq s)=true:=List.any_eq_true.2 ⟨s,hd,by simp⟩;rw [this] at hb;cases hb
   ·rw [if_neg e] at h ⊢;exact ze2 h
theorem zgZ {ds:List Nat}:∀ {fr:Fr} {t:Nat} {v:AV},t ∉ ds→lk t fr=some v→lk t (zcj ds fr)=some v
 | [],t,v,_,h=>by cases h
 | (s,x)::r,t,v,hn,h=>by
  unfold zcj;rw [zr] at h;cases hb:ds.any (Nat.beq s) with
  | true=>
   simp only [cond_true];by_cases e:s=t
   ·subst e;rw [List.any_eq_true] at hb;obtain⟨d,hd,e⟩:=hb;have:=Nat.eq_of_beq_eq_true e;subst this;exact absurd hd hn
   ·rw [if_neg e] at h;exact zgZ hn h
  | false=>
   simp only [cond_false];rw [zr];by_cases e:s=t
   ·rw [if_pos e] at h ⊢;exact h
   ·rw [if_neg e] at h ⊢;exact zgZ hn h
def zcx (ops:List Oper):List Nat→List Nat
 | []=>[]
 | l::r=>match (ops[l]?).bind (·.dst) with
  | some d=>d::zcx ops r
  | none=>zcx ops r
def zj8 (ops:List Oper) (ms:List Nat) (m:Nat) (dm:Option Nat):List Nat→Bool
 | []=>true
 | l::r=>(match ops[l]? with
  | some o=>Nat.blt l m && noOb o.op && (looks ops o).all (fun t=>(match dm with|some d=>!Nat.beq d t|none=>true) &&
    (List.range m).all fun k=>match (ops[k]?).bind (·.dst) with|some d=>!Nat.beq d t || Nat.testBit (ms.getD l 0) k|none=>true)
  | none=>false) && zj8 ops ms m dm r
def zfQ (P:Program) (tt:TT) (nt:Nat) (ops:List Oper) (fr:Fr) (σ:Sg) (k:Prop):List Nat→Prop
 | []=>k
 | l::r=>match ops[l]? with
  | some o=>opDr P tt ops false (selF fr (looks ops o)) σ 0 o fun gd v nob=>nob=none∧putE nt o.dst gd v fun x=>(match o.dst with|some d=>lk d fr=some x|none=>True)∧zfQ P tt nt ops fr σ k r
  | none=>False
section
variable {P:Program} {Γ:Cx} {fr:Fr} {σ:Sg} {Q:Exit→Fr→Sg→Prop}
theorem zlj {F F':Fr} (h:Sup F' F) (d:Option Tmp) (v:AV):Sup (zbl d v F') (zbl d v F):=by
 cases d with
 | none=>exact h
 | some d=>
  intro t x hl;show lk t ((d,v)::F)=some x
  have hl:lk t ((d,v)::F')=some x:=hl;rw [zr] at hl ⊢;by_cases e:d=t
  ·rw [if_pos e] at hl ⊢;exact hl
  ·rw [if_neg e] at hl ⊢;exact h t x hl
theorem zfP {tt:TT} (htt:tt.ok P) (hL:Laid P Γ.K0.K Γ.w0) {ops:List Oper} {fr:Fr} {σ:Sg} {k:Prop}:∀ {ls:List Nat},zfQ P tt Γ.nt ops fr σ k ls →
  k∧∀ l ∈ ls,∃ o x,ops[l]?=some o∧SemE P Γ ops false (selF fr (looks ops o)) σ l o x none∧∀ d,o.dst=some d→lk d fr=some x∧d < Γ.nt
 | [],h=>⟨h,fun l hl=>by cases hl⟩
 | l::r,h=>by
  unfold zfQ at h;cases ho:ops[l]? with
  | none=>rw [ho] at h;exact h.elim
  | some o=>
   rw [ho] at h;simp only at h;obtain⟨gd,x,nob,⟨hn,hk⟩,_,hsem⟩:=zdM (Γ:=Γ) htt hL h l;subst hn;obtain⟨⟨hx,hr⟩,hd⟩:=zdJ hk;obtain⟨h1,h2⟩:=zfP htt hL hr;refine⟨h1,fun l' hl'=>?_⟩
   rcases List.mem_cons.1 hl' with rfl|hl'
   ·refine⟨o,zeI gd x,ho,hsem,fun d hd'=>⟨?_,hd d hd'⟩⟩
    rw [hd'] at hx;exact hx
   ·exact h2 l' hl'
theorem zih {ops:List Oper} {ms:List Nat} {m:Nat} {dm:Option Nat}:∀ {ls:List Nat},zj8 ops ms m dm ls=true→∀ l ∈ ls,l < m∧∃ o,ops[l]?=some o∧noOb o.op=true ∧
  ∀ t ∈ looks ops o,dm≠some t∧∀ (k:Nat) (o':Oper),k < m→ops[k]?=some o'→o'.dst=some t→(ms.getD l 0).testBit k=true
 | [],_,l,hl=>by cases hl
 | l0::r,h,l,hl=>by
  unfold zj8 at h;rw [Bool.and_eq_true] at h;rcases List.mem_cons.1 hl with rfl|hl
  ·cases ho:ops[l]? with
   | none=>rw [ho] at h;cases h.1
   | some o=>
    rw [ho] at h;simp only [Bool.and_eq_true,List.all_eq_true] at h;obtain⟨⟨⟨h1,h2⟩,h3⟩,_⟩:=h;refine⟨Nat.le_of_ble_eq_true h1,o,rfl,h2,fun t ht=>⟨fun e=>?_,fun k o' hk ho' hd=>?_⟩⟩
    ·have:=(h3 t ht).1;rw [e] at this;simp at this
    ·have:=(h3 t ht).2 k (List.mem_range.2 hk);rw [ho'] at this;simp only [Option.bind_some,hd] at this;rw [Bool.or_eq_true] at this;rcases this with h|h
     ·simp at h
     ·exact h
  ·exact zih h.2 l hl
theorem zgU {ops:List Oper} {d:Nat}:∀ {ls:List Nat},d ∈ zcx ops ls↔∃ l ∈ ls,∃ o,ops[l]?=some o∧o.dst=some d
 | []=>by simp [zcx]
 | l::r=>by
  unfold zcx;have ih:=zgU (ops:=ops) (d:=d) (ls:=r);cases ho:ops[l]? with
  | none=>
   simp only [Option.bind_none,ih,List.mem_cons];constructor
   ·rintro⟨l',h,h'⟩;exact⟨l',.inr h,h'⟩
   ·rintro⟨l',rfl|h,o,h',h''⟩
    ·rw [ho] at h';cases h'
    ·exact⟨l',h,o,h',h''⟩
  | some o=>
   cases hd:o.dst with
   | none=>
    simp only [Option.bind_some,hd,ih,List.mem_cons];constructor
    ·rintro⟨l',h,h'⟩;exact⟨l',.inr h,h'⟩
    ·rintro⟨l',rfl|h,o',h',h''⟩
     ·rw [ho] at h';cases h';rw [hd] at h'';cases h''
     ·exact⟨l',h,o',h',h''⟩
   | some d'=>
    simp only [Option.bind_some,hd,ih,List.mem_cons];constructor
    ·rintro (rfl|⟨l',h,h'⟩)
     ·exact⟨l,.inl rfl,o,ho,hd⟩
     ·exact⟨l',.inr h,h'⟩
    ·rintro⟨l',rfl|h,o',h',h''⟩
     ·rw [ho] at h';cases h';rw [hd] at h'';cases h'';exact .inl rfl
     ·exact .inr ⟨l',h,o',h',h''⟩
structure LateGo (d:Option Tmp) (fr2 F:Fr) (K:AV→Prop):Prop where
 ex:∃ v,fr2=zbl d v F∧K v
theorem zW {tt:TT} (htt:tt.ok P) (hmix:P.follows .mixedOrders=true) (m:Nat) (ls:List Nat) (ob:Bool) (ms:List Nat) {id:Nat} {ops:List Oper} (om:Oper) (hms:zbe ms (m+1) ops 0=true) (hlen:Nat.ble (m+1) ops.length=true)
  (hds:zc2 (ops.take (m+1)) []=true) (hrd:zcn ops ms (ops.take m) (ops.take m) 0=true)
  (hom:ops[m]?=some om) (hmm:((List.range m).all fun b=>Nat.testBit (ms.getD m 0) b || ls.any (Nat.beq b))=true) (hls:zj8 ops ms m om.dst ls=true)
  (h:vcDr P tt Γ.nt ops ob ms fr σ (fun fr' σ'=>zah P tt Γ.nt ops (fun fr2 σ2=>LateGo om.dst fr2 (zcj (zcx ops ls) fr') fun v=>
   zfQ P tt Γ.nt ops fr' σ2 (zah P tt Γ.nt ops (Q .normal) (ops.drop (m+1)) (zbl om.dst v fr') σ2) ls) [om] (zcj (zcx ops ls) fr') σ') (ops.take m) [] 0 fr σ):AW P Γ (.region id ops.toArray true) Q fr σ:=by
 refine AW.mk fun hLd g a w hr=>?_
 have hm:=MaskOK.of hms;have hls:=zih hls;have hlen':m+1≤ops.length:=Nat.le_of_ble_eq_true hlen;have hlen:m≤ops.length:=by omega
 have hmbit:∀ b,b < m→b ∉ ls→(ms.getD m 0).testBit b=true:=by
  intro b hb hbl;rw [List.all_eq_true] at hmm;have:=hmm b (List.mem_range.2 hb);rw [Bool.or_eq_true] at this;rcases this with h|h
  ·exact h
  ·rw [List.any_eq_true] at h;obtain⟨x,hx,e⟩:=h;have:=Nat.eq_of_beq_eq_true e;subst this;exact absurd hx hbl
 have htake:(ops.take m).length=m:=by simp;omega
 obtain⟨es,hkL,hg,hlt,hcov⟩:=zdH (Γ:=Γ) htt hLd (ops.take m) [] 0 h (fun j o hj=>by
   rw [List.getElem?_take] at hj;by_cases hjm:j < m
   ·rw [if_pos hjm] at hj;simpa using hj
   ·rw [if_neg hjm] at hj;cases hj) (fun e he=>by simp at he) (fun j hj=>by omega)
   ⟨fun e he=>by simp at he,fun e he=>by simp at he,fun e he=>by simp at he,fun e he=>by simp at he,fun e he=>by simp at he⟩
 rw [htake] at hlt hcov;simp only [Nat.zero_add] at hlt hcov;obtain⟨_,hd1'⟩:=zb1 hds;have hd1:∀ (i j:Nat) (o o':Oper) (d:Nat),(ops.take m)[i]?=some o→(ops.take m)[j]?=some o'→o.dst=some d→o'.dst=some d→i=j:=by
  intro i j o o' d hi hj;rw [List.getElem?_take] at hi hj;by_cases c1:i < m
  ·rw [if_pos c1] at hi;by_cases c2:j < m
   ·rw [if_pos c2] at hj;exact hd1' i j o o' d (by rw [List.getElem?_take,if_pos (by omega)];exact hi) (by rw [List.getElem?_take,if_pos (by omega)];exact hj)
   ·rw [if_neg c2] at hj;cases hj
  ·rw [if_neg c1] at hi;cases hi
 have hrd:=fun j o h=>zaV (zbR hrd j o h)
 simp only [Nat.zero_add] at hrd;have hop:∀ e ∈ es,∃ o,(ops.take m)[e.i]?=some o∧e.d=o.dst:=fun e he=>by
  obtain⟨o,D,h1,h2,_⟩:=hg.sem e he;exact⟨o,by rw [List.getElem?_take,if_pos (hlt e he)];exact h1,h2⟩
 have hfF:∀ p ∈ frs es,∀ q ∈ frs es,p.1=q.1→p=q:=by
  intro p hp q hq hpq;obtain⟨e,he,h1,h2⟩:=zY.1 hp;obtain⟨e',he',h1',h2'⟩:=zY.1 hq;obtain⟨o,ho,hd⟩:=hop e he;obtain⟨o',ho',hd'⟩:=hop e' he';have:=hd1 e.i e'.i o o' p.1 ho ho' (by rw [← hd,h1]) (by rw [← hd',h1',hpq]);have:=hg.idx e he e' he' this;subst this;obtain⟨p1,p2⟩:=p;obtain⟨q1,q2⟩:=q;simp only at *;subst hpq;subst h2;subst h2';rfl
 have hfO:∀ p ∈ obs es,∀ q ∈ obs es,p.1=q.1→p=q:=by
  intro p hp q hq hpq;obtain⟨e,he,h1⟩:=zF.1 hp;obtain⟨e',he',h1'⟩:=zF.1 hq;have:=hg.ids e he e' he' p q h1 h1' hpq;subst this;rw [h1] at h1';cases h1';rfl
 have hfO0:∀ p ∈ obs es,lk p.1 σ=none:=by
  intro p hp;obtain⟨e,he,h1⟩:=zF.1 hp;exact (hg.id0 e he p h1).1
 have supO:∀ D E:List En,(∀ e ∈ D,e ∈ E)→(∀ e ∈ E,e ∈ es)→Sup (obs D ++ σ) (obs E ++ σ):=fun D E h1 h2=>
  zeM hfO hfO0 (fun p hp=>by obtain⟨e,he,h'⟩:=zF.1 hp;exact zF.2 ⟨e,h1 e he,h'⟩) (fun p hp=>by obtain⟨e,he,h'⟩:=zF.1 hp;exact zF.2 ⟨e,h2 e he,h'⟩)
 let InvA:(Nat→Prop)→Act→World→Prop:=fun L a w=>∃ (E:List En) (g:Gh),(∀ e ∈ E,e ∈ es)∧(∀ j,L j↔∃ e ∈ E,e.i=j)∧(∀ k,L k→∀ b,(ms.getD k 0).testBit b=true→L b)∧Rel Γ (frs E ++ fr) (obs E ++ σ) g a w
 let InvB:(Nat→Prop)→Act→World→Prop:=fun L a w=>∃ j,m+1≤j∧j≤ops.length∧(∀ b,L b↔b < j)∧wpLs Γ.ro P ops.toArray (Lift Γ Q) (ops.drop j) a w
 let InvC:(Nat→Prop)→Act→World→Prop:=fun L a w=>∃ (E:List En) (g:Gh) (v:AV) (σ2:Sg),(∀ e ∈ E,e ∈ es)∧(∀ j,L j↔(∃ e ∈ E,e.i=j)∨j=m)∧(∀ e ∈ es,e.i ∉ ls→e ∈ E)∧Rel Γ (zbl om.dst v (frs E ++ fr)) σ2 g a w ∧
  zfQ P tt Γ.nt ops (frs es ++ fr) σ2 (zah P tt Γ.nt ops (Q .normal) (ops.drop (m+1)) (zbl om.dst v (frs es ++ fr)) σ2) ls
 have hdm:∀ e ∈ es,∀ d,e.d=some d→om.dst≠some d:=by
  intro e he d hd hdm;obtain⟨o,ho,hd'⟩:=hop e he;rw [List.getElem?_take,if_pos (hlt e he)] at ho;have:=hd1' e.i m o om d (by rw [List.getElem?_take,if_pos (by have:=hlt e he;omega)];exact ho) (by rw [List.getElem?_take,if_pos (by omega)];exact hom) (by rw [← hd',hd]) hdm;have:=hlt e he;omega
 have convC:∀ L a w,InvC L a w→(∀ b,b < m→L b)→InvB L a w:=by
  intro L a w ⟨E,g,v,σ2,h1,h2,_,h3,h4⟩ hall;refine⟨m+1,Nat.le_refl _,hlen',fun b=>⟨fun hb=>?_,fun hb=>?_⟩,?_⟩
  ·rcases (h2 b).1 hb with ⟨e,he,hi⟩|rfl
   ·have:=hlt e (h1 e he);omega
   ·omega
  ·by_cases e:b=m
   ·exact (h2 b).2 (.inr e)
   ·exact hall b (by omega)
  ·have hsub:∀ e ∈ es,e ∈ E:=by
    intro e he;rcases (h2 e.i).1 (hall e.i (hlt e he)) with ⟨e',he',hi⟩|hi
    ·have:=hg.idx e' (h1 e' he') e he hi;subst this;exact he'
    ·have:=hlt e he;omega
   exact zcc htt hLd (fun _ _ h=>h) (ops.drop (m+1)) _ _ (zfP (Γ:=Γ) htt hLd h4).1 g a w (h3.subF (zlj (zb4 (fun p hp q hq=>hfF p ((zq h1) p hp) q ((zq h1) q hq)) (fun p=>⟨zq hsub p,zq h1 p⟩)) _ _))
 refine wpIn_region_any hmix ?_
 refine zbU hm (fun L a w=>InvA L a w∨InvB L a w∨InvC L a w) ?_ ?_ _ _ _ _ (by simp) ?_ ?_ ?_
 ·-- a step
  intro L a w hinv i hi hL hbits;have hi':i < ops.length:=by simpa using hi
  have stepB:InvB L a w→wpOpIn (FX Γ.ro) 0 P ops.toArray (Lift Γ Q) i (fun a w=>InvA (fun j=>L j∨j=i) a w∨InvB (fun j=>L j∨j=i) a w∨InvC (fun j=>L j∨j=i) a w) a w:=by
   intro ⟨j,hj1,hj2,hj3,hj4⟩;have hji:j≤i:=by
    rcases Nat.lt_or_ge i j with h'|h'
    ·exact absurd ((hj3 i).2 h') hL
    ·exact h'
   have hij:i=j:=by
    rcases Nat.lt_or_ge j i with h'|h'
    ·have:=hm.tail i _ (Array.getElem?_eq_getElem (by simpa using hi')) (by omega) j h';have:=(hj3 j).1 (hbits j this);omega
    ·omega
   subst hij;rw [List.drop_eq_getElem_cons hi'] at hj4;have hoi:ops.toArray[i]?=some ops[i]:=by simp [hi']
   have hnew:∀ a w,wpLs Γ.ro P ops.toArray (Lift Γ Q) (ops.drop (i+1)) a w→InvA (fun j=>L j∨j=i) a w∨InvB (fun j=>L j∨j=i) a w∨InvC (fun j=>L j∨j=i) a w:=by
    intro a w hw;refine .inr (.inl ⟨i+1,by omega,by omega,fun b=>?_,hw⟩)
    show (L b∨b=i)↔b < i+1
    rw [hj3 b];omega
   unfold wpOpIn;simp only [hoi];unfold wpLs wpLk at hj4;split
   ·rename_i hwant;rw [if_pos hwant] at hj4;exact Oper.wpIn_mono hnew hj4
   ·rename_i hwant;rw [if_neg hwant] at hj4;exact⟨fun _ _=>trivial,hnew _ _ hj4⟩
  rcases hinv with hA|hB|hC
  ·rcases Nat.lt_or_ge i m with him|him
   ·obtain⟨E,g,h1,h2,hcl,h3⟩:=hA;obtain⟨en,hen,heni⟩:=hcov i him;obtain⟨o,D,a1,a2,a3,a4,a6,a5⟩:=hg.sem en hen;rw [heni] at a1 a4 a5 a6;have hDE:∀ e ∈ D,e ∈ E:=by
     intro e he;obtain⟨he1,he2⟩:=a4 e he;obtain⟨e',he',hi'⟩:=(h2 e.i).1 (hbits e.i he2);have:=hg.idx e' (h1 e' he') e he1 hi';subst this;exact he'
    have hsup:Sup (selF (frs D ++ fr) (looks ops o)) (frs E ++ fr):=by
     intro t v hl;obtain⟨ht,hl⟩:=zbF hl;rcases zdB hl with hl|⟨hn,hl⟩
     ·exact zas (fun p hp q hq=>hfF p (zq h1 p hp) q (zq h1 q hq)) (zq hDE _ hl)
     ·rw [zU]
      ·exact hl
      ·intro p hp hpt;obtain⟨e,he,h1',h2'⟩:=zY.1 hp;obtain⟨oe,hoe,hde⟩:=hop e (h1 e he);have hLe:L e.i:=(h2 e.i).2 ⟨e,he,rfl⟩;rcases hrd i o (by rw [List.getElem?_take,if_pos him];exact a1) e.i oe t hoe (by rw [← hde,h1',hpt]) ht with hk|hk|hk
       ·exact hL (hk ▸ hLe)
       ·have hlt':e.i < i:=hm.lt i o (by simpa using a1) e.i hk;exact hn p (zY.2 ⟨e,a6 e (h1 e he) hk hlt',h1',h2'⟩) hpt
       ·exact hL (hcl e.i hLe i hk)
    refine a5 _ (frs E ++ fr) (obs E ++ σ) g a w hsup (supO D E hDE h1) ?_ ?_ h3 _ ?_ (by simpa using a1)
    ·intro hob;have hn:∀ X:List En,(∀ e ∈ X,e ∈ es)→obs X=[]:=by
      intro X hX;cases hx:obs X with
      | nil=>rfl
      | cons p r=>
       obtain⟨e,he,hp⟩:=zF.1 (show p ∈ obs X by rw [hx];exact List.mem_cons_self);have:=(hg.id0 e (hX e he) p hp).2;rw [hob] at this;cases this
     rw [hn E h1,hn D (fun e he=>h1 e (hDE e he))]
    ·intro p hp;rw [zU]
     ·exact (hg.id0 en hen p hp).1
     ·intro q hq he;obtain⟨e',he',hq'⟩:=zF.1 hq;have:=hg.ids e' (h1 e' he') en hen q p hq' hp he;subst this;exact hL ((h2 i).2 ⟨e',he',heni⟩)
    ·intro v g' w' hr' hv;left
     refine⟨en::E,g',fun e he=>?_,fun j=>?_,fun k hk b hb=>?_,?_⟩
     ·rcases List.mem_cons.1 he with rfl|he
      ·exact hen
      ·exact h1 e he
     ·show (L j∨j=i)↔_
      rw [h2 j];constructor
      ·rintro (⟨e,he,h'⟩|rfl)
       ·exact⟨e,List.mem_cons_of_mem _ he,h'⟩
       ·exact⟨en,List.mem_cons_self,heni⟩
      ·rintro⟨e,he,h'⟩;rcases List.mem_cons.1 he with rfl|he
       ·exact .inr (h'.symm.trans heni)
       ·exact .inl ⟨e,he,h'⟩
     ·rcases hk with hk|rfl
      ·exact .inl (hcl k hk b hb)
      ·exact .inl (hbits b hb)
     ·rw [← zbO,← zcL];rw [a2];cases hdd:o.dst with
      | none=>exact hr'
      | some d=>exact hr'.put (a3 d hdd) hv
   ·rcases Nat.lt_or_ge m i with hmi|hmi
    ·have hall:∀ b,b < i→L b:=fun b hb=>hbits b (hm.tail i _ (Array.getElem?_eq_getElem (by simpa using hi')) hmi b hb)
     obtain⟨E,g,h1,h2,_,h3⟩:=hA;obtain⟨e,he,hi2⟩:=(h2 m).1 (hall m hmi);have:=hlt e (h1 e he);omega
    ·have him:i=m:=by omega
     subst him;obtain⟨E,g,h1,h2,_,h3⟩:=hA;have hin:∀ e ∈ es,e.i ∉ ls→e ∈ E:=by
      intro e he hne;obtain⟨e',he',hi2⟩:=(h2 e.i).1 (hbits e.i (hmbit e.i (hlt e he) hne));have:=hg.idx e' (h1 e' he') e he hi2;subst this;exact he'
     have hsupF:Sup (zcj (zcx ops ls) (frs es ++ fr)) (frs E ++ fr):=by
      intro t v hl;obtain⟨hne,hl⟩:=ze2 hl;rcases zdB hl with hl|⟨hn,hl⟩
      ·obtain⟨e,he,hd,hx⟩:=zY.1 hl;have hel:e.i ∉ ls:=by
        intro hel;obtain⟨o,ho,hd'⟩:=hop e he;rw [List.getElem?_take,if_pos (hlt e he)] at ho;exact hne (zgU.2 ⟨e.i,hel,o,ho,by rw [← hd',hd]⟩)
       exact zas (fun p hp q hq=>hfF p (zq h1 p hp) q (zq h1 q hq)) (zY.2 ⟨e,hin e he hel,hd,hx⟩)
      ·rw [zU fun p hp=>hn p (zq h1 p hp)];exact hl
     have hobs:∀ p,p ∈ obs es→p ∈ obs E:=by
      intro p hp;obtain⟨e,he,hp⟩:=zF.1 hp;refine zF.2 ⟨e,hin e he fun hel=>?_,hp⟩
      obtain⟨o,ho,hn⟩:=hg.obk e he p hp;obtain⟨_,o',ho',hn',_⟩:=hls e.i hel;rw [ho'] at ho;cases ho;rw [hn'] at hn;cases hn
     have hs1:Sup (obs E ++ σ) (obs es ++ σ):=supO E es h1 (fun e he=>he);have hs2:Sup (obs es ++ σ) (obs E ++ σ):=zeM (fun p hp q hq=>hfO p (by obtain⟨e,he,h'⟩:=zF.1 hp;exact zF.2 ⟨e,h1 e he,h'⟩) q (by obtain⟨e,he,h'⟩:=zF.1 hq;exact zF.2 ⟨e,h1 e he,h'⟩)) (fun p hp=>hfO0 p (by obtain⟨e,he,h'⟩:=zF.1 hp;exact zF.2 ⟨e,h1 e he,h'⟩)) hobs (fun p hp=>hp);have hr':Rel Γ (zcj (zcx ops ls) (frs es ++ fr)) (obs es ++ σ) g a w:=h3.same hsupF hs1 hs2;let Γ':Cx:=⟨Γ.w0,Γ.K0,Γ.nt,SR (obs es ++ σ) g w,(obs es ++ σ).map (·.1),Γ.ro,Γ.dfs,Γ.bs⟩
     have hr2:Rel Γ' (zcj (zcx ops ls) (frs es ++ fr)) (obs es ++ σ) g a w:=⟨hr'.hp,hr'.fr,hr'.size,hr'.defers,fun s v hb=>⟨hb,SR.inI hb⟩⟩;have hw:=zaJ (Γ:=Γ') htt hLd (Qx:=Lift Γ Q) (K:=fun a w=>∃ g2 fr2 σ2,Rel Γ' fr2 σ2 g2 a w∧∃ v,fr2=zbl om.dst v (zcj (zcx ops ls) (frs es ++ fr)) ∧
      zfQ P tt Γ.nt ops (frs es ++ fr) σ2 (zah P tt Γ.nt ops (Q .normal) (ops.drop (i+1)) (zbl om.dst v (frs es ++ fr)) σ2) ls) (fun fr2 σ2 g2 a2 w2 hr2 hk2=>⟨g2,fr2,σ2,hr2,hk2.ex⟩) [om] _ _ hkL g a w hr2
     have hoi:ops.toArray[i]?=some om:=by simpa using hom
     have hw2:wpOpIn (FX Γ.ro) 0 P ops.toArray (Lift Γ Q) i (fun a w=>∃ g2 fr2 σ2,Rel Γ' fr2 σ2 g2 a w∧∃ v,fr2=zbl om.dst v (zcj (zcx ops ls) (frs es ++ fr)) ∧
      zfQ P tt Γ.nt ops (frs es ++ fr) σ2 (zah P tt Γ.nt ops (Q .normal) (ops.drop (i+1)) (zbl om.dst v (frs es ++ fr)) σ2) ls) a w:=by
      unfold wpOpIn;simp only [hoi];unfold wpLk at hw;split
      ·rename_i hwant;rw [if_pos hwant] at hw;exact hw
      ·rename_i hwant;rw [if_neg hwant] at hw;exact⟨fun _ _=>trivial,hw⟩
     refine wpOpIn_mono ?_ (zgC hoi hw2)
     rintro a2 w2 ⟨⟨g2,fr2,σ2,hr2,v,rfl,hk2⟩,v',htm⟩;refine .inr (.inr ⟨E,g2,v,σ2,h1,fun j=>?_,hin,?_,hk2⟩)
     ·show (L j∨j=i)↔_
      rw [h2 j]
     ·have keep:∀ s u,SR (obs E ++ σ) g w s u→SR σ2 g2 w2 s u:=fun s u hsu=>(hr2.base s u (hsu.sup hs1)).1
      refine⟨hr2.hp,fun t x ht=>?_,hr2.size,hr2.defers,fun s u hb=>⟨keep s u (h3.base s u hb).1,(h3.base s u hb).2⟩⟩
      by_cases hdt:om.dst=some t
      ·have:lk t (zbl om.dst v (zcj (zcx ops ls) (frs es ++ fr)))=some x:=by
        rw [hdt] at ht ⊢;have ht:lk t ((t,v)::(frs E ++ fr))=some x:=ht;show lk t ((t,v)::_)=some x
        rw [zr,if_pos rfl] at ht ⊢;exact ht
       exact hr2.fr t x this
      ·have ht:lk t (frs E ++ fr)=some x:=by
        cases hd:om.dst with
        | none=>rw [hd] at ht;exact ht
        | some d=>
         rw [hd] at ht;have ht:lk t ((d,v)::(frs E ++ fr))=some x:=ht;rw [zr,if_neg (fun e=>hdt (by rw [hd,e]))] at ht;exact ht
       have h4:=h3.fr t x ht;refine⟨h4.1,?_⟩
       have e:a2.tmps.getD t undef=a.tmps.getD t undef:=by
        rw [htm];cases hd:om.dst with
        | none=>rfl
        | some d=>
         have:¬ d=t:=fun e=>hdt (by rw [hd,e])
         simp [Act.put,this]
       rw [e];exact h4.2.keep keep
  ·exact stepB hB
  ·rcases Nat.lt_or_ge i m with him|him
   ·obtain⟨E,g,v,σ2,h1,h2,hin,h3,h4⟩:=hC;obtain⟨en,hen,heni⟩:=hcov i him;have hil:i ∈ ls:=by
     by_cases c:i ∈ ls
     ·exact c
     ·exact absurd ((h2 i).2 (.inl ⟨en,hin en hen (by rw [heni];exact c),heni⟩)) hL
    obtain⟨o,x,ho,hsem,hdx⟩:=(zfP (Γ:=Γ) htt hLd h4).2 i hil;obtain⟨_,o',ho',_,hlook⟩:=hls i hil;rw [ho] at ho';cases ho';have hend:en.d=o.dst:=by
     obtain⟨o',ho',hd⟩:=hop en hen;rw [heni,List.getElem?_take,if_pos him,ho] at ho';cases ho';exact hd
    have hsup:Sup (selF (frs es ++ fr) (looks ops o)) (zbl om.dst v (frs E ++ fr)):=by
     intro t y hl;obtain⟨ht,hl⟩:=zbF hl;obtain⟨hdt,hwr⟩:=hlook t ht;have hgo:lk t (frs E ++ fr)=some y:=by
      rcases zdB hl with hl|⟨hn,hl⟩
      ·obtain⟨e,he,hd,hx⟩:=zY.1 hl;obtain⟨oe,hoe,hde⟩:=hop e he;rw [List.getElem?_take,if_pos (hlt e he)] at hoe;have hbt:=hbits e.i (hwr e.i oe (hlt e he) hoe (by rw [← hde,hd]));rcases (h2 e.i).1 hbt with ⟨e',he',hi2⟩|hi2
       ·have:=hg.idx e' (h1 e' he') e he hi2;subst this;exact zas (fun p hp q hq=>hfF p (zq h1 p hp) q (zq h1 q hq)) (zY.2 ⟨e',he',hd,hx⟩)
       ·have:=hlt e he;omega
      ·rw [zU fun p hp=>hn p (zq h1 p hp)];exact hl
     cases hd:om.dst with
     | none=>exact hgo
     | some d=>
      show lk t ((d,v)::(frs E ++ fr))=some y
      rw [zr,if_neg (fun e=>hdt (by rw [hd,e]))];exact hgo
    refine hsem _ _ σ2 g a w hsup (fun _ _ h=>h) (fun _=>rfl) (fun p hp=>by cases hp) h3 _ (fun v' g' w' hr' hv=>.inr (.inr ⟨en::E,g',v,σ2,fun e he=>?_,fun j=>?_,fun e he hne=>List.mem_cons_of_mem _ (hin e he hne),?_,h4⟩)) (by simpa using ho)
    ·rcases List.mem_cons.1 he with rfl|he
     ·exact hen
     ·exact h1 e he
    ·show (L j∨j=i)↔_
     rw [h2 j];constructor
     ·rintro ((⟨e,he,h'⟩|h')|rfl)
      ·exact .inl ⟨e,List.mem_cons_of_mem _ he,h'⟩
      ·exact .inr h'
      ·exact .inl ⟨en,List.mem_cons_self,heni⟩
     ·rintro (⟨e,he,h'⟩|h')
      ·rcases List.mem_cons.1 he with rfl|he
       ·exact .inr (h'.symm.trans heni)
       ·exact .inl (.inl ⟨e,he,h'⟩)
      ·exact .inl (.inr h')
    ·have hr':Rel Γ (zbl om.dst v (frs E ++ fr)) σ2 g' a w':=hr';have hE':∀ e ∈ en::E,e ∈ es:=fun e he=>by
      rcases List.mem_cons.1 he with rfl|he
      ·exact hen
      ·exact h1 e he
     cases hdd:o.dst with
     | none=>
      have:frs (en::E)=frs E:=by simp only [frs,hend,hdd]
      rw [this];exact hr'
     | some d=>
      obtain⟨hx,hdn⟩:=hdx d hdd;have hxe:x=en.x:=by
       have:=zas (l0:=fr) hfF (zY.2 ⟨en,hen,by rw [hend,hdd],rfl⟩:(d,en.x) ∈ frs es);rw [hx] at this;cases this;rfl
      have hne:=hdm en hen d (by rw [hend,hdd]);refine (hr'.put hdn hv).subF ?_
      have:frs (en::E)=(d,x)::frs E:=by simp only [frs,hend,hdd,hxe]
      rw [this];intro t y hl;cases hd:om.dst with
      | none=>rw [hd] at hl;exact hl
      | some d2=>
       rw [hd] at hl;have hl:lk t ((d2,v)::(d,x)::(frs E ++ fr))=some y:=hl;show lk t ((d,x)::(d2,v)::(frs E ++ fr))=some y
       rw [zr,zr] at hl ⊢;have hdd2:¬ d2=d:=fun e=>hne (by rw [hd,e])
       by_cases c1:d2=t
       ·rw [if_pos c1] at hl;rw [if_neg (fun e=>hdd2 (c1.trans e.symm)),if_pos c1];exact hl
       ·rw [if_neg c1] at hl;by_cases c2:d=t
        ·rw [if_pos c2] at hl ⊢;exact hl
        ·rw [if_neg c2] at hl;rw [if_neg c2,if_neg c1];exact hl
   ·have him:m < i:=by
     obtain⟨E,g,v,σ2,h1,h2,_⟩:=hC;have:i≠m:=fun e=>hL ((h2 i).2 (.inr e))
     omega
    have hall:∀ b,b < i→L b:=fun b hb=>hbits b (hm.tail i _ (Array.getElem?_eq_getElem (by simpa using hi')) him b hb)
    exact stepB (convC L a w hC fun b hb=>hall b (by omega))
 ·-- the end
  intro L a w hinv hall;have hB:InvB L a w:=by
   rcases hinv with hA|hB|hC
   ·obtain⟨E,g,h1,h2,_,h3⟩:=hA;obtain⟨e,he,hi2⟩:=(h2 m).1 (hall m (by simp;omega));have:=hlt e (h1 e he);omega
   ·exact hB
   ·exact convC L a w hC fun b hb=>hall b (by simp;omega)
  obtain⟨j,hj1,hj2,hj3,hj4⟩:=hB;have:j=ops.length:=by
   rcases Nat.lt_or_ge j ops.length with h'|h'
   ·have:=(hj3 j).1 (hall j (by simpa using h'));omega
   ·omega
  subst this;rw [List.drop_length] at hj4;exact hj4
 ·intro i hi;have:(Array.replicate ops.length false)[i]?.getD false=false:=by
   rw [Array.getElem?_replicate];split <;> rfl
  simp [this] at hi
 ·unfold unl;refine Nat.le_trans (List.length_filter_le _ _) (by simp)
 ·left
  refine⟨[],g,fun e he=>by simp at he,fun j=>?_,fun k hk=>?_,hr.drawn _⟩
  rotate_left
  ·have:(Array.replicate ops.length false)[k]?.getD false=false:=by
    rw [Array.getElem?_replicate];split <;> rfl
   simp [this] at hk
  have:(Array.replicate ops.length false)[j]?.getD false=false:=by
   rw [Array.getElem?_replicate];split <;> rfl
  simp [this]
end
end Go.QL
namespace Go.QL
open Go Go.RowKit
section
variable {P:Program} {Γ:Cx} {fr:Fr} {σ:Sg} {Q:Exit→Fr→Sg→Prop}
theorem zB {l:Nat} (h:Q .normal fr σ):AW P Γ (.label l) Q fr σ:=AW.mk fun hL g a w hr=>wpIn_label ⟨fr,σ,g,hr,h⟩
def Exit.noGo (Q:Exit→Fr→Sg→Prop):Exit→Fr→Sg→Prop
 | .goto _,_,_=>False
 | e,fr,σ=>Q e fr σ
section
variable {b:Frame} {a:Act} {k:List Item} {cs:List Frame} {w:World}
theorem zjc {c:Code}:step P (lone (b.atR a (.code (.scope c)::k)) cs w)=.next (lone (b.atR a (.code c::.inScope c::k)) cs w):=
 step_lone_go (by simp [stepG,stepG.exec,Frame.atR])
theorem zhj {c:Code}:step P (lone (b.atR a (.inScope c::k)) cs w)=.next (lone (b.atR a k) cs w):=
 step_lone_go (by simp [stepG,stepG.exec,Frame.atR])
end
theorem zA {c:Code} (h:AW P Γ c (Exit.noGo Q) fr σ):AW P Γ (.scope c) Q fr σ:=by
 refine AW.mk fun hL g a w hr b k cs hro hb hrm=>?_
 obtain⟨e,a₁,w₁,⟨fr1,σ1,g1,r1,hq⟩,harr⟩:=h.use hL hr b (.inScope c::k) cs hro hb hrm;have s0:StepsIn (Machine.fenced P (FX Γ.ro)) P (lone (b.atR a (.code (.scope c)::k)) cs w) (lone (b.atR a (.code c::.inScope c::k)) cs w):=.one (fenced_calm hb hrm rfl) zjc;cases e with
 | normal=>exact⟨.normal,a₁,w₁,⟨fr1,σ1,g1,r1,hq⟩,StepsIn.trans s0 (StepsIn.trans harr (.one (fenced_calm hb hrm rfl) zhj))⟩
 | exit id=>
  refine⟨.exit id,a₁,w₁,⟨fr1,σ1,g1,r1,hq⟩,fun k' hk=>StepsIn.trans s0 (harr.1 k' hk),fun hr' hk=>?_⟩
  obtain⟨k₁,h1,h2⟩:=harr.2 hr' hk;exact⟨k₁,h1,StepsIn.trans s0 h2⟩
 | goto l=>exact hq.elim
 | ret=>exact⟨.ret,a₁,w₁,⟨fr1,σ1,g1,r1,hq⟩,fun hr'=>let ⟨t,ht⟩:=harr.1 hr';⟨t,StepsIn.trans s0 ht⟩,fun hr'=>let ⟨t,ht⟩:=harr.2 hr';⟨t,StepsIn.trans s0 ht⟩⟩
 | panic ch=>obtain⟨t,ht⟩:=harr;exact⟨.panic ch,a₁,w₁,⟨fr1,σ1,g1,r1,hq⟩,t,StepsIn.trans s0 ht⟩
 | outgrown=>exact⟨.outgrown,a₁,w₁,⟨fr1,σ1,g1,r1,hq⟩,ArrivesIn.of_steps (e:=.outgrown) (b:=b) (k:=k) (cs:=cs) (a:=a₁) (w:=w₁) s0 harr⟩
theorem FnC.of_ACall {f:FuncId} {args:List AV} {r:AV} (h:ACall P f args [] (fun r' σ'=>r'=r∧σ'=[])) (hr:zf6 r=true):FnC P f args r:=by
 refine⟨h.1,fun K w vs hL hK hs hv=>?_⟩
 have hp:Hp w ⟨K,(· < w.heap.size)⟩ [] ⟨K,fun _=>undef⟩ w:=
  ⟨.refl _ _,fun _ h=>h,.refl _ _,fun _ _ _ h=>h,hK,(fun id ob hid=>by cases hid),(fun id b hi=>by cases hi),(fun i j b hi=>by cases hi)⟩
 refine (h.2 w _ _ w vs hL hp hs hv).mono ?_
 rintro e w' ⟨v,g',σ',r',he,hd,hvr,rfl,rfl⟩;exact⟨v,g'.K,he,hd.hp.kept.below,hd.hp.ext,hd.hp.old,hd.hp.val,zcY (g:=g') (g':=⟨g'.K,fun _=>undef⟩) hr (Ext.refl g'.K w') hvr⟩
end
end Go.QL
namespace Go.Proofs.YtidkoikjdghlmaaGreatDoor
open Go Go.QL
def tab:List (Nat × TI):=[
 (1,⟨.other,1,8,[.nilFunc]⟩),
 (2,⟨.int .i64,1,8,[.int .i64 0]⟩),
 (3,⟨.int .i64,1,8,[.int .i64 0]⟩),
 (4,⟨.bool,1,1,[.bool false]⟩),
 (5,⟨.int .u8,1,1,[.int .u8 0]⟩),
 (6,⟨.int .u8,1,1,[.int .u8 0]⟩),
 (7,⟨.st [(0,2),(1,3),(2,4),(3,6)] [.int .i64,.int .i64,.bool,.int .u8],4,24,[.int .i64 0,.int .i64 0,.bool false,.int .u8 0]⟩),
 (8,⟨.st [(0,2),(1,3),(2,4),(3,6)] [.int .i64,.int .i64,.bool,.int .u8],4,24,[.int .i64 0,.int .i64 0,.bool false,.int .u8 0]⟩),
 (9,⟨.str,1,16,[.string ByteArray.empty]⟩),
 (10,⟨.str,1,16,[.string ByteArray.empty]⟩),
 (11,⟨.str,1,16,[.string ByteArray.empty]⟩),
 (12,⟨.int .u64,1,8,[.int .u64 0]⟩),
 (13,⟨.st [(0,9),(1,12)] [],2,24,[.string ByteArray.empty,.int .u64 0]⟩),
 (14,⟨.st [(0,9),(1,12)] [],2,24,[.string ByteArray.empty,.int .u64 0]⟩),
 (15,⟨.other,1,8,[.pointer none]⟩),
 (16,⟨.other,1,8,[.pointer none]⟩),
 (17,⟨.other,1,8,[.pointer none]⟩),
 (18,⟨.st [(0,17)] [],1,8,[.pointer none]⟩),
 (19,⟨.st [(0,17)] [],1,8,[.pointer none]⟩),
 (20,⟨.ifc,1,16,[.nilIface]⟩),
 (21,⟨.int .i32,1,4,[.int .i32 0]⟩),
 (22,⟨.st [(0,3),(1,3),(2,3),(3,3),(4,3)] [.int .i64,.int .i64,.int .i64,.int .i64,.int .i64],5,40,[.int .i64 0,.int .i64 0,.int .i64 0,.int .i64 0,.int .i64 0]⟩),
 (23,⟨.st [(0,3),(1,3),(2,3),(3,3),(4,3)] [.int .i64,.int .i64,.int .i64,.int .i64,.int .i64],5,40,[.int .i64 0,.int .i64 0,.int .i64 0,.int .i64 0,.int .i64 0]⟩),
 (24,⟨.sl 9,1,24,[.slice none 0 0]⟩),
 (25,⟨.sl 46,1,24,[.slice none 0 0]⟩),
 (26,⟨.st [(0,23),(5,24),(6,25)] [],7,88,[.int .i64 0,.int .i64 0,.int .i64 0,.int .i64 0,.int .i64 0,.slice none 0 0,.slice none 0 0]⟩),
 (27,⟨.st [(0,23),(5,24),(6,25)] [],7,88,[.int .i64 0,.int .i64 0,.int .i64 0,.int .i64 0,.int .i64 0,.slice none 0 0,.slice none 0 0]⟩),
 (28,⟨.int .i64,1,8,[.int .i64 0]⟩),
 (30,⟨.other,1,8,[.nilFunc]⟩),
 (31,⟨.other,1,8,[.nilFunc]⟩),
 (32,⟨.other,1,8,[.nilFunc]⟩),
 (33,⟨.sl 36,1,24,[.slice none 0 0]⟩),
 (34,⟨.other,1,8,[.nilFunc]⟩),
 (35,⟨.st [(0,9),(1,9)] [.str,.str],2,32,[.string ByteArray.empty,.string ByteArray.empty]⟩),
 (36,⟨.st [(0,9),(1,9)] [.str,.str],2,32,[.string ByteArray.empty,.string ByteArray.empty]⟩),
 (38,⟨.other,1,8,[.nilFunc]⟩),
 (39,⟨.other,1,8,[.nilFunc]⟩),
 (40,⟨.other,1,8,[.nilFunc]⟩),
 (41,⟨.other,1,8,[.nilFunc]⟩),
 (42,⟨.st [(0,3),(1,3)] [.int .i64,.int .i64],2,16,[.int .i64 0,.int .i64 0]⟩),
 (43,⟨.st [(0,3),(1,3)] [.int .i64,.int .i64],2,16,[.int .i64 0,.int .i64 0]⟩),
 (44,⟨.sl 54,1,24,[.slice none 0 0]⟩),
 (45,⟨.st [(0,3),(1,43),(3,44)] [],4,48,[.int .i64 0,.int .i64 0,.int .i64 0,.slice none 0 0]⟩),
 (46,⟨.st [(0,3),(1,43),(3,44)] [],4,48,[.int .i64 0,.int .i64 0,.int .i64 0,.slice none 0 0]⟩),
 (47,⟨.sl 94,1,24,[.slice none 0 0]⟩),
 (48,⟨.sl 5,1,24,[.slice none 0 0]⟩),
 (49,⟨.sl 4,1,24,[.slice none 0 0]⟩),
 (50,⟨.st [(0,46),(4,47),(5,48),(6,47),(7,49)] [],8,144,[.int .i64 0,.int .i64 0,.int .i64 0,.slice none 0 0,.slice none 0 0,.slice none 0 0,.slice none 0 0,.slice none 0 0]⟩),
 (51,⟨.st [(0,46),(4,47),(5,48),(6,47),(7,49)] [],8,144,[.int .i64 0,.int .i64 0,.int .i64 0,.slice none 0 0,.slice none 0 0,.slice none 0 0,.slice none 0 0,.slice none 0 0]⟩),
 (52,⟨.other,1,8,[.nilFunc]⟩),
 (53,⟨.st [(0,3),(1,3)] [.int .i64,.int .i64],2,16,[.int .i64 0,.int .i64 0]⟩),
 (54,⟨.st [(0,3),(1,3)] [.int .i64,.int .i64],2,16,[.int .i64 0,.int .i64 0]⟩),
 (55,⟨.other,1,8,[.nilFunc]⟩),
 (56,⟨.other,1,8,[.nilFunc]⟩),
 (57,⟨.other,1,8,[.nilFunc]⟩),
 (58,⟨.sl 107,1,24,[.slice none 0 0]⟩),
 (59,⟨.sl 3,1,24,[.slice none 0 0]⟩),
 (60,⟨.st [(0,3),(1,3),(2,3),(3,3)] [.int .i64,.int .i64,.int .i64,.int .i64],4,32,[.int .i64 0,.int .i64 0,.int .i64 0,.int .i64 0]⟩),
 (61,⟨.st [(0,3),(1,3),(2,3),(3,3)] [.int .i64,.int .i64,.int .i64,.int .i64],4,32,[.int .i64 0,.int .i64 0,.int .i64 0,.int .i64 0]⟩),
 (62,⟨.sl 69,1,24,[.slice none 0 0]⟩),
 (63,⟨.st [(0,3),(1,58),(2,59),(3,61),(7,62)] [],8,112,[.int .i64 0,.slice none 0 0,.slice none 0 0,.int .i64 0,.int .i64 0,.int .i64 0,.int .i64 0,.slice none 0 0]⟩),
 (64,⟨.st [(0,3),(1,58),(2,59),(3,61),(7,62)] [],8,112,[.int .i64 0,.slice none 0 0,.slice none 0 0,.int .i64 0,.int .i64 0,.int .i64 0,.int .i64 0,.slice none 0 0]⟩),
 (66,⟨.other,1,8,[.nilFunc]⟩),
 (67,⟨.other,1,8,[.nilFunc]⟩),
 (68,⟨.st [(0,3),(1,3)] [.int .i64,.int .i64],2,16,[.int .i64 0,.int .i64 0]⟩),
 (69,⟨.st [(0,3),(1,3)] [.int .i64,.int .i64],2,16,[.int .i64 0,.int .i64 0]⟩),
 (70,⟨.other,1,8,[.nilFunc]⟩),
 (72,⟨.other,1,8,[.nilFunc]⟩),
 (74,⟨.other,1,8,[.nilFunc]⟩),
 (75,⟨.other,1,8,[.nilFunc]⟩),
 (76,⟨.other,1,8,[.nilFunc]⟩),
 (77,⟨.other,1,8,[.nilFunc]⟩),
 (78,⟨.sl 103,1,24,[.slice none 0 0]⟩),
 (79,⟨.sl 124,1,24,[.slice none 0 0]⟩),
 (80,⟨.st [(0,23),(5,78),(6,79)] [],7,88,[.int .i64 0,.int .i64 0,.int .i64 0,.int .i64 0,.int .i64 0,.slice none 0 0,.slice none 0 0]⟩),
 (81,⟨.st [(0,23),(5,78),(6,79)] [],7,88,[.int .i64 0,.int .i64 0,.int .i64 0,.int .i64 0,.int .i64 0,.slice none 0 0,.slice none 0 0]⟩),
 (82,⟨.other,1,8,[.nilFunc]⟩),
 (83,⟨.other,1,8,[.nilFunc]⟩),
 (84,⟨.other,1,8,[.nilFunc]⟩),
 (85,⟨.other,1,8,[.nilFunc]⟩),
 (86,⟨.other,1,8,[.nilFunc]⟩),
 (88,⟨.other,1,8,[.nilFunc]⟩),
 (89,⟨.other,1,8,[.nilFunc]⟩),
 (90,⟨.other,1,8,[.pointer none]⟩),
 (92,⟨.other,1,8,[.nilFunc]⟩),
 (93,⟨.other,1,8,[.nilFunc]⟩),
 (94,⟨.int .u16,1,2,[.int .u16 0]⟩),
 (95,⟨.sl 105,1,24,[.slice none 0 0]⟩),
 (96,⟨.st [(0,3),(1,95)] [],2,32,[.int .i64 0,.slice none 0 0]⟩),
 (97,⟨.st [(0,3),(1,95)] [],2,32,[.int .i64 0,.slice none 0 0]⟩),
 (98,⟨.sl 202,1,24,[.slice none 0 0]⟩),
 (99,⟨.sl 143,1,24,[.slice none 0 0]⟩),
 (100,⟨.st [(0,27),(7,97),(9,79),(10,58),(11,98),(12,99),(13,61)] [],17,248,[.int .i64 0,.int .i64 0,.int .i64 0,.int .i64 0,.int .i64 0,.slice none 0 0,.slice none 0 0,.int .i64 0,.slice none 0 0,.slice none 0 0,.slice none 0 0,.slice none 0 0,.slice none 0 0,.int .i64 0,.int .i64 0,.int .i64 0,.int .i64 0]⟩),
 (101,⟨.st [(0,27),(7,97),(9,79),(10,58),(11,98),(12,99),(13,61)] [],17,248,[.int .i64 0,.int .i64 0,.int .i64 0,.int .i64 0,.int .i64 0,.slice none 0 0,.slice none 0 0,.int .i64 0,.slice none 0 0,.slice none 0 0,.slice none 0 0,.slice none 0 0,.slice none 0 0,.int .i64 0,.int .i64 0,.int .i64 0,.int .i64 0]⟩),
 (102,⟨.st [(0,9),(1,3),(2,3),(3,3)] [.str,.int .i64,.int .i64,.int .i64],4,40,[.string ByteArray.empty,.int .i64 0,.int .i64 0,.int .i64 0]⟩),
 (103,⟨.st [(0,9),(1,3),(2,3),(3,3)] [.str,.int .i64,.int .i64,.int .i64],4,40,[.string ByteArray.empty,.int .i64 0,.int .i64 0,.int .i64 0]⟩),
 (104,⟨.st [(0,3),(1,3),(2,3),(3,3),(4,3)] [.int .i64,.int .i64,.int .i64,.int .i64,.int .i64],5,40,[.int .i64 0,.int .i64 0,.int .i64 0,.int .i64 0,.int .i64 0]⟩),
 (105,⟨.st [(0,3),(1,3),(2,3),(3,3),(4,3)] [.int .i64,.int .i64,.int .i64,.int .i64,.int .i64],5,40,[.int .i64 0,.int .i64 0,.int .i64 0,.int .i64 0,.int .i64 0]⟩),
 (106,⟨.st [(0,9),(1,3),(2,59),(3,3),(4,103),(8,105)] [],13,136,[.string ByteArray.empty,.int .i64 0,.slice none 0 0,.int .i64 0,.string ByteArray.empty,.int .i64 0,.int .i64 0,.int .i64 0,.int .i64 0,.int .i64 0,.int .i64 0,.int .i64 0,.int .i64 0]⟩),
 (107,⟨.st [(0,9),(1,3),(2,59),(3,3),(4,103),(8,105)] [],13,136,[.string ByteArray.empty,.int .i64 0,.slice none 0 0,.int .i64 0,.string ByteArray.empty,.int .i64 0,.int .i64 0,.int .i64 0,.int .i64 0,.int .i64 0,.int .i64 0,.int .i64 0,.int .i64 0]⟩),
 (108,⟨.other,1,8,[.nilFunc]⟩),
 (109,⟨.other,1,8,[.nilFunc]⟩),
 (110,⟨.other,1,8,[.pointer none]⟩),
 (111,⟨.st [(0,110),(1,48)] [],2,32,[.pointer none,.slice none 0 0]⟩),
 (112,⟨.st [(0,110),(1,48)] [],2,32,[.pointer none,.slice none 0 0]⟩),
 (113,⟨.ifc,1,16,[.nilIface]⟩),
 (114,⟨.ifc,1,16,[.nilIface]⟩),
 (116,⟨.other,1,8,[.nilFunc]⟩),
 (117,⟨.other,1,8,[.nilFunc]⟩),
 (118,⟨.other,1,8,[.nilFunc]⟩),
 (120,⟨.other,1,8,[.nilFunc]⟩),
 (121,⟨.mp 9 4,1,8,[.map none]⟩),
 (122,⟨.other,1,8,[.nilFunc]⟩),
 (123,⟨.st [(0,3),(1,3)] [.int .i64,.int .i64],2,16,[.int .i64 0,.int .i64 0]⟩),
 (124,⟨.st [(0,3),(1,3)] [.int .i64,.int .i64],2,16,[.int .i64 0,.int .i64 0]⟩),
 (125,⟨.other,1,8,[.nilFunc]⟩),
 (126,⟨.other,1,8,[.nilFunc]⟩),
 (127,⟨.other,1,8,[.nilFunc]⟩),
 (128,⟨.other,1,8,[.nilFunc]⟩),
 (129,⟨.other,1,8,[.nilFunc]⟩),
 (130,⟨.other,1,8,[.nilFunc]⟩),
 (131,⟨.other,1,8,[.nilFunc]⟩),
 (132,⟨.other,1,8,[.nilFunc]⟩),
 (133,⟨.mp 9 131,1,8,[.map none]⟩),
 (135,⟨.other,1,8,[.pointer none]⟩),
 (137,⟨.other,1,8,[.nilFunc]⟩),
 (138,⟨.other,1,8,[.nilFunc]⟩),
 (140,⟨.other,1,8,[.nilFunc]⟩),
 (141,⟨.sl 189,1,24,[.slice none 0 0]⟩),
 (142,⟨.st [(0,3),(1,141)] [],2,32,[.int .i64 0,.slice none 0 0]⟩),
 (143,⟨.st [(0,3),(1,141)] [],2,32,[.int .i64 0,.slice none 0 0]⟩),
 (144,⟨.other,1,8,[.pointer none]⟩),
 (145,⟨.sl 144,1,24,[.slice none 0 0]⟩),
 (146,⟨.other,1,8,[.nilFunc]⟩),
 (147,⟨.other,1,8,[.nilFunc]⟩),
 (148,⟨.other,1,8,[.pointer none]⟩),
 (149,⟨.other,1,8,[.nilFunc]⟩),
 (150,⟨.other,1,8,[.nilFunc]⟩),
 (151,⟨.sl 20,1,24,[.slice none 0 0]⟩),
 (153,⟨.other,1,8,[.nilFunc]⟩),
 (154,⟨.other,1,8,[.nilFunc]⟩),
 (155,⟨.other,1,8,[.nilFunc]⟩),
 (156,⟨.st [(0,59),(1,3),(2,3)] [],3,40,[.slice none 0 0,.int .i64 0,.int .i64 0]⟩),
 (157,⟨.st [(0,59),(1,3),(2,3)] [],3,40,[.slice none 0 0,.int .i64 0,.int .i64 0]⟩),
 (158,⟨.sl 236,1,24,[.slice none 0 0]⟩),
 (159,⟨.st [(0,24),(1,158)] [],2,48,[.slice none 0 0,.slice none 0 0]⟩),
 (160,⟨.st [(0,24),(1,158)] [],2,48,[.slice none 0 0,.slice none 0 0]⟩),
 (162,⟨.other,1,8,[.nilFunc]⟩),
 (163,⟨.other,1,8,[.nilFunc]⟩),
 (165,⟨.other,1,8,[.nilFunc]⟩),
 (166,⟨.other,1,8,[.nilFunc]⟩),
 (167,⟨.st [(0,59),(1,59),(2,3),(3,3),(4,3),(5,59)] [],6,96,[.slice none 0 0,.slice none 0 0,.int .i64 0,.int .i64 0,.int .i64 0,.slice none 0 0]⟩),
 (168,⟨.st [(0,59),(1,59),(2,3),(3,3),(4,3),(5,59)] [],6,96,[.slice none 0 0,.slice none 0 0,.int .i64 0,.int .i64 0,.int .i64 0,.slice none 0 0]⟩),
 (169,⟨.other,1,8,[.nilFunc]⟩),
 (171,⟨.other,1,8,[.nilFunc]⟩),
 (172,⟨.st [(0,9),(1,59),(2,3)] [],3,48,[.string ByteArray.empty,.slice none 0 0,.int .i64 0]⟩),
 (173,⟨.st [(0,9),(1,59),(2,3)] [],3,48,[.string ByteArray.empty,.slice none 0 0,.int .i64 0]⟩),
 (174,⟨.other,1,8,[.nilFunc]⟩),
 (175,⟨.st [(0,9),(1,3),(2,168)] [],8,120,[.string ByteArray.empty,.int .i64 0,.slice none 0 0,.slice none 0 0,.int .i64 0,.int .i64 0,.int .i64 0,.slice none 0 0]⟩),
 (176,⟨.st [(0,9),(1,3),(2,168)] [],8,120,[.string ByteArray.empty,.int .i64 0,.slice none 0 0,.slice none 0 0,.int .i64 0,.int .i64 0,.int .i64 0,.slice none 0 0]⟩),
 (177,⟨.sl 176,1,24,[.slice none 0 0]⟩),
 (178,⟨.sl 173,1,24,[.slice none 0 0]⟩),
 (179,⟨.other,1,8,[.nilFunc]⟩),
 (180,⟨.other,1,8,[.nilFunc]⟩),
 (181,⟨.other,1,8,[.nilFunc]⟩),
 (182,⟨.other,1,8,[.nilFunc]⟩),
 (183,⟨.st [(0,3),(1,3),(2,3),(3,3)] [.int .i64,.int .i64,.int .i64,.int .i64],4,32,[.int .i64 0,.int .i64 0,.int .i64 0,.int .i64 0]⟩),
 (184,⟨.st [(0,3),(1,3),(2,3),(3,3)] [.int .i64,.int .i64,.int .i64,.int .i64],4,32,[.int .i64 0,.int .i64 0,.int .i64 0,.int .i64 0]⟩),
 (185,⟨.other,1,8,[.nilFunc]⟩),
 (186,⟨.other,1,8,[.nilFunc]⟩),
 (187,⟨.other,1,8,[.nilFunc]⟩),
 (188,⟨.st [(0,3),(1,3),(2,4)] [.int .i64,.int .i64,.bool],3,24,[.int .i64 0,.int .i64 0,.bool false]⟩),
 (189,⟨.st [(0,3),(1,3),(2,4)] [.int .i64,.int .i64,.bool],3,24,[.int .i64 0,.int .i64 0,.bool false]⟩),
 (190,⟨.other,1,8,[.nilFunc]⟩),
 (192,⟨.other,1,8,[.nilFunc]⟩),
 (193,⟨.other,1,8,[.nilFunc]⟩),
 (194,⟨.other,1,8,[.nilFunc]⟩),
 (195,⟨.st [(0,3),(1,3),(2,3),(3,3)] [.int .i64,.int .i64,.int .i64,.int .i64],4,32,[.int .i64 0,.int .i64 0,.int .i64 0,.int .i64 0]⟩),
 (196,⟨.st [(0,3),(1,3),(2,3),(3,3)] [.int .i64,.int .i64,.int .i64,.int .i64],4,32,[.int .i64 0,.int .i64 0,.int .i64 0,.int .i64 0]⟩),
 (197,⟨.st [(0,3),(1,196),(5,3),(6,3)] [.int .i64,.int .i64,.int .i64,.int .i64,.int .i64,.int .i64,.int .i64],7,56,[.int .i64 0,.int .i64 0,.int .i64 0,.int .i64 0,.int .i64 0,.int .i64 0,.int .i64 0]⟩),
 (198,⟨.st [(0,3),(1,196),(5,3),(6,3)] [.int .i64,.int .i64,.int .i64,.int .i64,.int .i64,.int .i64,.int .i64],7,56,[.int .i64 0,.int .i64 0,.int .i64 0,.int .i64 0,.int .i64 0,.int .i64 0,.int .i64 0]⟩),
 (200,⟨.other,1,8,[.nilFunc]⟩),
 (201,⟨.st [(0,59),(1,59),(2,3),(3,59),(4,3),(5,3),(6,3),(7,3)] [],8,112,[.slice none 0 0,.slice none 0 0,.int .i64 0,.slice none 0 0,.int .i64 0,.int .i64 0,.int .i64 0,.int .i64 0]⟩),
 (202,⟨.st [(0,59),(1,59),(2,3),(3,59),(4,3),(5,3),(6,3),(7,3)] [],8,112,[.slice none 0 0,.slice none 0 0,.int .i64 0,.slice none 0 0,.int .i64 0,.int .i64 0,.int .i64 0,.int .i64 0]⟩),
 (203,⟨.st [(0,3),(1,3),(2,3)] [.int .i64,.int .i64,.int .i64],3,24,[.int .i64 0,.int .i64 0,.int .i64 0]⟩),
 (204,⟨.st [(0,3),(1,3),(2,3)] [.int .i64,.int .i64,.int .i64],3,24,[.int .i64 0,.int .i64 0,.int .i64 0]⟩),
 (205,⟨.sl 204,1,24,[.slice none 0 0]⟩),
 (206,⟨.other,1,8,[.nilFunc]⟩),
 (208,⟨.other,1,8,[.nilFunc]⟩),
 (209,⟨.other,1,8,[.nilFunc]⟩),
 (211,⟨.other,1,8,[.nilFunc]⟩),
 (212,⟨.other,1,8,[.nilFunc]⟩),
 (213,⟨.other,1,8,[.pointer none]⟩),
 (215,⟨.other,1,8,[.nilFunc]⟩),
 (216,⟨.other,1,8,[.nilFunc]⟩),
 (217,⟨.other,1,8,[.nilFunc]⟩),
 (218,⟨.other,1,8,[.pointer none]⟩),
 (219,⟨.other,1,8,[.nilFunc]⟩),
 (220,⟨.other,1,8,[.nilFunc]⟩),
 (221,⟨.other,1,8,[.nilFunc]⟩),
 (222,⟨.other,1,8,[.nilFunc]⟩),
 (223,⟨.other,1,8,[.nilFunc]⟩),
 (224,⟨.other,1,8,[.nilFunc]⟩),
 (225,⟨.other,1,8,[.pointer none]⟩),
 (226,⟨.st [(0,160),(2,59),(3,24)] [],4,96,[.slice none 0 0,.slice none 0 0,.slice none 0 0,.slice none 0 0]⟩),
 (227,⟨.st [(0,160),(2,59),(3,24)] [],4,96,[.slice none 0 0,.slice none 0 0,.slice none 0 0,.slice none 0 0]⟩),
 (228,⟨.other,1,8,[.nilFunc]⟩),
 (229,⟨.other,1,8,[.nilFunc]⟩),
 (230,⟨.other,1,8,[.nilFunc]⟩),
 (231,⟨.other,1,8,[.nilFunc]⟩),
 (232,⟨.other,1,8,[.pointer none]⟩),
 (233,⟨.st [(0,160),(2,59)] [],3,72,[.slice none 0 0,.slice none 0 0,.slice none 0 0]⟩),
 (234,⟨.st [(0,160),(2,59)] [],3,72,[.slice none 0 0,.slice none 0 0,.slice none 0 0]⟩),
 (235,⟨.st [(0,3),(1,3),(2,3),(3,3)] [.int .i64,.int .i64,.int .i64,.int .i64],4,32,[.int .i64 0,.int .i64 0,.int .i64 0,.int .i64 0]⟩),
 (236,⟨.st [(0,3),(1,3),(2,3),(3,3)] [.int .i64,.int .i64,.int .i64,.int .i64],4,32,[.int .i64 0,.int .i64 0,.int .i64 0,.int .i64 0]⟩),
 (238,⟨.other,1,8,[.nilFunc]⟩),
 (239,⟨.other,1,8,[.nilFunc]⟩),
 (240,⟨.other,1,8,[.nilFunc]⟩),
 (241,⟨.other,1,8,[.pointer none]⟩),
 (242,⟨.mp 9 3,1,8,[.map none]⟩),
 (243,⟨.st [(0,168),(6,242)] [],7,104,[.slice none 0 0,.slice none 0 0,.int .i64 0,.int .i64 0,.int .i64 0,.slice none 0 0,.map none]⟩),
 (244,⟨.st [(0,168),(6,242)] [],7,104,[.slice none 0 0,.slice none 0 0,.int .i64 0,.int .i64 0,.int .i64 0,.slice none 0 0,.map none]⟩),
 (245,⟨.other,1,8,[.nilFunc]⟩),
 (246,⟨.other,1,8,[.nilFunc]⟩),
 (247,⟨.other,1,8,[.nilFunc]⟩),
 (248,⟨.other,1,8,[.nilFunc]⟩),
 (249,⟨.sl 253,1,24,[.slice none 0 0]⟩),
 (251,⟨.other,1,8,[.nilFunc]⟩),
 (252,⟨.st [(0,173),(3,3)] [],4,56,[.string ByteArray.empty,.slice none 0 0,.int .i64 0,.int .i64 0]⟩),
 (253,⟨.st [(0,173),(3,3)] [],4,56,[.string ByteArray.empty,.slice none 0 0,.int .i64 0,.int .i64 0]⟩),
 (254,⟨.mp 3 3,1,8,[.map none]⟩),
 (255,⟨.other,1,8,[.nilFunc]⟩),
 (256,⟨.other,1,8,[.nilFunc]⟩),
 (257,⟨.other,1,8,[.nilFunc]⟩),
 (258,⟨.other,1,8,[.nilFunc]⟩),
 (259,⟨.other,1,8,[.nilFunc]⟩),
 (260,⟨.other,1,8,[.nilFunc]⟩),
 (262,⟨.other,1,8,[.nilFunc]⟩),
 (263,⟨.other,1,8,[.nilFunc]⟩),
 (264,⟨.other,1,8,[.nilFunc]⟩),
 (265,⟨.st [(0,46),(4,43),(6,3)] [],7,72,[.int .i64 0,.int .i64 0,.int .i64 0,.slice none 0 0,.int .i64 0,.int .i64 0,.int .i64 0]⟩),
 (266,⟨.st [(0,46),(4,43),(6,3)] [],7,72,[.int .i64 0,.int .i64 0,.int .i64 0,.slice none 0 0,.int .i64 0,.int .i64 0,.int .i64 0]⟩),
 (267,⟨.other,1,8,[.nilFunc]⟩),
 (268,⟨.other,1,8,[.nilFunc]⟩),
 (269,⟨.other,1,8,[.nilFunc]⟩),
 (270,⟨.other,1,8,[.pointer none]⟩),
 (271,⟨.other,1,8,[.nilFunc]⟩),
 (272,⟨.other,1,8,[.nilFunc]⟩),
 (273,⟨.other,1,8,[.nilFunc]⟩),
 (274,⟨.other,1,8,[.nilFunc]⟩),
 (275,⟨.other,1,8,[.nilFunc]⟩),
 (276,⟨.mp 3 205,1,8,[.map none]⟩),
 (277,⟨.st [(0,202),(8,276),(9,3)] [],10,128,[.slice none 0 0,.slice none 0 0,.int .i64 0,.slice none 0 0,.int .i64 0,.int .i64 0,.int .i64 0,.int .i64 0,.map none,.int .i64 0]⟩),
 (278,⟨.st [(0,202),(8,276),(9,3)] [],10,128,[.slice none 0 0,.slice none 0 0,.int .i64 0,.slice none 0 0,.int .i64 0,.int .i64 0,.int .i64 0,.int .i64 0,.map none,.int .i64 0]⟩),
 (280,⟨.other,1,8,[.nilFunc]⟩),
 (281,⟨.other,1,8,[.nilFunc]⟩),
 (282,⟨.other,1,8,[.nilFunc]⟩),
 (283,⟨.other,1,8,[.pointer none]⟩),
 (285,⟨.other,1,8,[.nilFunc]⟩),
 (286,⟨.other,1,8,[.nilFunc]⟩),
 (287,⟨.other,1,8,[.nilFunc]⟩),
 (288,⟨.st [(0,202),(8,196)] [],12,144,[.slice none 0 0,.slice none 0 0,.int .i64 0,.slice none 0 0,.int .i64 0,.int .i64 0,.int .i64 0,.int .i64 0,.int .i64 0,.int .i64 0,.int .i64 0,.int .i64 0]⟩),
 (289,⟨.st [(0,202),(8,196)] [],12,144,[.slice none 0 0,.slice none 0 0,.int .i64 0,.slice none 0 0,.int .i64 0,.int .i64 0,.int .i64 0,.int .i64 0,.int .i64 0,.int .i64 0,.int .i64 0,.int .i64 0]⟩),
 (291,⟨.other,1,8,[.nilFunc]⟩),
 (292,⟨.other,1,8,[.pointer none]⟩),
 (293,⟨.st [(0,59)] [],1,24,[.slice none 0 0]⟩),
 (294,⟨.st [(0,59)] [],1,24,[.slice none 0 0]⟩),
 (295,⟨.other,1,8,[.nilFunc]⟩),
 (296,⟨.other,1,8,[.nilFunc]⟩),
 (297,⟨.other,1,8,[.nilFunc]⟩),
 (298,⟨.other,1,8,[.nilFunc]⟩),
 (299,⟨.other,1,8,[.nilFunc]⟩),
 (300,⟨.st [(0,299)] [],1,8,[.nilFunc]⟩),
 (301,⟨.st [(0,299)] [],1,8,[.nilFunc]⟩),
 (302,⟨.other,1,8,[.nilFunc]⟩),
 (303,⟨.other,1,8,[.nilFunc]⟩),
 (304,⟨.other,1,8,[.nilFunc]⟩),
 (305,⟨.int .u64,1,8,[.int .u64 0]⟩),
 (306,⟨.other,1,8,[.nilFunc]⟩),
 (308,⟨.other,1,8,[.nilFunc]⟩),
 (309,⟨.other,1,8,[.nilFunc]⟩),
 (310,⟨.other,1,8,[.nilFunc]⟩),
 (312,⟨.other,1,8,[.nilFunc]⟩),
 (313,⟨.other,1,8,[.nilFunc]⟩),
 (314,⟨.other,1,8,[.nilFunc]⟩),
 (315,⟨.ar 7 3,7,56,[.int .i64 0,.int .i64 0,.int .i64 0,.int .i64 0,.int .i64 0,.int .i64 0,.int .i64 0]⟩),
 (316,⟨.other,1,8,[.nilFunc]⟩),
 (317,⟨.sl 196,1,24,[.slice none 0 0]⟩),
 (318,⟨.other,1,8,[.nilFunc]⟩),
 (319,⟨.sl 59,1,24,[.slice none 0 0]⟩),
 (320,⟨.other,1,8,[.nilFunc]⟩),
 (321,⟨.other,1,8,[.nilFunc]⟩),
 (322,⟨.other,1,8,[.nilFunc]⟩),
 (323,⟨.ar 8 4,8,8,[.bool false,.bool false,.bool false,.bool false,.bool false,.bool false,.bool false,.bool false]⟩),
 (324,⟨.other,1,8,[.nilFunc]⟩),
 (325,⟨.other,1,8,[.nilFunc]⟩),
 (326,⟨.st [(0,3)] [.int .i64],1,8,[.int .i64 0]⟩),
 (327,⟨.st [(0,3)] [.int .i64],1,8,[.int .i64 0]⟩),
 (328,⟨.other,1,8,[.nilFunc]⟩),
 (329,⟨.other,1,8,[.nilFunc]⟩),
 (330,⟨.other,1,8,[.nilFunc]⟩),
 (331,⟨.other,1,8,[.pointer none]⟩),
 (332,⟨.st [(0,97)] [],2,32,[.int .i64 0,.slice none 0 0]⟩),
 (333,⟨.st [(0,97)] [],2,32,[.int .i64 0,.slice none 0 0]⟩),
 (334,⟨.st [(0,81),(7,333)] [],9,120,[.int .i64 0,.int .i64 0,.int .i64 0,.int .i64 0,.int .i64 0,.slice none 0 0,.slice none 0 0,.int .i64 0,.slice none 0 0]⟩),
 (335,⟨.st [(0,81),(7,333)] [],9,120,[.int .i64 0,.int .i64 0,.int .i64 0,.int .i64 0,.int .i64 0,.slice none 0 0,.slice none 0 0,.int .i64 0,.slice none 0 0]⟩),
 (336,⟨.other,1,8,[.nilFunc]⟩),
 (337,⟨.other,1,8,[.nilFunc]⟩),
 (338,⟨.other,1,8,[.nilFunc]⟩),
 (339,⟨.other,1,8,[.nilFunc]⟩),
 (340,⟨.other,1,8,[.nilFunc]⟩),
 (341,⟨.other,1,8,[.nilFunc]⟩),
 (342,⟨.other,1,8,[.nilFunc]⟩),
 (343,⟨.other,1,8,[.nilFunc]⟩),
 (344,⟨.other,1,8,[.nilFunc]⟩),
 (345,⟨.other,1,8,[.nilFunc]⟩),
 (346,⟨.other,1,8,[.nilFunc]⟩),
 (347,⟨.other,1,8,[.nilFunc]⟩),
 (348,⟨.other,1,8,[.nilFunc]⟩),
 (349,⟨.other,1,8,[.nilFunc]⟩),
 (350,⟨.other,1,8,[.nilFunc]⟩),
 (351,⟨.other,1,8,[.nilFunc]⟩),
 (352,⟨.other,1,8,[.nilFunc]⟩),
 (353,⟨.other,1,8,[.nilFunc]⟩),
 (354,⟨.other,1,8,[.nilFunc]⟩),
 (355,⟨.other,1,8,[.nilFunc]⟩),
 (356,⟨.other,1,8,[.nilFunc]⟩),
 (357,⟨.other,1,8,[.nilFunc]⟩),
 (358,⟨.other,1,8,[.nilFunc]⟩),
 (359,⟨.other,1,8,[.nilFunc]⟩),
 (360,⟨.other,1,8,[.nilFunc]⟩),
 (361,⟨.other,1,8,[.nilFunc]⟩),
 (362,⟨.other,1,8,[.nilFunc]⟩),
 (363,⟨.int .u32,1,4,[.int .u32 0]⟩),
 (365,⟨.other,1,8,[.nilFunc]⟩),
 (366,⟨.ar 24 5,24,24,[.int .u8 0,.int .u8 0,.int .u8 0,.int .u8 0,.int .u8 0,.int .u8 0,.int .u8 0,.int .u8 0,.int .u8 0,.int .u8 0,.int .u8 0,.int .u8 0,.int .u8 0,.int .u8 0,.int .u8 0,.int .u8 0,.int .u8 0,.int .u8 0,.int .u8 0,.int .u8 0,.int .u8 0,.int .u8 0,.int .u8 0,.int .u8 0]⟩),
 (367,⟨.int .u64,1,8,[.int .u64 0]⟩),
 (368,⟨.other,1,8,[.nilFunc]⟩),
 (369,⟨.other,1,8,[.nilFunc]⟩),
 (371,⟨.other,1,8,[.nilFunc]⟩),
 (372,⟨.other,1,8,[.nilFunc]⟩),
 (373,⟨.other,1,8,[.nilFunc]⟩),
 (374,⟨.other,1,8,[.nilFunc]⟩),
 (375,⟨.other,1,8,[.nilFunc]⟩),
 (376,⟨.int .i64,1,8,[.int .i64 0]⟩),
 (378,⟨.other,1,8,[.nilFunc]⟩),
 (379,⟨.other,1,8,[.pointer none]⟩),
 (380,⟨.other,1,8,[.nilFunc]⟩),
 (381,⟨.other,1,8,[.nilFunc]⟩),
 (382,⟨.other,1,8,[.pointer none]⟩),
 (383,⟨.other,1,8,[.nilFunc]⟩),
 (384,⟨.other,1,8,[.nilFunc]⟩),
 (385,⟨.ar 3 336,3,24,[.nilFunc,.nilFunc,.nilFunc]⟩),
 (386,⟨.other,1,8,[.nilFunc]⟩),
 (387,⟨.other,1,8,[.nilFunc]⟩),
 (388,⟨.other,1,8,[.nilFunc]⟩),
 (389,⟨.other,1,8,[.nilFunc]⟩),
 (390,⟨.other,1,8,[.nilFunc]⟩),
 (391,⟨.other,1,8,[.nilFunc]⟩),
 (392,⟨.other,1,8,[.nilFunc]⟩),
 (393,⟨.other,1,8,[.nilFunc]⟩),
 (394,⟨.other,1,8,[.nilFunc]⟩),
 (395,⟨.other,1,8,[.nilFunc]⟩),
 (396,⟨.ar 20 367,20,160,[.int .u64 0,.int .u64 0,.int .u64 0,.int .u64 0,.int .u64 0,.int .u64 0,.int .u64 0,.int .u64 0,.int .u64 0,.int .u64 0,.int .u64 0,.int .u64 0,.int .u64 0,.int .u64 0,.int .u64 0,.int .u64 0,.int .u64 0,.int .u64 0,.int .u64 0,.int .u64 0]⟩),
 (397,⟨.ar 65 5,65,65,[.int .u8 0,.int .u8 0,.int .u8 0,.int .u8 0,.int .u8 0,.int .u8 0,.int .u8 0,.int .u8 0,.int .u8 0,.int .u8 0,.int .u8 0,.int .u8 0,.int .u8 0,.int .u8 0,.int .u8 0,.int .u8 0,.int .u8 0,.int .u8 0,.int .u8 0,.int .u8 0,.int .u8 0,.int .u8 0,.int .u8 0,.int .u8 0,.int .u8 0,.int .u8 0,.int .u8 0,.int .u8 0,.int .u8 0,.int .u8 0,.int .u8 0,.int .u8 0,.int .u8 0,.int .u8 0,.int .u8 0,.int .u8 0,.int .u8 0,.int .u8 0,.int .u8 0,.int .u8 0,.int .u8 0,.int .u8 0,.int .u8 0,.int .u8 0,.int .u8 0,.int .u8 0,.int .u8 0,.int .u8 0,.int .u8 0,.int .u8 0,.int .u8 0,.int .u8 0,.int .u8 0,.int .u8 0,.int .u8 0,.int .u8 0,.int .u8 0,.int .u8 0,.int .u8 0,.int .u8 0,.int .u8 0,.int .u8 0,.int .u8 0,.int .u8 0,.int .u8 0]⟩),
 (398,⟨.other,1,8,[.nilFunc]⟩),
 (400,⟨.st [(0,5),(1,5)] [.int .u8,.int .u8],2,2,[.int .u8 0,.int .u8 0]⟩),
 (401,⟨.st [(0,5),(1,5)] [.int .u8,.int .u8],2,2,[.int .u8 0,.int .u8 0]⟩),
 (402,⟨.ar 16 401,32,32,[.int .u8 0,.int .u8 0,.int .u8 0,.int .u8 0,.int .u8 0,.int .u8 0,.int .u8 0,.int .u8 0,.int .u8 0,.int .u8 0,.int .u8 0,.int .u8 0,.int .u8 0,.int .u8 0,.int .u8 0,.int .u8 0,.int .u8 0,.int .u8 0,.int .u8 0,.int .u8 0,.int .u8 0,.int .u8 0,.int .u8 0,.int .u8 0,.int .u8 0,.int .u8 0,.int .u8 0,.int .u8 0,.int .u8 0,.int .u8 0,.int .u8 0,.int .u8 0]⟩),
 (403,⟨.other,1,8,[.nilFunc]⟩),
 (405,⟨.other,1,8,[.nilFunc]⟩),
 (406,⟨.other,1,8,[.nilFunc]⟩),
 (408,⟨.other,1,8,[.nilFunc]⟩),
 (409,⟨.st [(0,9),(1,9),(2,114)] [],3,48,[.string ByteArray.empty,.string ByteArray.empty,.nilIface]⟩),
 (410,⟨.st [(0,9),(1,9),(2,114)] [],3,48,[.string ByteArray.empty,.string ByteArray.empty,.nilIface]⟩),
 (411,⟨.other,1,8,[.nilFunc]⟩),
 (412,⟨.other,1,8,[.nilFunc]⟩),
 (413,⟨.other,1,8,[.nilFunc]⟩),
 (414,⟨.other,1,8,[.nilFunc]⟩),
 (415,⟨.other,1,8,[.nilFunc]⟩),
 (416,⟨.other,1,8,[.nilFunc]⟩),
 (417,⟨.ar 3 3,3,24,[.int .i64 0,.int .i64 0,.int .i64 0]⟩),
 (418,⟨.other,1,8,[.nilFunc]⟩),
 (419,⟨.other,1,8,[.nilFunc]⟩),
 (420,⟨.other,1,8,[.nilFunc]⟩),
 (421,⟨.other,1,8,[.nilFunc]⟩),
 (422,⟨.other,1,8,[.nilFunc]⟩),
 (423,⟨.other,1,8,[.nilFunc]⟩),
 (424,⟨.other,1,8,[.nilFunc]⟩),
 (425,⟨.other,1,8,[.pointer none]⟩),
 (426,⟨.st [(0,9)] [.str],1,16,[.string ByteArray.empty]⟩),
 (427,⟨.st [(0,9)] [.str],1,16,[.string ByteArray.empty]⟩),
 (428,⟨.other,1,8,[.nilFunc]⟩),
 (429,⟨.other,1,8,[.nilFunc]⟩),
 (430,⟨.other,1,8,[.nilFunc]⟩),
 (431,⟨.other,1,8,[.nilFunc]⟩),
 (432,⟨.ar 32 5,32,32,[.int .u8 0,.int .u8 0,.int .u8 0,.int .u8 0,.int .u8 0,.int .u8 0,.int .u8 0,.int .u8 0,.int .u8 0,.int .u8 0,.int .u8 0,.int .u8 0,.int .u8 0,.int .u8 0,.int .u8 0,.int .u8 0,.int .u8 0,.int .u8 0,.int .u8 0,.int .u8 0,.int .u8 0,.int .u8 0,.int .u8 0,.int .u8 0,.int .u8 0,.int .u8 0,.int .u8 0,.int .u8 0,.int .u8 0,.int .u8 0,.int .u8 0,.int .u8 0]⟩),
 (433,⟨.ar 64 5,64,64,[.int .u8 0,.int .u8 0,.int .u8 0,.int .u8 0,.int .u8 0,.int .u8 0,.int .u8 0,.int .u8 0,.int .u8 0,.int .u8 0,.int .u8 0,.int .u8 0,.int .u8 0,.int .u8 0,.int .u8 0,.int .u8 0,.int .u8 0,.int .u8 0,.int .u8 0,.int .u8 0,.int .u8 0,.int .u8 0,.int .u8 0,.int .u8 0,.int .u8 0,.int .u8 0,.int .u8 0,.int .u8 0,.int .u8 0,.int .u8 0,.int .u8 0,.int .u8 0,.int .u8 0,.int .u8 0,.int .u8 0,.int .u8 0,.int .u8 0,.int .u8 0,.int .u8 0,.int .u8 0,.int .u8 0,.int .u8 0,.int .u8 0,.int .u8 0,.int .u8 0,.int .u8 0,.int .u8 0,.int .u8 0,.int .u8 0,.int .u8 0,.int .u8 0,.int .u8 0,.int .u8 0,.int .u8 0,.int .u8 0,.int .u8 0,.int .u8 0,.int .u8 0,.int .u8 0,.int .u8 0,.int .u8 0,.int .u8 0,.int .u8 0,.int .u8 0]⟩),
 (434,⟨.other,1,8,[.nilFunc]⟩),
 (435,⟨.st [(0,17),(1,17),(2,17),(3,9)] [],4,40,[.pointer none,.pointer none,.pointer none,.string ByteArray.empty]⟩),
 (436,⟨.st [(0,17),(1,17),(2,17),(3,9)] [],4,40,[.pointer none,.pointer none,.pointer none,.string ByteArray.empty]⟩),
 (437,⟨.ar 0 16,0,0,[]⟩),
 (438,⟨.st [(0,437)] [],0,0,[]⟩),
 (439,⟨.st [(0,437)] [],0,0,[]⟩),
 (440,⟨.int .u8,1,1,[.int .u8 0]⟩),
 (441,⟨.int .u8,1,1,[.int .u8 0]⟩),
 (442,⟨.other,1,8,[.nilFunc]⟩),
 (443,⟨.int .i32,1,4,[.int .i32 0]⟩),
 (444,⟨.int .i32,1,4,[.int .i32 0]⟩),
 (445,⟨.st [(0,12),(1,12),(2,363),(3,440),(4,5),(5,5),(6,441),(7,442),(8,148),(9,443),(10,444)] [],11,48,[.int .u64 0,.int .u64 0,.int .u32 0,.int .u8 0,.int .u8 0,.int .u8 0,.int .u8 0,.nilFunc,.pointer none,.int .i32 0,.int .i32 0]⟩),
 (446,⟨.st [(0,12),(1,12),(2,363),(3,440),(4,5),(5,5),(6,441),(7,442),(8,148),(9,443),(10,444)] [],11,48,[.int .u64 0,.int .u64 0,.int .u32 0,.int .u8 0,.int .u8 0,.int .u8 0,.int .u8 0,.nilFunc,.pointer none,.int .i32 0,.int .i32 0]⟩)]
set_option maxRecDepth 100000 in
theorem zqI:tab.map (fun p=>tiOf Tryz.prog p.1)=tab.map (fun p=>some p.2):=by kernel_rfl
theorem znj:tab.all (fun p=>zjU p.2)=true:=by kernel_rfl
def Tt:TT:=fun T=>lk T tab
theorem hTt:Tt.ok Tryz.prog:=zqH zqI znj
theorem hMix:Tryz.prog.follows .mixedOrders=true:=by kernel_rfl
end Go.Proofs.YtidkoikjdghlmaaGreatDoor
namespace Go.Proofs.YtidkoikjdghlmaaGreatDoor
open Go Go.QL
theorem zay {p:Prop} (h:p):Gd none p:=h
theorem ze {gd:Option Bool} {p:Prop} (h:p):Gd gd p:=by
 cases gd with
 | none=>exact h
 | some c=>exact fun _=>h
theorem zqb {c:Bool}:Gd (some c) (c=true):=fun h=>h
theorem zax {c:Bool} {p:Prop} (h:c=true→p):Gd (some c) p:=h
theorem zn {α β : Type} {f : α→β} {l:List α} {i:Nat} (h:i < l.length):(l.map f)[((i:Int)).toNat]?=some (f l[i]):=by
 simp [h]
theorem zh {α β : Type} {f : α→β} {l:List α} {n:Int} (h0:0≤n) (h:n.toNat < l.length):(l.map f)[n.toNat]?=some (f (l[n.toNat]'h)):=by
 simp [h]
theorem map_some {α β : Type} {f : α→β} {l:List α} {i:Nat} {x : α} (h:l[i]?=some x):(l.map f)[((i:Int)).toNat]?=some (f x):=by simp [h]
theorem zgb {α β : Type} {f : α→β} {l:List α} {i:Int} {x : α} (h:l[i.toNat]?=some x):(l.map f)[i.toNat]?=some (f x):=by simp [h]
theorem andA {p q:Prop} (hq:q) (hp:p:=by first|exact trivial|rfl|exact zqb|exact ze (by omega)|exact fun h=>h|decide|(constructor <;> simp [zO,maxLen];done)|(intro h;simpa using h)):p∧q:=⟨hp,hq⟩
theorem ivE {k:IntKind} {a b:Int} (h:a=b):some (iv k a)=some (iv k b):=by rw [h]
theorem oE {c st n m:Nat} (h:n=m):some (AV.x (.o c st n))=some (AV.x (.o c st m)):=by rw [h]
theorem chE {e:TypeId} {sz st:Nat} {l m:List (List PV)} (h:l=m):some (Ob.chain e sz st l)=some (Ob.chain e sz st m):=by rw [h]
theorem svE {a b:ByteArray} (h:a=b):some (sv a)=some (sv b):=by rw [h]
theorem impA {Γ:Cx} {fr fr':Fr} {σ σ':Sg}
  (hf:SubF fr fr':=by repeat' (first|exact trivial|refine And.intro ?_ ?_|exact chE (by assumption)|rfl|exact ivE (by first|omega|(simp only [List.length_map,List.length_append,List.length_singleton] <;> omega))|exact oE (by first|omega|(simp only [List.length_map,List.length_append,List.length_singleton] <;> omega))))
  (hs:SubS σ σ':=by repeat' (first|exact trivial|refine And.intro ?_ ?_|exact chE (by assumption)|rfl|exact ivE (by first|omega|(simp only [List.length_map,List.length_append,List.length_singleton] <;> omega))|exact oE (by first|omega|(simp only [List.length_map,List.length_append,List.length_singleton] <;> omega))))
  (hr:(rsFr σ' fr' && rsSg σ' σ')=true:=by kernel_rfl) (hB:zbC Γ.ids σ'=true:=by kernel_rfl) (hD:ziL Γ.dfs σ σ'=true:=by kernel_rfl):Imp Γ fr σ fr' σ':=Imp.forget hf hs hr hB hD
def asc (l:List (Nat × Nat)) (i:Nat):Nat:=match lk i l with
 | some j=>j
 | none=>i
def sl (l:List Int):AV:=.x (.d (.s 1 (l.map fun n=>[.v (.int .i64 n)])))
def zR (l:List Int):PV:=.s 1 (l.map fun n=>[.v (.int .i64 n)])
def rowsAV (l:List (List Int)):AV:=.x (.d (.s 1 (l.map fun r=>[zR r])))
def i64 (n:Int):Prop:=-9223372036854775808≤n∧n≤9223372036854775807
abbrev R2:=Int × Int
def r2PV (x:R2):List PV:=[.v (.int .i64 x.1),.v (.int .i64 x.2)]
def r2AV (x:R2):AV:=.a [.d (.v (.int .i64 x.1)),.d (.v (.int .i64 x.2))]
def r2sAV (l:List R2):AV:=.x (.d (.s 2 (l.map r2PV)))
theorem outO2 {tt:TT} {a b:Tmp} {fr:Fr} {σ:Sg} {c st n:Nat} {e:TypeId} {sz:Nat} {xs:List (List PV)} {p:PV} (h1:lk a fr=some (.x (.o c st n))) (h2:lk b fr=some (.x (.d p))) (h3:lk c σ=some (.chain e sz st xs)) (h4:n≤xs.length) :
  za6 tt [.tmp a,.tmp b] fr σ=some (.t [.x (.d (.s sz (xs.take n))),.x (.d p)]):=by
 simp [za6,zbY,zhp,h1,h2,zd1,zbV,zbW,zbq,h3,h4]
theorem outK1 {tt:TT} {a:Tmp} {fr:Fr} {σ σ':Sg} {c st n:Nat} {e:TypeId} {sz:Nat} {xs:List (List PV)} (h1:lk a fr=some (.x (.o c st n))) (h2:lk c σ'=none) (h3:lk c σ=some (.chain e sz st xs)) (h4:n≤xs.length) :
  zb0 tt [.tmp a] fr σ σ'=some (.x (.d (.s sz (xs.take n)))):=by
 simp [zb0,zbY,zhp,h1,zc5,zcy,h2,zbq,h3,h4]
theorem leS {sz:Nat} {xs ys:List (List PV)} {x:AV} (h:xs=ys):LeAV (.t [.x (.d (.s sz xs)),x]) (.t [.x (.d (.s sz ys)),x]):=by
 rw [h];exact⟨_,rfl,LeAV1.refl _,LeAV1.refl _,trivial⟩
theorem leN {sz:Nat} {x:AV}:LeAV (.t [.x (.d (.v (.slice none 0 0))),x]) (.t [.x (.d (.s sz [])),x]):=⟨_,rfl,LeAV1.nil _,LeAV1.refl _,trivial⟩
end Go.Proofs.YtidkoikjdghlmaaGreatDoor
namespace Go.Proofs.YtidkoikjdghlmaaGreatDoor
open Go Go.QL
section
variable {P:Program} {Γ:Cx} {fr:Fr} {σ:Sg} {Q:Exit→Fr→Sg→Prop}
theorem zaf {b:Bool} {P:Prop} (h:b=true):b=false→P:=fun e=>by rw [h] at e;cases e
theorem zM {b:Bool} {P:Prop} (h:b=false):b=true→P:=fun e=>by rw [h] at e;cases e
theorem zu {a b:Bool} (h1:a=true) (h2:b=true):(a && b)=true:=by rw [h1,h2];rfl
theorem zw {a b:Bool} (h1:a=true) (h2:b=false):(a && !b)=true:=by rw [h1,h2];rfl
theorem zx {a b:Bool} (h1:a=false) (h2:b=false):(!a && !b)=true:=by rw [h1,h2];rfl
theorem zE {b:Bool} (h:b=false):(!b)=true:=by rw [h];rfl
theorem zso {c:Operand} {x y:Code} {b:Bool} {p q:Prop} (hc:ev fr c=some (none,bv b)) (ht:p→AW P Γ x Q fr σ) (hf:q→AW P Γ y Q fr σ)
  (hp:b=true→p:=by intro h;first|(replace h:=of_decide_eq_true h;(try simp only [List.length_map] at h);exact h)|(simp only [List.length_map,bne_iff_ne,ne_eq,beq_iff_eq,bne_eq_false_iff_eq,beq_eq_false_iff_ne,decide_eq_true_eq,decide_eq_false_iff_not,Bool.not_eq_true',Bool.not_eq_false',Int.natCast_inj] at h;exact h)|exact h)
  (hq:b=false→q:=by intro h;first|(replace h:=of_decide_eq_false h;(try simp only [List.length_map] at h);exact h)|(simp only [List.length_map,bne_iff_ne,ne_eq,beq_iff_eq,bne_eq_false_iff_eq,beq_eq_false_iff_ne,decide_eq_true_eq,decide_eq_false_iff_not,Bool.not_eq_true',Bool.not_eq_false',Int.natCast_inj] at h;exact h)|exact h):AW P Γ (.cond c x y) Q fr σ:=
 za hc (fun h=>ht (hp h)) (fun h=>hf (hq h))
theorem zst {c:Operand} {x y:Code} (hc:ev fr c=some (none,bv true)) (h:AW P Γ x Q fr σ):AW P Γ (.cond c x y) Q fr σ:=za hc (fun _=>h) (fun e=>nomatch e)
theorem zss {c:Operand} {x y:Code} (hc:ev fr c=some (none,bv false)) (h:AW P Γ y Q fr σ):AW P Γ (.cond c x y) Q fr σ:=za hc (fun e=>nomatch e) (fun _=>h)
theorem zsu {c:Operand} {x y:Code} {b:Bool} (hc:ev fr c=some (none,bv b)) (h:AW P Γ x Q fr σ) (hb:¬(b=false):=by decide):AW P Γ (.cond c x y) Q fr σ:=za hc (fun _=>h) (fun e=>absurd e hb)
theorem zsv {c:Operand} {x y:Code} {b:Bool} (hc:ev fr c=some (none,bv b)) (h:AW P Γ y Q fr σ) (hb:¬(b=true):=by decide):AW P Γ (.cond c x y) Q fr σ:=za hc (fun e=>absurd e hb) (fun _=>h)
theorem zsq {n:Int} {G:Int→Prop} (hG:G n) (h : -9223372036854775808≤n∧n≤9223372036854775807:=by first|omega|(simp only [List.length_map];omega)):∃ r,IntKind.i64.wrap n=r∧G r:=⟨n,zg h,hG⟩
theorem lnA {p q G:Prop} (h:q→G) (e:p=q:=by conv=>{ lhs;(first|rewrite [List.length_map]|skip);unfold maxLen } <;> exact rfl):p→G:=fun x=>h (e ▸ x)
theorem pkA {p q:Prop} (hq:q) (hp:p:=by first|(exact trivial)|(exact fun h=>h)|(exact zu)|(exact zw)|(exact zx)|(exact zE)|(exact fun h _=>h)):p∧q:=⟨hp,hq⟩
theorem abA {p G:Prop} (h:p) (n:¬p:=by omega):G:=absurd h n
theorem zsn {f:FuncId} {args:List AV} {r:AV} {G:AV→Sg→Prop} (h:FnC P f args r) (hG:G r σ) (hp:args.all zf6=true:=by exact rfl) (hr:zf6 r=true:=by exact rfl) :
  ∃ R,ACall P f args σ R∧∀ rv σ',R rv σ'→G rv σ':=⟨_,h.call hp hr,by rintro _ _ ⟨rfl,rfl⟩;exact hG⟩
theorem zsp {ι : Sort _} {s : ι→Sg} {f:FuncId} {args:List AV} {r:AV} {G:AV→Prop} (h:FnC P f args r) (hG:G r) (hp:args.all zf6=true:=by exact rfl) (hr:zf6 r=true:=by exact rfl) :
  ∃ rv,(∀ i : ι,ACall P f args (s i) fun r' σ'=>r'=rv∧σ'=s i)∧G rv:=⟨_,fun _=>h.call hp hr,hG⟩
theorem zsr {ι κ : Sort _} {s : ι→κ→Sg} {f:FuncId} {args:List AV} {r:AV} {G:AV→Prop} (h:FnC P f args r) (hG:G r) (hp:args.all zf6=true:=by exact rfl) (hr:zf6 r=true:=by exact rfl) :
  ∃ rv,(∀ (i : ι) (j : κ),ACall P f args (s i j) fun r' σ'=>r'=rv∧σ'=s i j)∧G rv:=⟨_,fun _ _=>h.call hp hr,hG⟩
theorem frA {f:FuncId} {args args':List AV} {σ0 σ1:Sg} {r1:AV} {G:AV→Sg→Prop} (h:ACall P f args σ0 fun r σ'=>r=r1∧σ'=σ1) (l:List (Nat × Nat)) (hG:G (rnAV (asc l) r1) (after (asc l) σ0 σ1 σ))
  (ha:args.map (rnAV (asc l))=args':=by exact rfl) (hl:SubR (asc l) σ σ0:=by repeat (first|exact trivial|refine⟨rfl,?_⟩)) (hc:(args.all (zeR σ0) && rsSg σ0 σ0 && injK (asc l) (σ0.map (·.1)))=true:=by exact rfl)
  (hn:zdN (asc l) σ0 σ1 σ=true:=by exact rfl):∃ R,ACall P f args' σ R∧∀ rv σ',R rv σ'→G rv σ':=
 ⟨_,ha ▸ h.frame (asc l) hl hc (by rintro _ _ ⟨rfl,rfl⟩;exact hn),by rintro _ _ ⟨_,_,⟨rfl,rfl⟩,rfl,rfl⟩;exact hG⟩
theorem exA {α β : Type} {f : α→β} {l:List α} {i:Nat} {gd:Option Bool} {p:Prop} {G : β→Prop} (hG:∀ h:i < l.length,G (f (l[i]'h))) (h:i < l.length:=by omega) (hp:p:=by omega) :
  ∃ x,Gd gd (p∧(l.map f)[((i:Int)).toNat]?=some x)∧G x:=⟨_,ze ⟨hp,zn h⟩,hG h⟩
end
theorem regA {Γ:Cx} {fr:Fr} {σ:Sg} {Q:Exit→Fr→Sg→Prop} {id:Nat} {ops:List Oper} (h:zah Tryz.prog Tt Γ.nt ops (Q .normal) ops fr σ):AW Tryz.prog Γ (.region id ops.toArray false) Q fr σ:=zb hTt h
theorem drA {Γ:Cx} {fr:Fr} {σ:Sg} {Q:Exit→Fr→Sg→Prop} (m:Nat) (ob:Bool) (ms:List Nat) {id:Nat} {ops:List Oper} (h:vcDr Tryz.prog Tt Γ.nt ops ob ms fr σ (fun fr' σ'=>zah Tryz.prog Tt Γ.nt ops (Q .normal) (ops.drop m) fr' σ') (ops.take m) [] 0 fr σ)
  (hms:zbe ms m ops 0=true:=by kernel_rfl) (hlen:Nat.ble m ops.length=true:=by exact rfl) (hds:zc2 (ops.take m) []=true:=by exact rfl) (hrd:zcn ops ms (ops.take m) (ops.take m) 0=true:=by kernel_rfl):AW Tryz.prog Γ (.region id ops.toArray true) Q fr σ:=
 zl hTt hMix m ob ms hms hlen hds hrd h
theorem drM {Γ:Cx} {fr:Fr} {σ:Sg} {Q:Exit→Fr→Sg→Prop} (m:Nat) (ls:List Nat) (ob:Bool) (ms:List Nat) {id:Nat} {ops:List Oper} {om:Oper}
  (h:vcDr Tryz.prog Tt Γ.nt ops ob ms fr σ (fun fr' σ'=>zah Tryz.prog Tt Γ.nt ops (fun fr2 σ2=>LateGo om.dst fr2 (zcj (zcx ops ls) fr') fun v=>
   zfQ Tryz.prog Tt Γ.nt ops fr' σ2 (zah Tryz.prog Tt Γ.nt ops (Q .normal) (ops.drop (m+1)) (zbl om.dst v fr') σ2) ls) [om] (zcj (zcx ops ls) fr') σ') (ops.take m) [] 0 fr σ)
  (hms:zbe ms (m+1) ops 0=true:=by kernel_rfl) (hlen:Nat.ble (m+1) ops.length=true:=by exact rfl) (hds:zc2 (ops.take (m+1)) []=true:=by exact rfl) (hrd:zcn ops ms (ops.take m) (ops.take m) 0=true:=by kernel_rfl)
  (hom:ops[m]?=some om:=by exact rfl) (hmm:((List.range m).all fun b=>Nat.testBit (ms.getD m 0) b || ls.any (Nat.beq b))=true:=by kernel_rfl) (hls:zj8 ops ms m om.dst ls=true:=by kernel_rfl):AW Tryz.prog Γ (.region id ops.toArray true) Q fr σ:=
 zW hTt hMix m ls ob ms om hms hlen hds hrd hom hmm hls h
theorem hdC {f:FuncId} {fn:Func} {c:Code} {args:List AV} {r:AV} {res:List ResultVar} {nt:Nat} {fr:Fr} (hf:Tryz.prog.funcs[f]?=some fn) (hnt:fn.ntmps=nt)
  (h:∀ w0 K0,AW Tryz.prog (Cx.lone w0 K0 nt) c (Post Tt res r) fr []) (hb:fn.body=some c:=by exact rfl) (hname:(fn.name == "runtime.NumGoroutine")=false:=by kernel_rfl) (hres:fn.results=res.toArray:=by exact rfl) (hle:args.length≤nt:=by simp) (he:entry 0 args=fr:=by dsimp only [entry] <;> exact rfl):FnC Tryz.prog f args r:=
 zj hTt hf hb hname hres hnt hle fun w0 K0=>he ▸ h w0 K0
theorem hdD {f:FuncId} {fn:Func} {c:Code} {args:List AV} {σ:Sg} {R:AV→Sg→Prop} {res:List ResultVar} {nt:Nat} {fr:Fr} (hf:Tryz.prog.funcs[f]?=some fn) (hnt:fn.ntmps=nt)
  (h:∀ w0 K0 B,AW Tryz.prog ⟨w0,K0,nt,B,σ.map (·.1),none,[],[]⟩ c (zqs Tt res (σ.map (·.1)) R) fr σ) (hb:fn.body=some c:=by exact rfl) (hname:(fn.name == "runtime.NumGoroutine")=false:=by kernel_rfl) (hres:fn.results=res.toArray:=by exact rfl) (hle:args.length≤nt:=by simp) (he:entry 0 args=fr:=by dsimp only [entry] <;> exact rfl):ACall Tryz.prog f args σ R:=
 zp hTt hf hb hname hres hnt hle fun w0 K0 B=>he ▸ h w0 K0 B
theorem zsw {p:Prop} (h:p:=by first|rfl|exact ivE (by first|omega|(simp only [List.length_map,List.length_append,List.length_singleton] <;> omega))|exact oE (by first|omega|(simp only [List.length_map,List.length_append,List.length_singleton] <;> omega))):p:=h
theorem impX {Γ:Cx} {fr fr':Fr} {σ σ':Sg} (h:SubF fr fr'∧SubS σ σ') (hr:(rsFr σ' fr' && rsSg σ' σ')=true:=by kernel_rfl) (hB:zbC Γ.ids σ'=true:=by kernel_rfl) (hD:ziL Γ.dfs σ σ'=true:=by kernel_rfl):Imp Γ fr σ fr' σ':=Imp.forget h.1 h.2 hr hB hD
end Go.Proofs.YtidkoikjdghlmaaGreatDoor
namespace FoT
structure FNode where
 kind:Int
 var:Int
 num:Int
 places:Int
deriving DecidableEq
abbrev Bs8:=List UInt8
def zaM (c:UInt8):Bool:=(97≤c && c≤122) || (65≤c && c≤90) || (48≤c && c≤57) || c == 95 || c == 46
def zc7:Option (Nat × Bs8)→List (Nat × Bs8)
 | none=>[]
 | some p=>[p]
def tk:Nat→Option (Nat × Bs8)→Bs8→List (Nat × Bs8)
 | at_,st,[]=>zc7 st ++ [(at_,[])]
 | at_,st,c::r=>
  if zaM c then
   match st with
   | none=>tk (at_+1) (some (at_,[c])) r
   | some (a,w)=>tk (at_+1) (some (a,w ++ [c])) r
  else zc7 st ++ (if c=32 then [] else [(at_,[c])]) ++ tk (at_+1) none r
structure PS where
 toks:List (Nat × Bs8)
 vars:List Bs8
 code:List FNode
deriving DecidableEq
def zg2 (first:Bool) (c:UInt8):Bool:=(97≤c && c≤122) || (!first && ((48≤c && c≤57) || c == 95))
def z7:Bool→Bs8→Bool
 | _,[]=>true
 | f,c::r=>zg2 f c && z7 false r
def zbb (l:Bs8):Bool:=decide (1≤l.length) && decide (l.length≤20) && !(l.getLastD 0 == 95) && z7 true l
def digs:Nat→Bs8→Option Nat
 | acc,[]=>some acc
 | acc,c::r=>if 48≤c.toNat∧c.toNat≤57 then digs (10 * acc+(c.toNat - 48)) r else none
def zaW (t:Bs8):Option FNode:=
 match t with
 | a::b::ds=>
  if a=48∧b=46∧1≤ds.length∧ds.length≤6 then
   match digs 0 ds with
   | some n=>if ds.length=1∨n % 10≠0 then some ⟨2,0,n,ds.length⟩ else none
   | none=>none
  else none
 | _=>none
def idxB:List Bs8→Bs8→Nat→Option Nat
 | [],_,_=>none
 | v::r,t,i=>if v=t then some i else idxB r t (i+1)
def zen (vars:List Bs8) (t:Bs8):Option (FNode × List Bs8):=
 if zbb t then
  match idxB vars t 0 with
  | some i=>some (⟨1,i,0,0⟩,vars)
  | none=>some (⟨1,vars.length,0,0⟩,vars ++ [t])
 else match zaW t with
  | some n=>some (n,vars)
  | none=>none
def opN (k:Int):FNode:=⟨k,0,0,0⟩
abbrev Rs:=Option (Except Nat PS)
mutual
def opM:Nat→PS→Rs
 | 0,_=>none
 | k+1,st=>
  match st.toks with
  | []=>some (.error 0)
  | (a,t)::rest=>
   if t=[40] then
    match sumM k ⟨rest,st.vars,st.code⟩ with
    | none=>none
    | some (.error e)=>some (.error e)
    | some (.ok st')=>
     match st'.toks with
     | []=>some (.error 0)
     | (a',t')::rest'=>if t'=[41] then some (.ok ⟨rest',st'.vars,st'.code⟩) else some (.error a')
   else match zen st.vars t with
    | none=>some (.error a)
    | some (n,vs)=>some (.ok ⟨rest,vs,st.code ++ [n]⟩)
def zaY:Nat→PS→Rs
 | 0,_=>none
 | k+1,st=>
  match opM k st with
  | none=>none
  | some (.error e)=>some (.error e)
  | some (.ok st')=>zcb k st'
def zcb:Nat→PS→Rs
 | 0,_=>none
 | k+1,st=>
  match st.toks with
  | []=>some (.error 0)
  | (_,t)::rest=>
   if t=[42] then
    match opM k ⟨rest,st.vars,st.code⟩ with
    | none=>none
    | some (.error e)=>some (.error e)
    | some (.ok st')=>zcb k ⟨st'.toks,st'.vars,st'.code ++ [opN 5]⟩
   else some (.ok st)
def sumM:Nat→PS→Rs
 | 0,_=>none
 | k+1,st=>
  match zaY k st with
  | none=>none
  | some (.error e)=>some (.error e)
  | some (.ok st')=>sumT k st'
def sumT:Nat→PS→Rs
 | 0,_=>none
 | k+1,st=>
  match st.toks with
  | []=>some (.error 0)
  | (_,t)::rest=>
   if t=[43]∨t=[45] then
    match zaY k ⟨rest,st.vars,st.code⟩ with
    | none=>none
    | some (.error e)=>some (.error e)
    | some (.ok st')=>sumT k ⟨st'.toks,st'.vars,st'.code ++ [opN (if t=[45] then 4 else 3)]⟩
   else some (.ok st)
end
theorem mono:∀ k:Nat,(∀ st r,opM k st=some r→opM (k+1) st=some r)∧(∀ st r,zaY k st=some r→zaY (k+1) st=some r)∧(∀ st r,zcb k st=some r→zcb (k+1) st=some r) ∧
  (∀ st r,sumM k st=some r→sumM (k+1) st=some r)∧∀ st r,sumT k st=some r→sumT (k+1) st=some r:=by
 intro k;induction k with
 | zero=>exact⟨fun _ _ h=>by simp [opM] at h,fun _ _ h=>by simp [zaY] at h,fun _ _ h=>by simp [zcb] at h,fun _ _ h=>by simp [sumM] at h,fun _ _ h=>by simp [sumT] at h⟩
 | succ k ih=>
  obtain⟨h1,h2,h3,h4,h5⟩:=ih;refine⟨fun st r h=>?_,fun st r h=>?_,fun st r h=>?_,fun st r h=>?_,fun st r h=>?_⟩
  ·rw [opM] at h ⊢;cases ht:st.toks with
   | nil=>rw [ht] at h;exact h
   | cons p rest=>
    obtain⟨a,t⟩:=p;rw [ht] at h;dsimp only at h ⊢;by_cases hc:t=[40]
    ·rw [if_pos hc] at h ⊢;cases hs:sumM k ⟨rest,st.vars,st.code⟩ with
     | none=>rw [hs] at h;cases h
     | some x=>rw [h4 _ _ hs];rw [hs] at h;exact h
    ·rw [if_neg hc] at h ⊢;exact h
  ·rw [zaY] at h ⊢;cases hs:opM k st with
   | none=>rw [hs] at h;cases h
   | some x=>
    rw [h1 _ _ hs];rw [hs] at h;cases x with
    | error e=>exact h
    | ok st'=>exact h3 _ _ h
  ·rw [zcb] at h ⊢;cases ht:st.toks with
   | nil=>rw [ht] at h;exact h
   | cons p rest=>
    obtain⟨a,t⟩:=p;rw [ht] at h;dsimp only at h ⊢;by_cases hc:t=[42]
    ·rw [if_pos hc] at h ⊢;cases hs:opM k ⟨rest,st.vars,st.code⟩ with
     | none=>rw [hs] at h;cases h
     | some x=>
      rw [h1 _ _ hs];rw [hs] at h;cases x with
      | error e=>exact h
      | ok st'=>exact h3 _ _ h
    ·rw [if_neg hc] at h ⊢;exact h
  ·rw [sumM] at h ⊢;cases hs:zaY k st with
   | none=>rw [hs] at h;cases h
   | some x=>
    rw [h2 _ _ hs];rw [hs] at h;cases x with
    | error e=>exact h
    | ok st'=>exact h5 _ _ h
  ·rw [sumT] at h ⊢;cases ht:st.toks with
   | nil=>rw [ht] at h;exact h
   | cons p rest=>
    obtain⟨a,t⟩:=p;rw [ht] at h;dsimp only at h ⊢;by_cases hc:t=[43]∨t=[45]
    ·rw [if_pos hc] at h ⊢;cases hs:zaY k ⟨rest,st.vars,st.code⟩ with
     | none=>rw [hs] at h;cases h
     | some x=>
      rw [h2 _ _ hs];rw [hs] at h;cases x with
      | error e=>exact h
      | ok st'=>exact h5 _ _ h
    ·rw [if_neg hc] at h ⊢;exact h
theorem zlU {k k':Nat} (hk:k≤k') {st:PS} {r} (h:opM k st=some r):opM k' st=some r:=by
 induction hk with
 | refl=>exact h
 | step _ ih=>exact (mono _).1 _ _ ih
theorem zhs {k k':Nat} (hk:k≤k') {st:PS} {r} (h:zaY k st=some r):zaY k' st=some r:=by
 induction hk with
 | refl=>exact h
 | step _ ih=>exact (mono _).2.1 _ _ ih
theorem zfq {k k':Nat} (hk:k≤k') {st:PS} {r} (h:zcb k st=some r):zcb k' st=some r:=by
 induction hk with
 | refl=>exact h
 | step _ ih=>exact (mono _).2.2.1 _ _ ih
theorem zjb {k k':Nat} (hk:k≤k') {st:PS} {r} (h:sumM k st=some r):sumM k' st=some r:=by
 induction hk with
 | refl=>exact h
 | step _ ih=>exact (mono _).2.2.2.1 _ _ ih
theorem zfW {k k':Nat} (hk:k≤k') {st:PS} {r} (h:sumT k st=some r):sumT k' st=some r:=by
 induction hk with
 | refl=>exact h
 | step _ ih=>exact (mono _).2.2.2.2 _ _ ih
def okT (n:Nat) (r:Except Nat PS):Prop:=∀ st',r=.ok st'→st'.toks.length≤n
theorem zqB:∀ L:Nat,
  (∀ st,st.toks.length=L→∃ r,opM (4 * L+1) st=some r∧okT (L - 1) r)∧(∀ st,st.toks.length=L→∃ r,zcb (4 * L+1) st=some r∧okT L r) ∧
  (∀ st,st.toks.length=L→∃ r,zaY (4 * L+2) st=some r∧okT (L - 1) r)∧(∀ st,st.toks.length=L→∃ r,sumT (4 * L+1) st=some r∧okT L r) ∧
  (∀ st,st.toks.length=L→∃ r,sumM (4 * L+3) st=some r∧okT (L - 1) r):=by
 intro L;induction L using Nat.strongRecOn with
 | _ L ih=>
  have hop:∀ st,st.toks.length=L→∃ r,opM (4 * L+1) st=some r∧okT (L - 1) r:=by
   intro st hL;rw [opM];cases ht:st.toks with
   | nil=>exact⟨_,rfl,fun _ h=>by cases h⟩
   | cons p rest=>
    obtain⟨a,t⟩:=p;have hl:rest.length=L - 1:=by rw [← hL,ht];simp
    have hL1:1≤L:=by rw [← hL,ht];simp
    dsimp only;by_cases hc:t=[40]
    ·rw [if_pos hc];obtain⟨r,hr,hb⟩:=(ih (L - 1) (by omega)).2.2.2.2 ⟨rest,st.vars,st.code⟩ hl;rw [zjb (k':=4 * L) (by omega) hr];cases r with
     | error e=>exact⟨_,rfl,fun _ h=>by cases h⟩
     | ok st'=>
      have hb:=hb _ rfl;dsimp only;cases ht':st'.toks with
      | nil=>exact⟨_,rfl,fun _ h=>by cases h⟩
      | cons q rest'=>
       obtain⟨a',t'⟩:=q;rw [ht'] at hb;simp only [List.length_cons] at hb;dsimp only;by_cases hc':t'=[41]
       ·rw [if_pos hc'];refine⟨_,rfl,fun st2 h=>?_⟩
        cases h;show rest'.length≤L - 1
        omega
       ·rw [if_neg hc'];exact⟨_,rfl,fun _ h=>by cases h⟩
    ·rw [if_neg hc];cases zen st.vars t with
     | none=>exact⟨_,rfl,fun _ h=>by cases h⟩
     | some p=>
      refine⟨_,rfl,fun st2 h=>?_⟩
      cases h;show rest.length≤L - 1
      omega
  have hpt:∀ st,st.toks.length=L→∃ r,zcb (4 * L+1) st=some r∧okT L r:=by
   intro st hL;rw [zcb];cases ht:st.toks with
   | nil=>exact⟨_,rfl,fun _ h=>by cases h⟩
   | cons p rest=>
    obtain⟨a,t⟩:=p;have hl:rest.length=L - 1:=by rw [← hL,ht];simp
    have hL1:1≤L:=by rw [← hL,ht];simp
    dsimp only;by_cases hc:t=[42]
    ·rw [if_pos hc];obtain⟨r,hr,hb⟩:=(ih (L - 1) (by omega)).1 ⟨rest,st.vars,st.code⟩ hl;rw [zlU (k':=4 * L) (by omega) hr];cases r with
     | error e=>exact⟨_,rfl,fun _ h=>by cases h⟩
     | ok st'=>
      have hb:=hb _ rfl;dsimp only;obtain⟨r2,hr2,hb2⟩:=(ih st'.toks.length (by omega)).2.1 ⟨st'.toks,st'.vars,st'.code ++ [opN 5]⟩ rfl;exact⟨r2,zfq (by omega) hr2,fun st2 h=>by have:=hb2 st2 h;omega⟩
    ·rw [if_neg hc];refine⟨_,rfl,fun st2 h=>?_⟩
     cases h;omega
  have hpm:∀ st,st.toks.length=L→∃ r,zaY (4 * L+2) st=some r∧okT (L - 1) r:=by
   intro st hL;rw [zaY];obtain⟨r,hr,hb⟩:=hop st hL;rw [hr];cases r with
   | error e=>exact⟨_,rfl,fun _ h=>by cases h⟩
   | ok st'=>
    have hb:=hb _ rfl;dsimp only;by_cases h0:L=0
    ·have:st'.toks.length=L:=by omega
     obtain⟨r2,hr2,hb2⟩:=hpt st' this;exact⟨r2,hr2,fun st2 h=>by have:=hb2 st2 h;omega⟩
    ·obtain⟨r2,hr2,hb2⟩:=(ih st'.toks.length (by omega)).2.1 st' rfl;exact⟨r2,zfq (by omega) hr2,fun st2 h=>by have:=hb2 st2 h;omega⟩
  have hst:∀ st,st.toks.length=L→∃ r,sumT (4 * L+1) st=some r∧okT L r:=by
   intro st hL;rw [sumT];cases ht:st.toks with
   | nil=>exact⟨_,rfl,fun _ h=>by cases h⟩
   | cons p rest=>
    obtain⟨a,t⟩:=p;have hl:rest.length=L - 1:=by rw [← hL,ht];simp
    have hL1:1≤L:=by rw [← hL,ht];simp
    dsimp only;by_cases hc:t=[43]∨t=[45]
    ·rw [if_pos hc];obtain⟨r,hr,hb⟩:=(ih (L - 1) (by omega)).2.2.1 ⟨rest,st.vars,st.code⟩ hl;rw [zhs (k':=4 * L) (by omega) hr];cases r with
     | error e=>exact⟨_,rfl,fun _ h=>by cases h⟩
     | ok st'=>
      have hb:=hb _ rfl;dsimp only;obtain⟨r2,hr2,hb2⟩:=(ih st'.toks.length (by omega)).2.2.2.1 ⟨st'.toks,st'.vars,st'.code ++ [opN (if t=[45] then 4 else 3)]⟩ rfl;exact⟨r2,zfW (by omega) hr2,fun st2 h=>by have:=hb2 st2 h;omega⟩
    ·rw [if_neg hc];refine⟨_,rfl,fun st2 h=>?_⟩
     cases h;omega
  refine⟨hop,hpt,hpm,hst,fun st hL=>?_⟩
  rw [sumM];obtain⟨r,hr,hb⟩:=hpm st hL;rw [hr];cases r with
  | error e=>exact⟨_,rfl,fun _ h=>by cases h⟩
  | ok st'=>
   have hb:=hb _ rfl;dsimp only;by_cases h0:L=0
   ·have:st'.toks.length=L:=by omega
    obtain⟨r2,hr2,hb2⟩:=hst st' this;exact⟨r2,zfW (by omega) hr2,fun st2 h=>by have:=hb2 st2 h;omega⟩
   ·obtain⟨r2,hr2,hb2⟩:=(ih st'.toks.length (by omega)).2.2.2.1 st' rfl;exact⟨r2,zfW (by omega) hr2,fun st2 h=>by have:=hb2 st2 h;omega⟩
end FoT
namespace FoT
inductive E where
 | leaf (n:FNode)
 | op (k:Int) (a b:E)
def E.post:E→List FNode
 | .leaf n=>[n]
 | .op k a b=>a.post ++ (b.post ++ [opN k])
def E.binds:E→Nat
 | .leaf _=>3
 | .op k _ _=>if k=5 then 2 else 1
def zca (k:Int):Bs8:=if k=5 then [42] else if k=4 then [45] else [43]
def E.words (tx:FNode→Bs8):E→Nat→List Bs8
 | .leaf n,_=>[tx n]
 | .op k a b,w=>
  let m:=if k=5 then 2 else 1
  let t:=a.words tx m ++ (zca k::b.words tx (m+1))
  if w≤m then t else [40]::(t ++ [[41]])
abbrev wds (l:List (Nat × Bs8)):List Bs8:=l.map (·.2)
def E.good (V:List Bs8) (tx:FNode→Bs8):E→Nat→Nat→Prop
 | .leaf n,u,u'=>u'≤V.length∧tx n≠[40]∧zen (V.take u) (tx n)=some (n,V.take u')
 | .op k a b,u,u'=>(k=3∨k=4∨k=5)∧∃ m,a.good V tx u m∧b.good V tx m u'
section
variable {V:List Bs8} {tx:FNode→Bs8}
def Beg (ws:List Bs8) (toks rest:List (Nat × Bs8)):Prop:=∃ pre,toks=pre ++ rest∧wds pre=ws
theorem Beg.app {w1 w2:List Bs8} {toks rest:List (Nat × Bs8)} (h:Beg (w1 ++ w2) toks rest):∃ mid,Beg w1 toks mid∧Beg w2 mid rest:=by
 obtain⟨pre,rfl,hp⟩:=h;have h1:(pre.take w1.length).map (·.2)=w1:=by
  have:=congrArg (List.take w1.length) hp;simpa [List.map_take] using this
 have h2:(pre.drop w1.length).map (·.2)=w2:=by
  have:=congrArg (List.drop w1.length) hp;simpa [List.map_drop] using this
 exact⟨pre.drop w1.length ++ rest,⟨pre.take w1.length,by rw [← List.append_assoc,List.take_append_drop],h1⟩,⟨_,rfl,h2⟩⟩
theorem Beg.cons {w:Bs8} {ws:List Bs8} {toks rest:List (Nat × Bs8)} (h:Beg (w::ws) toks rest):∃ a mid,toks=(a,w)::mid∧Beg ws mid rest:=by
 obtain⟨pre,rfl,hp⟩:=h;cases pre with
 | nil=>cases hp
 | cons p r=>
  obtain⟨a,t⟩:=p;simp only [wds,List.map_cons,List.cons.injEq] at hp;obtain⟨rfl,hp⟩:=hp;exact⟨a,r ++ rest,rfl,r,rfl,hp⟩
theorem Beg.nil {toks rest:List (Nat × Bs8)} (h:Beg [] toks rest):toks=rest:=by
 obtain⟨pre,rfl,hp⟩:=h;cases pre with
 | nil=>rfl
 | cons _ _=>cases hp
def Not1 (ws:List Bs8) (toks:List (Nat × Bs8)):Prop:=∃ a t r,toks=(a,t)::r∧t ∉ ws
abbrev mulW:List Bs8:=[[42]]
abbrev sumW:List Bs8:=[[43],[45]]
def OpP (V:List Bs8) (tx:FNode→Bs8) (e:E) (u u':Nat):Prop:=∀ toks R code,Beg (e.words tx 3) toks R→∃ k,opM k ⟨toks,V.take u,code⟩=some (.ok ⟨R,V.take u',code ++ e.post⟩)
def zoI (V:List Bs8) (tx:FNode→Bs8) (e:E) (u u':Nat):Prop:=∀ toks R code r k',Beg (e.words tx 2) toks R→zcb k' ⟨R,V.take u',code ++ e.post⟩=some r→∃ k,zaY k ⟨toks,V.take u,code⟩=some r
def SumP (V:List Bs8) (tx:FNode→Bs8) (e:E) (u u':Nat):Prop:=∀ toks R code r k',Beg (e.words tx 1) toks R→Not1 mulW R→sumT k' ⟨R,V.take u',code ++ e.post⟩=some r→∃ k,sumM k ⟨toks,V.take u,code⟩=some r
theorem zgQ {st:PS} (h:Not1 mulW st.toks):zcb 1 st=some (.ok st):=by
 obtain⟨a,t,r,ht,hn⟩:=h;rw [zcb,ht];dsimp only;rw [if_neg (fun e=>hn (by simp [e]))]
theorem zhV {st:PS} (h:Not1 sumW st.toks):sumT 1 st=some (.ok st):=by
 obtain⟨a,t,r,ht,hn⟩:=h;rw [sumT,ht];dsimp only;rw [if_neg (fun e=>hn (by rcases e with e|e <;> simp [e]))]
theorem zgO {e:E} {u u':Nat} (h3:e.words tx 2=e.words tx 3) (h:OpP V tx e u u'):zoI V tx e u u':=by
 intro toks R code r k' hb hr;obtain⟨k,hk⟩:=h toks R code (h3 ▸ hb);refine⟨max k k'+1,?_⟩
 rw [zaY,zlU (Nat.le_max_left _ _) hk];exact zfq (Nat.le_max_right _ _) hr
theorem zfV {e:E} {u u':Nat} (h2:e.words tx 1=e.words tx 2) (h:zoI V tx e u u'):SumP V tx e u u':=by
 intro toks R code r k' hb hn hr;obtain⟨k,hk⟩:=h toks R code _ 1 (h2 ▸ hb) (zgQ (st:=⟨R,V.take u',code ++ e.post⟩) hn);refine⟨max k k'+1,?_⟩
 rw [sumM,zhs (Nat.le_max_left _ _) hk];exact zfW (Nat.le_max_right _ _) hr
theorem zif {e:E} {u u':Nat} (h3:e.words tx 3=[40]::(e.words tx 1 ++ [[41]])) (h:SumP V tx e u u'):OpP V tx e u u':=by
 intro toks R code hb;rw [h3] at hb;obtain⟨a,m1,rfl,hb0⟩:=hb.cons;obtain⟨m2,hb1,hb2⟩:=hb0.app;obtain⟨a2,m3,rfl,hb3⟩:=hb2.cons;obtain rfl:=hb3.nil;have hn1:Not1 mulW ((a2,[41])::m3):=⟨a2,[41],m3,rfl,by decide⟩;have hn2:Not1 sumW ((a2,[41])::m3):=⟨a2,[41],m3,rfl,by decide⟩;obtain⟨k,hk⟩:=h m1 _ code _ 1 hb1 hn1 (zhV (st:=⟨(a2,[41])::m3,V.take u',code ++ e.post⟩) hn2);refine⟨k+1,?_⟩
 rw [opM];dsimp only;rw [if_pos rfl,hk];dsimp only;rw [if_pos rfl]
theorem zfL {k:Int} (h:k≠5) (a b:E) (w:Nat):(E.op k a b).words tx w=if w≤1 then a.words tx 1 ++ (zca k::b.words tx 2) else [40]::((a.words tx 1 ++ (zca k::b.words tx 2)) ++ [[41]]):=by
 rw [E.words];simp only [if_neg h]
theorem zf8:∀ (e:E) (u u':Nat),e.good V tx u u'→OpP V tx e u u'∧zoI V tx e u u'∧SumP V tx e u u'
 | .leaf n,u,u',h=>by
  have ho:OpP V tx (.leaf n) u u':=by
   intro toks R code hb;obtain⟨a,m,rfl,hb0⟩:=Beg.cons hb;obtain rfl:=hb0.nil;refine⟨1,?_⟩
   rw [opM];dsimp only;rw [if_neg h.2.1,h.2.2];rfl
  have hp:=zgO rfl ho;exact⟨ho,hp,zfV rfl hp⟩
 | .op k a b,u,u',h=>by
  obtain⟨hk,m,ha,hb⟩:=h;obtain⟨oa,pa,sa⟩:=zf8 a u m ha;obtain⟨ob,pb,sb⟩:=zf8 b m u' hb;by_cases h5:k=5
  ·subst h5;have hp:zoI V tx (.op 5 a b) u u':=by
    intro toks R code r k' hB hr;have hw:(E.op 5 a b).words tx 2=a.words tx 2 ++ ([42]::b.words tx 3):=rfl;rw [hw] at hB;obtain⟨m1,hB1,hB2⟩:=hB.app;obtain⟨p,m2,rfl,hB3⟩:=hB2.cons;obtain⟨k1,hk1⟩:=ob m2 R (code ++ a.post) hB3;refine pa toks _ code r (max k1 k'+1) hB1 ?_
    rw [zcb];dsimp only;rw [if_pos rfl,zlU (Nat.le_max_left _ _) hk1];dsimp only;refine zfq (Nat.le_max_right _ _) ?_
    rw [← hr];simp [E.post]
   have hs:=zfV rfl hp;exact⟨zif rfl hs,hp,hs⟩
  ·have hs:SumP V tx (.op k a b) u u':=by
    intro toks R code r k' hB hn hr;have hw:(E.op k a b).words tx 1=a.words tx 1 ++ (zca k::b.words tx 2):=by
     rw [zfL h5,if_pos (Nat.le_refl _)]
    rw [hw] at hB;obtain⟨m1,hB1,hB2⟩:=hB.app;obtain⟨p,m2,rfl,hB3⟩:=hB2.cons;obtain⟨k1,hk1⟩:=pb m2 R (code ++ a.post) _ 1 hB3 (zgQ (st:=⟨R,V.take u',(code ++ a.post) ++ b.post⟩) hn);have hsg:zca k=[43]∨zca k=[45]:=by unfold zca;rw [if_neg h5];split <;> simp
    refine sa toks _ code r (max k1 k'+1) hB1 ⟨p,_,m2,rfl,by rcases hsg with e|e <;> rw [e] <;> decide⟩ ?_
    rw [sumT];dsimp only;rw [if_pos hsg,zhs (Nat.le_max_left _ _) hk1];dsimp only;refine zfW (Nat.le_max_right _ _) ?_
    have hkk:(if zca k=[45] then (4:Int) else 3)=k:=by
     rcases hk with rfl|rfl|rfl
     ·decide
     ·decide
     ·exact absurd rfl h5
    rw [hkk,← hr];simp [E.post]
   have h3:∀ w,1 < w→(E.op k a b).words tx w=[40]::((E.op k a b).words tx 1 ++ [[41]]):=by
    intro w hw;rw [zfL h5,zfL h5,if_neg (by omega),if_pos (Nat.le_refl _)]
   have ho:=zif (h3 3 (by omega)) hs;exact⟨ho,zgO ((h3 2 (by omega)).trans (h3 3 (by omega)).symm) ho,hs⟩
end
end FoT
namespace FoT
def rowW (w:Bs8):Prop:=w≠[]∧∀ c ∈ w,zaM c=true
def znE (w:Bs8):Prop:=∃ c,w=[c]∧zaM c=false∧c≠32
def zhY:List Bs8→Prop
 | []=>True
 | w::r=>(rowW w∧(match r with|[]=>True|x::_=>znE x)∨znE w)∧zhY r
theorem zlg:∀ (w:Bs8) (at_ a:Nat) (v r:Bs8),(∀ c ∈ w,zaM c=true)→tk at_ (some (a,v)) (w ++ r)=tk (at_+w.length) (some (a,v ++ w)) r
 | [],at_,a,v,r,_=>by simp
 | c::w,at_,a,v,r,h=>by
  rw [List.cons_append,tk,if_pos (h c (by simp))];show tk (at_+1) (some (a,v ++ [c])) (w ++ r)=_
  rw [zlg w (at_+1) a (v ++ [c]) r (fun x hx=>h x (by simp [hx]))];simp [Nat.add_assoc,Nat.add_comm 1]
theorem zhS (at_:Nat) (p:Nat × Bs8):tk at_ (some p) []=p::tk at_ none []:=rfl
theorem zd5 (at_:Nat) (p:Nat × Bs8) {c:UInt8} (h:zaM c=false) (r:Bs8):tk at_ (some p) (c::r)=p::tk at_ none (c::r):=by
 have e:∀ st,tk at_ st (c::r)=zc7 st ++ (if c=32 then [] else [(at_,[c])]) ++ tk (at_+1) none r:=fun st=>by
  cases st <;> simp [tk,h]
 rw [e,e];rfl
theorem zhd:∀ (ws:List Bs8) (at_:Nat),zhY ws→∃ pre N,tk at_ none ws.flatten=pre ++ [(N,[])]∧wds pre=ws
 | [],at_,_=>⟨[],at_,rfl,rfl⟩
 | w::r,at_,h=>by
  obtain⟨hw,hr⟩:=h;rcases hw with ⟨⟨hne,hrow⟩,hnx⟩|⟨c,rfl,hc,h32⟩
  ·cases w with
   | nil=>exact absurd rfl hne
   | cons c w=>
    have e1:tk at_ none ((c::w) ++ r.flatten)=tk (at_+1+w.length) (some (at_,c::w)) r.flatten:=by
     rw [List.cons_append,tk,if_pos (hrow c (by simp))];show tk (at_+1) (some (at_,[c])) (w ++ r.flatten)=_
     rw [zlg w _ _ _ _ (fun x hx=>hrow x (by simp [hx]))];rfl
    rw [List.flatten_cons,e1];cases r with
    | nil=>exact⟨[(at_,c::w)],_,rfl,rfl⟩
    | cons x r=>
     obtain⟨d,rfl,hd,hd32⟩:=hnx;obtain⟨pre,N,h1,h2⟩:=zhd ([d]::r) (at_+1+w.length) hr;have e2:([d]::r).flatten=d::r.flatten:=rfl;rw [e2] at h1 ⊢;rw [zd5 _ _ hd,h1];exact⟨(at_,c::w)::pre,N,rfl,by simp [wds] at h2 ⊢;exact h2⟩
  ·have e2:([c]::r).flatten=c::r.flatten:=rfl;rw [e2,tk,if_neg (by rw [hc];exact Bool.noConfusion),if_neg h32];obtain⟨pre,N,h1,h2⟩:=zhd r (at_+1) hr;rw [h1];exact⟨(at_,[c])::pre,N,rfl,by simp [wds] at h2 ⊢;exact h2⟩
theorem zjd {s:Bs8} (hs:znE s) {y:List Bs8} (hy:zhY y):∀ {x:List Bs8},zhY x→zhY (x ++ s::y)
 | [],_=>⟨.inr hs,hy⟩
 | w::r,h=>by
  refine⟨?_,zjd hs hy h.2⟩
  rcases h.1 with ⟨hw,hn⟩|hp
  ·refine .inl ⟨hw,?_⟩
   cases r with
   | nil=>exact hs
   | cons a b=>exact hn
  ·exact .inr hp
theorem zlJ (k:Int):znE (zca k):=by
 unfold zca;split
 ·exact⟨42,rfl,by decide,by decide⟩
 ·split
  ·exact⟨45,rfl,by decide,by decide⟩
  ·exact⟨43,rfl,by decide,by decide⟩
def E.rows (tx:FNode→Bs8):E→Prop
 | .leaf n=>rowW (tx n)
 | .op _ a b=>a.rows tx∧b.rows tx
theorem zf0 {tx:FNode→Bs8}:∀ (e:E) (w:Nat),e.rows tx→zhY (e.words tx w)
 | .leaf n,w,h=>⟨.inl ⟨h,trivial⟩,trivial⟩
 | .op k a b,w,h=>by
  have key:∀ m,zhY (a.words tx m ++ (zca k::b.words tx (m+1))):=fun m=>zjd (zlJ k) (zf0 b _ h.2) (zf0 a _ h.1)
  have all:∀ m,zhY (if w≤m then a.words tx m ++ (zca k::b.words tx (m+1)) else [40]::((a.words tx m ++ (zca k::b.words tx (m+1))) ++ [[41]])):=fun m=>by
   split
   ·exact key _
   ·exact⟨.inr ⟨40,rfl,by decide,by decide⟩,zjd (y:=[]) ⟨41,rfl,by decide,by decide⟩ trivial (key _)⟩
  rw [E.words];exact all _
def E.text (tx:FNode→Bs8) (e:E):Bs8:=(e.words tx 1).flatten
theorem znk {V:List Bs8} {tx:FNode→Bs8} {e:E} {u':Nat} (hg:e.good V tx 0 u') (hr:e.rows tx):∃ k N,sumM k ⟨tk 0 none (e.text tx),[],[]⟩=some (.ok ⟨[(N,[])],V.take u',e.post⟩):=by
 obtain⟨pre,N,h1,h2⟩:=zhd _ 0 (zf0 e 1 hr);have hs:=(zf8 e 0 u' hg).2.2;obtain⟨k,hk⟩:=hs (pre ++ [(N,[])]) [(N,[])] [] _ 1 ⟨pre,rfl,h2⟩ ⟨N,[],[],rfl,by decide⟩ (zhV (st:=⟨[(N,[])],V.take u',[] ++ e.post⟩) ⟨N,[],[],rfl,by decide⟩);refine⟨k,N,?_⟩
 unfold E.text;rw [h1];exact hk
structure FormT where
 vars:List Bs8
 code:List FNode
deriving DecidableEq
def fine (nv:Nat) (n:FNode):Prop:=
 if n.kind=1 then 0≤n.var∧n.var≤(nv:Int) - 1∧n.num=0∧n.places=0
 else if n.kind=2 then n.var=0∧1≤n.places∧n.places≤6∧0≤n.num∧n.num≤10 ^ n.places.toNat - 1∧(n.places=1∨n.num % 10≠0)
 else n.var=0∧n.num=0∧n.places=0
instance (nv:Nat) (n:FNode):Decidable (fine nv n):=by unfold fine;infer_instance
def zbA (nv:Nat) (n:FNode):Int:=if 1≤n.kind∧n.kind≤5 then (if fine nv n then 0 else 7) else 2
structure CS where
 p:Nat
 u:Nat
 b:Bool
deriving DecidableEq
def zbx (nv:Nat) (n:FNode) (s:CS):Except Int CS:=
 if zbA nv n≠0 then .error (zbA nv n)
 else if 3≤n.kind∧s.p < 2 then .error 6
 else
  let p:=(if 3≤n.kind then s.p - 2 else s.p)+1
  if 12 < p then .error 3
  else .ok ⟨p,if n.kind=1∧n.var=s.u then s.u+1 else s.u,s.b && !(decide (n.kind=1) && decide ((s.u:Int) < n.var))⟩
theorem zd7 {nv:Nat} {n:FNode} {s s':CS} (h:zbx nv n s=.ok s'):zbA nv n=0∧¬ (3≤n.kind∧s.p < 2)∧(if 3≤n.kind then s.p - 2 else s.p)+1≤12 ∧
  s'=⟨(if 3≤n.kind then s.p - 2 else s.p)+1,if n.kind=1∧n.var=s.u then s.u+1 else s.u,s.b && !(decide (n.kind=1) && decide ((s.u:Int) < n.var))⟩:=by
 unfold zbx at h;by_cases h1:zbA nv n≠0
 ·rw [if_pos h1] at h;cases h
 rw [if_neg h1] at h;by_cases h2:3≤n.kind∧s.p < 2
 ·rw [if_pos h2] at h;cases h
 rw [if_neg h2] at h;dsimp only at h;generalize (if 3≤n.kind then s.p - 2 else s.p)+1=p at h ⊢;by_cases h3:12 < p
 ·rw [if_pos h3] at h;cases h
 rw [if_neg h3] at h;cases h;exact⟨by simpa using h1,h2,by omega,rfl⟩
theorem zfX {nv:Nat} {n:FNode} {s:CS} {e:Int} (h:zbx nv n s=.error e):e≠0:=by
 unfold zbx at h;by_cases h1:zbA nv n≠0
 ·rw [if_pos h1] at h;cases h;exact h1
 rw [if_neg h1] at h;by_cases h2:3≤n.kind∧s.p < 2
 ·rw [if_pos h2] at h;cases h;decide
 rw [if_neg h2] at h;dsimp only at h;generalize (if 3≤n.kind then s.p - 2 else s.p)+1=p at h;by_cases h3:12 < p
 ·rw [if_pos h3] at h;cases h;decide
 ·rw [if_neg h3] at h;cases h
theorem zfu {nv:Nat} {n:FNode} (h:zbA nv n=0):1≤n.kind∧n.kind≤5∧fine nv n:=by
 unfold zbA at h;by_cases h1:1≤n.kind∧n.kind≤5
 ·rw [if_pos h1] at h;by_cases h2:fine nv n
  ·exact⟨h1.1,h1.2,h2⟩
  ·rw [if_neg h2] at h;cases h
 ·rw [if_neg h1] at h;cases h
def zav (nv:Nat):List FNode→CS→Except Int CS
 | [],s=>.ok s
 | n::r,s=>match zbx nv n s with
  | .error e=>.error e
  | .ok s'=>zav nv r s'
def zaw:List Bs8→List Bs8→Option Int
 | _,[]=>none
 | seen,s::r=>if zbb s=false then some 6 else if s ∈ seen then some 5 else zaw (seen ++ [s]) r
def zD (f:FormT):Int:=
 if 8 < f.vars.length∨¬ (1≤f.code.length∧f.code.length≤40) then 3
 else match zaw [] f.vars with
  | some e=>e
  | none=>match zav f.vars.length f.code ⟨0,0,true⟩ with
   | .error e=>e
   | .ok s=>if s.p≠1 then 6 else if s.b=false∨s.u < f.vars.length then 2 else 0
def chain (V:List Bs8) (tx:FNode→Bs8):List E→Nat→Nat→Prop
 | [],u,u'=>u=u'
 | e::r,u,u'=>∃ m,e.good V tx u m∧chain V tx r m u'
theorem zeB {V:List Bs8} {tx:FNode→Bs8}:∀ {x y:List E} {u u':Nat},chain V tx (x ++ y) u u'↔∃ m,chain V tx x u m∧chain V tx y m u'
 | [],y,u,u'=>by simp [chain]
 | e::r,y,u,u'=>by
  simp only [List.cons_append,chain,zeB (x:=r)];constructor
  ·rintro⟨m,h1,n,h2,h3⟩;exact⟨n,⟨m,h1,h2⟩,h3⟩
  ·rintro⟨n,⟨m,h1,h2⟩,h3⟩;exact⟨m,h1,n,h2,h3⟩
abbrev zlL (l:List E):List FNode:=(l.map E.post).flatten
structure TxOK (V:List Bs8) (tx:FNode→Bs8):Prop where
 var:∀ i:Nat,∀ h:i < V.length,tx ⟨1,i,0,0⟩=V[i]
 const:∀ n:FNode,n.kind=2→fine V.length n→zbb (tx n)=false∧zaW (tx n)=some n
theorem zeK:∀ {r seen:List Bs8},zaw seen r=none→(∀ s ∈ r,zbb s=true)∧(∀ i (h:i < r.length),r[i] ∉ seen∧∀ j (hj:j < i),r[j]≠r[i])
 | [],seen,_=>⟨fun s h=>by simp at h,fun i h=>by simp at h⟩
 | s::r,seen,h=>by
  rw [zaw] at h;split at h
  ·cases h
  ·rename_i hn;split at h
   ·cases h
   ·rename_i hs;obtain⟨h1,h2⟩:=zeK h;refine⟨fun x hx=>?_,fun i hi=>?_⟩
    ·rcases List.mem_cons.1 hx with rfl|hx
     ·simpa using hn
     ·exact h1 x hx
    ·cases i with
     | zero=>exact⟨hs,fun j hj=>absurd hj (Nat.not_lt_zero j)⟩
     | succ i=>
      have hi':i < r.length:=by simpa using hi
      obtain⟨g1,g2⟩:=h2 i hi';simp only [List.getElem_cons_succ];rw [List.mem_append,not_or] at g1;refine⟨g1.1,fun j hj=>?_⟩
      cases j with
      | zero=>exact fun e=>g1.2 (by simp at e ⊢;exact e.symm)
      | succ j=>exact g2 j (by omega)
theorem ziu {t:Bs8}:∀ (l:List Bs8) (j i:Nat),(hi:i < l.length)→l[i]=t→(∀ k (h:k < i),l[k]≠t)→idxB l t j=some (j+i)
 | [],j,i,hi,_,_=>by simp at hi
 | v::r,j,i,hi,ht,hn=>by
  rw [idxB];cases i with
  | zero=>rw [if_pos (by simpa using ht)];rfl
  | succ i=>
   rw [if_neg (by have:=hn 0 (by omega);simpa using this),ziu r (j+1) i (by simpa using hi) (by simpa using ht) (fun k hk=>by have:=hn (k+1) (by omega);simpa using this)];rw [Nat.add_right_comm,Nat.add_assoc]
theorem ziv {t:Bs8}:∀ (l:List Bs8) (j:Nat),t ∉ l→idxB l t j=none
 | [],_,_=>rfl
 | v::r,j,h=>by
  rw [idxB,if_neg (fun e=>h (by simp [e])),ziv r _ (fun e=>h (by simp [e]))]
theorem zl2 {t:Bs8} (h:zbb t=true):t≠[40]:=by
 rintro rfl;revert h;decide
theorem zos {t:Bs8} {n:FNode} (h:zaW t=some n):t≠[40]:=by
 rintro rfl;cases h
theorem zma {V:List Bs8} {tx:FNode→Bs8} (hV:zaw [] V=none) (ht:TxOK V tx) {n:FNode} {s s':CS} (hk:¬ 3≤n.kind) (h:zbx V.length n s=.ok s') (hb:s'.b=true) (hu:s.u≤V.length) :
  (E.leaf n).good V tx s.u s'.u∧s.b=true∧s'.u≤V.length∧s'.p=s.p+1:=by
 obtain⟨hn0,_,_,rfl⟩:=zd7 h;simp only [Bool.and_eq_true,Bool.not_eq_true',Bool.and_eq_false_iff,decide_eq_false_iff_not] at hb;dsimp only at hb ⊢;rw [if_neg hk];obtain⟨hk1,hk5,hf⟩:=zfu hn0;obtain⟨hnm,hds⟩:=zeK hV;by_cases h1:n.kind=1
 ·have hf1:=hf;unfold fine at hf1;rw [if_pos h1] at hf1;obtain⟨kind,var,num,places⟩:=n;dsimp only at h1 hf1 hb ⊢;subst h1;obtain⟨h0,hlt,rfl,rfl⟩:=hf1;obtain⟨i,rfl⟩:∃ i:Nat,var=i:=⟨var.toNat,by omega⟩;have hi:i < V.length:=by omega
  have hle:i≤s.u:=by
   rcases hb.2 with e|e
   ·exact absurd rfl e
   ·omega
  have hname:=hnm V[i] (List.getElem_mem hi);have htx:=ht.var i hi;by_cases hiu:i=s.u
  ·subst hiu;rw [if_pos ⟨rfl,rfl⟩];refine⟨⟨by omega,by rw [htx];exact zl2 hname,?_⟩,hb.1,by omega,rfl⟩
   unfold zen;rw [htx,if_pos hname,ziv]
   ·simp only [List.length_take,Nat.min_eq_left hu];rw [List.take_add_one,List.getElem?_eq_getElem hi];rfl
   ·intro hm;obtain⟨j,hj,e⟩:=List.getElem_of_mem hm;rw [List.length_take] at hj;rw [List.getElem_take] at e;exact (hds s.u hi).2 j (by omega) e
  ·rw [if_neg (fun e=>hiu (by have:=e.2;omega))];refine⟨⟨by omega,by rw [htx];exact zl2 hname,?_⟩,hb.1,by omega,rfl⟩
   unfold zen;rw [htx,if_pos hname,ziu (V.take s.u) 0 i (by rw [List.length_take];omega) (by rw [List.getElem_take]) (fun k hk=>by rw [List.getElem_take];exact (hds i hi).2 k hk)];simp
 ·have h2:n.kind=2:=by omega
  rw [if_neg (fun e=>h1 e.1)];obtain⟨c1,c2⟩:=ht.const n h2 hf;refine⟨⟨by omega,zos c2,?_⟩,hb.1,hu,rfl⟩
  unfold zen;rw [c1,c2];rfl
theorem zfU {V:List Bs8} {tx:FNode→Bs8} (hV:zaw [] V=none) (ht:TxOK V tx):∀ (code:List FNode) (st:List E) (s s':CS),s.p=st.length→s.u≤V.length→chain V tx st 0 s.u→zav V.length code s=.ok s'→s'.b=true →
  ∃ st',s'.p=st'.length∧chain V tx st' 0 s'.u∧zlL st'=zlL st ++ code∧s'.u≤V.length
 | [],st,s,s',hp,hu,hc,h,_=>by
  cases h;exact⟨st,hp,hc,by simp,hu⟩
 | n::r,st,s,s',hp,hu,hc,h,hb=>by
  rw [zav] at h;cases hs:zbx V.length n s with
  | error e=>rw [hs] at h;cases h
  | ok s1=>
   rw [hs] at h;dsimp only at h;have hb1:s1.b=true:=by
    have key:∀ (l:List FNode) (x y:CS),zav V.length l x=.ok y→y.b=true→x.b=true:=by
     intro l;induction l with
     | nil=>intro x y hx hy;cases hx;exact hy
     | cons m l ih=>
      intro x y hx hy;rw [zav] at hx;cases hz:zbx V.length m x with
      | error e=>rw [hz] at hx;cases hx
      | ok z=>
       rw [hz] at hx;have hzb:=ih z y hx hy;obtain⟨_,_,_,rfl⟩:=zd7 hz;simp only [Bool.and_eq_true] at hzb;exact hzb.1
    exact key r s1 s' h hb
   by_cases hk:3≤n.kind
   ·obtain⟨hn0,hp2,_,rfl⟩:=zd7 hs;rw [if_pos hk] at h;obtain⟨hk1,hk5,hf⟩:=zfu hn0;unfold fine at hf;rw [if_neg (by omega),if_neg (by omega)] at hf;obtain⟨kind,var,num,places⟩:=n;dsimp only at hk hk1 hk5 hf h hb1 hp2;obtain⟨rfl,rfl,rfl⟩:=hf;have hlen:2≤st.length:=by omega
    obtain⟨pre,a,b,rfl⟩:∃ pre a b,st=pre ++ [a,b]:=by
     refine⟨st.take (st.length - 2),st[st.length - 2],st[st.length - 1],?_⟩
     have e1:=List.take_append_drop (st.length - 2) st;have e2:st.drop (st.length - 2)=[st[st.length - 2],st[st.length - 1]]:=by
      rw [List.drop_eq_getElem_cons (by omega)];have:st.length - 2+1=st.length - 1:=by omega
      simp only [this];rw [List.drop_eq_getElem_cons (by omega),List.drop_eq_nil_of_le (by omega)]
     rw [e2] at e1;exact e1.symm
    have hu1:(if kind=1∧(0:Int)=s.u then s.u+1 else s.u)=s.u:=if_neg (fun e=>by omega);rw [hu1] at h;obtain⟨m,hc1,hc2⟩:=zeB.1 hc;obtain⟨m2,ha,m3,hb',hm3⟩:=hc2;have hc':chain V tx (pre ++ [E.op kind a b]) 0 s.u:=zeB.2 ⟨m,hc1,m3,⟨by omega,m2,ha,hb'⟩,hm3⟩;obtain⟨st',g1,g2,g3,g4⟩:=zfU hV ht r (pre ++ [E.op kind a b]) ⟨s.p - 2+1,s.u,_⟩ s' (by simp at hp ⊢;omega) hu hc' h hb;refine⟨st',g1,g2,?_,g4⟩
    rw [g3];simp [zlL,E.post,opN]
   ·obtain⟨hg,hsb,hu1,hp1⟩:=zma hV ht hk hs hb1 hu;obtain⟨st',g1,g2,g3,g4⟩:=zfU hV ht r (st ++ [E.leaf n]) s1 s' (by rw [hp1,List.length_append,hp];rfl) hu1 (zeB.2 ⟨s.u,hc,s1.u,hg,rfl⟩) h hb;refine⟨st',g1,g2,?_,g4⟩
    rw [g3];simp [zlL,E.post]
theorem zpn {f:FormT} (h:zD f=0) {tx:FNode→Bs8} (ht:TxOK f.vars tx):∃ e:E,f.code=e.post∧e.good f.vars tx 0 f.vars.length:=by
 unfold zD at h;split at h
 ·cases h
 ·cases hv:zaw [] f.vars with
  | some e=>
   rw [hv] at h;dsimp only at h;exfalso;have key:∀ (r seen:List Bs8) (e:Int),zaw seen r=some e→e≠0:=by
    intro r;induction r with
    | nil=>intro seen e h;cases h
    | cons s r ih=>
     intro seen e h;rw [zaw] at h;split at h
     ·cases h;decide
     ·split at h
      ·cases h;decide
      ·exact ih _ _ h
   exact key _ _ _ hv h
  | none=>
   rw [hv] at h;dsimp only at h;cases hw:zav f.vars.length f.code ⟨0,0,true⟩ with
   | error e=>
    rw [hw] at h;dsimp only at h;exfalso;have key:∀ (l:List FNode) (s:CS) (e:Int),zav f.vars.length l s=.error e→e≠0:=by
     intro l;induction l with
     | nil=>intro s e h;cases h
     | cons n l ih=>
      intro s e h;rw [zav] at h;cases hs:zbx f.vars.length n s with
      | error e'=>
       rw [hs] at h;cases h;exact zfX hs
      | ok s'=>rw [hs] at h;exact ih _ _ h
    exact key _ _ _ hw h
   | ok s=>
    rw [hw] at h;dsimp only at h;split at h
    ·cases h
    ·rename_i hp;split at h
     ·cases h
     ·rename_i hbu;rw [not_or] at hbu;obtain⟨st',g1,g2,g3,g4⟩:=zfU hv ht f.code [] ⟨0,0,true⟩ s rfl (Nat.zero_le _) rfl hw (by simpa using hbu.1);have hl:st'.length=1:=by omega
      obtain⟨e,rfl⟩:=List.length_eq_one_iff.1 hl;obtain⟨m,ge,rfl⟩:=g2;refine⟨e,?_,?_⟩
      ·simp [zlL] at g3;exact g3.symm
      ·have:s.u=f.vars.length:=by omega
       rw [← this];exact ge
end FoT
namespace FoT
def padD:Nat→Nat→Bs8
 | 0,_=>[]
 | k+1,n=>padD k (n / 10) ++ [UInt8.ofNat (48+n % 10)]
theorem zdp:∀ (k n:Nat),(padD k n).length=k
 | 0,_=>rfl
 | k+1,n=>by rw [padD,List.length_append,zdp k];rfl
def txV (V:List Bs8) (n:FNode):Bs8:=if n.kind=1 then V.getD n.var.toNat [] else [48,46] ++ padD n.places.toNat n.num.toNat
theorem ziK:∀ (l:Bs8) (acc:Nat) (c:UInt8),digs acc (l ++ [c])=match digs acc l with|some a=>digs a [c]|none=>none
 | [],acc,c=>rfl
 | x::r,acc,c=>by
  rw [List.cons_append,digs,digs];split
  ·exact ziK r _ c
  ·rfl
theorem zmQ (d:Nat) (h:d < 10):(UInt8.ofNat (48+d)).toNat=48+d:=by
 have:∀ d,d < 10→(UInt8.ofNat (48+d)).toNat=48+d:=by decide
 exact this d h
theorem zks:∀ (k n acc:Nat),digs acc (padD k n)=some (acc * 10 ^ k+n % 10 ^ k)
 | 0,n,acc=>by simp [padD,digs,Nat.mod_one]
 | k+1,n,acc=>by
  have hd:n % 10 < 10:=Nat.mod_lt _ (by decide);rw [padD,ziK,zks k (n / 10) acc];show digs (acc * 10 ^ k+n / 10 % 10 ^ k) [UInt8.ofNat (48+n % 10)]=_
  rw [digs,zmQ _ hd,if_pos (by omega),digs];have e:n % 10 ^ (k+1)=n / 10 % 10 ^ k * 10+n % 10:=by
   rw [Nat.pow_succ,Nat.mul_comm (10 ^ k) 10,Nat.mod_mul];omega
  rw [e,Nat.pow_succ];congr 1
  generalize 10 ^ k=p;generalize n / 10 % p=q;rw [Nat.mul_add,← Nat.mul_assoc];have:acc * (p * 10)=10 * (acc * p):=by rw [← Nat.mul_assoc,Nat.mul_comm]
  rw [Nat.mul_assoc 10 acc p,this];omega
theorem zk0 {k n:Nat} (h1:1≤k) (h6:k≤6) (hn:n < 10 ^ k) (hc:k=1∨n % 10≠0):zaW ([48,46] ++ padD k n)=some ⟨2,0,n,k⟩:=by
 show (if (48:UInt8)=48∧(46:UInt8)=46∧1≤(padD k n).length∧(padD k n).length≤6 then _ else _)=_
 rw [if_pos ⟨rfl,rfl,by rw [zdp];exact h1,by rw [zdp];exact h6⟩];show (match digs 0 (padD k n) with|some x=>(if (padD k n).length=1∨x % 10≠0 then some (⟨2,0,x,(padD k n).length⟩:FNode) else none)|none=>none)=_
 rw [zks,zdp];simp only [Nat.zero_mul,Nat.zero_add,Nat.mod_eq_of_lt hn];rw [if_pos hc]
theorem ziN (r:Bs8):zbb (48::r)=false:=by
 have:z7 true (48::r)=false:=by rw [z7];rfl
 unfold zbb;rw [this,Bool.and_false]
theorem zqA (V:List Bs8):TxOK V (txV V):=by
 refine⟨fun i h=>?_,fun n hk hf=>?_⟩
 ·unfold txV;rw [if_pos rfl];simp [List.getD,h]
 ·unfold txV;rw [if_neg (by omega)];refine⟨ziN _,?_⟩
  unfold fine at hf;rw [if_neg (by omega),if_pos hk] at hf;obtain⟨kind,var,num,places⟩:=n;dsimp only at hk hf ⊢;subst hk;obtain⟨rfl,h1,h6,h0,hlt,hc⟩:=hf;obtain⟨k,rfl⟩:∃ k:Nat,places=k:=⟨places.toNat,by omega⟩;obtain⟨m,rfl⟩:∃ m:Nat,num=m:=⟨num.toNat,by omega⟩;simp only [Int.toNat_natCast] at hlt ⊢;have hlt2:m < 10 ^ k:=by
   have e:(10:Int) ^ k=((10 ^ k:Nat):Int):=by norm_cast
   rw [e] at hlt;omega
  rw [zk0 (by omega) (by omega) hlt2 (by omega)]
theorem zk1 {f:Bool} {c:UInt8} (h:zg2 f c=true):zaM c=true:=by
 unfold zg2 at h;unfold zaM;simp only [Bool.or_eq_true,Bool.and_eq_true] at h ⊢;rcases h with h|⟨_,h|h⟩
 ·exact .inl (.inl (.inl (.inl h)))
 ·exact .inl (.inl (.inr h))
 ·exact .inl (.inr h)
theorem zfa:∀ {f:Bool} {l:Bs8},z7 f l=true→∀ c ∈ l,zaM c=true
 | f,[],_,c,h=>by simp at h
 | f,x::r,h,c,hc=>by
  rw [z7,Bool.and_eq_true] at h;rcases List.mem_cons.1 hc with rfl|hc
  ·exact zk1 h.1
  ·exact zfa h.2 c hc
theorem znR {l:Bs8} (h:zbb l=true):rowW l:=by
 unfold zbb at h;simp only [Bool.and_eq_true,decide_eq_true_eq] at h;refine⟨?_,zfa h.2⟩
 rintro rfl;simp at h
theorem zkr:∀ {l:Bs8} {acc n:Nat},digs acc l=some n→∀ c ∈ l,zaM c=true
 | [],_,_,_,c,h=>by simp at h
 | x::r,acc,n,h,c,hc=>by
  rw [digs] at h;split at h
  ·rename_i hx;rcases List.mem_cons.1 hc with rfl|hc
   ·unfold zaM;have h1:(48≤c && c≤57)=true:=by
     simp only [Bool.and_eq_true,decide_eq_true_eq];exact⟨UInt8.le_iff_toNat_le.2 hx.1,UInt8.le_iff_toNat_le.2 hx.2⟩
    rw [h1];simp
   ·exact zkr h c hc
  ·cases h
theorem zmR {l:Bs8} {n:FNode} (h:zaW l=some n):rowW l:=by
 unfold zaW at h;split at h
 ·rename_i a b ds;split at h
  ·rename_i hc;obtain⟨rfl,rfl,_,_⟩:=hc;split at h
   ·rename_i m hd;refine⟨by simp,fun c hc=>?_⟩
    rcases List.mem_cons.1 hc with rfl|hc
    ·decide
    ·rcases List.mem_cons.1 hc with rfl|hc
     ·decide
     ·exact zkr hd c hc
   ·cases h
  ·cases h
 ·cases h
theorem zgm {V:List Bs8} {tx:FNode→Bs8}:∀ {e:E} {u u':Nat},e.good V tx u u'→e.rows tx
 | .leaf n,u,u',h=>by
  have h:=h.2.2;unfold zen at h;show rowW (tx n)
  split at h
  ·rename_i hn;exact znR hn
  ·split at h
   ·rename_i m hm;exact zmR hm
   ·cases h
 | .op k a b,u,u',h=>by
  obtain⟨_,m,ha,hb⟩:=h;exact⟨zgm ha,zgm hb⟩
def zaN {T:Type} (d:T) (leaf:Nat→FNode→T) (join:Nat→FNode→T→T→T):Nat→List FNode→List T→List T
 | _,[],st=>st
 | i,n::r,st=>zaN d leaf join (i+1) r (if n.kind < 3 then st ++ [leaf i n] else st.take (st.length - 2) ++ [join i n (st.getD (st.length - 2) d) (st.getD (st.length - 1) d)])
def E.fold {T:Type} (leaf:Nat→FNode→T) (join:Nat→FNode→T→T→T):E→Nat→T
 | .leaf n,i=>leaf i n
 | .op k a b,i=>join (i+a.post.length+b.post.length) (opN k) (a.fold leaf join i) (b.fold leaf join (i+a.post.length))
def E.kinds:E→Prop
 | .leaf n=>n.kind=1∨n.kind=2
 | .op k a b=>(k=3∨k=4∨k=5)∧a.kinds∧b.kinds
theorem zgq {T:Type} (d:T) (leaf:Nat→FNode→T) (join:Nat→FNode→T→T→T):∀ (e:E) (i:Nat) (r:List FNode) (st:List T),e.kinds →
  zaN d leaf join i (e.post ++ r) st=zaN d leaf join (i+e.post.length) r (st ++ [e.fold leaf join i])
 | .leaf n,i,r,st,h=>by
  have h3:n.kind < 3:=by rcases h with h|h <;> omega
  show zaN d leaf join i (n::r) st=_
  rw [zaN,if_pos h3];rfl
 | .op k a b,i,r,st,h=>by
  obtain⟨hk,ha,hb⟩:=h;have e1:(E.op k a b).post ++ r=a.post ++ (b.post ++ (opN k::r)):=by simp [E.post]
  rw [e1,zgq d leaf join a i _ st ha,zgq d leaf join b _ _ _ hb,zaN,if_neg (by show ¬ k < 3;omega)];have e2:((st ++ [a.fold leaf join i]) ++ [b.fold leaf join (i+a.post.length)]).length - 2=st.length:=by simp
  have e3:((st ++ [a.fold leaf join i]) ++ [b.fold leaf join (i+a.post.length)]).length - 1=st.length+1:=by simp
  rw [e2,e3];have e4:(E.op k a b).post.length=a.post.length+b.post.length+1:=by simp [E.post];omega
  rw [e4];have e5:((st ++ [a.fold leaf join i]) ++ [b.fold leaf join (i+a.post.length)]).take st.length=st:=by simp
  have e6:((st ++ [a.fold leaf join i]) ++ [b.fold leaf join (i+a.post.length)]).getD st.length d=a.fold leaf join i:=by simp [List.getD]
  have e7:((st ++ [a.fold leaf join i]) ++ [b.fold leaf join (i+a.post.length)]).getD (st.length+1) d=b.fold leaf join (i+a.post.length):=by simp [List.getD]
  rw [e5,e6,e7,show i+a.post.length+b.post.length+1=i+(a.post.length+b.post.length+1) by omega];rfl
theorem zmW {T:Type} (d:T) (leaf:Nat→FNode→T) (join:Nat→FNode→T→T→T) {e:E} (h:e.kinds):zaN d leaf join 0 e.post []=[e.fold leaf join 0]:=by
 have:=zgq d leaf join e 0 [] [] h;rw [List.append_nil] at this;rw [this];rfl
theorem ze0 {V:List Bs8} {tx:FNode→Bs8}:∀ {e:E} {u u':Nat},e.good V tx u u'→e.kinds
 | .leaf n,u,u',h=>by
  have h:=h.2.2;unfold zen at h;split at h
  ·split at h
   ·exact .inl (by rw [← (Prod.mk.inj (Option.some.inj h)).1])
   ·exact .inl (by rw [← (Prod.mk.inj (Option.some.inj h)).1])
  ·split at h
   ·rename_i m hm;obtain rfl:=(Prod.mk.inj (Option.some.inj h)).1;unfold zaW at hm;split at hm
    ·split at hm
     ·split at hm
      ·split at hm
       ·cases hm;exact .inr rfl
       ·cases hm
      ·cases hm
     ·cases hm
    ·cases hm
   ·cases h
 | .op k a b,u,u',h=>by
  obtain⟨hk,m,ha,hb⟩:=h;exact⟨hk,ze0 ha,ze0 hb⟩
abbrev Part:=Bs8 × Nat
def zae (p:Part) (w:Nat):Bs8:=if w≤p.2 then p.1 else [40] ++ p.1 ++ [41]
def zdy (V:List Bs8) (_:Nat) (n:FNode):Part:=(txV V n,3)
def zcT (_:Nat) (n:FNode) (a b:Part):Part:=
 let m:=if n.kind=5 then 2 else 1
 (zae a m ++ zca n.kind ++ zae b (m+1),m)
theorem zeu {V:List Bs8}:∀ (e:E) (i:Nat),(e.fold (zdy V) zcT i).2=e.binds∧∀ w,1≤w→w≤3→zae (e.fold (zdy V) zcT i) w=(e.words (txV V) w).flatten
 | .leaf n,i=>by
  refine⟨rfl,fun w h1 h3=>?_⟩
  show (if w≤3 then _ else _)=_
  rw [if_pos h3];simp [E.words,E.fold,zdy]
 | .op k a b,i=>by
  obtain⟨ha,ha2⟩:=zeu (V:=V) a i;obtain⟨hb,hb2⟩:=zeu (V:=V) b (i+a.post.length);refine⟨rfl,fun w h1 h3=>?_⟩
  have key:∀ m:Nat,1≤m→m≤2→zae (zae (a.fold (zdy V) zcT i) m ++ zca k ++ zae (b.fold (zdy V) zcT (i+a.post.length)) (m+1),m) w =
    (if w≤m then a.words (txV V) m ++ (zca k::b.words (txV V) (m+1)) else [40]::((a.words (txV V) m ++ (zca k::b.words (txV V) (m+1))) ++ [[41]])).flatten:=by
   intro m hm1 hm2;rw [ha2 m hm1 (by omega),hb2 (m+1) (by omega) (by omega)];unfold zae;dsimp only;split
   ·simp
   ·simp
  rw [E.words];exact key _ (by split <;> omega) (by split <;> omega)
def zeL (f:FormT):Bs8:=((zaN (([],0):Part) (zdy f.vars) zcT 0 f.code []).getD 0 ([],0)).1
theorem zkF {f:FormT} {e:E} (hc:f.code=e.post) (hk:e.kinds):zeL f=e.text (txV f.vars):=by
 unfold zeL;rw [hc,zmW _ _ _ hk];have h:=(zeu (V:=f.vars) e 0).2 1 (Nat.le_refl _) (by omega);unfold zae at h;have hb:1≤(e.fold (zdy f.vars) zcT 0).2:=by
  rw [(zeu (V:=f.vars) e 0).1];cases e with
  | leaf n=>exact Nat.le_of_ble_eq_true rfl
  | op k a b=>unfold E.binds;dsimp only;split <;> omega
 rw [if_pos hb] at h;exact h
def zdw:FormT:=⟨[],[]⟩
def zbH (s:Bs8):FormT × Int × Int:=
 if 600 < s.length then (zdw,0,3)
 else match sumM (4 * (tk 0 none s).length+3) ⟨tk 0 none s,[],[]⟩ with
  | none=>(zdw,0,6)
  | some (.error a)=>(zdw,a,6)
  | some (.ok st)=>match st.toks with
   | (a,_)::_::_=>(zdw,a,6)
   | _=>if zD ⟨st.vars,st.code⟩=0 then (⟨st.vars,st.code⟩,0,0) else (zdw,0,3)
theorem zhg {V:List Bs8} {tx:FNode→Bs8}:∀ (e:E) (u u':Nat) (w:Nat),e.good V tx u u'→2 * ((e.words tx w).flatten.length)+6≤23 * (e.post.length+1)
 | .leaf n,u,u',w,h=>by
  have h:=h.2.2;have hl:(tx n).length≤20:=by
   unfold zen at h;split at h
   ·rename_i hn;unfold zbb at hn;simp only [Bool.and_eq_true,decide_eq_true_eq] at hn;exact hn.1.1.2
   ·split at h
    ·rename_i m hm;unfold zaW at hm;split at hm
     ·split at hm
      ·rename_i hc;simp only [*,List.length_cons];omega
      ·cases hm
     ·cases hm
    ·cases h
  simp [E.words,E.post];omega
 | .op k a b,u,u',w,h=>by
  obtain⟨hk,m,ha,hb⟩:=h;have key:∀ x:Nat,((a.words tx x).flatten.length+(b.words tx (x+1)).flatten.length) * 2+12≤23 * (a.post.length+b.post.length+2):=fun x=>by
   have h1:=zhg a u m x ha;have h2:=zhg b m u' (x+1) hb;omega
  have hs:(zca k).length=1:=by unfold zca;split;rfl;split <;> rfl
  have all:∀ x,2 * ((if w≤x then a.words tx x ++ (zca k::b.words tx (x+1)) else [40]::((a.words tx x ++ (zca k::b.words tx (x+1))) ++ [[41]])).flatten.length)+6≤23 * ((E.op k a b).post.length+1):=fun x=>by
   have h1:=key x;have e4:(E.op k a b).post.length=a.post.length+b.post.length+1:=by simp [E.post];omega
   rw [e4];split
   ·simp only [List.flatten_append,List.flatten_cons,List.length_append,hs];omega
   ·simp only [List.flatten_append,List.flatten_cons,List.length_append,List.length_cons,List.flatten_nil,List.length_nil,hs];omega
  rw [E.words];exact all _
theorem zeT {f:FormT} (h:zD f=0):zbH (zeL f)=(f,0,0)∧(zeL f).length≤600:=by
 obtain⟨e,hc,hg⟩:=zpn h (zqA f.vars);have htx:=zkF hc (ze0 hg);have hcl:f.code.length≤40:=by
  unfold zD at h;split at h
  ·cases h
  ·rename_i hn;rw [not_or] at hn;have:=hn.2;omega
 have hlen:(zeL f).length≤600:=by
  rw [htx];have:=zhg e 0 f.vars.length 1 hg;rw [← hc] at this;unfold E.text;omega
 refine⟨?_,hlen⟩
 obtain⟨k,N,hk⟩:=znk hg (zgm hg);obtain⟨r,hr,_⟩:=(zqB (tk 0 none (e.text (txV f.vars))).length).2.2.2.2 ⟨tk 0 none (e.text (txV f.vars)),[],[]⟩ rfl;have h1:=zjb (Nat.le_max_left k (4 * (tk 0 none (e.text (txV f.vars))).length+3)) hk;have h2:=zjb (Nat.le_max_right k (4 * (tk 0 none (e.text (txV f.vars))).length+3)) hr;rw [h1] at h2;cases h2;unfold zbH;rw [if_neg (by omega),htx,hr];dsimp only;rw [List.take_length,← hc];rw [if_pos h]
end FoT
namespace FoT
structure FloT where
 mant:Int
 exp:Int
deriving DecidableEq
def zeroFl:FloT:=⟨0,0⟩
def sg (n:Int):Int:=if n < 0 then -1 else 1
theorem zfZ (n:Int):sg n * n.natAbs=n:=by unfold sg;split <;> omega
def hlv:Nat→Nat→Int→Nat × Int
 | 0,m,e=>(m,e)
 | k+1,m,e=>if 8388608≤m then hlv k (m / 2) (e+1) else (m,e)
def dbl:Nat→Nat→Int→Nat × Int
 | 0,m,e=>(m,e)
 | k+1,m,e=>if m≠0∧m < 4194304 then dbl k (m * 2) (e - 1) else (m,e)
def fin (s:Int) (m:Nat) (e:Int):FloT × Int:=
 if m=0∨e < -64 then (zeroFl,0) else if 63 < e then (zeroFl,171) else (⟨s * m,e⟩,0)
def zaj (n exp:Int):FloT × Int:=
 let h:=hlv 64 n.natAbs (exp+23)
 let d:=dbl 23 h.1 h.2
 fin (sg n) d.1 d.2
theorem zes {m:Nat} (h:m < 8388608) (e:Int):∀ k,hlv k m e=(m,e)
 | 0=>rfl
 | k+1=>by rw [hlv,if_neg (by omega)]
theorem zeA {m:Nat} (h:m=0∨4194304≤m) (e:Int):∀ k,dbl k m e=(m,e)
 | 0=>rfl
 | k+1=>by rw [dbl,if_neg (by omega)]
theorem zkm:∀ (k m:Nat) (e:Int),4194304≤m→m < 8388608 * 2 ^ k→∃ s:Nat,hlv k m e=(m / 2 ^ s,e+s)∧4194304≤m / 2 ^ s∧m / 2 ^ s < 8388608
 | 0,m,e,h1,h2=>⟨0,by simp [hlv],by simpa using h1,by simpa using h2⟩
 | k+1,m,e,h1,h2=>by
  by_cases h:8388608≤m
  ·rw [Nat.pow_succ] at h2;obtain⟨s,hs,a,b⟩:=zkm k (m / 2) (e+1) (by omega) (by omega);have e1:m / 2 / 2 ^ s=m / 2 ^ (s+1):=by rw [Nat.div_div_eq_div_mul,Nat.pow_succ,Nat.mul_comm]
   rw [e1] at hs a b;refine⟨s+1,?_,a,b⟩
   rw [hlv,if_pos h,hs];congr 1
   omega
  ·exact⟨0,by rw [zes (by omega)];simp,by simpa using h1,by simp;omega⟩
theorem zku:∀ (k m:Nat) (e:Int),m≠0→m < 8388608→4194304≤m * 2 ^ k→∃ s:Nat,s≤k∧dbl k m e=(m * 2 ^ s,e - s)∧4194304≤m * 2 ^ s∧m * 2 ^ s < 8388608
 | 0,m,e,h0,h1,h2=>⟨0,Nat.le_refl _,by simp [dbl],by simpa using h2,by simpa using h1⟩
 | k+1,m,e,h0,h1,h2=>by
  by_cases h:m < 4194304
  ·have e0:m * 2 ^ (k+1)=m * 2 * 2 ^ k:=by rw [Nat.pow_succ,Nat.mul_comm (2 ^ k) 2,Nat.mul_assoc]
   obtain⟨s,hsk,hs,a,b⟩:=zku k (m * 2) (e - 1) (by omega) (by omega) (by omega);have e1:m * 2 * 2 ^ s=m * 2 ^ (s+1):=by rw [Nat.pow_succ,Nat.mul_comm (2 ^ s) 2,Nat.mul_assoc]
   rw [e1] at hs a b;refine⟨s+1,by omega,?_,a,b⟩
   rw [dbl,if_pos ⟨h0,h⟩,hs];congr 1
   omega
  ·exact⟨0,by omega,by rw [zeA (by omega)];simp,by simp;omega,by simpa using h1⟩
theorem zim {n exp:Int} (h0:n≠0) (h:n.natAbs < 4611686018427387904):∃ s M:Nat,∃ E:Int,((8388608≤n.natAbs∧M=n.natAbs / 2 ^ s∧E=exp+23+s)∨(n.natAbs < 8388608∧s≤22∧M=n.natAbs * 2 ^ s∧E=exp+23 - s))∧4194304≤M∧M < 8388608∧zaj n exp=fin (sg n) M E:=by
 unfold zaj;by_cases hb:8388608≤n.natAbs
 ·obtain⟨s,hs,a,b⟩:=zkm 64 n.natAbs (exp+23) (by omega) (by omega);refine⟨s,_,_,.inl ⟨hb,rfl,rfl⟩,a,b,?_⟩
  rw [hs];dsimp only;rw [zeA (.inr a)]
 ·obtain⟨s,hk,hs,a,b⟩:=zku 23 n.natAbs (exp+23) (by omega) (by omega) (by omega);have hs22:s≤22:=by
   rcases Nat.lt_or_ge 22 s with hc|hc
   ·have:s=23:=by omega
    subst this;omega
   ·exact hc
  refine⟨s,_,_,.inr ⟨by omega,hs22,rfl,rfl⟩,a,b,?_⟩
  rw [zes (by omega)];dsimp only;rw [hs]
theorem zb3 (exp:Int):zaj 0 exp=(zeroFl,0):=by
 unfold zaj;rw [zes (by decide)];dsimp only;rw [zeA (m:=Int.natAbs 0) (.inl rfl)];rfl
def zG (x:FloT):Prop:=x=zeroFl∨(4194304≤x.mant.natAbs∧x.mant.natAbs≤8388607∧-64≤x.exp∧x.exp≤63)
instance (x:FloT):Decidable (zG x):=by unfold zG;infer_instance
theorem zbP (n:Int) (M:Nat):(sg n * (M:Int)).natAbs=M:=by unfold sg;split <;> omega
theorem zmI {n:Int} {M:Nat} {E:Int} (h1:4194304≤M) (h2:M < 8388608):zG (fin (sg n) M E).1:=by
 unfold fin;split
 ·exact .inl rfl
 ·split
  ·exact .inl rfl
  ·exact .inr ⟨by rw [zbP];exact h1,by rw [zbP];omega,by dsimp only;omega,by dsimp only;omega⟩
theorem zbf {n exp:Int} (h:n.natAbs < 4611686018427387904):zG (zaj n exp).1:=by
 by_cases h0:n=0
 ·rw [h0,zb3];exact .inl rfl
 ·obtain⟨s,M,E,_,a,b,e⟩:=zim (exp:=exp) h0 h;rw [e];exact zmI a b
theorem made_err {n exp:Int}:(zaj n exp).2=0∨((zaj n exp).2=171∧(zaj n exp).1=zeroFl):=by
 unfold zaj fin;dsimp only;split
 ·exact .inl rfl
 ·split
  ·exact .inr ⟨rfl,rfl⟩
  ·exact .inl rfl
def zbd (m d:Int):Int:=if d < 60 then (m * 1073741824).tdiv (2 ^ d.toNat) else 0
def zfh (a b:FloT):FloT × Int:=zaj (a.mant * 1073741824+zbd b.mant (a.exp - b.exp)) (a.exp - 53)
def zbz (a b:FloT):FloT × Int:=
 if a.mant=0 then (b,0) else if b.mant=0 then (a,0) else if a.exp < b.exp then zfh b a else zfh a b
def stepM (op:Int) (a b:FloT):FloT × Int:=
 if op=3 then zbz a b
 else if op=4 then zbz a ⟨-b.mant,b.exp⟩
 else if op=5 then zaj (a.mant * b.mant) (a.exp+b.exp - 46)
 else if b.mant=0 then (zeroFl,8) else zaj ((a.mant * 1073741824).tdiv b.mant) (a.exp - b.exp - 30)
def zau (x:FloT):Prop:=x.mant.natAbs≤8388607
theorem zI {x:FloT} (h:zG x):zau x:=by
 rcases h with rfl|h
 ·exact Nat.zero_le _
 ·exact h.2.1
theorem zj7 {m d:Int} (h:m.natAbs≤8388607):(zbd m d).natAbs≤9007198180999168:=by
 unfold zbd;split
 ·have:=Int.natAbs_tdiv_le_natAbs (m * 1073741824) (2 ^ d.toNat);rw [Int.natAbs_mul,show Int.natAbs 1073741824=1073741824 from rfl] at this;omega
 ·exact Nat.zero_le _
theorem zfr {a b:FloT} (ha:zau a) (hb:zau b):(a.mant * 1073741824+zbd b.mant (a.exp - b.exp)).natAbs < 4611686018427387904:=by
 have:=zj7 (d:=a.exp - b.exp) hb;unfold zau at ha;omega
theorem zik {a b:FloT} (ha:zau a) (hb:zau b):(a.mant * b.mant).natAbs < 4611686018427387904:=by
 rw [Int.natAbs_mul];have:=Nat.mul_le_mul ha hb;omega
theorem zkq {a b:FloT} (ha:zau a):((a.mant * 1073741824).tdiv b.mant).natAbs < 4611686018427387904:=by
 have:=Int.natAbs_tdiv_le_natAbs (a.mant * 1073741824) b.mant;rw [Int.natAbs_mul,show Int.natAbs 1073741824=1073741824 from rfl] at this;unfold zau at ha;omega
theorem zlY {b:FloT} (h:zG b):b.mant≠0→zG ⟨-b.mant,b.exp⟩:=by
 intro hm;rcases h with rfl|h
 ·exact absurd rfl hm
 ·exact .inr ⟨by dsimp only;omega,by dsimp only;omega,h.2.2.1,h.2.2.2⟩
theorem zeV {a b:FloT} (ha:zG a) (hb:zG b):zG (zbz a b).1:=by
 unfold zbz;split
 ·exact hb
 ·split
  ·exact ha
  ·split
   ·exact zbf (zfr (zI hb) (zI ha))
   ·exact zbf (zfr (zI ha) (zI hb))
theorem zeN {op:Int} {a b:FloT} (ha:zG a) (hb:zG b):zG (stepM op a b).1:=by
 unfold stepM;split
 ·exact zeV ha hb
 ·split
  ·by_cases h0:b.mant=0
   ·have:b=zeroFl:=by
     rcases hb with h|h
     ·exact h
     ·omega
    subst this;exact zeV ha (.inl rfl)
   ·exact zeV ha (zlY hb h0)
  ·split
   ·exact zbf (zik (zI ha) (zI hb))
   ·split
    ·exact .inl rfl
    ·exact zbf (zkq (zI ha))
theorem zrG {a b:FloT}:(zbz a b).2=0∨(zbz a b).2=171:=by
 unfold zbz;split
 ·exact .inl rfl
 ·split
  ·exact .inl rfl
  ·split
   ·exact made_err.imp id And.left
   ·exact made_err.imp id And.left
structure StepT where
 op:Int
 a:Int
 b:Int
 to:Int
deriving DecidableEq
def za8:List FloT→Nat→Option Nat
 | [],_=>none
 | x::r,i=>if zG x then za8 r (i+1) else some i
def zaA (n:Int) (s:StepT):Int:=
 if s.op < 3∨6 < s.op then 2
 else if 0≤s.a∧s.a < n∧0≤s.b∧s.b < n∧0≤s.to∧s.to < n then 0 else 4
def zag (n:Int):List StepT→Nat→Option (Nat × Int)
 | [],_=>none
 | s::r,i=>if zaA n s=0 then zag n r (i+1) else some (i,zaA n s)
def runS:List StepT→Nat→List FloT→Except (Nat × Int) (List FloT)
 | [],_,l=>.ok l
 | s::r,i,l=>
  let x:=stepM s.op (l.getD s.a.toNat zeroFl) (l.getD s.b.toNat zeroFl)
  if x.2=0 then runS r (i+1) (l.set s.to.toNat x.1) else .error (i,x.2)
def zaC (regs:List FloT) (steps:List StepT):List FloT × Int × Int:=
 if ¬ (1≤regs.length∧regs.length≤8)∨40 < steps.length then ([],0,3)
 else match za8 regs 0 with
  | some i=>([],i,7)
  | none=>match zag regs.length steps 0 with
   | some (i,e)=>([],i,e)
   | none=>match runS steps 0 regs with
    | .error (i,e)=>([],i,e)
    | .ok l=>(l,0,0)
theorem zbk:∀ {l:List FloT} {i:Nat},za8 l i=none↔∀ x ∈ l,zG x
 | [],_=>by simp [za8]
 | x::r,i=>by
  rw [za8];split
  ·rename_i h;simp [zbk (l:=r),h]
  ·rename_i h;simp [h]
theorem zaz {n:Int}:∀ {l:List StepT} {i:Nat},zag n l i=none↔∀ s ∈ l,zaA n s=0
 | [],_=>by simp [zag]
 | s::r,i=>by
  rw [zag];split
  ·rename_i h;simp [zaz (l:=r),h]
  ·rename_i h;simp [h]
theorem zj2:∀ (x y:List StepT) (i:Nat) (l:List FloT),runS (x ++ y) i l=match runS x i l with
  | .error e=>.error e
  | .ok m=>runS y (i+x.length) m
 | [],y,i,l=>by simp [runS]
 | s::r,y,i,l=>by
  rw [List.cons_append,runS,runS];try dsimp only
  split
  ·rw [zj2 r y];simp only [List.length_cons,Nat.add_right_comm,Nat.add_assoc,Nat.add_comm 1]
  ·rfl
theorem zgI:∀ (x:List StepT) (i j:Nat) (l m:List FloT),runS x i l=.ok m→runS x j l=.ok m
 | [],i,j,l,m,h=>h
 | s::r,i,j,l,m,h=>by
  rw [runS] at h ⊢;try dsimp only at h ⊢
  split at h
  ·rename_i hc;rw [if_pos hc];exact zgI r _ _ _ _ h
  ·cases h
theorem zh1:∀ (x:List StepT) (i:Nat) (l m:List FloT),(∀ x ∈ l,zG x)→runS x i l=.ok m→m.length=l.length∧∀ x ∈ m,zG x
 | [],i,l,m,hl,h=>by cases h;exact⟨rfl,hl⟩
 | s::r,i,l,m,hl,h=>by
  rw [runS] at h;try dsimp only at h
  split at h
  ·have hd:∀ k:Nat,zG (l.getD k zeroFl):=fun k=>by
    rw [List.getD_eq_getElem?_getD];cases hk:l[k]? with
    | none=>exact .inl rfl
    | some x=>exact hl x (List.mem_of_getElem? hk)
   obtain⟨h1,h2⟩:=zh1 r _ _ m (fun x hx=>by
    rcases List.mem_or_eq_of_mem_set hx with hx|rfl
    ·exact hl x hx
    ·exact zeN (hd _) (hd _)) h
   exact⟨by rw [h1,List.length_set],h2⟩
  ·cases h
theorem zgu {regs:List FloT} {steps:List StepT} (h:(zaC regs steps).2.2=0):(1≤regs.length∧regs.length≤8)∧steps.length≤40∧(∀ x ∈ regs,zG x)∧(∀ s ∈ steps,zaA regs.length s=0)∧∃ l,runS steps 0 regs=.ok l∧zaC regs steps=(l,0,0):=by
 unfold zaC at h ⊢;by_cases h1:¬ (1≤regs.length∧regs.length≤8)∨40 < steps.length
 ·rw [if_pos h1] at h;cases h
 rw [if_neg h1] at h ⊢;have hn:(1≤regs.length∧regs.length≤8)∧steps.length≤40:=by
  rw [not_or,Classical.not_not] at h1;exact⟨h1.1,by omega⟩
 cases h2:za8 regs 0 with
 | some i=>rw [h2] at h;cases h
 | none=>
  rw [h2] at h;dsimp only at h ⊢;cases h3:zag regs.length steps 0 with
  | some p=>
   obtain⟨i,e⟩:=p;rw [h3] at h;dsimp only at h;exfalso;have key:∀ (l:List StepT) (j:Nat),zag regs.length l j=some (i,e)→e≠0:=by
    intro l;induction l with
    | nil=>intro j hj;cases hj
    | cons s r ih=>
     intro j hj;rw [zag] at hj;split at hj
     ·exact ih _ hj
     ·rename_i hs;cases hj;exact hs
   exact key _ _ h3 h
  | none=>
   rw [h3] at h;dsimp only at h ⊢;cases h4:runS steps 0 regs with
   | error p=>
    obtain⟨i,e⟩:=p;rw [h4] at h;dsimp only at h;exfalso;have key:∀ (l:List StepT) (j:Nat) (q:List FloT),runS l j q=.error (i,e)→e≠0:=by
     intro l;induction l with
     | nil=>intro j q hj;cases hj
     | cons s r ih=>
      intro j q hj;rw [runS] at hj;try dsimp only at hj
      split at hj
      ·exact ih _ _ hj
      ·rename_i hs;cases hj;exact hs
    exact key _ _ _ h4 h
   | ok l=>
    exact⟨hn.1,hn.2,zbk.1 h2,zaz.1 h3,l,rfl,rfl⟩
theorem zjL {regs:List FloT} {steps:List StepT} {l:List FloT} (h1:1≤regs.length∧regs.length≤8) (h2:steps.length≤40) (h3:∀ x ∈ regs,zG x) (h4:∀ s ∈ steps,zaA regs.length s=0) (h5:runS steps 0 regs=.ok l):zaC regs steps=(l,0,0):=by
 unfold zaC;rw [if_neg (by rw [not_or,Classical.not_not];exact⟨h1,by omega⟩),zbk.2 h3];dsimp only;rw [zaz.2 h4];dsimp only;rw [h5]
theorem zoz {regs:List FloT} {steps:List StepT} (h:(zaC regs steps).2.2=0) (k:Nat):∃ m l,zaC regs (steps.take k)=(m,0,0)∧zaC m (steps.drop k)=(l,0,0)∧zaC regs steps=(l,0,0):=by
 obtain⟨h1,h2,h3,h4,l,h5,h6⟩:=zgu h;have e:=zj2 (steps.take k) (steps.drop k) 0 regs;rw [List.take_append_drop] at e;rw [h5] at e;cases hm:runS (steps.take k) 0 regs with
 | error p=>rw [hm] at e;cases e
 | ok m=>
  rw [hm] at e;dsimp only at e;obtain⟨g1,g2⟩:=zh1 _ _ _ _ h3 hm;refine⟨m,l,zjL h1 (by rw [List.length_take];omega) h3 (fun s hs=>h4 s (List.mem_of_mem_take hs)) hm,zjL (by rw [g1];exact h1) (by rw [List.length_drop];omega) g2 (fun s hs=>?_) (zgI _ _ 0 _ _ e.symm),h6⟩
  rw [g1];exact h4 s (List.mem_of_mem_drop hs)
end FoT
namespace FoT
def ten (n:FNode):Int:=10 ^ n.places.toNat
def zbo (n:FNode):Int:=(n.num * 8388608+ten n / 2) / ten n
def zdz (n:FNode):Int:=if n.num * 8388608 % ten n=0 then 0 else 1
def sgnW (w:Int):Int:=if 8388608≤w then w - 16777216 else w
def opV (k a b:Int):Int:=if k=3 then a+b else if k=4 then a - b else a * b / 8388608
def zP (w:Int):Prop:=0≤w∧w≤16777215
instance (w:Int):Decidable (zP w):=by unfold zP;infer_instance
def zcw (words:List Int) (_:Nat) (n:FNode):Int:=if n.kind=1 then words.getD n.var.toNat 0 else zbo n
def zdQ (_:Nat) (n:FNode) (a b:Int):Int:=opV n.kind (sgnW a) (sgnW b) % 16777216
def valF (f:FormT) (words:List Int):Int:=(zaN 0 (zcw words) zdQ 0 f.code []).getD 0 0
def zdU (f:FormT) (words:List Int):Int × Int:=
 if zD f≠0 then (0,zD f)
 else if words.length≠f.vars.length then (0,2)
 else if words.all (fun w=>decide (zP w))=false then (0,7)
 else (valF f words,0)
structure SpanT where
 lo:Int
 hi:Int
deriving DecidableEq
structure RangeT where
 lo:Int
 hi:Int
 err:Int
deriving DecidableEq
def zaI:RangeT:=⟨0,0,0⟩
def zC (n:Int):Bool:=decide (n < -8388608) || decide (8388607 < n)
def zbB (spans:List SpanT) (n:FNode):RangeT:=
 if n.kind=1 then ⟨(spans.getD n.var.toNat ⟨0,0⟩).lo,(spans.getD n.var.toNat ⟨0,0⟩).hi,0⟩ else ⟨zbo n,zbo n,zdz n⟩
def farR (a:RangeT):Int:=max (max a.lo (-a.lo)) (max a.hi (-a.hi))
def min4 (a b c d:Int):Int:=min (min a b) (min c d)
def max4 (a b c d:Int):Int:=max (max a b) (max c d)
def zT (k:Int) (a b:RangeT):RangeT:=
 ⟨min4 (opV k a.lo b.lo) (opV k a.lo b.hi) (opV k a.hi b.lo) (opV k a.hi b.hi),max4 (opV k a.lo b.lo) (opV k a.lo b.hi) (opV k a.hi b.lo) (opV k a.hi b.hi),
  if k=5 then (2 * farR a * b.err+2 * farR b * a.err+a.err * b.err+16777215) / 16777216+2 else a.err+b.err⟩
def rngS (spans:List SpanT):Nat→List FNode→List RangeT→Except Nat (List RangeT)
 | _,[],st=>.ok st
 | i,n::r,st=>
  if n.kind < 3 then rngS spans (i+1) r (st ++ [zbB spans n])
  else
   let x:=zT n.kind (st.getD (st.length - 2) zaI) (st.getD (st.length - 1) zaI)
   if zC x.lo=true∨zC x.hi=true then .error i else rngS spans (i+1) r (st.take (st.length - 2) ++ [x])
def zaF:List SpanT→Nat→Option (Nat × Int)
 | [],_=>none
 | s::r,i=>if zC s.lo=true∨zC s.hi=true then some (i,7) else if s.hi < s.lo then some (i,2) else zaF r (i+1)
def z8 (f:FormT) (spans:List SpanT):RangeT × Int × Int:=
 if zD f≠0 then (zaI,0,zD f)
 else if spans.length≠f.vars.length then (zaI,0,2)
 else match zaF spans 0 with
  | some (i,e)=>(zaI,i,e)
  | none=>match rngS spans 0 f.code [] with
   | .error i=>(zaI,i,170)
   | .ok st=>(st.getD 0 zaI,0,0)
def encW (op a b c:Int):Int:=((op * 128+a) * 128+b) * 128+c
def zal:List FNode→List Int
 | []=>[]
 | n::r=>if n.kind=2 then zbo n::zal r else zal r
structure ES where
 next:Int
 h:Int
 most:Int
deriving DecidableEq
def zbM (vars pile:Int):List FNode→Int→ES→List Int × ES
 | [],_,s=>([],s)
 | n::r,pos,s=>
  if n.kind=1 then
   let q:=zbM vars pile r (pos+1) ⟨s.next,s.h+1,max s.most (s.h+1)⟩
   (encW 1 (vars+n.var) (pile+s.h) (pos+1)::q.1,q.2)
  else if n.kind=2 then
   let q:=zbM vars pile r (pos+1) ⟨s.next+1,s.h+1,max s.most (s.h+1)⟩
   (encW 1 s.next (pile+s.h) (pos+1)::q.1,q.2)
  else
   let q:=zbM vars pile r (pos+1) ⟨s.next,s.h - 1,s.most⟩
   (encW (n.kind - 1) (pile+s.h - 1) (pile+s.h - 2) (pos+1)::q.1,q.2)
def zaT (vars:Int) (nv:Nat):List Int:=(List.range nv).map fun i:Nat=>encW 6 0 (vars+i) (i+1)
structure ProgT where
 store:List Int
 start:Int
 orders:Int
deriving DecidableEq
def zbN (f:FormT):ProgT × Int:=
 if zD f≠0 then (⟨[],0,0⟩,zD f)
 else
  let o:Int:=f.vars.length+f.code.length+2
  let c:=zal f.code
  let vars:=o
  let pile:Int:=o+f.vars.length+c.length
  let q:=zbM vars pile f.code f.vars.length ⟨o+f.vars.length,0,0⟩
  (⟨zaT vars f.vars.length ++ q.1 ++ [encW 7 pile 0 (o - 1)] ++ List.replicate (1+f.vars.length) 0 ++ c ++ List.replicate q.2.most.toNat 0,0,o⟩,0)
theorem zdO {a A x y:Int} (h1:a≤x) (h2:x≤A):min (a * y) (A * y)≤x * y∧x * y≤max (a * y) (A * y):=by
 rcases Int.le_total 0 y with hy|hy
 ·have:=Int.mul_le_mul_of_nonneg_right h1 hy;have:=Int.mul_le_mul_of_nonneg_right h2 hy;omega
 ·have:=Int.mul_le_mul_of_nonpos_right h1 hy;have:=Int.mul_le_mul_of_nonpos_right h2 hy;omega
theorem zl4 {a A b B x y:Int} (h1:a≤x) (h2:x≤A) (h3:b≤y) (h4:y≤B):min4 (a * b) (a * B) (A * b) (A * B)≤x * y∧x * y≤max4 (a * b) (a * B) (A * b) (A * B):=by
 have e1:=zdO (y:=y) h1 h2;have e2:=zdO (y:=a) h3 h4;have e3:=zdO (y:=A) h3 h4;rw [Int.mul_comm b a,Int.mul_comm B a,Int.mul_comm y a] at e2;rw [Int.mul_comm b A,Int.mul_comm B A,Int.mul_comm y A] at e3;unfold min4 max4;omega
theorem zrH {a b:Int} (h:a≤b):a / 8388608≤b / 8388608:=Int.ediv_le_ediv (by decide) h
theorem zig {k a A b B x y:Int} (h1:a≤x) (h2:x≤A) (h3:b≤y) (h4:y≤B):min4 (opV k a b) (opV k a B) (opV k A b) (opV k A B)≤opV k x y∧opV k x y≤max4 (opV k a b) (opV k a B) (opV k A b) (opV k A B):=by
 unfold opV;by_cases k3:k=3
 ·simp only [if_pos k3];unfold min4 max4;omega
 ·by_cases k4:k=4
  ·simp only [if_neg k3,if_pos k4];unfold min4 max4;omega
  ·simp only [if_neg k3,if_neg k4];have h:=zl4 h1 h2 h3 h4;generalize a * b=p1,a * B=p2,A * b=p3,A * B=p4,x * y=z at h;unfold min4 max4 at h ⊢;omega
end FoT
namespace FoT
structure OrS where
 store:List Int
 tape:List Int
 taken:Int
 printed:List Int
 time:Int
 at_:Int
 done:Int
 why:Int
deriving DecidableEq
structure OrO where
 op:Int
 a:Int
 b:Int
 n:Int
deriving DecidableEq
def decO (w:Int):OrO:=⟨w / 2097152,w / 16384 % 128,w / 128 % 128,w % 128⟩
theorem dec_enc {op a b n:Int} (ha:0≤a∧a≤127) (hb:0≤b∧b≤127) (hn:0≤n∧n≤127):decO (encW op a b n)=⟨op,a,b,n⟩:=by
 unfold decO encW;have e1:(((op * 128+a) * 128+b) * 128+n) / 2097152=op:=by omega
 have e2:(((op * 128+a) * 128+b) * 128+n) / 16384 % 128=a:=by omega
 have e3:(((op * 128+a) * 128+b) * 128+n) / 128 % 128=b:=by omega
 have e4:(((op * 128+a) * 128+b) * 128+n) % 128=n:=by omega
 rw [e1,e2,e3,e4]
def afterO (time addr:Int):Int:=time+1+(addr - time - 1) % 16
def untilO (o:OrO) (time at_:Int):Int:=
 afterO (if o.op=5∨o.op=7 then afterO time o.a else if o.op=6 then afterO time o.b
  else if o.op=4 then afterO (afterO (afterO time o.a) o.b+12) o.b else afterO (afterO time o.a) o.b) at_
def rdO (s:OrS) (a:Int):Int:=s.store.getD a.toNat 0
def wrO (s:OrS) (a v:Int):OrS:={ s with store:=s.store.set a.toNat v }
def doO (s:OrS) (o:OrO):OrS:=
 if o.op=1 then wrO s o.b (rdO s o.a)
 else if o.op=2 then wrO s o.b ((rdO s o.b+rdO s o.a) % 16777216)
 else if o.op=3 then wrO s o.b ((rdO s o.b - rdO s o.a) % 16777216)
 else if o.op=4 then wrO s o.b (sgnW (rdO s o.a) * sgnW (rdO s o.b) / 8388608 % 16777216)
 else if o.op=6 then { wrO s o.b (s.tape.getD s.taken.toNat 0) with taken:=s.taken+1 }
 else if o.op=7 then { s with printed:=s.printed ++ [rdO s o.a] }
 else s
def stepO (s:OrS):OrS:=
 let o:=decO (rdO s s.at_)
 let at':=if o.op=5∧sgnW (rdO s o.a) < 0 then o.b else o.n
 let u:=untilO o s.time at'
 let why:=if o.op=0 then 1 else if o.op=6∧s.taken=s.tape.length then 2 else if o.op=7∧s.printed.length=200 then 3 else s.why
 let why:=if why=0∧1000000000 < u then 4 else why
 if why=0 then { doO s o with at_:=at',time:=u,done:=s.done+1,why:=0 } else { s with why:=why }
def runO:Nat→OrS→OrS
 | 0,s=>s
 | n+1,s=>if s.why=0 then runO n (stepO s) else s
theorem after_le (t a:Int):t < afterO t a∧afterO t a≤t+16:=by unfold afterO;omega
theorem until_le (o:OrO) (t a:Int):t < untilO o t a∧untilO o t a≤t+100:=by
 unfold untilO;split
 ·have h1:=after_le t o.a;have h2:=after_le (afterO t o.a) a;omega
 ·split
  ·have h1:=after_le t o.b;have h2:=after_le (afterO t o.b) a;omega
  ·split
   ·have h1:=after_le t o.a;have h2:=after_le (afterO t o.a) o.b;have h3:=after_le (afterO (afterO t o.a) o.b+12) o.b;have h4:=after_le (afterO (afterO (afterO t o.a) o.b+12) o.b) a;omega
   ·have h1:=after_le t o.a;have h2:=after_le (afterO t o.a) o.b;have h3:=after_le (afterO (afterO t o.a) o.b) a;omega
theorem step_on {s:OrS} {op a b n:Int} (hw:s.why=0) (hr:rdO s s.at_=encW op a b n) (ha:0≤a∧a≤127) (hb:0≤b∧b≤127) (hn:0≤n∧n≤127) (h0:1≤op∧op≠5∧op≤7)
  (h6:op=6→s.taken≠s.tape.length) (h7:op=7→s.printed.length≠200) (ht:s.time≤999999000) :
  ∃ t,s.time < t∧t≤s.time+100∧stepO s={ doO s ⟨op,a,b,n⟩ with at_:=n,time:=t,done:=s.done+1,why:=0 }:=by
 have hu:=until_le ⟨op,a,b,n⟩ s.time n;refine⟨_,hu.1,hu.2,?_⟩
 unfold stepO;rw [hr,dec_enc ha hb hn];dsimp only;rw [if_neg (show ¬ (op=5∧_) from fun h=>h0.2.1 h.1),if_neg (show ¬ op=0 by omega),if_neg (show ¬ (op=6∧s.taken=s.tape.length) from fun h=>h6 h.1 h.2),if_neg (show ¬ (op=7∧s.printed.length=200) from fun h=>h7 h.1 h.2),hw];rw [if_neg (show ¬ ((0:Int)=0∧1000000000 < untilO ⟨op,a,b,n⟩ s.time n) from fun h=>by have:=h.2;omega),if_pos rfl]
theorem run_step {n:Nat} {s:OrS} (h:s.why=0):runO (n+1) s=runO n (stepO s):=by rw [runO,if_pos h]
theorem step_halt {s:OrS} (hr:rdO s s.at_=0):stepO s={ s with why:=1 }:=by
 have e:decO 0=⟨0,0,0,0⟩:=by decide
 unfold stepO;rw [hr,e];simp
theorem run_stop:∀ (n:Nat) {s:OrS},s.why≠0→runO n s=s
 | 0,_,_=>rfl
 | n+1,s,h=>by rw [runO,if_neg h]
end FoT
namespace FoT
theorem rd_wr {s:OrS} {a b v:Int} (ha:0≤a) (hb:0≤b) (hl:b < s.store.length):rdO (wrO s b v) a=if a=b then v else rdO s a:=by
 unfold rdO wrO;dsimp only;rw [List.getD_eq_getElem?_getD,List.getD_eq_getElem?_getD,List.getElem?_set];by_cases h:a=b
 ·subst h;rw [if_pos rfl,if_pos rfl,if_pos (by omega)];rfl
 ·rw [if_neg h,if_neg (by omega)]
theorem wr_len (s:OrS) (b v:Int):(wrO s b v).store.length=s.store.length:=by simp [wrO]
structure MI (P:List Int) (o pl:Int) (nv:Nat) (tape W C st:List Int) (k:Nat) (s:OrS):Prop where
 why:s.why=0
 at_:s.at_=k
 done:s.done=k
 len:s.store.length=128
 code:∀ j (h:j < P.length),rdO s (j:Int)=P[j]
 vars:∀ j (h:j < W.length),rdO s (o+j)=W[j]
 cons:∀ j (h:j < C.length),rdO s (o+nv+j)=C[j]
 pile:∀ j (h:j < st.length),rdO s (pl+j)=st[j]
 time:0≤s.time∧s.time≤100+100 * k
 tp:s.tape=tape
 tk:s.taken=W.length
 pr:s.printed=[]
theorem sgn_add (x y:Int):(sgnW x+sgnW y) % 16777216=(x+y) % 16777216:=by unfold sgnW;split <;> split <;> omega
theorem sgn_sub (x y:Int):(sgnW x - sgnW y) % 16777216=(x - y) % 16777216:=by unfold sgnW;split <;> split <;> omega
section
variable {P tape W C st:List Int} {o pl:Int} {nv k:Nat} {s:OrS}
theorem MI.push (h:MI P o pl nv tape W C st k s) (hP:P.length≤o) (hkP:k < P.length) (ho:0≤o) (hW:W.length≤nv) (hC:o+nv+C.length≤pl) (hs:pl+st.length≤127) {a v:Int} (ha:0≤a∧a≤127) (hk:k≤100)
  (he:P[k]=encW 1 a (pl+st.length) (k+1)) (hv:rdO s a=v):MI P o pl nv tape W C (st ++ [v]) (k+1) (stepO s):=by
 have hr:rdO s s.at_=encW 1 a (pl+st.length) ((k:Int)+1):=by rw [h.at_,h.code k hkP,he]
 obtain⟨t,t1,t2,e⟩:=step_on h.why hr ha ⟨by omega,hs⟩ ⟨by omega,by omega⟩ (by decide) (fun x=>by cases x) (fun x=>by cases x) (by have:=h.time;omega);have hd:doO s ⟨1,a,pl+st.length,(k:Int)+1⟩=wrO s (pl+st.length) v:=by unfold doO;rw [if_pos rfl,hv]
 rw [hd] at e;have hl:=h.len;have R:∀ x:Int,0≤x→x≠pl+st.length→rdO (stepO s) x=rdO s x:=by
  intro x h0 h1;rw [e];show rdO (wrO s (pl+st.length) v) x=_
  rw [rd_wr h0 (by omega) (by omega),if_neg h1]
 refine⟨by rw [e],by rw [e];push_cast;rfl,by rw [e];show s.done+1=_;rw [h.done];push_cast;rfl,by rw [e];show (wrO s _ v).store.length=_;rw [wr_len,hl],?_,?_,?_,?_,?_,by rw [e];exact h.tp,by rw [e];exact h.tk,by rw [e];exact h.pr⟩
 ·intro j hj;rw [R _ (by omega) (by omega)];exact h.code j hj
 ·intro j hj;rw [R _ (by omega) (by omega)];exact h.vars j hj
 ·intro j hj;rw [R _ (by omega) (by omega)];exact h.cons j hj
 ·intro j hj;rw [List.length_append,List.length_singleton] at hj;by_cases hjs:j < st.length
  ·rw [R _ (by omega) (by omega),h.pile j hjs,List.getElem_append_left hjs]
  ·have:j=st.length:=by omega
   subst this;rw [List.getElem_append_right (Nat.le_refl _)];simp only [Nat.sub_self,List.getElem_singleton];rw [e];show rdO (wrO s (pl+st.length) v) _=_
   rw [rd_wr (by omega) (by omega) (by omega),if_pos rfl]
 ·rw [e];have:=h.time;show 0≤t∧t≤_
  push_cast;omega
theorem MI.oper {r:List Int} {x y:Int} (h:MI P o pl nv tape W C (r ++ [x,y]) k s) (hP:P.length≤o) (hkP:k < P.length) (ho:0≤o) (hW:W.length≤nv) (hC:o+nv+C.length≤pl) (hs:pl+r.length+1≤127) (hk:k≤100) {kd:Int} (hkd:kd=3∨kd=4∨kd=5)
  (he:P[k]=encW (kd - 1) (pl+r.length+1) (pl+r.length) (k+1)):MI P o pl nv tape W C (r ++ [opV kd (sgnW x) (sgnW y) % 16777216]) (k+1) (stepO s):=by
 have hr:rdO s s.at_=encW (kd - 1) (pl+r.length+1) (pl+r.length) ((k:Int)+1):=by rw [h.at_,h.code k hkP,he]
 obtain⟨t,t1,t2,e⟩:=step_on h.why hr ⟨by omega,hs⟩ ⟨by omega,by omega⟩ ⟨by omega,by omega⟩ (by omega) (fun q=>by omega) (fun q=>by omega) (by have:=h.time;omega);have hx:rdO s (pl+r.length)=x:=by
  rw [h.pile r.length (by simp),List.getElem_append_right (Nat.le_refl _)];simp
 have hy:rdO s (pl+r.length+1)=y:=by
  have:=h.pile (r.length+1) (by simp);rw [List.getElem_append_right (by omega)] at this;rw [show pl+(r.length:Int)+1=pl+((r.length+1:Nat):Int) by push_cast;omega,this];simp
 have hd:doO s ⟨kd - 1,pl+r.length+1,pl+r.length,(k:Int)+1⟩=wrO s (pl+r.length) (opV kd (sgnW x) (sgnW y) % 16777216):=by
  unfold doO opV;dsimp only;rw [hx,hy];rcases hkd with rfl|rfl|rfl
  ·rw [if_neg (by decide),if_pos (by decide),if_pos rfl,sgn_add]
  ·rw [if_neg (by decide),if_neg (by decide),if_pos (by decide),if_neg (by decide),if_pos rfl,sgn_sub]
  ·rw [if_neg (by decide),if_neg (by decide),if_neg (by decide),if_pos (by decide),if_neg (by decide),if_neg (by decide),Int.mul_comm]
 rw [hd] at e;generalize opV kd (sgnW x) (sgnW y) % 16777216=z at *;have hl:=h.len;have R:∀ q:Int,0≤q→q≠pl+r.length→rdO (stepO s) q=rdO s q:=by
  intro q h0 h1;rw [e];show rdO (wrO s (pl+r.length) z) q=_
  rw [rd_wr h0 (by omega) (by omega),if_neg h1]
 refine⟨by rw [e],by rw [e];push_cast;rfl,by rw [e];show s.done+1=_;rw [h.done];push_cast;rfl,by rw [e];show (wrO s _ z).store.length=_;rw [wr_len,hl],?_,?_,?_,?_,?_,by rw [e];exact h.tp,by rw [e];exact h.tk,by rw [e];exact h.pr⟩
 ·intro j hj;rw [R _ (by omega) (by omega)];exact h.code j hj
 ·intro j hj;rw [R _ (by omega) (by omega)];exact h.vars j hj
 ·intro j hj;rw [R _ (by omega) (by omega)];exact h.cons j hj
 ·intro j hj;rw [List.length_append,List.length_singleton] at hj;by_cases hjs:j < r.length
  ·rw [R _ (by omega) (by omega),h.pile j (by rw [List.length_append];omega),List.getElem_append_left hjs,List.getElem_append_left hjs]
  ·have:j=r.length:=by omega
   subst this;rw [List.getElem_append_right (Nat.le_refl _)];simp only [Nat.sub_self,List.getElem_singleton];rw [e];show rdO (wrO s (pl+r.length) z) _=_
   rw [rd_wr (by omega) (by omega) (by omega),if_pos rfl]
 ·rw [e];have:=h.time;show 0≤t∧t≤_
  push_cast;omega
theorem MI.read (h:MI P o pl nv tape W C [] k s) (hP:P.length≤o) (hkP:k < P.length) (ho:0≤o) (hW:W.length < nv) (hC:o+nv+C.length≤127) (hk:k≤100) {v:Int} (hv:tape[W.length]?=some v)
  (he:P[k]=encW 6 0 (o+W.length) (k+1)):MI P o pl nv tape (W ++ [v]) C [] (k+1) (stepO s):=by
 have hr:rdO s s.at_=encW 6 0 (o+W.length) ((k:Int)+1):=by rw [h.at_,h.code k hkP,he]
 have htl:=(List.getElem?_eq_some_iff.1 hv).1;obtain⟨t,t1,t2,e⟩:=step_on h.why hr ⟨by decide,by decide⟩ ⟨by omega,by omega⟩ ⟨by omega,by omega⟩ (by decide) (fun _=>by rw [h.tk,h.tp];omega) (fun x=>by cases x) (by have:=h.time;omega);have hd:doO s ⟨6,0,o+W.length,(k:Int)+1⟩={ wrO s (o+W.length) v with taken:=s.taken+1 }:=by
  unfold doO;dsimp only;rw [if_neg (by decide),if_neg (by decide),if_neg (by decide),if_neg (by decide),if_pos rfl,h.tk,h.tp,Int.toNat_natCast,List.getD_eq_getElem?_getD,hv];rfl
 rw [hd] at e;have hl:=h.len;have R:∀ q:Int,0≤q→q≠o+W.length→rdO (stepO s) q=rdO s q:=by
  intro q h0 h1;rw [e];show rdO (wrO s (o+W.length) v) q=_
  rw [rd_wr h0 (by omega) (by omega),if_neg h1]
 refine⟨by rw [e],by rw [e];push_cast;rfl,by rw [e];show s.done+1=_;rw [h.done];push_cast;rfl,by rw [e];show (wrO s _ v).store.length=_;rw [wr_len,hl],?_,?_,?_,fun j hj=>by simp at hj,?_,by rw [e];exact h.tp,by rw [e];show s.taken+1=_;rw [h.tk,List.length_append];rfl,by rw [e];exact h.pr⟩
 ·intro j hj;rw [R _ (by omega) (by omega)];exact h.code j hj
 ·intro j hj;rw [List.length_append,List.length_singleton] at hj;by_cases hjs:j < W.length
  ·rw [R _ (by omega) (by omega),h.vars j hjs,List.getElem_append_left hjs]
  ·have:j=W.length:=by omega
   subst this;rw [List.getElem_append_right (Nat.le_refl _)];simp only [Nat.sub_self,List.getElem_singleton];rw [e];show rdO (wrO s (o+W.length) v) _=_
   rw [rd_wr (by omega) (by omega) (by omega),if_pos rfl]
 ·intro j hj;rw [R _ (by omega) (by omega)];exact h.cons j hj
 ·rw [e];have:=h.time;show 0≤t∧t≤_
  push_cast;omega
theorem MI.print {v:Int} (h:MI P o pl nv tape W C [v] k s) (hkP:k < P.length) (hk:k≤100) (hpl:0≤pl∧pl≤127) (he:P[k]=encW 7 pl 0 (k+1)) (hz:rdO s ((k:Int)+1)=0) (n:Nat) :
  ∃ t,runO (n+2) s=⟨s.store,tape,W.length,[v],t,(k:Int)+1,(k:Int)+1,1⟩:=by
 have hr:rdO s s.at_=encW 7 pl 0 ((k:Int)+1):=by rw [h.at_,h.code k hkP,he]
 obtain⟨t,t1,t2,e⟩:=step_on h.why hr hpl ⟨by decide,by decide⟩ ⟨by omega,by omega⟩ (by decide) (fun x=>by cases x) (fun _=>by rw [h.pr];decide) (by have:=h.time;omega);have hx:rdO s pl=v:=by
  have:=h.pile 0 (by simp);simpa using this
 have hd:doO s ⟨7,pl,0,(k:Int)+1⟩={ s with printed:=[v] }:=by
  unfold doO;dsimp only;rw [if_neg (by decide),if_neg (by decide),if_neg (by decide),if_neg (by decide),if_neg (by decide),if_pos rfl,hx,h.pr];rfl
 rw [hd] at e;refine⟨t,?_⟩
 rw [run_step h.why,run_step (by rw [e]),step_halt (by rw [e];exact hz),run_stop _ (show (1:Int)≠0 by decide),e];simp only [h.tp,h.tk,h.done]
end
end FoT
namespace FoT
def Sub (x y:RangeT):Prop:=y.lo≤x.lo∧x.lo≤x.hi∧x.hi≤y.hi∧0≤x.err∧x.err≤y.err
def SubL:List RangeT→List RangeT→Prop
 | [],[]=>True
 | x::r,y::q=>Sub x y∧SubL r q
 | _,_=>False
theorem SubL.len:∀ {a b:List RangeT},SubL a b→a.length=b.length
 | [],[],_=>rfl
 | x::r,y::q,h=>by simp [SubL.len h.2]
 | [],_::_,h=>h.elim
 | _::_,[],h=>h.elim
theorem SubL.app:∀ {a b c d:List RangeT},SubL a b→SubL c d→SubL (a ++ c) (b ++ d)
 | [],[],_,_,_,h=>h
 | x::r,y::q,_,_,h,g=>⟨h.1,SubL.app h.2 g⟩
 | [],_::_,_,_,h,_=>h.elim
 | _::_,[],_,_,h,_=>h.elim
theorem SubL.take:∀ {a b:List RangeT} (k:Nat),SubL a b→SubL (a.take k) (b.take k)
 | _,_,0,_=>by simp [SubL]
 | [],[],k+1,_=>by simp [SubL]
 | x::r,y::q,k+1,h=>by rw [List.take_succ_cons,List.take_succ_cons];exact⟨h.1,SubL.take k h.2⟩
 | [],_::_,_+1,h=>h.elim
 | _::_,[],_+1,h=>h.elim
theorem sub_zero:Sub zaI zaI:=by unfold Sub zaI;decide
theorem SubL.getD:∀ {a b:List RangeT} (k:Nat),SubL a b→Sub (a.getD k zaI) (b.getD k zaI)
 | [],[],_,_=>sub_zero
 | x::r,y::q,0,h=>h.1
 | x::r,y::q,k+1,h=>by rw [List.getD_cons_succ,List.getD_cons_succ];exact SubL.getD k h.2
 | [],_::_,_,h=>h.elim
 | _::_,[],_,h=>h.elim
theorem zmJ {x y:RangeT} (h:Sub x y):0≤farR x∧farR x≤farR y:=by
 unfold Sub at h;unfold farR;omega
theorem zjo {a b c d:Int} (h0:0≤a) (h1:a≤b) (h2:0≤c) (h3:c≤d):a * c≤b * d:=Int.mul_le_mul h1 h3 h2 (Int.le_trans h0 h1)
theorem zqf {x y u v:RangeT} (h:Sub x y) (g:Sub u v):0≤(zT 5 x u).err∧(zT 5 x u).err≤(zT 5 y v).err:=by
 obtain⟨f0,f1⟩:=zmJ h;obtain⟨g0,g1⟩:=zmJ g;obtain⟨_,_,_,h4,h5⟩:=h;obtain⟨_,_,_,g4,g5⟩:=g;have a1:=zjo f0 f1 g4 g5;have a2:=zjo g0 g1 h4 h5;have a3:=zjo h4 h5 g4 g5;have b1:=Int.mul_nonneg f0 g4;have b2:=Int.mul_nonneg g0 h4;have b3:=Int.mul_nonneg h4 g4;have key:∀ p q r p' q' r':Int,0≤p→0≤q→0≤r→p≤p'→q≤q'→r≤r'→0≤(2 * p+2 * q+r+16777215) / 16777216+2∧(2 * p+2 * q+r+16777215) / 16777216+2≤(2 * p'+2 * q'+r'+16777215) / 16777216+2:=by
  intro p q r p' q' r' _ _ _ _ _ _;omega
 have:=key _ _ _ _ _ _ b1 b2 b3 a1 a2 a3;unfold zT;dsimp only;rw [if_pos rfl,if_pos rfl,Int.mul_assoc,Int.mul_assoc,Int.mul_assoc,Int.mul_assoc];exact this
theorem zoa {k:Int} {x y u v:RangeT} (h:Sub x y) (g:Sub u v):Sub (zT k x u) (zT k y v):=by
 have e:=zqf h g;have h':=h;have g':=g;obtain⟨h1,h2,h3,h4,h5⟩:=h;obtain⟨g1,g2,g3,g4,g5⟩:=g;have c1:=zig (k:=k) h1 (Int.le_trans h2 h3) g1 (Int.le_trans g2 g3);have c2:=zig (k:=k) h1 (Int.le_trans h2 h3) (Int.le_trans g1 g2) g3;have c3:=zig (k:=k) (Int.le_trans h1 h2) h3 g1 (Int.le_trans g2 g3);have c4:=zig (k:=k) (Int.le_trans h1 h2) h3 (Int.le_trans g1 g2) g3;have hE:0≤(zT k x u).err∧(zT k x u).err≤(zT k y v).err:=by
  by_cases k5:k=5
  ·rw [k5];exact e
  ·unfold zT;dsimp only;rw [if_neg k5,if_neg k5];omega
 refine⟨?_,?_,?_,hE.1,hE.2⟩
 ·show min4 _ _ _ _≤min4 _ _ _ _
  generalize min4 (opV k y.lo v.lo) (opV k y.lo v.hi) (opV k y.hi v.lo) (opV k y.hi v.hi)=m at c1 c2 c3 c4 ⊢;unfold min4;omega
 ·show min4 _ _ _ _≤max4 _ _ _ _
  unfold min4 max4;omega
 ·show max4 _ _ _ _≤max4 _ _ _ _
  generalize max4 (opV k y.lo v.lo) (opV k y.lo v.hi) (opV k y.hi v.lo) (opV k y.hi v.hi)=m at c1 c2 c3 c4 ⊢;unfold max4;omega
theorem zmE {x y:RangeT} (h:Sub x y) (g:¬ (zC y.lo=true∨zC y.hi=true)):¬ (zC x.lo=true∨zC x.hi=true):=by
 obtain⟨h1,h2,h3,_,_⟩:=h;unfold zC at g ⊢;simp only [Bool.or_eq_true,decide_eq_true_eq] at g ⊢;omega
def SubP (x y:SpanT):Prop:=y.lo≤x.lo∧x.lo≤x.hi∧x.hi≤y.hi
theorem zdS (n:FNode):0≤zdz n:=by unfold zdz;split <;> decide
theorem znU {less spans:List SpanT} (h:∀ i:Nat,SubP (less.getD i ⟨0,0⟩) (spans.getD i ⟨0,0⟩)) (n:FNode):Sub (zbB less n) (zbB spans n):=by
 unfold zbB;by_cases k1:n.kind=1
 ·rw [if_pos k1,if_pos k1];obtain⟨a,b,c⟩:=h n.var.toNat;exact⟨a,b,c,Int.le_refl _,Int.le_refl _⟩
 ·rw [if_neg k1,if_neg k1];exact⟨Int.le_refl _,Int.le_refl _,Int.le_refl _,zdS n,Int.le_refl _⟩
theorem zjf {less spans:List SpanT} (h:∀ i:Nat,SubP (less.getD i ⟨0,0⟩) (spans.getD i ⟨0,0⟩)):∀ (code:List FNode) (i:Nat) (st' st out:List RangeT),SubL st' st→rngS spans i code st=.ok out→∃ out',rngS less i code st'=.ok out'∧SubL out' out
 | [],i,st',st,out,hs,ho=>by cases ho;exact⟨_,rfl,hs⟩
 | n::r,i,st',st,out,hs,ho=>by
  rw [rngS] at ho ⊢;split at ho
  ·rename_i hk;rw [if_pos hk];exact zjf h r _ _ _ _ (SubL.app (c:=[_]) (d:=[_]) hs ⟨znU h n,trivial⟩) ho
  ·rename_i hk;rw [if_neg hk];dsimp only at ho ⊢;rw [hs.len];have hj:=zoa (k:=n.kind) (SubL.getD (st.length - 2) hs) (SubL.getD (st.length - 1) hs);split at ho
   ·cases ho
   ·rename_i hg;rw [if_neg (zmE hj hg)];exact zjf h r _ _ _ _ (SubL.app (c:=[_]) (d:=[_]) (SubL.take _ hs) ⟨hj,trivial⟩) ho
theorem zbv:∀ {l:List SpanT} {i:Nat},zaF l i=none↔∀ s ∈ l,zC s.lo=false∧zC s.hi=false∧s.lo≤s.hi
 | [],_=>by simp [zaF]
 | s::r,i=>by
  rw [zaF];split
  ·rename_i h;refine⟨fun e=>(by cases e),fun e=>?_⟩
   have:=e s (by simp);rw [this.1,this.2.1] at h;rcases h with h|h <;> cases h
  ·rename_i h;rw [not_or,Bool.not_eq_true,Bool.not_eq_true] at h;split
   ·rename_i h2;refine⟨fun e=>(by cases e),fun e=>?_⟩
    have:=e s (by simp);omega
   ·rename_i h2;rw [zbv (l:=r)];simp only [List.mem_cons,forall_eq_or_imp];refine⟨fun e=>⟨⟨h.1,h.2,by omega⟩,e⟩,fun e=>e.2⟩
theorem zhq {f:FormT} {spans:List SpanT} (h:(z8 f spans).2.2=0):zD f=0∧spans.length=f.vars.length∧(∀ s ∈ spans,zC s.lo=false∧zC s.hi=false∧s.lo≤s.hi)∧∃ st,rngS spans 0 f.code []=.ok st∧z8 f spans=(st.getD 0 zaI,0,0):=by
 unfold z8 at h ⊢;by_cases h1:zD f≠0
 ·rw [if_pos h1] at h;exact absurd h h1
 rw [if_neg h1] at h ⊢;by_cases h2:spans.length≠f.vars.length
 ·rw [if_pos h2] at h;cases h
 rw [if_neg h2] at h ⊢;cases h3:zaF spans 0 with
 | some p=>
  obtain⟨i,e⟩:=p;rw [h3] at h;dsimp only at h;subst h;exfalso;have key:∀ (l:List SpanT) (j:Nat),zaF l j=some (i,0)→False:=by
   intro l;induction l with
   | nil=>intro j hj;cases hj
   | cons s r ih=>
    intro j hj;rw [zaF] at hj;split at hj
    ·cases hj
    ·split at hj
     ·cases hj
     ·exact ih _ hj
  exact key _ _ h3
 | none=>
  rw [h3] at h;dsimp only at h ⊢;cases h4:rngS spans 0 f.code [] with
  | error i=>rw [h4] at h;cases h
  | ok st=>exact⟨by simpa using h1,by simpa using h2,zbv.1 h3,st,rfl,rfl⟩
theorem zi2 {f:FormT} {spans less:List SpanT} (h:(z8 f spans).2.2=0) (hl:less.length=spans.length) (hs:∀ i (h1:i < less.length) (h2:i < spans.length),SubP less[i] spans[i]) :
  (z8 f less).2.2=0∧(z8 f spans).1.lo≤(z8 f less).1.lo∧(z8 f less).1.hi≤(z8 f spans).1.hi∧(z8 f less).1.err≤(z8 f spans).1.err:=by
 obtain⟨hc,hlen,hsp,st,hst,he⟩:=zhq h;have hD:∀ i:Nat,SubP (less.getD i ⟨0,0⟩) (spans.getD i ⟨0,0⟩):=fun i=>by
  by_cases hi:i < less.length
  ·have h2:i < spans.length:=by omega
   have:=hs i hi h2;rw [List.getD_eq_getElem?_getD,List.getD_eq_getElem?_getD,List.getElem?_eq_getElem hi,List.getElem?_eq_getElem h2];exact this
  ·rw [List.getD_eq_getElem?_getD,List.getD_eq_getElem?_getD,List.getElem?_eq_none (by omega),List.getElem?_eq_none (by omega)];exact⟨Int.le_refl _,Int.le_refl _,Int.le_refl _⟩
 obtain⟨st',h1,h2⟩:=zjf hD f.code 0 [] [] st trivial hst;have hb:zaF less 0=none:=zbv.2 fun s hm=>by
  obtain⟨i,hi,rfl⟩:=List.getElem_of_mem hm;have h2:i < spans.length:=by omega
  obtain⟨a,b,c⟩:=hs i hi h2;obtain⟨d,e,g⟩:=hsp _ (List.getElem_mem h2);unfold zC at d e ⊢;simp only [Bool.or_eq_false_iff,decide_eq_false_iff_not] at d e ⊢;omega
 have e2:z8 f less=(st'.getD 0 zaI,0,0):=by
  unfold z8;rw [if_neg (by simpa using hc),if_neg (by simpa using hl.trans hlen),hb];dsimp only;rw [h1]
 rw [e2,he];obtain⟨a,b,c,d,e⟩:=SubL.getD 0 h2;exact⟨rfl,a,c,e⟩
end FoT
namespace FoT
abbrev Fr2:=Int × Int
def zjr (units:List Int) (_:Nat) (n:FNode):Fr2:=if n.kind=1 then (units.getD n.var.toNat 0,1) else (n.num * 8388608,ten n)
def zgz (_:Nat) (n:FNode) (a b:Fr2):Fr2:=
 if n.kind=3 then (a.1 * b.2+b.1 * a.2,a.2 * b.2)
 else if n.kind=4 then (a.1 * b.2 - b.1 * a.2,a.2 * b.2)
 else (a.1 * b.1,a.2 * b.2 * 8388608)
def ziE (f:FormT) (units:List Int):Fr2:=(zaN (0,1) (zjr units) zgz 0 f.code []).getD 0 (0,1)
def zcu (s e:Int) (x:Fr2):Prop:=2 * s * x.2 - 2 * x.1≤e * x.2∧2 * x.1 - 2 * s * x.2≤e * x.2
def In3 (w:Int) (x:RangeT) (y:Fr2):Prop:=zP w∧-8388608≤x.lo∧x.lo≤sgnW w∧sgnW w≤x.hi∧x.hi≤8388607∧0≤x.err∧0 < y.2∧zcu (sgnW w) x.err y
theorem zno {n:Int} (h1 : -8388608≤n) (h2:n≤8388607):zP (n % 16777216)∧sgnW (n % 16777216)=n:=by
 unfold zP sgnW;split <;> omega
theorem zdv {u x c:Int} (h1:u≤x) (h2 : -u≤x) (hc:0≤c):u * c≤x * c∧-(u * c)≤x * c:=by
 refine⟨Int.mul_le_mul_of_nonneg_right h1 hc,?_⟩
 rw [← Int.neg_mul];exact Int.mul_le_mul_of_nonneg_right h2 hc
theorem zhK {u v x y:Int} (h1:u≤x) (h2 : -u≤x) (h3:v≤y) (h4 : -v≤y):u * v≤x * y∧-(u * v)≤x * y:=by
 have hx:0≤x:=by omega
 have hy:0≤y:=by omega
 rcases Int.le_total 0 v with hv|hv
 ·have a:=zdv h1 h2 hv;have b:=Int.mul_le_mul_of_nonneg_left h3 hx;omega
 ·have hv':0≤-v:=by omega
  have a:=zdv h1 h2 hv';have b:=Int.mul_le_mul_of_nonneg_left h4 hx;rw [Int.mul_neg] at a;omega
theorem zka {s t e g:Int} {x y:Fr2} (hx:0 < x.2) (hy:0 < y.2) (h1:zcu s e x) (h2:zcu t g y):zcu (s+t) (e+g) (x.1 * y.2+y.1 * x.2,x.2 * y.2):=by
 obtain⟨p,q⟩:=x;obtain⟨r,u⟩:=y;unfold zcu at *;dsimp only at *;have a1:=Int.mul_le_mul_of_nonneg_right h1.1 (Int.le_of_lt hy);have a2:=Int.mul_le_mul_of_nonneg_right h1.2 (Int.le_of_lt hy);have b1:=Int.mul_le_mul_of_nonneg_right h2.1 (Int.le_of_lt hx);have b2:=Int.mul_le_mul_of_nonneg_right h2.2 (Int.le_of_lt hx);have e1:2 * (s+t) * (q * u) - 2 * (p * u+r * q)=(2 * s * q - 2 * p) * u+(2 * t * u - 2 * r) * q:=by grind
 have e2:2 * (p * u+r * q) - 2 * (s+t) * (q * u)=(2 * p - 2 * s * q) * u+(2 * r - 2 * t * u) * q:=by grind
 have e3:(e+g) * (q * u)=e * q * u+g * u * q:=by grind
 rw [e1,e2,e3];omega
theorem znP {t g:Int} {y:Fr2} (h:zcu t g y):zcu (-t) g (-y.1,y.2):=by
 unfold zcu at *;dsimp only;have e:2 * -t * y.2 = -(2 * t * y.2):=by grind
 rw [e];omega
theorem znQ {s t e g f1 f2 w E:Int} {x y:Fr2} (hx:0 < x.2) (hy:0 < y.2) (he:0≤e) (hg:0≤g) (h1:zcu s e x) (h2:zcu t g y) (hs1:s≤f1) (hs2 : -s≤f1) (ht1:t≤f2) (ht2 : -t≤f2)
  (hw:w=s * t / 8388608) (hE:2 * f1 * g+2 * f2 * e+e * g+33554432≤16777216 * E):zcu w E (x.1 * y.1,x.2 * y.2 * 8388608):=by
 obtain⟨p,q⟩:=x;obtain⟨r,u⟩:=y;dsimp only at *;have hqu:0 < q * u:=Int.mul_pos hx hy;obtain⟨d,hd,hd0,hd1⟩:∃ d,s * t=8388608 * w+d∧0≤d∧d < 8388608:=⟨s * t % 8388608,by omega,by omega,by omega⟩;unfold zcu at h1 h2;dsimp only at h1 h2;generalize hU:2 * s * q - 2 * p=U at h1;generalize hV:2 * t * u - 2 * r=V at h2;have hU2 : -U≤e * q:=by have:=h1.2;omega
 have hV2 : -V≤g * u:=by have:=h2.2;omega
 have c1:=zhK hs1 hs2 h2.1 hV2;have c2:=zhK ht1 ht2 h1.1 hU2;have c3:=zhK h1.1 hU2 h2.1 hV2;have m1:=zdv (u:=s * V) (x:=f1 * (g * u)) (c:=q) c1.1 c1.2 (Int.le_of_lt hx);have m2:=zdv (u:=t * U) (x:=f2 * (e * q)) (c:=u) c2.1 c2.2 (Int.le_of_lt hy);have m4:=Int.mul_le_mul_of_nonneg_right hE (Int.le_of_lt hqu);have d1:0≤d * (q * u):=Int.mul_nonneg hd0 (Int.le_of_lt hqu);have d2:d * (q * u)≤8388608 * (q * u):=Int.mul_le_mul_of_nonneg_right (by omega) (Int.le_of_lt hqu);have key:4 * (p * r)=4 * (s * t) * (q * u) - 2 * (s * V * q) - 2 * (t * U * u)+U * V:=by
  have e1:2 * p=2 * s * q - U:=by omega
  have e2:2 * r=2 * t * u - V:=by omega
  have:(2 * p) * (2 * r)=(2 * s * q - U) * (2 * t * u - V):=by rw [e1,e2]
  grind
 rw [hd] at key;have key2:4 * (p * r)=33554432 * (w * (q * u))+4 * (d * (q * u)) - 2 * (s * V * q) - 2 * (t * U * u)+U * V:=by grind
 have n1:f1 * (g * u) * q=f1 * g * (q * u):=by grind
 have n2:f2 * (e * q) * u=f2 * e * (q * u):=by grind
 have n3:e * q * (g * u)=e * g * (q * u):=by grind
 have n4:(2 * f1 * g+2 * f2 * e+e * g+33554432) * (q * u)=2 * (f1 * g * (q * u))+2 * (f2 * e * (q * u))+e * g * (q * u)+33554432 * (q * u):=by grind
 have n5:16777216 * E * (q * u)=2 * (E * (q * u * 8388608)):=by grind
 have n6:2 * w * (q * u * 8388608)=16777216 * (w * (q * u)):=by grind
 rw [n1] at m1;rw [n2] at m2;rw [n3] at c3;rw [n4,n5] at m4;unfold zcu;dsimp only;rw [n6];generalize w * (q * u)=W at *;generalize d * (q * u)=D at *;generalize s * V * q=A at *;generalize t * U * u=B at *;generalize U * V=C at *;generalize f1 * g * (q * u)=F at *;generalize f2 * e * (q * u)=G at *;generalize e * g * (q * u)=H at *;generalize E * (q * u * 8388608)=X at *;generalize q * u=Q at *;generalize p * r=PR at *;omega
def In3L:List Int→List RangeT→List Fr2→Prop
 | [],[],[]=>True
 | a::r,b::q,c::s=>In3 a b c∧In3L r q s
 | _,_,_=>False
theorem In3L.len:∀ {a b c},In3L a b c→a.length=b.length∧c.length=b.length
 | [],[],[],_=>⟨rfl,rfl⟩
 | a::r,b::q,c::s,h=>by simp [(In3L.len h.2).1,(In3L.len h.2).2]
 | [],[],_::_,h=>h.elim
 | [],_::_,_,h=>h.elim
 | _::_,[],_,h=>h.elim
 | _::_,_::_,[],h=>h.elim
theorem In3L.app:∀ {a b c a' b' c'},In3L a b c→In3L a' b' c'→In3L (a ++ a') (b ++ b') (c ++ c')
 | [],[],[],_,_,_,_,h=>h
 | a::r,b::q,c::s,_,_,_,h,g=>⟨h.1,In3L.app h.2 g⟩
 | [],[],_::_,_,_,_,h,_=>h.elim
 | [],_::_,_,_,_,_,h,_=>h.elim
 | _::_,[],_,_,_,_,h,_=>h.elim
 | _::_,_::_,[],_,_,_,h,_=>h.elim
theorem In3L.take:∀ {a b c} (k:Nat),In3L a b c→In3L (a.take k) (b.take k) (c.take k)
 | _,_,_,0,_=>by simp [In3L]
 | [],[],[],k+1,_=>by simp [In3L]
 | a::r,b::q,c::s,k+1,h=>by rw [List.take_succ_cons,List.take_succ_cons,List.take_succ_cons];exact⟨h.1,In3L.take k h.2⟩
 | [],[],_::_,_+1,h=>h.elim
 | [],_::_,_,_+1,h=>h.elim
 | _::_,[],_,_+1,h=>h.elim
 | _::_,_::_,[],_+1,h=>h.elim
theorem zof:In3 0 zaI (0,1):=by unfold In3 zP sgnW zaI zcu;decide
theorem In3L.getD:∀ {a b c} (k:Nat),In3L a b c→In3 (a.getD k 0) (b.getD k zaI) (c.getD k (0,1))
 | [],[],[],_,_=>zof
 | a::r,b::q,c::s,0,h=>h.1
 | a::r,b::q,c::s,k+1,h=>by rw [List.getD_cons_succ,List.getD_cons_succ,List.getD_cons_succ];exact In3L.getD k h.2
 | [],[],_::_,_,h=>h.elim
 | [],_::_,_,_,h=>h.elim
 | _::_,[],_,_,h=>h.elim
 | _::_,_::_,[],_,h=>h.elim
theorem zo4 {x:RangeT} {s:Int} (h1:x.lo≤s) (h2:s≤x.hi):s≤farR x∧-s≤farR x:=by
 unfold farR;omega
theorem zob {k:Int} (hk:k=3∨k=4∨k=5) {i:Nat} {a b:Int} {x y:RangeT} {u v:Fr2} (h:In3 a x u) (g:In3 b y v) (hg:¬ (zC (zT k x y).lo=true∨zC (zT k x y).hi=true)) (n:FNode) (hn:n.kind=k) :
  In3 (zdQ i n a b) (zT k x y) (zgz i n u v):=by
 obtain⟨h1,h2,h3,h4,h5,h6,h7,h8⟩:=h;obtain⟨g1,g2,g3,g4,g5,g6,g7,g8⟩:=g;have hb:=zig (k:=k) h3 h4 g3 g4;unfold zC at hg;simp only [Bool.or_eq_true,decide_eq_true_eq] at hg;have hlo : -8388608≤(zT k x y).lo:=by omega
 have hhi:(zT k x y).hi≤8388607:=by omega
 have hb1:(zT k x y).lo≤opV k (sgnW a) (sgnW b):=hb.1;have hb2:opV k (sgnW a) (sgnW b)≤(zT k x y).hi:=hb.2;obtain⟨w1,w2⟩:=zno (Int.le_trans hlo hb1) (Int.le_trans hb2 hhi);have hjw:zdQ i n a b=opV k (sgnW a) (sgnW b) % 16777216:=by unfold zdQ;rw [hn]
 rw [hjw];have fx:=zo4 h3 h4;have fy:=zo4 g3 g4;have hX:0 < (zgz i n u v).2:=by
  unfold zgz;have hp:=Int.mul_pos h7 g7;split
  ·exact hp
  ·split
   ·exact hp
   ·show 0 < u.2 * v.2 * 8388608;omega
 have f0:0≤farR x:=by omega
 have f1:0≤farR y:=by omega
 have p1:=Int.mul_nonneg f0 g6;have p2:=Int.mul_nonneg f1 h6;have p3:=Int.mul_nonneg h6 g6;have hE:0≤(zT k x y).err∧zcu (opV k (sgnW a) (sgnW b)) (zT k x y).err (zgz i n u v):=by
  unfold zgz;rw [hn];by_cases k3:k=3
  ·subst k3;have e3:(zT 3 x y).err=x.err+y.err:=by unfold zT;dsimp only;rw [if_neg (by decide)]
   rw [e3,if_pos rfl];exact⟨by omega,zka h7 g7 h8 g8⟩
  ·by_cases k4:k=4
   ·subst k4;have e3:(zT 4 x y).err=x.err+y.err:=by unfold zT;dsimp only;rw [if_neg (by decide)]
    rw [e3];refine⟨by omega,?_⟩
    ·rw [if_neg (by decide),if_pos rfl];have:=zka h7 (y:=(-v.1,v.2)) g7 h8 (znP g8);have e:(u.1 * v.2 + -v.1 * u.2,u.2 * v.2)=(u.1 * v.2 - v.1 * u.2,u.2 * v.2):=by
      congr 1;grind
     dsimp only at this;rw [e] at this;have e2:opV 4 (sgnW a) (sgnW b)=sgnW a + -sgnW b:=by unfold opV;rw [if_neg (by decide),if_pos rfl];omega
     rw [e2];exact this
   ·rw [if_neg k3,if_neg k4];have e2:opV k (sgnW a) (sgnW b)=sgnW a * sgnW b / 8388608:=by unfold opV;rw [if_neg k3,if_neg k4]
    by_cases k5:k=5
    ·subst k5;have hee:(zT 5 x y).err=(2 * farR x * y.err+2 * farR y * x.err+x.err * y.err+16777215) / 16777216+2:=by unfold zT;rw [if_pos rfl]
     rw [Int.mul_assoc,Int.mul_assoc 2 (farR y)] at hee;refine⟨by omega,?_⟩
     refine znQ h7 g7 h6 g6 h8 g8 fx.1 fx.2 fy.1 fy.2 e2 ?_
     rw [Int.mul_assoc,Int.mul_assoc 2 (farR y)];omega
    ·exact absurd hk (by rintro (h|h|h) <;> contradiction)
 refine⟨w1,hlo,by rw [w2];exact hb1,by rw [w2];exact hb2,hhi,hE.1,hX,?_⟩
 rw [w2];exact hE.2
theorem zne {t m:Int} (hT:t=10∨t=100∨t=1000∨t=10000∨t=100000∨t=1000000) (h0:0≤m) (hlt:m≤t - 1):0≤(m * 8388608+t / 2) / t∧(m * 8388608+t / 2) / t≤8388607∧0 < t ∧
  (2 * ((m * 8388608+t / 2) / t) * t - 2 * (m * 8388608)≤(if m * 8388608 % t=0 then 0 else 1) * t∧2 * (m * 8388608) - 2 * ((m * 8388608+t / 2) / t) * t≤(if m * 8388608 % t=0 then 0 else 1) * t):=by
 obtain⟨h,hh,ht⟩:∃ h,t=2 * h∧0 < h:=by exact⟨t / 2,by omega,by omega⟩
 have hh2:t / 2=h:=by omega
 have ht6:t≤1000000:=by omega
 have d1:=Int.mul_ediv_add_emod (m * 8388608+h) t;have d2:=Int.emod_nonneg (m * 8388608+h) (show t≠0 by omega);have d3:=Int.emod_lt_of_pos (m * 8388608+h) (show 0 < t by omega);rw [hh2];generalize hq:(m * 8388608+h) / t=q at *;generalize (m * 8388608+h) % t=r at *;have q0:0≤q:=by rw [← hq];exact Int.ediv_nonneg (by omega) (by omega)
 have q1:q < 8388608:=by
  rw [← hq];refine Int.ediv_lt_of_lt_mul (by omega) ?_
  omega
 rw [show 2 * q * t=2 * (t * q) by rw [Int.mul_assoc,Int.mul_comm q]];refine⟨q0,by omega,by omega,?_⟩
 split
 ·rename_i hz;have e1:=Int.mul_ediv_add_emod (m * 8388608) t;rw [hz] at e1;generalize (m * 8388608) / t=p at e1;have hqp:q=p:=by
   have e2:(m * 8388608+h) / t=p:=by
    rw [← e1,Int.add_zero,Int.mul_add_ediv_left _ _ (by omega),Int.ediv_eq_zero_of_lt (by omega) (by omega),Int.add_zero]
   omega
  subst hqp;omega
 ·omega
theorem zha {n:FNode} (hk:n.kind=2) {nv:Nat} (hf:fine nv n):0≤zbo n∧zbo n≤8388607∧0 < ten n∧zcu (zbo n) (zdz n) (n.num * 8388608,ten n):=by
 unfold fine at hf;rw [if_neg (by omega),if_pos hk] at hf;obtain⟨_,h1,h6,h0,hlt,_⟩:=hf;have hT:ten n=10∨ten n=100∨ten n=1000∨ten n=10000∨ten n=100000∨ten n=1000000:=by
  unfold ten;have:n.places=1∨n.places=2∨n.places=3∨n.places=4∨n.places=5∨n.places=6:=by omega
  rcases this with e|e|e|e|e|e <;> rw [e]
  ·exact .inl rfl
  ·exact .inr (.inl rfl)
  ·exact .inr (.inr (.inl rfl))
  ·exact .inr (.inr (.inr (.inl rfl)))
  ·exact .inr (.inr (.inr (.inr (.inl rfl))))
  ·exact .inr (.inr (.inr (.inr (.inr rfl))))
 have hlt:n.num≤ten n - 1:=by unfold ten;exact hlt
 unfold zbo zdz zcu;exact zne hT h0 hlt
structure LeafOK (words units:List Int) (spans:List SpanT) (nv:Nat):Prop where
 ok:∀ i:Nat,i < nv→zP (words.getD i 0)∧sgnW (words.getD i 0)=units.getD i 0∧(spans.getD i ⟨0,0⟩).lo≤units.getD i 0∧units.getD i 0≤(spans.getD i ⟨0,0⟩).hi∧-8388608≤(spans.getD i ⟨0,0⟩).lo∧(spans.getD i ⟨0,0⟩).hi≤8388607
theorem znW {words units:List Int} {spans:List SpanT} {nv:Nat} (h:LeafOK words units spans nv) {n:FNode} {i:Nat} (hk:n.kind=1∨n.kind=2) (hf:fine nv n):In3 (zcw words i n) (zbB spans n) (zjr units i n):=by
 unfold zcw zbB zjr;by_cases k1:n.kind=1
 ·rw [if_pos k1,if_pos k1,if_pos k1];unfold fine at hf;rw [if_pos k1] at hf;obtain⟨a,b,c,d,e,g⟩:=h.ok n.var.toNat (by omega);refine⟨a,e,by dsimp only;omega,by dsimp only;omega,g,Int.le_refl _,Int.zero_lt_one,?_⟩
  rw [b];unfold zcu;dsimp only;omega
 ·rw [if_neg k1,if_neg k1,if_neg k1];obtain⟨a,b,c,d⟩:=zha (by omega) hf;have hs:sgnW (zbo n)=zbo n:=by unfold sgnW;rw [if_neg (by omega)]
  refine⟨⟨a,by omega⟩,by dsimp only;omega,by rw [hs];exact Int.le_refl _,by rw [hs];exact Int.le_refl _,b,zdS n,c,?_⟩
  rw [hs];exact d
theorem zhI {words units:List Int} {spans:List SpanT} {nv:Nat} (h:LeafOK words units spans nv):∀ (code:List FNode) (i:Nat) (a:List Int) (b:List RangeT) (c:List Fr2) (out:List RangeT),(∀ n ∈ code,zbA nv n=0)→In3L a b c→rngS spans i code b=.ok out→In3L (zaN 0 (zcw words) zdQ i code a) out (zaN (0,1) (zjr units) zgz i code c)
 | [],i,a,b,c,out,_,hs,ho=>by cases ho;exact hs
 | n::r,i,a,b,c,out,hn,hs,ho=>by
  obtain⟨hk1,hk5,hf⟩:=zfu (hn n (by simp));have hr:∀ m ∈ r,zbA nv m=0:=fun m hm=>hn m (by simp [hm])
  rw [rngS] at ho;rw [zaN,zaN];split at ho
  ·rename_i hk;rw [if_pos hk,if_pos hk];exact zhI h r _ _ _ _ _ hr (In3L.app hs (a':=[_]) (b':=[_]) (c':=[_]) ⟨znW h (by omega) hf,trivial⟩) ho
  ·rename_i hk;rw [if_neg hk,if_neg hk];dsimp only at ho;split at ho
   ·cases ho
   ·rename_i hg;obtain⟨l1,l2⟩:=hs.len;rw [l1,l2];exact zhI h r _ _ _ _ _ hr (In3L.app (In3L.take _ hs) (a':=[_]) (b':=[_]) (c':=[_]) ⟨zob (by omega) (In3L.getD _ hs) (In3L.getD _ hs) hg n rfl,trivial⟩) ho
theorem zgE {nv:Nat}:∀ (code:List FNode) (s s':CS),zav nv code s=.ok s'→∀ n ∈ code,zbA nv n=0
 | [],_,_,_,n,h=>by simp at h
 | m::r,s,s',hw,n,h=>by
  rw [zav] at hw;cases hs:zbx nv m s with
  | error e=>rw [hs] at hw;cases hw
  | ok s1=>
   rw [hs] at hw;rcases List.mem_cons.1 h with rfl|h
   ·exact (zd7 hs).1
   ·exact zgE r s1 s' hw n h
theorem zjK {f:FormT} (h:zD f=0):∀ n ∈ f.code,zbA f.vars.length n=0:=by
 unfold zD at h;split at h
 ·cases h
 ·cases hv:zaw [] f.vars with
  | some e=>
   rw [hv] at h;dsimp only at h;subst h;exfalso;have key:∀ (l s:List Bs8),zaw s l=some 0→False:=by
    intro l;induction l with
    | nil=>intro s hs;cases hs
    | cons x r ih=>
     intro s hs;rw [zaw] at hs;split at hs
     ·cases hs
     ·split at hs
      ·cases hs
      ·exact ih _ hs
   exact key _ _ hv
  | none=>
   rw [hv] at h;dsimp only at h;cases hw:zav f.vars.length f.code ⟨0,0,true⟩ with
   | ok s=>exact zgE _ _ _ hw
   | error e=>
    rw [hw] at h;dsimp only at h;subst h;exfalso;have key:∀ (l:List FNode) (s:CS),zav f.vars.length l s=.error 0→False:=by
     intro l;induction l with
     | nil=>intro s hs;cases hs
     | cons x r ih=>
      intro s hs;rw [zav] at hs;cases hz:zbx f.vars.length x s with
      | error e=>rw [hz] at hs;cases hs;exact zfX hz rfl
      | ok s1=>rw [hz] at hs;exact ih _ hs
    exact key _ _ hw
theorem zoN {f:FormT} {spans:List SpanT} {words units:List Int} (h:(z8 f spans).2.2=0) (hL:LeafOK words units spans f.vars.length):In3 (valF f words) (z8 f spans).1 (ziE f units):=by
 obtain⟨hc,_,_,st,hst,he⟩:=zhq h;rw [he];have:=zhI hL f.code 0 [] [] [] st (zjK hc) trivial hst;exact In3L.getD 0 this
end FoT
end
