/- What the functions that this law reaches return: part 0. No condition. -/
import Derived.Test.YtefglipcipjplaaGreatDoorB04
set_option linter.all false
namespace FoT
structure OrS where
 store:List Int
 tape:List Int
 taken:Int
 printed:List Int
 time:Int
 at_:Int
 done:Int
 why:Int
deriving DecidableEq
structure OrO where
 op:Int
 a:Int
 b:Int
 n:Int
deriving DecidableEq
def decO (w:Int):OrO:=⟨w / 2097152,w / 16384 % 128,w / 128 % 128,w % 128⟩
theorem dec_enc {op a b n:Int} (ha:0≤a∧a≤127) (hb:0≤b∧b≤127) (hn:0≤n∧n≤127):decO (encW op a b n)=⟨op,a,b,n⟩:=by
 unfold decO encW;have e1:(((op * 128+a) * 128+b) * 128+n) / 2097152=op:=by omega
 have e2:(((op * 128+a) * 128+b) * 128+n) / 16384 % 128=a:=by omega
 have e3:(((op * 128+a) * 128+b) * 128+n) / 128 % 128=b:=by omega
 have e4:(((op * 128+a) * 128+b) * 128+n) % 128=n:=by omega
 rw [e1,e2,e3,e4]
def afterO (time addr:Int):Int:=time+1+(addr - time - 1) % 16
def untilO (o:OrO) (time at_:Int):Int:=
 afterO (if o.op=5∨o.op=7 then afterO time o.a else if o.op=6 then afterO time o.b
  else if o.op=4 then afterO (afterO (afterO time o.a) o.b+12) o.b else afterO (afterO time o.a) o.b) at_
def rdO (s:OrS) (a:Int):Int:=s.store.getD a.toNat 0
def wrO (s:OrS) (a v:Int):OrS:={ s with store:=s.store.set a.toNat v }
def doO (s:OrS) (o:OrO):OrS:=
 if o.op=1 then wrO s o.b (rdO s o.a)
 else if o.op=2 then wrO s o.b ((rdO s o.b+rdO s o.a) % 16777216)
 else if o.op=3 then wrO s o.b ((rdO s o.b - rdO s o.a) % 16777216)
 else if o.op=4 then wrO s o.b (sgnW (rdO s o.a) * sgnW (rdO s o.b) / 8388608 % 16777216)
 else if o.op=6 then { wrO s o.b (s.tape.getD s.taken.toNat 0) with taken:=s.taken+1 }
 else if o.op=7 then { s with printed:=s.printed ++ [rdO s o.a] }
 else s
def stepO (s:OrS):OrS:=
 let o:=decO (rdO s s.at_)
 let at':=if o.op=5∧sgnW (rdO s o.a) < 0 then o.b else o.n
 let u:=untilO o s.time at'
 let why:=if o.op=0 then 1 else if o.op=6∧s.taken=s.tape.length then 2 else if o.op=7∧s.printed.length=200 then 3 else s.why
 let why:=if why=0∧1000000000 < u then 4 else why
 if why=0 then { doO s o with at_:=at',time:=u,done:=s.done+1,why:=0 } else { s with why:=why }
def runO:Nat→OrS→OrS
 | 0,s=>s
 | n+1,s=>if s.why=0 then runO n (stepO s) else s
theorem after_le (t a:Int):t < afterO t a∧afterO t a≤t+16:=by unfold afterO;omega
theorem until_le (o:OrO) (t a:Int):t < untilO o t a∧untilO o t a≤t+100:=by
 unfold untilO;split
 ·have h1:=after_le t o.a;have h2:=after_le (afterO t o.a) a;omega
 ·split
  ·have h1:=after_le t o.b;have h2:=after_le (afterO t o.b) a;omega
  ·split
   ·have h1:=after_le t o.a;have h2:=after_le (afterO t o.a) o.b;have h3:=after_le (afterO (afterO t o.a) o.b+12) o.b;have h4:=after_le (afterO (afterO (afterO t o.a) o.b+12) o.b) a;omega
   ·have h1:=after_le t o.a;have h2:=after_le (afterO t o.a) o.b;have h3:=after_le (afterO (afterO t o.a) o.b) a;omega
theorem step_on {s:OrS} {op a b n:Int} (hw:s.why=0) (hr:rdO s s.at_=encW op a b n) (ha:0≤a∧a≤127) (hb:0≤b∧b≤127) (hn:0≤n∧n≤127) (h0:1≤op∧op≠5∧op≤7)
  (h6:op=6→s.taken≠s.tape.length) (h7:op=7→s.printed.length≠200) (ht:s.time≤999999000) :
  ∃ t,s.time < t∧t≤s.time+100∧stepO s={ doO s ⟨op,a,b,n⟩ with at_:=n,time:=t,done:=s.done+1,why:=0 }:=by
 have hu:=until_le ⟨op,a,b,n⟩ s.time n;refine⟨_,hu.1,hu.2,?_⟩
 unfold stepO;rw [hr,dec_enc ha hb hn];dsimp only;rw [if_neg (show ¬ (op=5∧_) from fun h=>h0.2.1 h.1),if_neg (show ¬ op=0 by omega),if_neg (show ¬ (op=6∧s.taken=s.tape.length) from fun h=>h6 h.1 h.2),if_neg (show ¬ (op=7∧s.printed.length=200) from fun h=>h7 h.1 h.2),hw];rw [if_neg (show ¬ ((0:Int)=0∧1000000000 < untilO ⟨op,a,b,n⟩ s.time n) from fun h=>by have:=h.2;omega),if_pos rfl]
theorem run_step {n:Nat} {s:OrS} (h:s.why=0):runO (n+1) s=runO n (stepO s):=by rw [runO,if_pos h]
theorem step_halt {s:OrS} (hr:rdO s s.at_=0):stepO s={ s with why:=1 }:=by
 have e:decO 0=⟨0,0,0,0⟩:=by decide
 unfold stepO;rw [hr,e];simp
theorem run_stop:∀ (n:Nat) {s:OrS},s.why≠0→runO n s=s
 | 0,_,_=>rfl
 | n+1,s,h=>by rw [runO,if_neg h]
end FoT
namespace FoT
theorem rd_wr {s:OrS} {a b v:Int} (ha:0≤a) (hb:0≤b) (hl:b < s.store.length):rdO (wrO s b v) a=if a=b then v else rdO s a:=by
 unfold rdO wrO;dsimp only;rw [List.getD_eq_getElem?_getD,List.getD_eq_getElem?_getD,List.getElem?_set];by_cases h:a=b
 ·subst h;rw [if_pos rfl,if_pos rfl,if_pos (by omega)];rfl
 ·rw [if_neg h,if_neg (by omega)]
theorem wr_len (s:OrS) (b v:Int):(wrO s b v).store.length=s.store.length:=by simp [wrO]
structure MI (P:List Int) (o pl:Int) (nv:Nat) (tape W C st:List Int) (k:Nat) (s:OrS):Prop where
 why:s.why=0
 at_:s.at_=k
 done:s.done=k
 len:s.store.length=128
 code:∀ j (h:j < P.length),rdO s (j:Int)=P[j]
 vars:∀ j (h:j < W.length),rdO s (o+j)=W[j]
 cons:∀ j (h:j < C.length),rdO s (o+nv+j)=C[j]
 pile:∀ j (h:j < st.length),rdO s (pl+j)=st[j]
 time:0≤s.time∧s.time≤100+100 * k
 tp:s.tape=tape
 tk:s.taken=W.length
 pr:s.printed=[]
theorem sgn_add (x y:Int):(sgnW x+sgnW y) % 16777216=(x+y) % 16777216:=by unfold sgnW;split <;> split <;> omega
theorem sgn_sub (x y:Int):(sgnW x - sgnW y) % 16777216=(x - y) % 16777216:=by unfold sgnW;split <;> split <;> omega
section
variable {P tape W C st:List Int} {o pl:Int} {nv k:Nat} {s:OrS}
theorem MI.push (h:MI P o pl nv tape W C st k s) (hP:P.length≤o) (hkP:k < P.length) (ho:0≤o) (hW:W.length≤nv) (hC:o+nv+C.length≤pl) (hs:pl+st.length≤127) {a v:Int} (ha:0≤a∧a≤127) (hk:k≤100)
  (he:P[k]=encW 1 a (pl+st.length) (k+1)) (hv:rdO s a=v):MI P o pl nv tape W C (st ++ [v]) (k+1) (stepO s):=by
 have hr:rdO s s.at_=encW 1 a (pl+st.length) ((k:Int)+1):=by rw [h.at_,h.code k hkP,he]
 obtain⟨t,t1,t2,e⟩:=step_on h.why hr ha ⟨by omega,hs⟩ ⟨by omega,by omega⟩ (by decide) (fun x=>by cases x) (fun x=>by cases x) (by have:=h.time;omega);have hd:doO s ⟨1,a,pl+st.length,(k:Int)+1⟩=wrO s (pl+st.length) v:=by unfold doO;rw [if_pos rfl,hv]
 rw [hd] at e;have hl:=h.len;have R:∀ x:Int,0≤x→x≠pl+st.length→rdO (stepO s) x=rdO s x:=by
  intro x h0 h1;rw [e];show rdO (wrO s (pl+st.length) v) x=_
  rw [rd_wr h0 (by omega) (by omega),if_neg h1]
 refine⟨by rw [e],by rw [e];push_cast;rfl,by rw [e];show s.done+1=_;rw [h.done];push_cast;rfl,by rw [e];show (wrO s _ v).store.length=_;rw [wr_len,hl],?_,?_,?_,?_,?_,by rw [e];exact h.tp,by rw [e];exact h.tk,by rw [e];exact h.pr⟩
 ·intro j hj;rw [R _ (by omega) (by omega)];exact h.code j hj
 ·intro j hj;rw [R _ (by omega) (by omega)];exact h.vars j hj
 ·intro j hj;rw [R _ (by omega) (by omega)];exact h.cons j hj
 ·intro j hj;rw [List.length_append,List.length_singleton] at hj;by_cases hjs:j < st.length
  ·rw [R _ (by omega) (by omega),h.pile j hjs,List.getElem_append_left hjs]
  ·have:j=st.length:=by omega
   subst this;rw [List.getElem_append_right (Nat.le_refl _)];simp only [Nat.sub_self,List.getElem_singleton];rw [e];show rdO (wrO s (pl+st.length) v) _=_
   rw [rd_wr (by omega) (by omega) (by omega),if_pos rfl]
 ·rw [e];have:=h.time;show 0≤t∧t≤_
  push_cast;omega
theorem MI.oper {r:List Int} {x y:Int} (h:MI P o pl nv tape W C (r ++ [x,y]) k s) (hP:P.length≤o) (hkP:k < P.length) (ho:0≤o) (hW:W.length≤nv) (hC:o+nv+C.length≤pl) (hs:pl+r.length+1≤127) (hk:k≤100) {kd:Int} (hkd:kd=3∨kd=4∨kd=5)
  (he:P[k]=encW (kd - 1) (pl+r.length+1) (pl+r.length) (k+1)):MI P o pl nv tape W C (r ++ [opV kd (sgnW x) (sgnW y) % 16777216]) (k+1) (stepO s):=by
 have hr:rdO s s.at_=encW (kd - 1) (pl+r.length+1) (pl+r.length) ((k:Int)+1):=by rw [h.at_,h.code k hkP,he]
 obtain⟨t,t1,t2,e⟩:=step_on h.why hr ⟨by omega,hs⟩ ⟨by omega,by omega⟩ ⟨by omega,by omega⟩ (by omega) (fun q=>by omega) (fun q=>by omega) (by have:=h.time;omega);have hx:rdO s (pl+r.length)=x:=by
  rw [h.pile r.length (by simp),List.getElem_append_right (Nat.le_refl _)];simp
 have hy:rdO s (pl+r.length+1)=y:=by
  have:=h.pile (r.length+1) (by simp);rw [List.getElem_append_right (by omega)] at this;rw [show pl+(r.length:Int)+1=pl+((r.length+1:Nat):Int) by push_cast;omega,this];simp
 have hd:doO s ⟨kd - 1,pl+r.length+1,pl+r.length,(k:Int)+1⟩=wrO s (pl+r.length) (opV kd (sgnW x) (sgnW y) % 16777216):=by
  unfold doO opV;dsimp only;rw [hx,hy];rcases hkd with rfl|rfl|rfl
  ·rw [if_neg (by decide),if_pos (by decide),if_pos rfl,sgn_add]
  ·rw [if_neg (by decide),if_neg (by decide),if_pos (by decide),if_neg (by decide),if_pos rfl,sgn_sub]
  ·rw [if_neg (by decide),if_neg (by decide),if_neg (by decide),if_pos (by decide),if_neg (by decide),if_neg (by decide),Int.mul_comm]
 rw [hd] at e;generalize opV kd (sgnW x) (sgnW y) % 16777216=z at *;have hl:=h.len;have R:∀ q:Int,0≤q→q≠pl+r.length→rdO (stepO s) q=rdO s q:=by
  intro q h0 h1;rw [e];show rdO (wrO s (pl+r.length) z) q=_
  rw [rd_wr h0 (by omega) (by omega),if_neg h1]
 refine⟨by rw [e],by rw [e];push_cast;rfl,by rw [e];show s.done+1=_;rw [h.done];push_cast;rfl,by rw [e];show (wrO s _ z).store.length=_;rw [wr_len,hl],?_,?_,?_,?_,?_,by rw [e];exact h.tp,by rw [e];exact h.tk,by rw [e];exact h.pr⟩
 ·intro j hj;rw [R _ (by omega) (by omega)];exact h.code j hj
 ·intro j hj;rw [R _ (by omega) (by omega)];exact h.vars j hj
 ·intro j hj;rw [R _ (by omega) (by omega)];exact h.cons j hj
 ·intro j hj;rw [List.length_append,List.length_singleton] at hj;by_cases hjs:j < r.length
  ·rw [R _ (by omega) (by omega),h.pile j (by rw [List.length_append];omega),List.getElem_append_left hjs,List.getElem_append_left hjs]
  ·have:j=r.length:=by omega
   subst this;rw [List.getElem_append_right (Nat.le_refl _)];simp only [Nat.sub_self,List.getElem_singleton];rw [e];show rdO (wrO s (pl+r.length) z) _=_
   rw [rd_wr (by omega) (by omega) (by omega),if_pos rfl]
 ·rw [e];have:=h.time;show 0≤t∧t≤_
  push_cast;omega
theorem MI.read (h:MI P o pl nv tape W C [] k s) (hP:P.length≤o) (hkP:k < P.length) (ho:0≤o) (hW:W.length < nv) (hC:o+nv+C.length≤127) (hk:k≤100) {v:Int} (hv:tape[W.length]?=some v)
  (he:P[k]=encW 6 0 (o+W.length) (k+1)):MI P o pl nv tape (W ++ [v]) C [] (k+1) (stepO s):=by
 have hr:rdO s s.at_=encW 6 0 (o+W.length) ((k:Int)+1):=by rw [h.at_,h.code k hkP,he]
 have htl:=(List.getElem?_eq_some_iff.1 hv).1;obtain⟨t,t1,t2,e⟩:=step_on h.why hr ⟨by decide,by decide⟩ ⟨by omega,by omega⟩ ⟨by omega,by omega⟩ (by decide) (fun _=>by rw [h.tk,h.tp];omega) (fun x=>by cases x) (by have:=h.time;omega);have hd:doO s ⟨6,0,o+W.length,(k:Int)+1⟩={ wrO s (o+W.length) v with taken:=s.taken+1 }:=by
  unfold doO;dsimp only;rw [if_neg (by decide),if_neg (by decide),if_neg (by decide),if_neg (by decide),if_pos rfl,h.tk,h.tp,Int.toNat_natCast,List.getD_eq_getElem?_getD,hv];rfl
 rw [hd] at e;have hl:=h.len;have R:∀ q:Int,0≤q→q≠o+W.length→rdO (stepO s) q=rdO s q:=by
  intro q h0 h1;rw [e];show rdO (wrO s (o+W.length) v) q=_
  rw [rd_wr h0 (by omega) (by omega),if_neg h1]
 refine⟨by rw [e],by rw [e];push_cast;rfl,by rw [e];show s.done+1=_;rw [h.done];push_cast;rfl,by rw [e];show (wrO s _ v).store.length=_;rw [wr_len,hl],?_,?_,?_,fun j hj=>by simp at hj,?_,by rw [e];exact h.tp,by rw [e];show s.taken+1=_;rw [h.tk,List.length_append];rfl,by rw [e];exact h.pr⟩
 ·intro j hj;rw [R _ (by omega) (by omega)];exact h.code j hj
 ·intro j hj;rw [List.length_append,List.length_singleton] at hj;by_cases hjs:j < W.length
  ·rw [R _ (by omega) (by omega),h.vars j hjs,List.getElem_append_left hjs]
  ·have:j=W.length:=by omega
   subst this;rw [List.getElem_append_right (Nat.le_refl _)];simp only [Nat.sub_self,List.getElem_singleton];rw [e];show rdO (wrO s (o+W.length) v) _=_
   rw [rd_wr (by omega) (by omega) (by omega),if_pos rfl]
 ·intro j hj;rw [R _ (by omega) (by omega)];exact h.cons j hj
 ·rw [e];have:=h.time;show 0≤t∧t≤_
  push_cast;omega
theorem MI.print {v:Int} (h:MI P o pl nv tape W C [v] k s) (hkP:k < P.length) (hk:k≤100) (hpl:0≤pl∧pl≤127) (he:P[k]=encW 7 pl 0 (k+1)) (hz:rdO s ((k:Int)+1)=0) (n:Nat) :
  ∃ t,runO (n+2) s=⟨s.store,tape,W.length,[v],t,(k:Int)+1,(k:Int)+1,1⟩:=by
 have hr:rdO s s.at_=encW 7 pl 0 ((k:Int)+1):=by rw [h.at_,h.code k hkP,he]
 obtain⟨t,t1,t2,e⟩:=step_on h.why hr hpl ⟨by decide,by decide⟩ ⟨by omega,by omega⟩ (by decide) (fun x=>by cases x) (fun _=>by rw [h.pr];decide) (by have:=h.time;omega);have hx:rdO s pl=v:=by
  have:=h.pile 0 (by simp);simpa using this
 have hd:doO s ⟨7,pl,0,(k:Int)+1⟩={ s with printed:=[v] }:=by
  unfold doO;dsimp only;rw [if_neg (by decide),if_neg (by decide),if_neg (by decide),if_neg (by decide),if_neg (by decide),if_pos rfl,hx,h.pr];rfl
 rw [hd] at e;refine⟨t,?_⟩
 rw [run_step h.why,run_step (by rw [e]),step_halt (by rw [e];exact hz),run_stop _ (show (1:Int)≠0 by decide),e];simp only [h.tp,h.tk,h.done]
end
end FoT
namespace FoT
def beginO (store tape:List Int) (start:Int):OrS:=⟨store ++ List.replicate (128 - store.length) 0,tape,0,[],start % 16,start,0,0⟩
theorem run_add:∀ (a b:Nat) (s:OrS),runO (a+b) s=runO b (runO a s)
 | 0,b,s=>by rw [Nat.zero_add];rfl
 | a+1,b,s=>by
  rw [Nat.add_right_comm,runO,runO];by_cases h:s.why=0
  ·rw [if_pos h,if_pos h];exact run_add a b _
  ·rw [if_neg h,if_neg h,run_stop b h]
section
variable {P tape W C:List Int} {o pl:Int} {nv:Nat}
theorem run_reads (hP:P.length≤o) (ho:0≤o) (hC:o+nv+C.length≤127) (hk:nv≤90) (hlt:nv=tape.length) (hPn:nv≤P.length) (hpc:∀ (k:Nat) (h:k < nv),P[k]'(by omega)=encW 6 0 (o+k) (k+1)) :
  ∀ (k:Nat) (s:OrS),k≤nv→MI P o pl nv tape [] C [] 0 s→∃ s',MI P o pl nv tape (tape.take k) C [] k s'∧runO k s=s'
 | 0,s,_,h=>⟨s,h,rfl⟩
 | k+1,s,hl,h=>by
  obtain⟨s1,h1,e1⟩:=run_reads hP ho hC hk hlt hPn hpc k s (by omega) h;have hwl:(tape.take k).length=k:=by rw [List.length_take];omega
  have hv:tape[(tape.take k).length]?=some (tape[k]'(by omega)):=by rw [hwl];exact List.getElem?_eq_getElem (by omega)
  have:=h1.read hP (by omega) ho (by omega) hC (by omega) hv (by rw [hwl];exact hpc k (by omega));refine⟨_,?_,by rw [run_add,e1,run_step h1.why,runO]⟩
  rw [List.take_succ_eq_append_getElem (by omega)];exact this
theorem emit_len:∀ (l:List FNode) (v p pos:Int) (e:ES),(zbM v p l pos e).1.length=l.length
 | [],_,_,_,_=>rfl
 | n::r,v,p,pos,e=>by
  rw [zbM];split
  ·simp [emit_len r]
  ·split <;> simp [emit_len r]
theorem two_top' {α : Type} {l:List α} (h:2≤l.length):∃ (r:List α) (a b : α),l=r ++ [a,b]:=by
 have h1:l=l.take (l.length - 2) ++ l.drop (l.length - 2):=(List.take_append_drop _ l).symm;have h2:(l.drop (l.length - 2)).length=2:=by rw [List.length_drop];omega
 match hd:l.drop (l.length - 2),h2 with
 | [a,b],_=>exact⟨_,a,b,by rw [← hd];exact h1⟩
theorem run_nodes (hP:P.length≤o) (ho:0≤o) (hW:W.length=nv) (hC:o+nv+C.length≤pl) (hpl:pl+12≤127) (hP1:P.length≤100) :
  ∀ (l:List FNode) (k i:Nat) (s:OrS) (st:List Int) (cs e:CS) (es:ES) (c:Nat),MI P o pl nv tape W C st k s→zav nv l cs=.ok e→cs.p=st.length→st.length≤12→es.h=st.length→es.next=o+nv+c→C.drop c=zal l →
   (∀ (j:Nat) (h:j < l.length),P[k+j]?=some ((zbM o pl l k es).1[j]'(by rw [emit_len];exact h)))→∃ s',MI P o pl nv tape W C (zaN 0 (zcw W) zdQ i l st) (k+l.length) s'∧runO l.length s=s'∧(zaN 0 (zcw W) zdQ i l st).length=e.p
 | [],k,i,s,st,cs,e,es,c,h,hw,hp,_,_,_,_,_=>by cases hw;exact⟨s,h,rfl,hp.symm⟩
 | n::r,k,i,s,st,cs,e,es,c,h,hw,hp,h12,hh,hnx,hcs,hem=>by
  rw [zav] at hw;cases hs:zbx nv n cs with
  | error e'=>rw [hs] at hw;cases hw
  | ok cs'=>
   rw [hs] at hw;obtain⟨q1,q2,q3,q4⟩:=zd7 hs;obtain⟨k1,k2,k3⟩:=zfu q1;have h0:=hem 0 (by simp);rw [Nat.add_zero] at h0;have hkP:k < P.length:=(List.getElem?_eq_some_iff.1 h0).1;have hPk:=(List.getElem?_eq_some_iff.1 h0).2;have hcl:c+(zal (n::r)).length≤C.length∨(zal (n::r)).length=0:=by rw [← hcs,List.length_drop];omega
   rw [zaN];by_cases hk3:n.kind < 3
   ·rw [if_pos hk3];rw [if_neg (by omega)] at q3;have q5:cs'.p=st.length+1:=by rw [q4];show (if _ then _ else _)+1=_;rw [if_neg (by omega)];omega
    by_cases hn1:n.kind=1
    ·unfold fine at k3;rw [if_pos hn1] at k3;have hPk:P[k]=encW 1 (o+n.var) (pl+es.h) (k+1):=by rw [hPk];simp [zbM,hn1]
     rw [hh] at hPk;have hv:rdO s (o+n.var)=zcw W i n:=by
      unfold zcw;rw [if_pos hn1];have:=h.vars n.var.toNat (by omega);rw [show ((n.var.toNat:Nat):Int)=n.var by omega] at this;rw [this,List.getD_eq_getElem?_getD,List.getElem?_eq_getElem (by omega)];rfl
     have h':=h.push hP hkP ho (by omega) hC (by omega) ⟨by omega,by omega⟩ (by omega) hPk hv;have hem':∀ (j:Nat) (hj:j < r.length),P[k+1+j]?=some ((zbM o pl r ((k+1:Nat):Int) ⟨es.next,es.h+1,max es.most (es.h+1)⟩).1[j]'(by rw [emit_len];exact hj)):=by
      intro j hj;have:=hem (j+1) (by simp;omega);rw [show k+(j+1)=k+1+j by omega] at this;rw [this];simp [zbM,hn1]
     obtain⟨s',m1,m2,m3⟩:=run_nodes hP ho hW hC hpl hP1 r (k+1) (i+1) _ (st ++ [zcw W i n]) cs' e ⟨es.next,es.h+1,max es.most (es.h+1)⟩ c h' hw (by rw [q5];simp) (by simp;omega) (by show es.h+1=_;rw [hh];simp) hnx (by rw [hcs,zal,if_neg (by omega)]) hem';exact⟨s',by rw [show k+(n::r).length=k+1+r.length by simp;omega];exact m1,by rw [List.length_cons,run_step h.why];exact m2,m3⟩
    ·have hn2:n.kind=2:=by omega
     have hPk:P[k]=encW 1 es.next (pl+es.h) (k+1):=by rw [hPk];simp [zbM,hn2]
     rw [hh,hnx] at hPk;have hc1:C.drop c=zbo n::zal r:=by rw [hcs,zal,if_pos hn2]
     have hcc:c < C.length:=by have:=congrArg List.length hc1;rw [List.length_drop,List.length_cons] at this;omega
     rw [List.drop_eq_getElem_cons hcc] at hc1;have hv:rdO s (o+nv+c)=zcw W i n:=by
      unfold zcw;rw [if_neg hn1,h.cons c hcc];exact (List.cons.inj hc1).1
     have h':=h.push hP hkP ho (by omega) hC (by omega) ⟨by omega,by omega⟩ (by omega) hPk hv;have hem':∀ (j:Nat) (hj:j < r.length),P[k+1+j]?=some ((zbM o pl r ((k+1:Nat):Int) ⟨es.next+1,es.h+1,max es.most (es.h+1)⟩).1[j]'(by rw [emit_len];exact hj)):=by
      intro j hj;have:=hem (j+1) (by simp;omega);rw [show k+(j+1)=k+1+j by omega] at this;rw [this];simp [zbM,hn2]
     obtain⟨s',m1,m2,m3⟩:=run_nodes hP ho hW hC hpl hP1 r (k+1) (i+1) _ (st ++ [zcw W i n]) cs' e ⟨es.next+1,es.h+1,max es.most (es.h+1)⟩ (c+1) h' hw (by rw [q5];simp) (by simp;omega) (by show es.h+1=_;rw [hh];simp) (by show es.next+1=_;rw [hnx];push_cast;omega) (List.cons.inj hc1).2 hem';exact⟨s',by rw [show k+(n::r).length=k+1+r.length by simp;omega];exact m1,by rw [List.length_cons,run_step h.why];exact m2,m3⟩
   ·rw [if_neg hk3];rw [if_pos (by omega)] at q3;have q5:cs'.p=st.length - 2+1:=by rw [q4];show (if _ then _ else _)+1=_;rw [if_pos (by omega)];omega
    obtain⟨u,x,y,rfl⟩:=two_top' (l:=st) (by omega);have hul:(u ++ [x,y]).length=u.length+2:=by simp
    rw [hul] at q5 hp h12;have hn12:¬ n.kind=1∧¬ n.kind=2:=by omega
    have hPk:P[k]=encW (n.kind - 1) (pl+es.h - 1) (pl+es.h - 2) (k+1):=by rw [hPk];simp [zbM,hn12.1,hn12.2]
    rw [hh,hul,show pl+((u.length+2:Nat):Int) - 1=pl+u.length+1 by omega,show pl+((u.length+2:Nat):Int) - 2=pl+u.length by omega] at hPk;have h':=h.oper hP hkP ho (by omega) hC (by omega) (by omega) (kd:=n.kind) (by omega) hPk;have hem':∀ (j:Nat) (hj:j < r.length),P[k+1+j]?=some ((zbM o pl r ((k+1:Nat):Int) ⟨es.next,es.h - 1,es.most⟩).1[j]'(by rw [emit_len];exact hj)):=by
     intro j hj;have:=hem (j+1) (by simp;omega);rw [show k+(j+1)=k+1+j by omega] at this;rw [this];simp [zbM,hn12.1,hn12.2]
    have e2:(u ++ [x,y]).take ((u ++ [x,y]).length - 2) ++ [zdQ i n ((u ++ [x,y]).getD ((u ++ [x,y]).length - 2) 0) ((u ++ [x,y]).getD ((u ++ [x,y]).length - 1) 0)]=u ++ [opV n.kind (sgnW x) (sgnW y) % 16777216]:=by
     rw [hul];simp [zdQ,List.getElem?_append_right]
    rw [e2];obtain⟨s',m1,m2,m3⟩:=run_nodes hP ho hW hC hpl hP1 r (k+1) (i+1) _ (u ++ [opV n.kind (sgnW x) (sgnW y) % 16777216]) cs' e ⟨es.next,es.h - 1,es.most⟩ c h' hw (by rw [q5];simp) (by simp;omega) (by show es.h - 1=_;rw [hh];simp;omega) hnx (by rw [hcs,zal,if_neg hn12.2]) hem';exact⟨s',by rw [show k+(n::r).length=k+1+r.length by simp;omega];exact m1,by rw [List.length_cons,run_step h.why];exact m2,m3⟩
end
end FoT
namespace FoT
theorem enc_in {op a b c:Int} (h:0≤op∧op≤7) (ha:0≤a∧a≤127) (hb:0≤b∧b≤127) (hc:0≤c∧c≤127):0≤encW op a b c∧encW op a b c≤16777215:=by unfold encW;omega
theorem emit_in {o pl:Int} {nv:Nat} (ho:0≤o) (ho2:o+nv≤127) (hpl:pl+12≤127) (hp0:0≤pl):∀ (l:List FNode) (k:Int) (cs e:CS) (es:ES),zav nv l cs=.ok e→es.h=cs.p→cs.p≤12→0≤es.most∧es.most≤12→0≤es.next→es.next+l.length≤127→0≤k→k+l.length≤127 →
  (∀ w ∈ (zbM o pl l k es).1,0≤w∧w≤16777215)∧0≤(zbM o pl l k es).2.most∧(zbM o pl l k es).2.most≤12
 | [],k,cs,e,es,hw,hh,h12,hm,_,_,_,_=>⟨fun w hw=>by simp [zbM] at hw,hm⟩
 | n::r,k,cs,e,es,hw,hh,h12,hm,hn0,hn1,hk0,hk1=>by
  rw [zav] at hw;cases hs:zbx nv n cs with
  | error e'=>rw [hs] at hw;cases hw
  | ok cs'=>
   rw [hs] at hw;obtain⟨q1,q2,q3,q4⟩:=zd7 hs;obtain⟨k1,k2,k3⟩:=zfu q1;rw [List.length_cons] at hn1 hk1;push_cast at hn1 hk1;have hcs':(cs'.p:Int)=if 3≤n.kind then (cs.p:Int) - 1 else (cs.p:Int)+1:=by
    rw [q4];dsimp only;split <;> (push_cast;omega)
   have hcs12:cs'.p≤12:=by rw [q4];exact q3
   rw [zbM];by_cases hn1':n.kind=1
   ·unfold fine at k3;rw [if_pos hn1'] at k3;rw [if_pos hn1'];rw [if_neg (by omega)] at hcs';obtain⟨a1,a2⟩:=emit_in ho ho2 hpl hp0 r (k+1) cs' e ⟨es.next,es.h+1,max es.most (es.h+1)⟩ hw (by show es.h+1=_;omega) hcs12 ⟨by show 0≤max _ _;omega,by show max _ _≤12;omega⟩ hn0 (by show es.next+_≤_;omega) (by omega) (by omega);refine⟨fun w hw=>?_,a2⟩
    rcases List.mem_cons.1 hw with rfl|hw
    ·exact enc_in (by decide) (by omega) (by omega) (by omega)
    ·exact a1 w hw
   ·rw [if_neg hn1'];by_cases hn2:n.kind=2
    ·rw [if_pos hn2];rw [if_neg (by omega)] at hcs';obtain⟨a1,a2⟩:=emit_in ho ho2 hpl hp0 r (k+1) cs' e ⟨es.next+1,es.h+1,max es.most (es.h+1)⟩ hw (by show es.h+1=_;omega) hcs12 ⟨by show 0≤max _ _;omega,by show max _ _≤12;omega⟩ (by show 0≤es.next+1;omega) (by show es.next+1+_≤_;omega) (by omega) (by omega);refine⟨fun w hw=>?_,a2⟩
     rcases List.mem_cons.1 hw with rfl|hw
     ·exact enc_in (by decide) (by omega) (by omega) (by omega)
     ·exact a1 w hw
    ·rw [if_neg hn2];rw [if_pos (by omega)] at hcs';obtain⟨a1,a2⟩:=emit_in ho ho2 hpl hp0 r (k+1) cs' e ⟨es.next,es.h - 1,es.most⟩ hw (by show es.h - 1=_;omega) hcs12 hm hn0 (by show es.next+_≤_;omega) (by omega) (by omega);refine⟨fun w hw=>?_,a2⟩
     rcases List.mem_cons.1 hw with rfl|hw
     ·exact enc_in (by omega) (by omega) (by omega) (by omega)
     ·exact a1 w hw
theorem constsF_len:∀ (l:List FNode),(zal l).length≤l.length
 | []=>Nat.le_refl _
 | x::r=>by
  have:=constsF_len r;rw [zal];split <;> simp only [List.length_cons] <;> omega
theorem constsF_in {nv:Nat}:∀ (l:List FNode),(∀ n ∈ l,zbA nv n=0)→∀ w ∈ zal l,0≤w∧w≤16777215
 | [],_,w,hw=>by simp [zal] at hw
 | x::r,h,w,hw=>by
  rw [zal] at hw;split at hw
  ·rename_i h2;rcases List.mem_cons.1 hw with rfl|hw
   ·have:=zha h2 (zfu (h x (by simp))).2.2;omega
   ·exact constsF_in r (fun n hn=>h n (by simp [hn])) w hw
  ·exact constsF_in r (fun n hn=>h n (by simp [hn])) w hw
theorem reads_in {v:Int} {nv:Nat} (h:0≤v∧v+nv≤127) (h9:nv≤100):∀ w ∈ zaT v nv,0≤w∧w≤16777215:=by
 intro w hw;unfold zaT at hw;obtain⟨i,hi,rfl⟩:=List.mem_map.1 hw;have:=List.mem_range.1 hi;exact enc_in (by decide) (by omega) (by omega) (by omega)
theorem compiled_runs {f:FormT} {words:List Int} (h0:zD f=0) (hln:f.vars.length≤8∧1≤f.code.length∧f.code.length≤40) {cs e:CS} (hcs:cs.p=0) (hw:zav f.vars.length f.code cs=.ok e) (he:e.p=1) (hl:words.length=f.vars.length) :
  (zbN f).1.store.length≤128∧(∀ w ∈ (zbN f).1.store,0≤w∧w≤16777215)∧(zbN f).1.start=0∧(zbN f).2=0∧(zbN f).1.orders≤50 ∧
   ∃ t st,runO 5000 (beginO (zbN f).1.store words 0)=⟨st,words,words.length,[valF f words],t,(zbN f).1.orders - 1,(zbN f).1.orders - 1,1⟩:=by
 obtain⟨h8,hc1,hc40⟩:=hln;have hcl:=constsF_len f.code;unfold zbN;rw [if_neg (by omega)];dsimp only;obtain⟨o,ho⟩:∃ o:Int,o=(f.vars.length+f.code.length+2:Int):=⟨_,rfl⟩;obtain⟨pl,hpl⟩:∃ pl:Int,pl=o+f.vars.length+(zal f.code).length:=⟨_,rfl⟩;rw [← ho,← hpl];obtain⟨i1,i2,i3⟩:=emit_in (o:=o) (pl:=pl) (nv:=f.vars.length) (by omega) (by omega) (by omega) (by omega) f.code f.vars.length cs e ⟨o+f.vars.length,0,0⟩ hw (by rw [hcs];rfl) (by omega) ⟨Int.le_refl _,(show (0:Int)≤12 by decide)⟩ (by show 0≤o+(f.vars.length:Int);omega) (by show o+(f.vars.length:Int)+_≤_;omega) (by omega) (by omega);have hel:=emit_len f.code o pl f.vars.length ⟨o+f.vars.length,0,0⟩;generalize hT:zbM o pl f.code f.vars.length ⟨o+f.vars.length,0,0⟩=T at *;have hrl:(zaT o f.vars.length).length=f.vars.length:=by simp [zaT]
 have hmost:T.2.most.toNat≤12:=by omega
 obtain⟨P,hP⟩:∃ P,P=zaT o f.vars.length ++ T.1 ++ [encW 7 pl 0 (o - 1)] ++ [0]:=⟨_,rfl⟩;have hPl:P.length=f.vars.length+f.code.length+2:=by rw [hP];simp [hrl,hel];omega
 have hS:zaT o f.vars.length ++ T.1 ++ [encW 7 pl 0 (o - 1)] ++ List.replicate (1+f.vars.length) 0 ++ zal f.code ++ List.replicate T.2.most.toNat 0=P ++ List.replicate f.vars.length 0 ++ zal f.code ++ List.replicate T.2.most.toNat 0:=by
  rw [hP,Nat.add_comm 1,List.replicate_succ];simp
 rw [hS];have hSl:(P ++ List.replicate f.vars.length 0 ++ zal f.code ++ List.replicate T.2.most.toNat (0:Int)).length=P.length+f.vars.length+(zal f.code).length+T.2.most.toNat:=by simp;omega
 refine⟨by omega,?_,rfl,rfl,by omega,?_⟩
 ·intro w hw';rw [List.mem_append,List.mem_append,List.mem_append] at hw';rcases hw' with ((h|h)|h)|h
  ·rw [hP,List.mem_append,List.mem_append,List.mem_append] at h;rcases h with ((h|h)|h)|h
   ·exact reads_in (by omega) (by omega) w h
   ·exact i1 w h
   ·rw [List.mem_singleton] at h;subst h;exact enc_in (by decide) (by omega) (by omega) (by omega)
   ·rw [List.mem_singleton] at h;subst h;decide
  ·rw [List.eq_of_mem_replicate h];decide
  ·exact constsF_in f.code (zgE _ _ _ hw) w h
  ·rw [List.eq_of_mem_replicate h];decide
 ·obtain⟨S,hSS⟩:∃ S,S=P ++ List.replicate f.vars.length 0 ++ zal f.code ++ List.replicate T.2.most.toNat (0:Int):=⟨_,rfl⟩;rw [← hSS] at hSl ⊢;have hget:∀ j:Nat,(beginO S words 0).store.getD j 0=S.getD j 0:=by
   intro j;unfold beginO;dsimp only;rw [List.getD_eq_getElem?_getD,List.getD_eq_getElem?_getD];rcases Nat.lt_or_ge j S.length with h|h
   ·rw [List.getElem?_append_left h]
   ·rw [List.getElem?_append_right h,List.getElem?_eq_none (l:=S) h,List.getElem?_replicate];split <;> rfl
  have hrd:∀ j:Nat,rdO (beginO S words 0) (j:Int)=S.getD j 0:=by
   intro j;unfold rdO;rw [Int.toNat_natCast];exact hget j
  have hMI:MI P o pl f.vars.length words [] (zal f.code) [] 0 (beginO S words 0):=by
   refine⟨rfl,rfl,rfl,?_,?_,fun j h=>by simp at h,?_,fun j h=>by simp at h,⟨Int.le_refl _,(show (0:Int)≤100+100 * ((0:Nat):Int) by decide)⟩,rfl,rfl,rfl⟩
   ·show (S ++ List.replicate (128 - S.length) 0).length=128
    simp;omega
   ·intro j hj;rw [hrd,hSS,List.append_assoc,List.append_assoc,List.getD_eq_getElem?_getD,List.getElem?_append_left hj,List.getElem?_eq_getElem hj];rfl
   ·intro j hj;rw [show o+(f.vars.length:Int)+(j:Int)=((P.length+f.vars.length+j:Nat):Int) by omega,hrd,hSS,List.getD_eq_getElem?_getD,List.getElem?_append_left (by simp;omega),List.getElem?_append_right (by simp)];rw [show P.length+f.vars.length+j - (P ++ List.replicate f.vars.length (0:Int)).length=j by simp,List.getElem?_eq_getElem hj];rfl
  have hnP:∀ (k:Nat) (h:k < f.vars.length),P[k]'(by omega)=encW 6 0 (o+k) (k+1):=by
   intro k hk;have:P[k]?=some (encW 6 0 (o+k) (k+1)):=by
    rw [hP,List.append_assoc,List.append_assoc,List.getElem?_append_left (by omega)];simp [zaT,hk]
   exact (List.getElem?_eq_some_iff.1 this).2
  obtain⟨s1,m1,r1⟩:=run_reads (P:=P) (by omega) (by omega) (by omega) (by omega) hl.symm (by omega) hnP f.vars.length _ (Nat.le_refl _) hMI;rw [List.take_of_length_le (by omega)] at m1;have hem:∀ (j:Nat) (h:j < f.code.length),P[f.vars.length+j]?=some ((zbM o pl f.code (f.vars.length:Int) ⟨o+f.vars.length,0,0⟩).1[j]'(by rw [emit_len];exact h)):=by
   intro j hj;simp only [hT];rw [hP,List.append_assoc,List.append_assoc,List.getElem?_append_right (by omega),hrl,Nat.add_sub_cancel_left,List.getElem?_append_left (by omega),List.getElem?_eq_getElem]
  obtain⟨s2,m2,r2,l2⟩:=run_nodes (W:=words) (by omega) (by omega) hl (by omega) (by omega) (by omega) f.code f.vars.length 0 s1 [] cs e ⟨o+f.vars.length,0,0⟩ 0 m1 hw hcs (by decide) rfl (by simp) rfl hem;rw [he] at l2;have hst:zaN 0 (zcw words) zdQ 0 f.code []=[valF f words]:=by
   unfold valF;match hc:zaN 0 (zcw words) zdQ 0 f.code [],l2 with
   | [a],_=>rfl
  rw [hst] at m2;have hpk:f.vars.length+f.code.length < P.length:=by omega
  have hPp:P[f.vars.length+f.code.length]=encW 7 pl 0 (((f.vars.length+f.code.length:Nat):Int)+1):=by
   have:P[f.vars.length+f.code.length]?=some (encW 7 pl 0 (((f.vars.length+f.code.length:Nat):Int)+1)):=by
    rw [hP,List.getElem?_append_left (by simp [hrl,hel]),List.getElem?_append_right (by simp [hrl,hel])];rw [show f.vars.length+f.code.length - (zaT o f.vars.length ++ T.1).length=0 by simp [hrl,hel]];show some (encW 7 pl 0 (o - 1))=_
    rw [show ((f.vars.length+f.code.length:Nat):Int)+1=o - 1 by omega]
   exact (List.getElem?_eq_some_iff.1 this).2
  have hz:rdO s2 (((f.vars.length+f.code.length:Nat):Int)+1)=0:=by
   have:=m2.code (f.vars.length+f.code.length+1) (by omega);rw [show (((f.vars.length+f.code.length:Nat):Int)+1)=((f.vars.length+f.code.length+1:Nat):Int) by omega,this];have:P[f.vars.length+f.code.length+1]?=some 0:=by
    rw [hP,List.getElem?_append_right (by simp [hrl,hel];omega)];rw [show f.vars.length+f.code.length+1 - (zaT o f.vars.length ++ T.1 ++ [encW 7 pl 0 (o - 1)]).length=0 by simp [hrl,hel];omega];rfl
   exact (List.getElem?_eq_some_iff.1 this).2
  obtain⟨t,r3⟩:=m2.print hpk (by omega) (by omega) hPp hz (5000 - (f.vars.length+f.code.length) - 2);refine⟨t,s2.store,?_⟩
  rw [show 5000=f.vars.length+(f.code.length+(5000 - (f.vars.length+f.code.length) - 2+2)) by omega,run_add,r1,run_add,r2,r3];congr 1 <;> omega
end FoT
namespace Go.Proofs.YtefglipcipjplaaGreatDoor
open Go Go.QL FoT
set_option maxHeartbeats 1600000
attribute [local irreducible] ACall FnC YC fine ten
theorem and15 (x:Int) (h : -9223372036854775808≤x∧x≤9223372036854775807):ze6 .and .i64 x 15=x % 16:=by
 show IntKind.i64.wrap ((BitVec.ofInt 64 x &&& BitVec.ofInt 64 15).toNat:Int)=_
 have e2:(BitVec.ofInt 64 15)=BitVec.ofNat 64 15:=by decide
 rw [e2,BitVec.toNat_and,BitVec.toNat_ofNat,BitVec.toNat_ofInt];rw [show (15 % 2 ^ 64:Nat)=2 ^ 4 - 1 by decide,Nat.and_two_pow_sub_one_eq_mod];rw [zg (by omega)];omega
theorem passing_fn (time addr:Int):ACall Tryz.prog 137 [iv .i64 time,iv .i64 addr] [] (fun r σ'=>r=.x (.f (.func 145) [] [.b 3 0,.b 2 0])∧σ'=[(3,.box [.d (.v (.int .i64 addr))]),(2,.box [.d (.v (.int .i64 time))])]):=by
 refine hdD Tryz.func137 Tryz.ntmps137 (res:=[.tmp 4]) fun w0 K0 B=>?_
 repeat' first|refine zd ?_|((first|refine zi ?_|refine regA ?_|fail);conv=>whnf)|fail
 exact⟨_,[(3,.box [.d (.v (.int .i64 addr))]),(2,.box [.d (.v (.int .i64 time))])],⟨rfl,rfl,trivial⟩,rfl,rfl,rfl,rfl⟩
abbrev frAf (time addr:Int):Fr:=[(8,.x (.f (.func 145) [] [.b 963 0,.b 962 0])),(4,.x (.b 4 0)),(0,iv .i64 time),(1,iv .i64 addr)]
abbrev sgA (asg bdy:Code) (s:LoopState) (pd:Option Code) (time addr v:Int):Sg:=
 [(930,.x (.loop s pd #[9] asg bdy 12 (frAf time addr) 931)),(931,.x .dfr),(4,.box [.d (.v (.int .i64 v))]),(963,.box [.d (.v (.int .i64 addr))]),(962,.box [.d (.v (.int .i64 time))])]
theorem passing1_fn {asg bdy:Code} {time addr:Int} {pd:Option Code} (ht : -1000000≤time∧time≤1000000000000) (ha : -1000000≤addr∧addr≤1000000)
  (hy:YC Tryz.prog 930 [iv .i64 (afterO time addr)] (sgA asg bdy .ready none time addr 0) (fun r σ'=>r=bv false∧σ'=sgA asg bdy .done pd time addr (afterO time addr))) :
  ACall Tryz.prog 145 [.x (.h 930),.x (.b 963 0),.x (.b 962 0)] (sgA asg bdy .ready none time addr 0) (fun r σ'=>r=.t []∧σ'=sgA asg bdy .done pd time addr (afterO time addr)):=by
 have h15:=and15 (addr - time - 1) (by omega);have hw:IntKind.i64.wrap (time+1+(addr - time - 1) % 16)=afterO time addr:=by unfold afterO;exact zg (by omega)
 generalize afterO time addr=v at hy hw;refine hdD Tryz.func145 Tryz.ntmps145 (res:=[]) fun w0 K0 B=>?_
 repeat' first|refine zd ?_|refine zc ?_|((first|refine regA ?_|refine⟨_,h15,?_⟩|refine⟨_,hw,?_⟩|refine zsq ?_|fail);conv=>whnf)|fail
 refine zJ (fun _:Unit=>[(5,iv .i64 v),(0,.x (.h 930)),(1,.x (.b 963 0)),(2,.x (.b 962 0))]) (fun _=>sgA asg bdy .ready none time addr 0) (fun _=>True) (fun _=>0) () trivial impA ?_
 intro _ _;repeat' first|refine zd ?_|((first|refine zk ?_|refine regA ?_|((refine⟨_,hy,?_⟩);(rintro _ _ ⟨rfl,rfl⟩))|fail);conv=>whnf)|(refine zss rfl ?_)|fail
 exact⟨_,sgA asg bdy .done pd time addr v,⟨rfl,rfl,rfl,rfl,rfl,trivial⟩,rfl,rfl,rfl,rfl⟩
theorem after_fn (time addr:Int) (ht : -1000000≤time∧time≤1000000000000) (ha : -1000000≤addr∧addr≤1000000):FnC Tryz.prog 127 [iv .i64 time,iv .i64 addr] (iv .i64 (afterO time addr)):=by
 have c1:=DC.ACall.anew (passing_fn time addr) (asc [(3,963),(2,962)]) (args':=[iv .i64 time,iv .i64 addr]) (rv':=.x (.f (.func 145) [] [.b 963 0,.b 962 0])) (nob':=[(963,.box [.d (.v (.int .i64 addr))]),(962,.box [.d (.v (.int .i64 time))])]) rfl rfl rfl rfl
  [(4,.box [.d (.v (.int .i64 0))])] (by intro p hp;simp only [List.mem_cons,List.not_mem_nil,or_false] at hp;rcases hp with rfl|rfl <;> rfl)
 refine FnC.of_ACall ?_ rfl
 refine zpe hTt [931] Tryz.func127 rfl (by kernel_rfl) (res:=[.cell 4 3]) rfl Tryz.ntmps127 (by simp) fun w0 K0 B=>?_
 dsimp only [entry];repeat' first|refine zd ?_|refine zc ?_|((first|refine regA ?_|((refine⟨_,c1,?_⟩);(rintro _ _ ⟨rfl,rfl⟩))|fail);conv=>whnf)|fail
 refine zaq (Imp.forget (fr':=frAf time addr) (σ':=[(4,.box [.d (.v (.int .i64 0))]),(963,.box [.d (.v (.int .i64 addr))]),(962,.box [.d (.v (.int .i64 time))])])
  ⟨rfl,rfl,rfl,rfl,trivial⟩ ⟨rfl,rfl,rfl,trivial⟩ rfl) ?_
 refine ziZ 930 931 rfl rfl rfl (by decide) (by simp) rfl _ (passing1_fn (pd:=some .ret) ht ha ?hy) ?hk
 case hk=>
  rintro rv σ' ⟨rfl,rfl⟩;refine⟨rfl,.done,some .ret,rfl,by decide,?_⟩
  dsimp only;repeat' first|((refine zi ?_);conv=>whnf)|fail
  exact⟨[(4,.x (.b 4 0))],[(4,.box [.d (.v (.int .i64 (afterO time addr)))])],⟨rfl,trivial⟩,⟨rfl,trivial⟩,rfl,iv .i64 (afterO time addr),[],trivial,rfl,rfl,rfl,rfl⟩
 case hy=>
  generalize afterO time addr=v;refine zoH (pend:=none) rfl rfl (by decide) rfl ?_
  intro w0 K0 B b;dsimp only [zk2];repeat' first|((refine regA ?_);conv=>whnf)|fail
  refine⟨_,rfl,?_⟩
  repeat' first|refine zd ?_|refine zc ?_|((first|refine zi ?_|refine regA ?_|fail);conv=>whnf)|fail
  refine⟨sgA ?a ?b .busy none time addr v,none,?h1,?h2,?h3,?h4⟩
  case h3=>exact rfl
  case h1=>exact⟨rfl,rfl,rfl,rfl,rfl,trivial⟩
  case h2=>rfl
  case h4=>exact⟨rfl,rfl⟩
end Go.Proofs.YtefglipcipjplaaGreatDoor
namespace Go.Proofs.YtefglipcipjplaaGreatDoor
open Go Go.QL FoT
set_option maxHeartbeats 1600000
attribute [local irreducible] ACall FnC YC fine ten
theorem and127 (x:Int) (h:0≤x∧x≤1000000000):ze6 .and .i64 x 127=x % 128:=by
 show IntKind.i64.wrap ((BitVec.ofInt 64 x &&& BitVec.ofInt 64 127).toNat:Int)=_
 have e2:(BitVec.ofInt 64 127)=BitVec.ofNat 64 127:=by decide
 rw [e2,BitVec.toNat_and,BitVec.toNat_ofNat,BitVec.toNat_ofInt];rw [show (127 % 2 ^ 64:Nat)=2 ^ 7 - 1 by decide,Nat.and_two_pow_sub_one_eq_mod];rw [zg (by omega)];omega
theorem unpack_fn (w:Int) (h:0≤w∧w≤1000000000):FnC Tryz.prog 126 [iv .i64 w] (.t [iv .i64 (w / 128),iv .i64 (w % 128)]):=by
 have h1:w.fdiv (2 ^ min (Int.toNat 7) IntKind.i64.bits)=w / 128:=Int.fdiv_eq_ediv_of_nonneg _ (by decide);have h2:=and127 w h;refine hdC Tryz.func126 Tryz.ntmps126 (res:=[.tmp 2,.tmp 3]) fun w0 K0=>?_
 repeat' first|refine zd ?_|((first|refine zi ?_|refine regA ?_|refine⟨_,h1,?_⟩|refine⟨_,h2,?_⟩|refine andA ?_|fail);conv=>whnf)|fail
 rfl
abbrev oAV (o:OrO):AV:=orAV o.op o.a o.b o.n
theorem decode_fn (w:Int) (h:zP w):FnC Tryz.prog 109 [iv .i64 w] (oAV (decO w)):=by
 unfold zP at h;have p1:=unpack_fn w (by omega);have p2:=unpack_fn (w / 128) (by omega);have p3:=unpack_fn (w / 128 / 128) (by omega);have e1:w / 128 / 128 / 128=w / 2097152:=by omega
 have e2:w / 128 / 128 % 128=w / 16384 % 128:=by omega
 rw [e1,e2] at p3;refine hdC Tryz.func109 Tryz.ntmps109 (res:=[.cell 2 55]) fun w0 K0=>?_
 repeat' first|refine zd ?_|((first|refine zi ?_|refine regA ?_|refine zsn (p1) ?_|refine zsn (p2) ?_|refine zsn (p3) ?_|refine andA ?_|fail);conv=>whnf)|fail
 rfl
structure OrOK (o:OrO):Prop where
 op:0≤o.op∧o.op≤7
 a:0≤o.a∧o.a≤127
 b:0≤o.b∧o.b≤127
 n:0≤o.n∧o.n≤127
theorem dec_ok {w:Int} (h:zP w):OrOK (decO w):=by
 unfold zP at h;refine⟨?_,?_,?_,?_⟩ <;> (unfold decO;dsimp only;omega)
def atO (o:OrO) (neg:Bool):Int:=if o.op=5∧neg=true then o.b else o.n
theorem when_fn (o:OrO) (ho:OrOK o) (time:Int) (ht:0≤time∧time≤10000000000) (neg:Bool):FnC Tryz.prog 110 [oAV o,iv .i64 time,bv neg] (.t [iv .i64 (atO o neg),iv .i64 (untilO o time (atO o neg))]):=by
 obtain⟨op,a,b,n⟩:=o;obtain⟨h1,h2,h3,h4⟩:=ho;dsimp only at h1 h2 h3 h4;show FnC Tryz.prog 110 [orAV op a b n,iv .i64 time,bv neg] _
 have hat:0≤atO ⟨op,a,b,n⟩ neg∧atO ⟨op,a,b,n⟩ neg≤127:=by unfold atO;split <;> assumption
 have b1:=after_le time a;have b2:=after_le time b;have b3:=after_le (afterO time a) b;have b4:=after_le (afterO (afterO time a) b+12) b;have c1:=after_fn time a (by omega) (by omega);have c2:=after_fn time b (by omega) (by omega);have c3:=after_fn (afterO time a) b (by omega) (by omega);have c4:=after_fn (afterO (afterO time a) b+12) b (by omega) (by omega);have d1:=after_fn (afterO time a) (atO ⟨op,a,b,n⟩ neg) (by omega) (by omega);have d2:=after_fn (afterO time b) (atO ⟨op,a,b,n⟩ neg) (by omega) (by omega);have d3:=after_fn (afterO (afterO time a) b) (atO ⟨op,a,b,n⟩ neg) (by omega) (by omega);have d4:=after_fn (afterO (afterO (afterO time a) b+12) b) (atO ⟨op,a,b,n⟩ neg) (by omega) (by omega);clear hat;unfold untilO atO at *;dsimp only at *;by_cases k5:op=5
 ·subst k5;cases neg with
  | true=>
   simp only [and_self,if_true,true_or] at *;refine hdC Tryz.func110 Tryz.ntmps110 (res:=[.tmp 6,.tmp 7]) fun w0 K0=>?_
   repeat' first|refine zd ?_|refine zc ?_|((first|refine zk ?_|refine zi ?_|refine regA ?_|refine zsn (c1) ?_|refine zsn (d1) ?_|fail);conv=>whnf)|(refine zst rfl ?_)|((refine andA ?_);conv=>whnf)|fail
   rfl
  | false=>
   simp only [and_false,if_false,Bool.false_eq_true,true_or,if_true] at *;refine hdC Tryz.func110 Tryz.ntmps110 (res:=[.tmp 6,.tmp 7]) fun w0 K0=>?_
   repeat' first|refine zd ?_|refine zc ?_|((first|refine zf ?_|refine zk ?_|refine zi ?_|refine regA ?_|refine zsn (c1) ?_|refine zsn (d1) ?_|fail);conv=>whnf)|(refine zst rfl ?_)|(refine zss rfl ?_)|((refine andA ?_);conv=>whnf)|fail
   rfl
 ·simp only [k5,false_and,if_false,false_or] at d1 d2 d3 d4 ⊢;by_cases k7:op=7
  ·subst k7;rw [if_pos rfl];refine hdC Tryz.func110 Tryz.ntmps110 (res:=[.tmp 6,.tmp 7]) fun w0 K0=>?_
   repeat' first|refine zd ?_|refine zc ?_|((first|refine zf ?_|refine zk ?_|refine zi ?_|refine regA ?_|refine zsn (c1) ?_|refine zsn (d1) ?_|fail);conv=>whnf)|(refine zst rfl ?_)|(refine zss rfl ?_)|((refine andA ?_);conv=>whnf)|fail
   rfl
  ·rw [if_neg k7];by_cases k6:op=6
   ·subst k6;rw [if_pos rfl];refine hdC Tryz.func110 Tryz.ntmps110 (res:=[.tmp 6,.tmp 7]) fun w0 K0=>?_
    repeat' first|refine zd ?_|refine zc ?_|((first|refine zf ?_|refine zk ?_|refine zi ?_|refine regA ?_|refine zsn (c2) ?_|refine zsn (d2) ?_|fail);conv=>whnf)|(refine zst rfl ?_)|(refine zss rfl ?_)|((refine andA ?_);conv=>whnf)|fail
    rfl
   ·rw [if_neg k6];by_cases k4:op=4
    ·subst k4;rw [if_pos rfl];refine hdC Tryz.func110 Tryz.ntmps110 (res:=[.tmp 6,.tmp 7]) fun w0 K0=>?_
     repeat' first|refine zd ?_|refine zc ?_|((first|refine zf ?_|refine zk ?_|refine zi ?_|refine regA ?_|refine drA (id:=11) 6 false [0,0,2,7,0,16,63,127,255] ?_|refine zsp (c1) ?_|refine zsn (c3) ?_|refine zsn (c4) ?_|refine zsn (d4) ?_|fail);conv=>whnf)|(refine zst rfl ?_)|(refine zss rfl ?_)|((first|refine zsq ?_|refine andA ?_|fail);conv=>whnf)|fail
     rfl
    ·rw [if_neg k4];refine hdC Tryz.func110 Tryz.ntmps110 (res:=[.tmp 6,.tmp 7]) fun w0 K0=>?_
     repeat' first|refine zd ?_|refine zc ?_|((first|refine zf ?_|refine zk ?_|refine zi ?_|refine regA ?_|refine drA (id:=11) 6 false [0,0,2,7,0,16,63,127,255] ?_|refine drA (id:=13) 6 false [0,0,2,7,0,16,63,127] ?_|fail);conv=>whnf)|exact abA hb|((first|refine zsp (c1) ?_|refine zsn (c3) ?_|refine zsn (d3) ?_|fail);conv=>whnf)|(refine zso rfl (fun hb=>?_) (fun hb=>?_))|((refine andA ?_);conv=>whnf)|fail
     rfl
end Go.Proofs.YtefglipcipjplaaGreatDoor
namespace Go.Proofs.YtefglipcipjplaaGreatDoor
open Go Go.QL FoT
set_option maxHeartbeats 1600000
attribute [local irreducible] ACall FnC YC fine ten
abbrev iC (n:Int):SV:=.d (.v (.int .i64 n))
abbrev mS (s:OrS) (o:OrO) (p:Nat):Sg:=
 [(26,.box [.o 900 1 128,.d (zR s.tape),iC s.taken,.o 901 p s.printed.length,iC s.time,iC s.at_,iC s.done,iC s.why,iC o.op,iC o.a,iC o.b,iC o.n]),
  (900,.chain 3 1 1 (s.store.map iPV)),(901,.chain 3 1 p (s.printed.map iPV))]
theorem mfrom_fn (s:OrS) (o:OrO) (p:Nat) (hl:s.store.length=128) (h:0≤o.a∧o.a≤127):ACall Tryz.prog 111 [.x (.b 26 0)] (mS s o p) (fun r σ'=>r=.x (.oe 900 1 o.a.toNat 0)∧σ'=mS s o p):=by
 have hm:(s.store.map iPV).length=128:=by rw [List.length_map,hl]
 refine hdD Tryz.func111 Tryz.ntmps111 (res:=[.tmp 2]) fun w0 K0 B=>?_
 repeat' first|refine zd ?_|((first|refine zi ?_|refine regA ?_|refine drA (id:=1) 10 false [0,1,3,7,15,0,32,96,224,480,1023,2047] ?_|refine andA ?_|fail);conv=>whnf)|fail
 exact⟨_,mS s o p,⟨rfl,rfl,rfl,trivial⟩,rfl,rfl,rfl,rfl⟩
theorem mto_fn (s:OrS) (o:OrO) (p:Nat) (hl:s.store.length=128) (h:0≤o.b∧o.b≤127):ACall Tryz.prog 128 [.x (.b 26 0)] (mS s o p) (fun r σ'=>r=.x (.oe 900 1 o.b.toNat 0)∧σ'=mS s o p):=by
 have hm:(s.store.map iPV).length=128:=by rw [List.length_map,hl]
 refine hdD Tryz.func128 Tryz.ntmps128 (res:=[.tmp 2]) fun w0 K0 B=>?_
 repeat' first|refine zd ?_|((first|refine zi ?_|refine regA ?_|refine drA (id:=1) 10 false [0,1,3,7,15,0,32,96,224,480,1023,2047] ?_|refine andA ?_|fail);conv=>whnf)|fail
 exact⟨_,mS s o p,⟨rfl,rfl,rfl,trivial⟩,rfl,rfl,rfl,rfl⟩
theorem rd_get {s:OrS} {a:Int} (hl:s.store.length=128) (h:0≤a∧a≤127):(s.store.map iPV)[a.toNat]?=some (iPV (rdO s a)):=by
 rw [List.getElem?_map,List.getElem?_eq_getElem (by omega)];unfold rdO;rw [List.getD_eq_getElem?_getD,List.getElem?_eq_getElem (by omega)];rfl
theorem wr_map (s:OrS) (b v:Int):(s.store.map iPV).set b.toNat (iPV v)=(wrO s b v).store.map iPV:=by
 unfold wrO;dsimp only;rw [List.map_set]
theorem word_wrap {x y:Int} (hx:zP x) (hy:zP y):IntKind.i64.wrap (x+y)=x+y∧IntKind.i64.wrap (x - y)=x - y:=by
 unfold zP at *;exact⟨zg (by omega),zg (by omega)⟩
theorem sgn_in {x:Int} (h:zP x) : -8388608≤sgnW x∧sgnW x≤8388607:=by
 unfold zP at h;unfold sgnW;split <;> omega
theorem sgn_mul {x y:Int} (hx:zP x) (hy:zP y):IntKind.i64.wrap (sgnW x * sgnW y)=sgnW x * sgnW y∧(sgnW x * sgnW y).fdiv (2 ^ min (Int.toNat 23) IntKind.i64.bits)=sgnW x * sgnW y / 8388608:=by
 have h1:=sgn_in hx;have h2:=sgn_in hy;generalize sgnW x=a at *;generalize sgnW y=b at *;refine⟨zg ?_,Int.fdiv_eq_ediv_of_nonneg _ (by decide)⟩
 have h3:a * b≤8388608 * 8388608∧-(8388608 * 8388608)≤a * b:=by
  have:=zdO (y:=b) h1.1 h1.2;have e1:(-8388608:Int) * b≤8388608 * 8388608∧-(8388608 * 8388608)≤(-8388608:Int) * b:=by omega
  have e2:(8388607:Int) * b≤8388608 * 8388608∧-(8388608 * 8388608)≤(8388607:Int) * b:=by omega
  omega
 omega
theorem mmove_fn (s:OrS) (o:OrO) (p:Nat) (hl:s.store.length=128) (h:OrOK o):ACall Tryz.prog 113 [.x (.b 26 0)] (mS s o p) (fun r σ'=>r=.t []∧σ'=mS (wrO s o.b (rdO s o.a)) o p):=by
 have h1:=mfrom_fn s o p hl h.a;have h2:=mto_fn s o p hl h.b;have g1:=rd_get hl h.a;have g2:=rd_get hl h.b;have hw:=wr_map s o.b (rdO s o.a);refine hdD Tryz.func113 Tryz.ntmps113 (res:=[]) fun w0 K0 B=>?_
 repeat' first|((first|refine regA ?_|((refine⟨_,h1,?_⟩);(rintro _ _ ⟨rfl,rfl⟩))|((refine⟨_,h2,?_⟩);(rintro _ _ ⟨rfl,rfl⟩))|with_reducible refine Exists.intro _ (And.intro (ze g1) (And.intro (And.intro (Nat.le_of_ble_eq_true rfl) rfl) ?_))|with_reducible refine Exists.intro _ (And.intro g2 (And.intro (Nat.le_of_ble_eq_true rfl) ?_))|refine andA ?_|fail);conv=>whnf)|fail
 exact⟨_,mS (wrO s o.b (rdO s o.a)) o p,⟨rfl,chE hw,rfl,trivial⟩,rfl,rfl,rfl,rfl⟩
theorem madd_fn (s:OrS) (o:OrO) (p:Nat) (hl:s.store.length=128) (h:OrOK o) (wa:zP (rdO s o.a)) (wb:zP (rdO s o.b)):ACall Tryz.prog 114 [.x (.b 26 0)] (mS s o p) (fun r σ'=>r=.t []∧σ'=mS (wrO s o.b ((rdO s o.b+rdO s o.a) % 16777216)) o p):=by
 have h1:=mfrom_fn s o p hl h.a;have h2:=mto_fn s o p hl h.b;have g1:=rd_get hl h.a;have g2:=rd_get hl h.b;have w1:=(word_wrap wb wa).1;have w2:=zsh (rdO s o.b+rdO s o.a);have hw:=wr_map s o.b ((rdO s o.b+rdO s o.a) % 16777216);refine hdD Tryz.func114 Tryz.ntmps114 (res:=[]) fun w0 K0 B=>?_
 repeat' first|((first|refine zkA hTt hMix (id:=0) 10 [0,2,6] [⟨1,false,false,[2,6],[]⟩,⟨3,false,false,[6],[4,5]⟩,⟨7,false,false,[4,5],[8,9]⟩] [0,1,0,7,15,31,0,79,207,463,1023,2047,4095,8191] (by kernel_rfl) rfl (by kernel_rfl) (by kernel_rfl) (by kernel_rfl) ?_|refine LateGo.mk ⟨_,rfl,?_⟩|((refine⟨_,h1,?_⟩);(rintro _ _ ⟨rfl,rfl⟩))|((refine⟨_,h2,?_⟩);(rintro _ _ ⟨rfl,rfl⟩))|refine⟨_,w1,?_⟩|refine⟨_,w2,?_⟩|with_reducible refine Exists.intro _ (And.intro (ze g1) (And.intro (And.intro (Nat.le_of_ble_eq_true rfl) rfl) ?_))|with_reducible refine Exists.intro _ (And.intro (ze g2) (And.intro (And.intro (Nat.le_of_ble_eq_true rfl) rfl) ?_))|with_reducible refine Exists.intro _ (And.intro g2 (And.intro (Nat.le_of_ble_eq_true rfl) ?_))|refine andA ?_|fail);conv=>whnf)|fail
 exact⟨_,mS (wrO s o.b ((rdO s o.b+rdO s o.a) % 16777216)) o p,⟨rfl,chE hw,rfl,trivial⟩,rfl,rfl,rfl,rfl⟩
theorem msub_fn (s:OrS) (o:OrO) (p:Nat) (hl:s.store.length=128) (h:OrOK o) (wa:zP (rdO s o.a)) (wb:zP (rdO s o.b)):ACall Tryz.prog 115 [.x (.b 26 0)] (mS s o p) (fun r σ'=>r=.t []∧σ'=mS (wrO s o.b ((rdO s o.b - rdO s o.a) % 16777216)) o p):=by
 have h1:=mfrom_fn s o p hl h.a;have h2:=mto_fn s o p hl h.b;have g1:=rd_get hl h.a;have g2:=rd_get hl h.b;have w1:=(word_wrap wb wa).2;have w2:=zsh (rdO s o.b - rdO s o.a);have hw:=wr_map s o.b ((rdO s o.b - rdO s o.a) % 16777216);refine hdD Tryz.func115 Tryz.ntmps115 (res:=[]) fun w0 K0 B=>?_
 repeat' first|((first|refine zkA hTt hMix (id:=0) 10 [0,2,6] [⟨1,false,false,[2,6],[]⟩,⟨3,false,false,[6],[4,5]⟩,⟨7,false,false,[4,5],[8,9]⟩] [0,1,0,7,15,31,0,79,207,463,1023,2047,4095,8191] (by kernel_rfl) rfl (by kernel_rfl) (by kernel_rfl) (by kernel_rfl) ?_|refine LateGo.mk ⟨_,rfl,?_⟩|((refine⟨_,h1,?_⟩);(rintro _ _ ⟨rfl,rfl⟩))|((refine⟨_,h2,?_⟩);(rintro _ _ ⟨rfl,rfl⟩))|refine⟨_,w1,?_⟩|refine⟨_,w2,?_⟩|with_reducible refine Exists.intro _ (And.intro (ze g1) (And.intro (And.intro (Nat.le_of_ble_eq_true rfl) rfl) ?_))|with_reducible refine Exists.intro _ (And.intro (ze g2) (And.intro (And.intro (Nat.le_of_ble_eq_true rfl) rfl) ?_))|with_reducible refine Exists.intro _ (And.intro g2 (And.intro (Nat.le_of_ble_eq_true rfl) ?_))|refine andA ?_|fail);conv=>whnf)|fail
 exact⟨_,mS (wrO s o.b ((rdO s o.b - rdO s o.a) % 16777216)) o p,⟨rfl,chE hw,rfl,trivial⟩,rfl,rfl,rfl,rfl⟩
theorem mmul_fn (s:OrS) (o:OrO) (p:Nat) (hl:s.store.length=128) (h:OrOK o) (wa:zP (rdO s o.a)) (wb:zP (rdO s o.b)):ACall Tryz.prog 116 [.x (.b 26 0)] (mS s o p) (fun r σ'=>r=.t []∧σ'=mS (wrO s o.b (sgnW (rdO s o.a) * sgnW (rdO s o.b) / 8388608 % 16777216)) o p):=by
 have h1:=mfrom_fn s o p hl h.a;have h2:=mto_fn s o p hl h.b;have g1:=rd_get hl h.a;have g2:=rd_get hl h.b;have s1:=zps _ wa;have s2:=zps _ wb;obtain⟨w1,w3⟩:=sgn_mul wa wb;have w2:=zsh (sgnW (rdO s o.a) * sgnW (rdO s o.b) / 8388608);have hw:=wr_map s o.b (sgnW (rdO s o.a) * sgnW (rdO s o.b) / 8388608 % 16777216);refine hdD Tryz.func116 Tryz.ntmps116 (res:=[]) fun w0 K0 B=>?_
 repeat' first|((first|refine regA ?_|((refine⟨_,h1,?_⟩);(rintro _ _ ⟨rfl,rfl⟩))|((refine⟨_,h2,?_⟩);(rintro _ _ ⟨rfl,rfl⟩))|refine zsn (s1) ?_|refine zsn (s2) ?_|refine⟨_,w1,?_⟩|refine⟨_,w2,?_⟩|refine⟨_,w3,?_⟩|with_reducible refine Exists.intro _ (And.intro (ze g1) (And.intro (And.intro (Nat.le_of_ble_eq_true rfl) rfl) ?_))|with_reducible refine Exists.intro _ (And.intro (ze g2) (And.intro (And.intro (Nat.le_of_ble_eq_true rfl) rfl) ?_))|with_reducible refine Exists.intro _ (And.intro g2 (And.intro (Nat.le_of_ble_eq_true rfl) ?_))|refine andA ?_|fail);conv=>whnf)|fail
 exact⟨_,mS (wrO s o.b (sgnW (rdO s o.a) * sgnW (rdO s o.b) / 8388608 % 16777216)) o p,⟨rfl,chE hw,rfl,trivial⟩,rfl,rfl,rfl,rfl⟩
theorem mread_fn (s:OrS) (o:OrO) (p:Nat) (hl:s.store.length=128) (h:OrOK o) (ht:0≤s.taken∧s.taken < s.tape.length) (htm:s.tape.length≤1000):ACall Tryz.prog 117 [.x (.b 26 0)] (mS s o p)
  (fun r σ'=>r=.t []∧σ'=mS { wrO s o.b (s.tape.getD s.taken.toNat 0) with taken:=s.taken+1 } o p):=by
 have h2:=mto_fn s o p hl h.b;have g2:=rd_get hl h.b;have hw:=wr_map s o.b (s.tape.getD s.taken.toNat 0);have gt:s.tape[s.taken.toNat]?=some (s.tape.getD s.taken.toNat 0):=by rw [List.getD_eq_getElem?_getD,List.getElem?_eq_getElem (by omega)];rfl
 generalize s.tape.getD s.taken.toNat 0=v at *;refine hdD Tryz.func117 Tryz.ntmps117 (res:=[]) fun w0 K0 B=>?_
 repeat' first|((first|refine zkA hTt hMix (id:=0) 14 [0,2,3,4,5,6,7,8,9,10,11,12,13] [⟨1,false,false,[2,3,4,5,6,7,8,9,10,11,12,13],[]⟩] [0,1,0,4,12,28,60,0,128,384,896,1920,4092,8188,16383,32767] (by kernel_rfl) rfl (by kernel_rfl) (by kernel_rfl) (by kernel_rfl) ?_|refine LateGo.mk ⟨_,rfl,?_⟩|fail);conv=>whnf)|refine zd ?_|((first|refine regA ?_|((refine⟨_,h2,?_⟩);(rintro _ _ ⟨rfl,rfl⟩))|with_reducible refine Exists.intro _ (And.intro g2 (And.intro (Nat.le_of_ble_eq_true rfl) ?_))|with_reducible refine Exists.intro _ (And.intro (ze (And.intro (by omega) (zgb gt))) ?_)|refine zsq ?_|refine andA ?_|fail);conv=>whnf)|fail
 exact⟨_,mS { wrO s o.b v with taken:=s.taken+1 } o p,⟨rfl,chE hw,rfl,trivial⟩,rfl,rfl,rfl,rfl⟩
theorem mprint_fn (s:OrS) (o:OrO) (p:Nat) (hl:s.store.length=128) (h:OrOK o) (hp:s.printed.length≤1000):ACall Tryz.prog 118 [.x (.b 26 0)] (mS s o p)
  (fun r σ'=>r=.t []∧σ'=mS { s with printed:=s.printed ++ [rdO s o.a] } o (p+1)):=by
 have h1:=mfrom_fn s o p hl h.a;have g1:=rd_get hl h.a;have hpl:(s.printed.map iPV).length=s.printed.length:=List.length_map _;have e2:(s.printed.map iPV).take s.printed.length ++ [iPV (rdO s o.a)]=(s.printed ++ [rdO s o.a]).map iPV:=by rw [List.map_append,List.take_of_length_le (by omega)];rfl
 refine hdD Tryz.func118 Tryz.ntmps118 (res:=[]) fun w0 K0 B=>?_
 repeat' first|((first|refine zkA hTt hMix (id:=0) 12 [0,1,2,3,4,5,6] [⟨7,false,false,[0,1,2,3,4,5],[8,9,10]⟩,⟨11,false,false,[0],[]⟩] [0,0,2,6,14,30,0,64,192,448,960,2046,4095,8191,16383,32767] (by kernel_rfl) rfl (by kernel_rfl) (by kernel_rfl) (by kernel_rfl) ?_|refine LateGo.mk ⟨_,rfl,?_⟩|((refine⟨_,h1,?_⟩);(rintro _ _ ⟨rfl,rfl⟩))|with_reducible refine Exists.intro _ (And.intro (ze g1) (And.intro (And.intro (Nat.le_of_ble_eq_true rfl) rfl) ?_))|refine andA ?_|fail);conv=>whnf)|((refine And.intro (by refine⟨?_,?_,?_⟩ <;> simp [zO,maxLen] <;> omega) ?_);conv=>whnf)|fail
 have e3:s.printed.length+1=(s.printed ++ [rdO s o.a]).length:=by rw [List.length_append];rfl
 exact⟨_,mS { s with printed:=s.printed ++ [rdO s o.a] } o (p+1),⟨(by show _=some (Ob.box [_,_,_,SV.o 901 (p+1) (s.printed ++ [rdO s o.a]).length,_,_,_,_,_,_,_,_]);rw [← e3];rfl),rfl,chE e2,trivial⟩,rfl,rfl,rfl,rfl⟩
end Go.Proofs.YtefglipcipjplaaGreatDoor
namespace Go.Proofs.YtefglipcipjplaaGreatDoor
open Go Go.QL FoT
set_option maxHeartbeats 3200000
attribute [local irreducible] ACall FnC YC fine ten
structure OKS (s:OrS):Prop where
 len:s.store.length=128
 words:∀ w ∈ s.store,zP w
 tape:s.tape.length≤200
 twords:∀ w ∈ s.tape,zP w
 taken:0≤s.taken∧s.taken≤s.tape.length
 pr:s.printed.length≤200
 pwords:∀ w ∈ s.printed,zP w
 time:0≤s.time∧s.time≤1000000000
 at_:0≤s.at_∧s.at_≤127
 done:0≤s.done∧s.done≤s.time
 why:0≤s.why∧s.why≤4
theorem OKS.rd {s:OrS} (h:OKS s) (i:Int):zP (rdO s i):=by
 unfold rdO;rw [List.getD_eq_getElem?_getD];cases hx:s.store[i.toNat]? with
 | none=>exact⟨by decide,by decide⟩
 | some w=>exact h.words w (List.mem_of_getElem? hx)
def stepF (s:OrS) (o:OrO) (A u:Int):OrS:=
 let why:=if o.op=0 then 1 else if o.op=6∧s.taken=s.tape.length then 2 else if o.op=7∧s.printed.length=200 then 3 else 0
 let why:=if why=0∧1000000000 < u then 4 else why
 if why=0 then { doO s o with at_:=A,time:=u,done:=s.done+1,why:=0 } else { s with why:=why }
theorem stepF_eq {s:OrS} (hw:s.why=0):stepO s=stepF s (decO (rdO s s.at_)) (atO (decO (rdO s s.at_)) (decide (sgnW (rdO s (decO (rdO s s.at_)).a) < 0))) (untilO (decO (rdO s s.at_)) s.time (atO (decO (rdO s s.at_)) (decide (sgnW (rdO s (decO (rdO s s.at_)).a) < 0)))):=by
 unfold stepO stepF atO;rw [hw];simp only [decide_eq_true_eq]
theorem stepnop_fn:FnC Tryz.prog 112 [] (.t []):=by
 refine hdC Tryz.func112 Tryz.ntmps112 (res:=[]) fun w0 K0=>?_
 repeat' first|((refine zf ?_);conv=>whnf)|fail
 rfl
section
variable {st tp pr X pr':List Int} {tk tk' tm at' dn op a b n A u w va:Int} {o:OrO} {p p':Nat}
theorem step_go (hop:1≤op∧op≤7) (hln:st.length=128) (hat:0≤at'∧at'≤127) (hdn:0≤dn∧dn≤1000000000) (g0:(st.map iPV)[at'.toNat]?=some (iPV w)) (g1:(st.map iPV)[a.toNat]?=some (iPV va))
  (dc:FnC Tryz.prog 109 [iv .i64 w] (orAV op a b n)) (hsg:FnC Tryz.prog 86 [iv .i64 va] (iv .i64 (sgnW va)))
  (hwh:FnC Tryz.prog 110 [orAV op a b n,iv .i64 tm,bv (decide (sgnW va < 0))] (.t [iv .i64 A,iv .i64 u])) (hu:¬ 1000000000 < u)
  (hfr:ACall Tryz.prog 111 [.x (.b 26 0)] (mS ⟨st,tp,tk,pr,tm,at',dn,0⟩ ⟨op,a,b,n⟩ p) (fun r σ'=>r=.x (.oe 900 1 a.toNat 0)∧σ'=mS ⟨st,tp,tk,pr,tm,at',dn,0⟩ ⟨op,a,b,n⟩ p))
  (h1:op=1→ACall Tryz.prog 113 [.x (.b 26 0)] (mS ⟨st,tp,tk,pr,tm,at',dn,0⟩ ⟨op,a,b,n⟩ p) (fun r σ'=>r=.t []∧σ'=mS ⟨X,tp,tk',pr',tm,at',dn,0⟩ ⟨op,a,b,n⟩ p'))
  (h2:op=2→ACall Tryz.prog 114 [.x (.b 26 0)] (mS ⟨st,tp,tk,pr,tm,at',dn,0⟩ ⟨op,a,b,n⟩ p) (fun r σ'=>r=.t []∧σ'=mS ⟨X,tp,tk',pr',tm,at',dn,0⟩ ⟨op,a,b,n⟩ p'))
  (h3:op=3→ACall Tryz.prog 115 [.x (.b 26 0)] (mS ⟨st,tp,tk,pr,tm,at',dn,0⟩ ⟨op,a,b,n⟩ p) (fun r σ'=>r=.t []∧σ'=mS ⟨X,tp,tk',pr',tm,at',dn,0⟩ ⟨op,a,b,n⟩ p'))
  (h4:op=4→ACall Tryz.prog 116 [.x (.b 26 0)] (mS ⟨st,tp,tk,pr,tm,at',dn,0⟩ ⟨op,a,b,n⟩ p) (fun r σ'=>r=.t []∧σ'=mS ⟨X,tp,tk',pr',tm,at',dn,0⟩ ⟨op,a,b,n⟩ p'))
  (h5:op=5→X=st∧tk'=tk∧pr'=pr∧p'=p)
  (h6:op=6→tk≠tp.length∧ACall Tryz.prog 117 [.x (.b 26 0)] (mS ⟨st,tp,tk,pr,tm,at',dn,0⟩ ⟨op,a,b,n⟩ p) (fun r σ'=>r=.t []∧σ'=mS ⟨X,tp,tk',pr',tm,at',dn,0⟩ ⟨op,a,b,n⟩ p'))
  (h7:op=7→pr.length≠200∧ACall Tryz.prog 118 [.x (.b 26 0)] (mS ⟨st,tp,tk,pr,tm,at',dn,0⟩ ⟨op,a,b,n⟩ p) (fun r σ'=>r=.t []∧σ'=mS ⟨X,tp,tk',pr',tm,at',dn,0⟩ ⟨op,a,b,n⟩ p')) :
  ACall Tryz.prog 81 [.x (.b 26 0)] (mS ⟨st,tp,tk,pr,tm,at',dn,0⟩ o p) (fun r σ'=>r=.t []∧σ'=mS ⟨X,tp,tk',pr',u,A,dn+1,0⟩ ⟨op,a,b,n⟩ p'):=by
 have hud:decide (1000000000 < u)=false:=decide_eq_false hu;have hdw:IntKind.i64.wrap (dn+1)=dn+1:=zg (by omega);have hnp:=stepnop_fn;dsimp only [mS] at *;clear hu;refine hdD Tryz.func81 Tryz.ntmps81 (res:=[]) fun w0 K0 B=>?_
 repeat' first|((first|refine zkA hTt hMix (id:=1) 20 [0,1,2,3,4,5,6,7,8,9] [⟨10,false,false,[0,1,2,3,4,5,6,7,8],[11,12,13,14,15,16,17,18,19]⟩] [0,1,3,7,0,16,48,112,240,0,512,1536,3584,7680,15872,32767,65535,131071,131071,262143,1048575] (by kernel_rfl) rfl (by kernel_rfl) (by kernel_rfl) (by kernel_rfl) ?_|refine LateGo.mk ⟨_,rfl,?_⟩|fail);conv=>whnf)|refine zd ?_|refine zc ?_|((first|refine zf ?_|refine regA ?_|refine drA (id:=0) 14 false [0,0,2,6,14,30,0,64,192,448,960,2046,4094,8190,16383,32767,65535] ?_|refine drA (id:=16) 11 false [0,1,3,7,15,0,32,96,224,480,992,2047] ?_|refine zsp (dc) ?_|((refine⟨_,hfr,?_⟩);(rintro _ _ ⟨rfl,rfl⟩))|with_reducible refine Exists.intro _ (And.intro (ze g0) (And.intro (And.intro (Nat.le_of_ble_eq_true rfl) rfl) ?_))|with_reducible refine Exists.intro _ (And.intro (ze g1) (And.intro (And.intro (Nat.le_of_ble_eq_true rfl) rfl) ?_))|refine zsp (hsg) ?_|refine zsp (hwh) ?_|((refine⟨_,(h1 (by assumption)),?_⟩);(rintro _ _ ⟨rfl,rfl⟩))|((refine⟨_,(h2 (by assumption)),?_⟩);(rintro _ _ ⟨rfl,rfl⟩))|((refine⟨_,(h3 (by assumption)),?_⟩);(rintro _ _ ⟨rfl,rfl⟩))|((refine⟨_,(h4 (by assumption)),?_⟩);(rintro _ _ ⟨rfl,rfl⟩))|((refine⟨_,(h6 (by assumption)).2,?_⟩);(rintro _ _ ⟨rfl,rfl⟩))|((refine⟨_,(h7 (by assumption)).2,?_⟩);(rintro _ _ ⟨rfl,rfl⟩))|refine zsn (hnp) ?_|fail);conv=>whnf)|(refine za rfl (zM hud) (fun _=>?_))|((refine⟨_,hdw,?_⟩);conv=>whnf)|exact abA hb|(refine zst rfl ?_)|(refine zso rfl (fun hb=>?_) (fun hb=>?_))|((first|refine andA ?_|with_reducible refine And.intro (ze (And.intro (by omega) (And.intro (by first|omega|(simp only [List.length_map];omega)) (by first|omega|(simp only [List.length_map];omega)|(simp only [List.length_set,List.length_map];omega))))) ?_|fail);conv=>whnf)|(refine lnA fun hln=>?_;conv=>whnf)|fail
 all_goals first
  | exact⟨_,mS ⟨X,tp,tk',pr',u,A,dn+1,0⟩ ⟨op,a,b,n⟩ p',⟨rfl,rfl,rfl,trivial⟩,rfl,rfl,rfl,rfl⟩
  | (obtain⟨rfl,rfl,rfl,rfl⟩:=h5 (by omega);exact⟨_,mS ⟨X,tp,tk',pr',u,A,dn+1,0⟩ ⟨op,a,b,n⟩ p',⟨rfl,rfl,rfl,trivial⟩,rfl,rfl,rfl,rfl⟩)
theorem step_stop {wy:Int} (hop:0≤op∧op≤7) (hln:st.length=128) (hat:0≤at'∧at'≤127) (g0:(st.map iPV)[at'.toNat]?=some (iPV w)) (g1:(st.map iPV)[a.toNat]?=some (iPV va))
  (dc:FnC Tryz.prog 109 [iv .i64 w] (orAV op a b n)) (hsg:FnC Tryz.prog 86 [iv .i64 va] (iv .i64 (sgnW va)))
  (hwh:FnC Tryz.prog 110 [orAV op a b n,iv .i64 tm,bv (decide (sgnW va < 0))] (.t [iv .i64 A,iv .i64 u]))
  (hfr:ACall Tryz.prog 111 [.x (.b 26 0)] (mS ⟨st,tp,tk,pr,tm,at',dn,0⟩ ⟨op,a,b,n⟩ p) (fun r σ'=>r=.x (.oe 900 1 a.toNat 0)∧σ'=mS ⟨st,tp,tk,pr,tm,at',dn,0⟩ ⟨op,a,b,n⟩ p))
  (q0:op=0→wy=1) (q6:op=6→tk=tp.length→wy=2) (q7:op=7→(pr.length:Int)=200→wy=3) (ql:op≠0→¬ (op=6∧tk=tp.length)→¬ (op=7∧(pr.length:Int)=200)→wy=4∧1000000000 < u) :
  ACall Tryz.prog 81 [.x (.b 26 0)] (mS ⟨st,tp,tk,pr,tm,at',dn,0⟩ o p) (fun r σ'=>r=.t []∧σ'=mS ⟨st,tp,tk,pr,tm,at',dn,wy⟩ ⟨op,a,b,n⟩ p):=by
 dsimp only [mS] at *;refine hdD Tryz.func81 Tryz.ntmps81 (res:=[]) fun w0 K0 B=>?_
 repeat' first|((first|refine zkA hTt hMix (id:=1) 20 [0,1,2,3,4,5,6,7,8,9] [⟨10,false,false,[0,1,2,3,4,5,6,7,8],[11,12,13,14,15,16,17,18,19]⟩] [0,1,3,7,0,16,48,112,240,0,512,1536,3584,7680,15872,32767,65535,131071,131071,262143,1048575] (by kernel_rfl) rfl (by kernel_rfl) (by kernel_rfl) (by kernel_rfl) ?_|refine LateGo.mk ⟨_,rfl,?_⟩|fail);conv=>whnf)|refine zd ?_|refine zc ?_|((first|refine zf ?_|refine regA ?_|refine drA (id:=0) 14 false [0,0,2,6,14,30,0,64,192,448,960,2046,4094,8190,16383,32767,65535] ?_|refine drA (id:=16) 11 false [0,1,3,7,15,0,32,96,224,480,992,2047] ?_|refine zsp (dc) ?_|((refine⟨_,hfr,?_⟩);(rintro _ _ ⟨rfl,rfl⟩))|with_reducible refine Exists.intro _ (And.intro (ze g0) (And.intro (And.intro (Nat.le_of_ble_eq_true rfl) rfl) ?_))|with_reducible refine Exists.intro _ (And.intro (ze g1) (And.intro (And.intro (Nat.le_of_ble_eq_true rfl) rfl) ?_))|refine zsp (hsg) ?_|refine zsp (hwh) ?_|fail);conv=>whnf)|(exact absurd hb (by have:=ql (by omega) (by omega) (by omega);omega))|(refine zss rfl ?_)|(refine zso rfl (fun hb=>?_) (fun hb=>?_))|((first|refine andA ?_|with_reducible refine And.intro (ze (And.intro (by omega) (And.intro (by first|omega|(simp only [List.length_map];omega)) (by first|omega|(simp only [List.length_map];omega)|(simp only [List.length_set,List.length_map];omega))))) ?_|fail);conv=>whnf)|(refine lnA fun hln=>?_;conv=>whnf)|fail
 all_goals first
  | (obtain rfl:=q0 (by assumption);exact⟨_,mS ⟨st,tp,tk,pr,tm,at',dn,1⟩ ⟨op,a,b,n⟩ p,⟨rfl,rfl,rfl,trivial⟩,rfl,rfl,rfl,rfl⟩)
  | (obtain rfl:=q6 (by assumption) (by assumption);exact⟨_,mS ⟨st,tp,tk,pr,tm,at',dn,2⟩ ⟨op,a,b,n⟩ p,⟨rfl,rfl,rfl,trivial⟩,rfl,rfl,rfl,rfl⟩)
  | (obtain rfl:=q7 (by assumption) (by assumption);exact⟨_,mS ⟨st,tp,tk,pr,tm,at',dn,3⟩ ⟨op,a,b,n⟩ p,⟨rfl,rfl,rfl,trivial⟩,rfl,rfl,rfl,rfl⟩)
  | (obtain⟨rfl,_⟩:=ql (by omega) (by omega) (by omega);exact⟨_,mS ⟨st,tp,tk,pr,tm,at',dn,4⟩ ⟨op,a,b,n⟩ p,⟨rfl,rfl,rfl,trivial⟩,rfl,rfl,rfl,rfl⟩)
end
end Go.Proofs.YtefglipcipjplaaGreatDoor
namespace Go.Proofs.YtefglipcipjplaaGreatDoor
open Go Go.QL FoT
set_option maxHeartbeats 3200000
attribute [local irreducible] ACall FnC YC fine ten
theorem step_fn (s:OrS) (o:OrO) (p:Nat) (hs:OKS s) (hw:s.why=0):∃ p',ACall Tryz.prog 81 [.x (.b 26 0)] (mS s o p) (fun r σ'=>r=.t []∧σ'=mS (stepO s) (decO (rdO s s.at_)) p'):=by
 rw [stepF_eq hw];have hok:=dec_ok (hs.rd s.at_);have dc:=decode_fn _ (hs.rd s.at_);have g0:=rd_get hs.len hs.at_;generalize decO (rdO s s.at_)=o' at *;have hsg:=zps _ (hs.rd o'.a);have g1:=rd_get hs.len hok.a;have hwh:=when_fn o' hok s.time (by have:=hs.time;omega) (decide (sgnW (rdO s o'.a) < 0));have hfr:=mfrom_fn s o' p hs.len hok.a;have m1:=mmove_fn s o' p hs.len hok;have m2:=madd_fn s o' p hs.len hok (hs.rd _) (hs.rd _);have m3:=msub_fn s o' p hs.len hok (hs.rd _) (hs.rd _);have m4:=mmul_fn s o' p hs.len hok (hs.rd _) (hs.rd _);have m6:=fun h=>mread_fn s o' p hs.len hok h (by have:=hs.tape;omega)
 have m7:=mprint_fn s o' p hs.len hok (by have:=hs.pr;omega);have hln:=hs.len;have hat:=hs.at_;have hdn:=hs.done;have htm:=hs.time;have htk:=hs.taken;have hop:=hok.op;clear hs hok;generalize atO o' (decide (sgnW (rdO s o'.a) < 0))=A at *;generalize untilO o' s.time A=u at *;generalize rdO s s.at_=w at *;obtain⟨st,tp,tk,pr,tm,at',dn,wy⟩:=s;obtain⟨op,a,b,n⟩:=o';dsimp only at *;subst hw;by_cases hstop:op=0∨(op=6∧tk=tp.length)∨(op=7∧(pr.length:Int)=200)∨1000000000 < u
 ·refine⟨p,?_⟩
  have e:stepF ⟨st,tp,tk,pr,tm,at',dn,0⟩ ⟨op,a,b,n⟩ A u=⟨st,tp,tk,pr,tm,at',dn,if op=0 then 1 else if op=6∧tk=tp.length then 2 else if op=7∧(pr.length:Int)=200 then 3 else 4⟩:=by
   unfold stepF;dsimp only;by_cases h0:op=0
   ·rw [if_pos h0,if_pos h0,if_neg (show ¬ ((1:Int)=0∧_) from fun h=>absurd h.1 (by decide))];rfl
   ·rw [if_neg h0,if_neg h0];by_cases h6:op=6∧tk=tp.length
    ·rw [if_pos h6,if_pos h6,if_neg (show ¬ ((2:Int)=0∧_) from fun h=>absurd h.1 (by decide))];rfl
    ·rw [if_neg h6,if_neg h6];by_cases h7:op=7∧pr.length=200
     ·rw [if_pos h7,if_pos (show op=7∧(pr.length:Int)=200 by omega),if_neg (show ¬ ((3:Int)=0∧_) from fun h=>absurd h.1 (by decide))];rfl
     ·have:1000000000 < u:=by rcases hstop with h|h|h|h <;> first|exact h|contradiction|(exact absurd h (by omega))
      rw [if_neg h7,if_neg (show ¬ (op=7∧(pr.length:Int)=200) by omega),if_pos (show (0:Int)=0∧1000000000 < u from ⟨rfl,this⟩)];rfl
  rw [e];refine step_stop hop hln hat g0 g1 dc hsg hwh hfr (fun h=>by rw [if_pos h]) (fun h k=>?_) (fun h k=>?_) (fun h k l=>?_)
  ·rw [if_neg (by omega),if_pos ⟨h,k⟩]
  ·rw [if_neg (by omega),if_neg (by omega),if_pos ⟨h,k⟩]
  ·rw [if_neg h,if_neg k,if_neg l];exact⟨rfl,by rcases hstop with q|q|q|q <;> first|exact q|contradiction⟩
 ·have hu:¬ 1000000000 < u:=fun h=>hstop (by simp [h])
  have e:stepF ⟨st,tp,tk,pr,tm,at',dn,0⟩ ⟨op,a,b,n⟩ A u={ doO ⟨st,tp,tk,pr,tm,at',dn,0⟩ ⟨op,a,b,n⟩ with at_:=A,time:=u,done:=dn+1,why:=0 }:=by
   unfold stepF;dsimp only;have h7:¬ (op=7∧pr.length=200):=fun h=>hstop (.inr (.inr (.inl ⟨h.1,by omega⟩)))
   have h6:¬ (op=6∧tk=tp.length):=fun h=>hstop (.inr (.inl h))
   have h0:¬ op=0:=fun h=>hstop (.inl h)
   rw [if_neg h0,if_neg h6,if_neg h7,if_neg (show ¬ ((0:Int)=0∧1000000000 < u) from fun h=>hu h.2)];rfl
  rw [e];have key:∃ (X pr':List Int) (tk':Int) (p':Nat),doO ⟨st,tp,tk,pr,tm,at',dn,0⟩ ⟨op,a,b,n⟩=⟨X,tp,tk',pr',tm,at',dn,0⟩∧p'=(if op=7 then p+1 else p):=by
   unfold doO wrO;dsimp only;repeat' split
   all_goals exact⟨_,_,_,_,rfl,rfl⟩
  obtain⟨X,pr',tk',p',hD,hp⟩:=key;refine⟨p',?_⟩
  rw [hD];unfold doO at hD;dsimp only at hD;refine step_go (by omega) hln hat (by omega) g0 g1 dc hsg hwh hu hfr ?_ ?_ ?_ ?_ ?_ ?_ ?_
  ·rintro rfl;rw [if_pos rfl] at hD;rw [if_neg (by decide)] at hp;rw [hp,← hD];exact m1
  ·rintro rfl;rw [if_neg (by decide),if_pos rfl] at hD;rw [if_neg (by decide)] at hp;rw [hp,← hD];exact m2
  ·rintro rfl;rw [if_neg (by decide),if_neg (by decide),if_pos rfl] at hD;rw [if_neg (by decide)] at hp;rw [hp,← hD];exact m3
  ·rintro rfl;rw [if_neg (by decide),if_neg (by decide),if_neg (by decide),if_pos rfl] at hD;rw [if_neg (by decide)] at hp;rw [hp,← hD];exact m4
  ·rintro rfl;rw [if_neg (by decide),if_neg (by decide),if_neg (by decide),if_neg (by decide),if_neg (by decide),if_neg (by decide)] at hD;rw [if_neg (by decide)] at hp;cases hD;exact⟨rfl,rfl,rfl,hp⟩
  ·rintro rfl;rw [if_neg (by decide),if_neg (by decide),if_neg (by decide),if_neg (by decide),if_pos rfl] at hD;rw [if_neg (by decide)] at hp;have ht:tk≠tp.length:=fun h=>hstop (by simp [h])
   refine⟨ht,?_⟩
   rw [hp,← hD];exact m6 (by omega)
  ·rintro rfl;rw [if_neg (by decide),if_neg (by decide),if_neg (by decide),if_neg (by decide),if_neg (by decide),if_pos rfl] at hD;rw [if_pos rfl] at hp;refine⟨fun h=>hstop (by simp [h]),?_⟩
   rw [hp,← hD];exact m7
end Go.Proofs.YtefglipcipjplaaGreatDoor
namespace Go.Proofs.YtefglipcipjplaaGreatDoor
open Go Go.QL FoT
set_option maxHeartbeats 1600000
attribute [local irreducible] ACall FnC YC fine ten
theorem clone_own (xs:List Int) (hm:xs.length≤1000):ACall Tryz.prog 41 [sl xs] [] (fun r σ'=>(xs=[]∧r=.x (.d (.v (.slice none 0 0)))∧σ'=[])∨(r=.x (.o 5 1 xs.length)∧σ'=[(5,.chain 3 1 1 (xs.map iPV))])):=by
 have hpl:(xs.map iPV).length=xs.length:=List.length_map _;have h0:(0:Nat)+(xs.map iPV).length=xs.length:=by omega
 refine hdD Tryz.func41 Tryz.ntmps41 (res:=[.tmp 2]) fun w0 K0 B=>?_
 repeat' first|refine zd ?_|((first|refine zf ?_|refine zi ?_|refine regA ?_|fail);conv=>whnf)|(refine fun (_:Bool) hln=>?_;conv=>whnf)|(refine zso rfl (fun hb=>?_) (fun hb=>?_))|((refine andA ?_);conv=>whnf)|((refine And.intro (by refine⟨?_,?_,?_⟩ <;> simp [zO,maxLen] <;> omega) ?_);conv=>whnf)|fail
 ·exact⟨_,[],trivial,rfl,rfl,.inl ⟨List.map_eq_nil_iff.1 (hln hb),rfl,rfl⟩⟩
 ·exact⟨_,[(5,.chain 3 1 1 (xs.map iPV))],⟨rfl,trivial⟩,rfl,rfl,.inr ⟨congrArg (fun k=>AV.x (.o 5 1 k)) h0,rfl⟩⟩
theorem outKx {tt:TT} {a:Tmp} {fr:Fr} {σ σ':Sg} {c st n:Nat} {e:TypeId} {sz:Nat} {xs:List (List PV)} (h1:lk a fr=some (.x (.o c st n))) (h2:lk c σ'=none) (h3:lk c σ=some (.chain e sz st xs)) (h4:n≤xs.length) :
  zb0 tt [.tmp a] fr σ σ'=some (.x (.d (.s sz (xs.take n)))):=by
 simp [zb0,zbY,zhp,h1,zc5,zcy,h2,zbq,h3,h4]
theorem clone_data (xs:List Int) (hm:xs.length≤1000):FnC Tryz.prog 41 [sl xs] (sl xs):=by
 have hpl:(xs.map iPV).length=xs.length:=List.length_map _;have key:ACall Tryz.prog 41 [sl xs] [] (fun r σ'=>((r=.x (.d (.v (.slice none 0 0)))∧xs=[])∨r=sl xs)∧σ'=[]):=by
  refine hdD Tryz.func41 Tryz.ntmps41 (res:=[.tmp 2]) fun w0 K0 B=>?_
  repeat' first|refine zd ?_|((first|refine zf ?_|refine zi ?_|refine regA ?_|fail);conv=>whnf)|(refine fun (_:Bool) hln=>?_;conv=>whnf)|(refine zso rfl (fun hb=>?_) (fun hb=>?_))|((refine andA ?_);conv=>whnf)|((refine And.intro (by refine⟨?_,?_,?_⟩ <;> simp [zO,maxLen] <;> omega) ?_);conv=>whnf)|fail
  ·exact⟨_,[],trivial,rfl,rfl,.inl ⟨rfl,List.map_eq_nil_iff.1 (hln hb)⟩,rfl⟩
  ·refine⟨_,[],trivial,rfl,outKx rfl rfl rfl (by show 0+(xs.map iPV).length≤([] ++ xs.map iPV).length;simp),.inr ?_,rfl⟩
   show AV.x (.d (.s 1 (([] ++ xs.map iPV).take (0+(xs.map iPV).length))))=_
   rw [List.nil_append,Nat.zero_add,List.take_length];rfl
 refine FnC.of_ACall (key.le ?_) rfl
 rintro r σ' ⟨h,rfl⟩;rcases h with ⟨rfl,rfl⟩|rfl
 ·exact⟨_,LeAV1.nil 1,rfl,rfl⟩
 ·exact⟨_,LeAV.refl _,rfl,rfl⟩
abbrev stAV (s:OrS):AV:=.a [.d (zR s.store),.d (zR s.tape),iC s.taken,.d (zR s.printed),iC s.time,iC s.at_,iC s.done,iC s.why]
structure GoodS (s:OrS):Prop extends OKS s where
 mod:(s.time - s.at_) % 16=0
theorem chk1_fn (x:Int) {σ:Sg}:ACall Tryz.prog 108 ([].map AV.x ++ [iv .i64 x] ++ [].map .x) σ (fun r σ'=>r=bv (outB x 0 16777215)∧σ'=σ):=by
 have h1:=zjl 16777215 [x];rw [List.any_cons,List.any_nil,Bool.or_false] at h1;have:FnC Tryz.prog 108 [iv .i64 x] (bv (outB x 0 16777215)):=by
  refine hdC Tryz.func108 Tryz.ntmps108 (res:=[.tmp 2]) fun w0 K0=>?_
  repeat' first|refine zd ?_|((first|refine zi ?_|refine regA ?_|refine zsn (h1) ?_|fail);conv=>whnf)|fail
  rfl
 exact this.call rfl rfl
theorem idx_words {l:List Int} (h:∀ w ∈ l,zP w) (σ:Sg):ACall Tryz.prog 51 [sl l,.x (.f (.func 108) [] [])] σ (fun r σ'=>r=iv .i64 (-1)∧σ'=σ):=by
 have:=zp9 108 [] (fun x=>outB x 0 16777215) l σ (fun x _=>chk1_fn x);have e:idxI (fun x=>outB x 0 16777215) l = -1:=by
  have hf:fstI (fun x=>outB x 0 16777215) l 0=none:=by
   have:=zoj (fun x=>outB x 0 16777215) l 0;cases hx:fstI (fun x=>outB x 0 16777215) l 0 with
   | none=>rfl
   | some j=>
    rw [hx] at this;obtain⟨w,hw,hb⟩:=List.any_eq_true.1 this.symm;rw [zQ.2 (h w hw)] at hb;cases hb
  unfold idxI;rw [hf]
 rw [e] at this;exact this
theorem oout1_ok {hi x:Int} (h:0≤x∧x≤hi):FnC Tryz.prog 40 [iv .i64 hi,sl [x]] (bv false):=by
 have:=zjl hi [x];rw [List.any_cons,List.any_nil,Bool.or_false,zQ.2 h] at this;exact this
theorem ocheck_fn (s:OrS) (h:GoodS s):FnC Tryz.prog 80 [stAV s] (.t [iv .i64 0,iv .i64 0,iv .i64 0]):=by
 have i1:=idx_words h.words;have i2:=idx_words h.twords;have i3:=idx_words h.pwords;have l1:=h.len;have l2:=h.tape;have l3:=h.pr;have o1:=oout1_ok h.taken;have o2:=oout1_ok h.time;have o3:=oout1_ok h.at_;have o4:=oout1_ok h.done;have o5:=oout1_ok h.why;have b1:=h.time;have b2:=h.at_;have hmod:=h.mod;have hr:(s.time - s.at_).tmod 16=0:=Int.tmod_eq_zero_of_dvd (Int.dvd_of_emod_eq_zero hmod);clear h hmod;obtain⟨st,tp,tk,pr,tm,at',dn,wy⟩:=s;dsimp only at *;have m1:(st.map iPV).length=128:=by rw [List.length_map,l1]
 have m2:(tp.map iPV).length=tp.length:=List.length_map _;have m3:(pr.map iPV).length=pr.length:=List.length_map _;rw [← m2] at o1;refine hdC Tryz.func80 Tryz.ntmps80 (res:=[.tmp 2,.tmp 3,.tmp 4]) fun w0 K0=>?_
 repeat' first|refine zd ?_|refine zc ?_|((first|refine zf ?_|refine regA ?_|refine pkA ?_|fail);conv=>whnf)|(refine za rfl (zM (by simp [l1];exact⟨by omega,by omega⟩)) (fun _=>?_))|(refine lnA fun hln=>?_;conv=>whnf)|fail
 refine zJ (fun i:Nat=>[(32,iv .i64 i),(31,iv .i64 3),(30,.x (.d (.s 1 [[zR st],[zR tp],[zR pr]]))),(1,.x (.b 1 0))]) (fun _=>[(1,.box [.d (zR st),.d (zR tp),iC tk,.d (zR pr),iC tm,iC at',iC dn,iC wy])]) (fun i=>i≤3) (fun i=>3 - i) 0 (Nat.zero_le _) impA ?_
 intro i hi;rcases (show i=0∨i=1∨i=2∨i=3 by omega) with rfl|rfl|rfl|rfl
 ·repeat' first|refine zd ?_|refine zc ?_|((first|refine zf ?_|refine regA ?_|with_reducible refine Exists.intro _ (And.intro (ze (And.intro (by decide) rfl)) ?_)|((refine⟨_,(i1 _),?_⟩);(rintro _ _ ⟨rfl,rfl⟩))|fail);conv=>whnf)|(refine zst rfl ?_)|(refine zss rfl ?_)|((first|refine zsq ?_|refine andA ?_|fail);conv=>whnf)|fail
  exact⟨1,by decide,by decide,impA⟩
 ·repeat' first|refine zd ?_|refine zc ?_|((first|refine zf ?_|refine regA ?_|with_reducible refine Exists.intro _ (And.intro (ze (And.intro (by decide) rfl)) ?_)|((refine⟨_,(i2 _),?_⟩);(rintro _ _ ⟨rfl,rfl⟩))|fail);conv=>whnf)|(refine zst rfl ?_)|(refine zss rfl ?_)|((first|refine zsq ?_|refine andA ?_|fail);conv=>whnf)|fail
  exact⟨2,by decide,by decide,impA⟩
 ·repeat' first|refine zd ?_|refine zc ?_|((first|refine zf ?_|refine regA ?_|with_reducible refine Exists.intro _ (And.intro (ze (And.intro (by decide) rfl)) ?_)|((refine⟨_,(i3 _),?_⟩);(rintro _ _ ⟨rfl,rfl⟩))|fail);conv=>whnf)|(refine zst rfl ?_)|(refine zss rfl ?_)|((first|refine zsq ?_|refine andA ?_|fail);conv=>whnf)|fail
  exact⟨3,by decide,by decide,impA⟩
 ·repeat' first|refine zd ?_|refine zc ?_|((first|refine zf ?_|refine zk ?_|refine zi ?_|refine regA ?_|refine pkA ?_|refine zsn (o1) ?_|refine zsp (o2) ?_|refine zsp (o3) ?_|refine zsp (o4) ?_|refine zsp (o5) ?_|refine⟨_,hr,?_⟩|fail);conv=>whnf)|(refine zss rfl ?_)|((first|refine zsq ?_|refine andA ?_|fail);conv=>whnf)|(refine lnA fun hln=>?_;conv=>whnf)|fail
  rfl
end Go.Proofs.YtefglipcipjplaaGreatDoor
namespace Go.Proofs.YtefglipcipjplaaGreatDoor
open Go Go.QL FoT
set_option maxHeartbeats 3200000
attribute [local irreducible] ACall FnC YC fine ten
theorem after_mod (t a:Int):(afterO t a - a) % 16=0:=by unfold afterO;omega
theorem until_mod (o:OrO) (t a:Int):(untilO o t a - a) % 16=0:=by
 unfold untilO;exact after_mod _ _
theorem sgn_word {x:Int}:zP (x % 16777216):=by unfold zP;omega
theorem OKS.wr {s:OrS} (h:OKS s) (b v:Int) (hv:zP v):OKS (wrO s b v):=by
 refine⟨by rw [wr_len];exact h.len,fun w hw=>?_,h.tape,h.twords,h.taken,h.pr,h.pwords,h.time,h.at_,h.done,h.why⟩
 rcases List.mem_or_eq_of_mem_set hw with q|rfl
 ·exact h.words w q
 ·exact hv
theorem GoodS.step {s:OrS} (h:GoodS s) (hw:s.why=0):GoodS (stepO s):=by
 have hok:=dec_ok (h.rd s.at_);rw [stepF_eq hw];generalize hd:decO (rdO s s.at_)=o at *;generalize hA:atO o (decide (sgnW (rdO s o.a) < 0))=A;have hAb:0≤A∧A≤127:=by rw [← hA];unfold atO;split;exact hok.b;exact hok.n
 have hu:=until_le o s.time A;have hum:=until_mod o s.time A;generalize untilO o s.time A=u at *;have stop:∀ wy:Int,0≤wy∧wy≤4→GoodS { s with why:=wy }:=fun wy hy=>⟨⟨h.len,h.words,h.tape,h.twords,h.taken,h.pr,h.pwords,h.time,h.at_,h.done,hy⟩,h.mod⟩
 unfold stepF;dsimp only;by_cases hgo:(o.op≠0∧¬ (o.op=6∧s.taken=s.tape.length)∧¬ (o.op=7∧s.printed.length=200))∧¬ 1000000000 < u
 ·obtain⟨⟨h0,h6,h7⟩,h1⟩:=hgo;rw [if_neg h0,if_neg h6,if_neg h7,if_neg (show ¬ ((0:Int)=0∧_) from fun q=>h1 q.2),if_pos rfl];have hD:OKS (doO s o)∧(doO s o).time=s.time∧(doO s o).done=s.done:=by
   unfold doO;split
   ·exact⟨h.wr _ _ (h.rd _),rfl,rfl⟩
   ·split
    ·exact⟨h.wr _ _ sgn_word,rfl,rfl⟩
    ·split
     ·exact⟨h.wr _ _ sgn_word,rfl,rfl⟩
     ·split
      ·exact⟨h.wr _ _ sgn_word,rfl,rfl⟩
      ·split
       ·rename_i k6;have ht:=h.taken;have hne:s.taken≠s.tape.length:=fun q=>h6 ⟨k6,q⟩
        have hv:zP (s.tape.getD s.taken.toNat 0):=by
         rw [List.getD_eq_getElem?_getD,List.getElem?_eq_getElem (by omega)];exact h.twords _ (List.getElem_mem _)
        have q:=h.wr o.b _ hv;exact⟨⟨q.len,q.words,q.tape,q.twords,⟨by show 0≤s.taken+1;omega,by show s.taken+1≤(s.tape.length:Int);omega⟩,q.pr,q.pwords,q.time,q.at_,q.done,q.why⟩,rfl,rfl⟩
       ·split
        ·rename_i k7;have hne:s.printed.length≠200:=fun q=>h7 ⟨k7,q⟩
         have hp:=h.pr;refine⟨⟨h.len,h.words,h.tape,h.twords,h.taken,by show (s.printed ++ [_]).length≤200;rw [List.length_append,List.length_singleton];omega,fun w hw=>?_,h.time,h.at_,h.done,h.why⟩,rfl,rfl⟩
         rcases List.mem_append.1 hw with q|q
         ·exact h.pwords w q
         ·rw [List.mem_singleton.1 q];exact h.rd _
        ·exact⟨h.toOKS,rfl,rfl⟩
  obtain⟨q,e1,e2⟩:=hD;have ht:=h.time;have hdn:=h.done;exact⟨⟨q.len,q.words,q.tape,q.twords,q.taken,q.pr,q.pwords,⟨by show 0≤u;omega,by show u≤_;omega⟩,hAb,⟨by show 0≤s.done+1;omega,by show s.done+1≤u;omega⟩,(show (0:Int)≤0∧(0:Int)≤4 by decide)⟩,hum⟩
 ·generalize hy:(if o.op=0 then (1:Int) else if o.op=6∧s.taken=s.tape.length then 2 else if o.op=7∧s.printed.length=200 then 3 else 0)=y;have hyb:0≤y∧y≤4:=by
   rw [← hy];split
   ·decide
   ·split
    ·decide
    ·split <;> decide
  generalize hz:(if y=0∧1000000000 < u then (4:Int) else y)=z;have hzb:(0≤z∧z≤4)∧z≠0:=by
   rw [← hz];split
   ·decide
   ·rename_i q;refine⟨hyb,fun hy0=>hgo ⟨⟨fun k=>?_,fun k=>?_,fun k=>?_⟩,fun k=>q ⟨hy0,k⟩⟩⟩
    ·rw [if_pos k] at hy;omega
    ·rw [if_neg (by omega),if_pos k] at hy;omega
    ·rw [if_neg (by omega),if_neg (by omega),if_pos k] at hy;omega
  rw [if_neg hzb.2];exact stop z hzb.1
theorem GoodS.run:∀ (n:Nat) {s:OrS},GoodS s→GoodS (runO n s)
 | 0,_,h=>h
 | n+1,s,h=>by
  rw [runO];split
  ·rename_i hw;exact GoodS.run n (h.step hw)
  ·exact h
abbrev stpAV (a op x b n t u:Int):AV:=.a [iC a,iC op,iC x,iC b,iC n,iC t,iC u]
theorem tell_fn (a op x b n t u:Int):FnC Tryz.prog 44 [stpAV a op x b n t u] (.t []):=by
 refine hdC Tryz.func44 Tryz.ntmps44 (res:=[]) fun w0 K0=>?_
 repeat' first|((refine regA ?_);conv=>whnf)|fail
 rfl
theorem mrun_fn (s:OrS) (o:OrO) (p:Nat) (hs:GoodS s) (most:Nat) (hm:most≤5000) :
  ACall Tryz.prog 43 [.x (.b 26 0),iv .i64 most,.x (.f (.func 44) [] [])] (mS s o p) (fun r σ'=>∃ x:OrO × Nat,r=.t []∧σ'=mS (runO most s) x.1 x.2):=by
 refine hdD Tryz.func43 Tryz.ntmps43 (res:=[]) fun w0 K0 B=>?_
 repeat' first|refine zd ?_|refine zc ?_|refine zA ?_|((first|refine zB ?_|refine regA ?_|fail);conv=>whnf)|fail
 refine zJ (fun x:Nat × OrS × OrO × Nat=>[(8,iv .i64 x.1),(7,iv .i64 most),(0,.x (.b 26 0)),(2,.x (.f (.func 44) [] []))]) (fun x=>mS x.2.1 x.2.2.1 x.2.2.2)
  (fun x=>x.1≤most∧GoodS x.2.1∧runO (most - x.1) x.2.1=runO most s) (fun x=>most - x.1) (0,s,o,p) ⟨Nat.zero_le _,hs,rfl⟩ impA ?_
 rintro⟨i,s',o',p'⟩ ⟨hi,hs',hr⟩;dsimp only at hi hs' hr ⊢;rcases Nat.lt_or_ge i most with hil|hil
 ·rw [show most - i=(most - (i+1))+1 by omega,runO] at hr;by_cases hw:s'.why=0
  ·rw [if_pos hw] at hr;obtain⟨p2,hst⟩:=step_fn s' o' p' hs'.toOKS hw;have hs2:=hs'.step hw;generalize stepO s'=s2 at hst hr hs2;generalize decO (rdO s' s'.at_)=o2 at hst;have hwf:(s'.why != 0)=false:=by rw [hw];rfl
   repeat' first|refine zd ?_|refine zc ?_|((first|refine zf ?_|refine zk ?_|refine regA ?_|refine drA (id:=3) 12 true [0,1,3,7,15,0,32,96,224,480,1023,0,4095] ?_|refine drM (id:=6) 10 [4,5,6,7,8] false [0,1,3,7,0,16,48,112,240,15,527,2047,4095] ?_|refine LateGo.mk ⟨.x .j,rfl,?_⟩|fail);conv=>whnf)|(refine za rfl (zM hwf) (fun _=>?_))|((first|refine frA (hst) [] ?_|refine zsn ((tell_fn _ _ _ _ _ _ _)) ?_|fail);conv=>whnf)|exact abA hb|(refine zso rfl (fun hb=>?_) (fun hb=>?_))|((first|refine zsq ?_|refine andA ?_|fail);conv=>whnf)|fail
   all_goals exact⟨(i+1,s2,o2,p2),⟨hil,hs2,hr⟩,by show most - (i+1) < most - i;omega,impA⟩
  ·rw [if_neg hw] at hr;have hwt:(s'.why != 0)=true:=by simpa using hw
   repeat' first|refine zd ?_|refine zc ?_|((first|refine zf ?_|refine zk ?_|refine regA ?_|fail);conv=>whnf)|(refine za rfl (fun _=>?_) (zaf hwt))|exact abA hb|(refine zso rfl (fun hb=>?_) (fun hb=>?_))|((refine andA ?_);conv=>whnf)|fail
   exact⟨_,mS s' o' p',⟨rfl,rfl,rfl,trivial⟩,rfl,rfl,⟨(o',p'),rfl,by rw [← hr]⟩⟩
 ·rw [show most - i=0 by omega] at hr;repeat' first|refine zd ?_|refine zc ?_|((first|refine zf ?_|refine zk ?_|refine regA ?_|fail);conv=>whnf)|exact abA hb|(refine zso rfl (fun hb=>?_) (fun hb=>?_))|fail
  exact⟨_,mS s' o' p',⟨rfl,rfl,rfl,trivial⟩,rfl,rfl,⟨(o',p'),rfl,by rw [← hr];rfl⟩⟩
end Go.Proofs.YtefglipcipjplaaGreatDoor
namespace Go.Proofs.YtefglipcipjplaaGreatDoor
open Go Go.QL FoT
set_option maxHeartbeats 3200000
attribute [local irreducible] ACall FnC YC fine ten
abbrev nilPV:PV:=.v (.slice none 0 0)
abbrev mO (s:OrS) (pr:SV) (rest:Sg):Sg:=
 (35,.box [.o 900 1 128,.d (zR s.tape),iC s.taken,pr,iC s.time,iC s.at_,iC s.done,iC s.why,iC 0,iC 0,iC 0,iC 0])::(900,.chain 3 1 1 (s.store.map iPV))::rest
theorem open_fn (s:OrS) (hs:GoodS s) (most:Int) (hm:0≤most∧most≤5000) :
  ACall Tryz.prog 42 [stAV s,iv .i64 most] [] (fun r σ'=>r=.t [.x (.b 35 0),iv .i64 0]∧((s.printed=[]∧σ'=mO s (.d nilPV) [])∨σ'=mO s (.o 901 1 s.printed.length) [(901,.chain 3 1 1 (s.printed.map iPV))])):=by
 have ck:=ocheck_fn s hs;have o1:=oout1_ok hm;have c1:ACall Tryz.prog 41 [sl s.store] [] (fun r σ'=>r=.x (.o 5 1 128)∧σ'=[(5,.chain 3 1 1 (s.store.map iPV))]):=by
  refine (clone_own s.store (by rw [hs.len];decide)).mono ?_
  rintro r σ' (⟨h,_⟩|⟨h1,h2⟩)
  ·have:=hs.len;rw [h] at this;cases this
  ·rw [hs.len] at h1;exact⟨h1,h2⟩
 have c2:=clone_data s.tape (by have:=hs.tape;omega);have c3:=clone_own s.printed (by have:=hs.pr;omega);clear hs;obtain⟨st,tp,tk,pr,tm,at',dn,wy⟩:=s;dsimp only at *;refine hdD Tryz.func42 Tryz.ntmps42 (res:=[.tmp 4,.tmp 5]) fun w0 K0 B=>?_
 repeat' first|((first|refine zkA hTt hMix (id:=6) 10 [0,1,3,4,6,7] [⟨2,false,false,[3,4,6,7],[9]⟩,⟨5,false,false,[6,7,9],[]⟩,⟨8,false,false,[9],[]⟩] [0,1,3,0,8,31,0,64,255,223,1023,2047,4095,8191,16383] (by kernel_rfl) rfl (by kernel_rfl) (by kernel_rfl) (by kernel_rfl) ?_|refine LateGo.mk ⟨_,rfl,?_⟩|fail);conv=>whnf)|refine zd ?_|((first|refine zf ?_|refine zi ?_|refine regA ?_|refine zsn (ck) ?_|refine zsn (o1) ?_|refine frA (c1) [(5,900)] ?_|refine zsn (c2) ?_|fail);conv=>whnf)|((refine⟨_,c3.frame (asc [(5,901)]) trivial rfl (by rintro _ _ (⟨_,rfl,rfl⟩|⟨rfl,rfl⟩) <;> rfl),?_⟩);(rintro _ _ ⟨_,_,(⟨hx,rfl,rfl⟩|⟨rfl,rfl⟩),rfl,rfl⟩) <;> conv=>whnf)|(refine zss rfl ?_)|((refine andA ?_);conv=>whnf)|fail
 all_goals first
  | exact⟨_,mO ⟨st,tp,tk,pr,tm,at',dn,wy⟩ (.d nilPV) [],⟨rfl,rfl,trivial⟩,rfl,rfl,rfl,.inl ⟨hx,rfl⟩⟩
  | exact⟨_,mO ⟨st,tp,tk,pr,tm,at',dn,wy⟩ (.o 901 1 pr.length) [(901,.chain 3 1 1 (pr.map iPV))],⟨rfl,rfl,rfl,trivial⟩,rfl,rfl,rfl,.inr rfl⟩
theorem Stp.at4 {P:Program} {Γ:Cx} {y:Code} {ops:Array Oper} {b:Bool} {Q:Exit→Fr→Sg→Prop} {fr:Fr} {σ:Sg} (h:Stp P Γ (.seq (.region 4 ops b) y) Q fr σ):AW P Γ (.seq (.region 4 ops b) y) Q fr σ:=by unfold Stp at h;exact h
theorem Stp.at5 {P:Program} {Γ:Cx} {y:Code} {ops:Array Oper} {b:Bool} {Q:Exit→Fr→Sg→Prop} {fr:Fr} {σ:Sg} (h:Stp P Γ (.seq (.region 5 ops b) y) Q fr σ):AW P Γ (.seq (.region 5 ops b) y) Q fr σ:=by unfold Stp at h;exact h
theorem run_end {Γ:Cx} {c:Code} {Q:Exit→Fr→Sg→Prop} {fr:Fr} {σ:Sg} {S:OrS} {xo:OrO} {xp:Nat} (hg:GoodS S) (hi:Γ.ids=[]) (hd:Γ.dfs=[])
  (h:Imp Γ fr σ [(6,.x (.b 26 0)),(4,.x (.b 4 0))] (mS S xo xp ++ [(4,.box [.d nilPV,.d nilPV,iC 0,.d nilPV,iC 0,iC 0,iC 0,iC 0])]))
  (hk:AW Tryz.prog Γ c Q [(6,.x (.b 26 0)),(4,.x (.b 4 0))] [(26,.box [.d (zR S.store),.d (zR S.tape),iC S.taken,.d (zR S.printed),iC S.time,iC S.at_,iC S.done,iC S.why,iC xo.op,iC xo.a,iC xo.b,iC xo.n]),(4,.box [.d nilPV,.d nilPV,iC 0,.d nilPV,iC 0,iC 0,iC 0,iC 0])]):AW Tryz.prog Γ c Q fr σ:=by
 refine zaq h ?_
 have m1:128≤(S.store.map iPV).length:=by rw [List.length_map,hg.len];exact Nat.le_refl _
 have m2:S.printed.length≤(S.printed.map iPV).length:=by rw [List.length_map];exact Nat.le_refl _
 have a1:zR S.store=.s 1 ((S.store.map iPV).take 128):=by rw [List.take_of_length_le (by rw [List.length_map,hg.len];exact Nat.le_refl _)];rfl
 have a2:zR S.printed=.s 1 ((S.printed.map iPV).take S.printed.length):=by rw [List.take_of_length_le (by rw [List.length_map];exact Nat.le_refl _)];rfl
 refine zaq (Imp.freezeB 900 (fr':=[(6,.x (.b 26 0)),(4,.x (.b 4 0))]) (σ':=[(26,.box [.d (zR S.store),.d (zR S.tape),iC S.taken,.o 901 xp S.printed.length,iC S.time,iC S.at_,iC S.done,iC S.why,iC xo.op,iC xo.a,iC xo.b,iC xo.n]),(901,.chain 3 1 xp (S.printed.map iPV)),(4,.box [.d nilPV,.d nilPV,iC 0,.d nilPV,iC 0,iC 0,iC 0,iC 0])]) rfl
  ⟨⟨_,rfl,.inl rfl⟩,⟨_,rfl,.inl rfl⟩,trivial⟩ ⟨⟨_,rfl,.inr ⟨_,_,rfl,rfl,⟨.inr ⟨_,rfl,m1,congrArg SV.d a1⟩,.inl rfl,.inl rfl,.inl rfl,.inl rfl,.inl rfl,.inl rfl,.inl rfl,.inl rfl,.inl rfl,.inl rfl,.inl rfl,trivial⟩⟩⟩,⟨_,rfl,.inl rfl⟩,⟨_,rfl,.inl rfl⟩,trivial⟩ rfl rfl (by rw [hi];rfl) (by rw [hd];rfl)) ?_
 refine zaq (Imp.freezeB 901 (fr':=[(6,.x (.b 26 0)),(4,.x (.b 4 0))]) (σ':=[(26,.box [.d (zR S.store),.d (zR S.tape),iC S.taken,.d (zR S.printed),iC S.time,iC S.at_,iC S.done,iC S.why,iC xo.op,iC xo.a,iC xo.b,iC xo.n]),(4,.box [.d nilPV,.d nilPV,iC 0,.d nilPV,iC 0,iC 0,iC 0,iC 0])]) rfl
  ⟨⟨_,rfl,.inl rfl⟩,⟨_,rfl,.inl rfl⟩,trivial⟩ ⟨⟨_,rfl,.inr ⟨_,_,rfl,rfl,⟨.inl rfl,.inl rfl,.inl rfl,.inr ⟨_,rfl,m2,congrArg SV.d a2⟩,.inl rfl,.inl rfl,.inl rfl,.inl rfl,.inl rfl,.inl rfl,.inl rfl,.inl rfl,trivial⟩⟩⟩,⟨_,rfl,.inl rfl⟩,trivial⟩ rfl rfl (by rw [hi];rfl) (by rw [hd];rfl)) ?_
 exact hk
theorem orun_fn (s:OrS) (hs:GoodS s) (most:Nat) (hm:most≤5000):FnC Tryz.prog 10 [stAV s,iv .i64 most] (.t [stAV (runO most s),iv .i64 0]):=by
 have hop:=open_fn s hs most (by omega);have hr:=mrun_fn s ⟨0,0,0,0⟩ 0 hs most hm;have hr1:=mrun_fn s ⟨0,0,0,0⟩ 1 hs most hm;have hg:=hs.run most;generalize runO most s=S at *;clear hs;obtain⟨st,tp,tk,pr,tm,at',dn,wy⟩:=s;dsimp only at hop;refine FnC.of_ACall ?_ rfl
 refine hdD Tryz.func10 Tryz.ntmps10 (res:=[.cell 4 39,.tmp 5]) fun w0 K0 B=>?_
 repeat' first|(with_reducible refine Stp.at4 ?_)|refine zd ?_|((first|refine zf ?_|refine regA ?_|fail);conv=>whnf)|((refine⟨_,hop.frame (asc [(35,26)]) trivial rfl (by rintro _ _ ⟨rfl,(⟨_,rfl⟩|rfl)⟩ <;> rfl),?_⟩);(rintro _ _ ⟨_,_,⟨rfl,(⟨hx,rfl⟩|rfl)⟩,rfl,rfl⟩) <;> conv=>whnf)|(refine zss rfl ?_)|fail
 case' inl=>
  subst hx;unfold Stp;refine zaq (fr':=[(6,.x (.b 26 0)),(1,iv .i64 most),(4,.x (.b 4 0))]) (σ':=[(26,.box [.o 900 1 128,.d (zR tp),iC tk,.d nilPV,iC tm,iC at',iC dn,iC wy,iC 0,iC 0,iC 0,iC 0]),(900,.chain 3 1 1 (st.map iPV)),(4,.box [.d nilPV,.d nilPV,iC 0,.d nilPV,iC 0,iC 0,iC 0,iC 0])]) impA ?_
  refine zaq (Imp.nil 901 3 1 (fr':=[(6,.x (.b 26 0)),(1,iv .i64 most),(4,.x (.b 4 0))]) (σ':=[(26,.box [.o 900 1 128,.d (zR tp),iC tk,.o 901 0 0,iC tm,iC at',iC dn,iC wy,iC 0,iC 0,iC 0,iC 0]),(900,.chain 3 1 1 (st.map iPV)),(4,.box [.d nilPV,.d nilPV,iC 0,.d nilPV,iC 0,iC 0,iC 0,iC 0])]) rfl ?_ ?_ rfl rfl) ?_
  ·exact⟨⟨_,rfl,.inl rfl⟩,⟨_,rfl,.inl rfl⟩,⟨_,rfl,.inl rfl⟩,trivial⟩
  ·exact⟨⟨_,rfl,.inr ⟨_,_,rfl,rfl,.inl rfl,.inl rfl,.inl rfl,.inr ⟨rfl,rfl⟩,.inl rfl,.inl rfl,.inl rfl,.inl rfl,.inl rfl,.inl rfl,.inl rfl,.inl rfl,trivial⟩⟩,⟨_,rfl,.inl rfl⟩,⟨_,rfl,.inl rfl⟩,trivial⟩
  clear hr1
 case' inr=>
  unfold Stp;clear hr;have hr:=hr1;clear hr1
 all_goals
  repeat' first|(with_reducible refine Stp.at5 ?_)|refine zd ?_|((first|refine regA ?_|((refine⟨_,hr.frame (asc []) (by repeat (first|exact trivial|refine⟨rfl,?_⟩)) rfl (by rintro _ _ ⟨_,rfl,rfl⟩;rfl),?_⟩);(rintro _ _ ⟨_,_,⟨⟨xo,xp⟩,rfl,rfl⟩,rfl,rfl⟩))|fail);conv=>whnf)|fail
  unfold Stp;refine run_end hg rfl rfl impA ?_
  repeat' first|refine zd ?_|((first|refine zi ?_|refine regA ?_|refine andA ?_|fail);conv=>whnf)|fail
  exact⟨_,[],trivial,rfl,rfl,rfl,rfl⟩
end Go.Proofs.YtefglipcipjplaaGreatDoor
namespace Go.Proofs.YtefglipcipjplaaGreatDoor
open Go Go.QL FoT
set_option maxHeartbeats 3200000
attribute [local irreducible] ACall FnC YC fine ten
theorem Stp.at7 {P:Program} {Γ:Cx} {y:Code} {ops:Array Oper} {b:Bool} {Q:Exit→Fr→Sg→Prop} {fr:Fr} {σ:Sg} (h:Stp P Γ (.seq (.region 7 ops b) y) Q fr σ):AW P Γ (.seq (.region 7 ops b) y) Q fr σ:=by unfold Stp at h;exact h
theorem oout_ok {hi:Int} {l:List Int} (h:∀ x ∈ l,0≤x∧x≤hi):FnC Tryz.prog 40 [iv .i64 hi,sl l] (bv false):=by
 have:=zjl hi l;have e:(l.any fun x=>outB x 0 hi)=false:=by
  rw [List.any_eq_false];intro x hx;rw [zQ.2 (h x hx)];decide
 rw [e] at this;exact this
set_option maxRecDepth 20000 in
theorem begin_fn (store tape:List Int) (start:Int) (h1:store.length≤128) (h2:tape.length≤200) (hs:∀ x ∈ store,0≤x∧x≤16777215) (ht:∀ x ∈ tape,0≤x∧x≤16777215) (h3:0≤start∧start≤127) :
  FnC Tryz.prog 9 [sl store,sl tape,iv .i64 start] (.t [stAV (beginO store tape start),iv .i64 0]):=by
 have o1:=oout_ok hs;have o2:=oout_ok ht;have o3:=oout1_ok h3;have c1:=clone_data tape (by omega);have m1:(store.map iPV).length=store.length:=List.length_map _;have m2:(tape.map iPV).length=tape.length:=List.length_map _;have hc:(bif decide (128 < ((store.map iPV).length:Int)) then true else decide (200 < ((tape.map iPV).length:Int)))=false:=by
  rw [decide_eq_false (by omega),decide_eq_false (by omega)];rfl
 have hr:start.tmod 16=start % 16:=Int.tmod_eq_emod_of_nonneg (by omega);have hX:((store.map iPV).take 128 ++ (List.replicate 128 [PV.v (.int .i64 0)]).drop (min (store.map iPV).length 128))=(beginO store tape start).store.map iPV:=by
  rw [m1,Nat.min_eq_left h1,List.take_of_length_le (by omega),List.drop_replicate];show _=(store ++ List.replicate (128 - store.length) 0).map iPV
  rw [List.map_append,List.map_replicate];rfl
 have hXl:((beginO store tape start).store.map iPV).length=128:=by
  show ((store ++ List.replicate (128 - store.length) 0).map iPV).length=128
  simp;omega
 have hle:128≤((store.map iPV).take 128 ++ (List.replicate 128 [PV.v (.int .i64 0)]).drop (min (store.map iPV).length 128)).length:=by rw [hX,hXl];exact Nat.le_refl _
 have hal:zR (beginO store tape start).store=.s 1 (((store.map iPV).take 128 ++ (List.replicate 128 [PV.v (.int .i64 0)]).drop (min (store.map iPV).length 128)).take 128):=by
  rw [hX,List.take_of_length_le (by rw [hXl];exact Nat.le_refl _)];rfl
 have key:ACall Tryz.prog 9 [sl store,sl tape,iv .i64 start] [] (fun r σ'=>r=.t [.a [.d (zR (beginO store tape start).store),.d (zR tape),iC 0,.d nilPV,iC (start % 16),iC start,iC 0,iC 0],iv .i64 0]∧σ'=[]):=by
  refine hdD Tryz.func9 Tryz.ntmps9 (res:=[.cell 6 39,.tmp 7]) fun w0 K0 B=>?_
  repeat' first|(with_reducible refine Stp.at7 ?_)|refine zd ?_|refine zc ?_|((first|refine zf ?_|refine regA ?_|refine drA (id:=5) 6 true [0,0,2,0,0,16,63,127] ?_|fail);conv=>whnf)|(refine za rfl (zM hc) (fun _=>?_))|((first|refine pkA ?_|refine zsn (o1) ?_|refine zsp (o2) ?_|refine zsp (o3) ?_|refine zsp (c1) ?_|refine⟨_,hr,?_⟩|fail);conv=>whnf)|(refine zss rfl ?_)|((refine andA ?_);conv=>whnf)|(refine lnA fun hln=>?_;conv=>whnf)|fail
  unfold Stp;refine zaq (Imp.freezeB 31 (fr':=[(6,.x (.b 6 0))]) (σ':=[(6,.box [.d (zR (beginO store tape start).store),.d (zR tape),iC 0,.d nilPV,iC (start % 16),iC start,iC 0,iC 0])]) rfl
   ⟨⟨_,rfl,.inl rfl⟩,trivial⟩ ⟨⟨_,rfl,.inr ⟨_,_,rfl,rfl,⟨.inr ⟨_,rfl,hle,congrArg SV.d hal⟩,.inl rfl,.inl rfl,.inl rfl,.inl rfl,.inl rfl,.inl rfl,.inl rfl,trivial⟩⟩⟩,trivial⟩ rfl rfl) ?_
  repeat' first|refine zd ?_|((first|refine zi ?_|refine regA ?_|fail);conv=>whnf)|fail
  exact⟨_,[],trivial,rfl,rfl,rfl,rfl⟩
 exact zfd (key.leW fun r σ' h=>⟨_,h.1 ▸ ⟨⟨.inl rfl,.inl rfl,.inl rfl,.inr ⟨rfl,_,rfl⟩,.inl rfl,.inl rfl,.inl rfl,.inl rfl,trivial⟩,.inl rfl,trivial⟩,rfl,h.2⟩)
end Go.Proofs.YtefglipcipjplaaGreatDoor
namespace Go.Proofs.YtefglipcipjplaaGreatDoor
open Go Go.QL FoT
set_option maxHeartbeats 3200000
attribute [local irreducible] ACall FnC
theorem ztM (a b:List Int):FnC Tryz.prog 11 [sl a,sl b] (bv (decide (a=b))):=by
 have hla:(a.map fun n:Int=>[PV.v (.int .i64 n)]).length=a.length:=List.length_map _;have hlb:(b.map fun n:Int=>[PV.v (.int .i64 n)]).length=b.length:=List.length_map _;by_cases hl:a.length=b.length
 ·refine hdC Tryz.func11 Tryz.ntmps11 (res:=[.tmp 4]) fun w0 K0=>?_
  repeat' first|refine zd ?_|refine zc ?_|((first|refine zf ?_|refine zi ?_|refine regA ?_|fail);conv=>whnf)|exact abA hb|(refine zso rfl (fun hb=>?_) (fun hb=>?_))|(refine lnA fun hln=>?_;conv=>whnf)|fail
  refine zJ (fun i:Nat=>[(5,iv .i64 i),(4,bv false),(1,sl b),(0,sl a)]) (fun _=>[]) (fun i=>i≤a.length∧a.take i=b.take i) (fun i=>a.length - i) 0 ⟨Nat.zero_le _,rfl⟩ impA ?_
  rintro j ⟨hj,he⟩;rcases Nat.lt_or_ge j a.length with hjl|hjl
  ·have ga:(a.map fun n:Int=>[PV.v (.int .i64 n)])[(j:Int).toNat]?=some [PV.v (.int .i64 a[j])]:=by rw [Int.toNat_natCast,List.getElem?_map,List.getElem?_eq_getElem hjl];rfl
   have gb:(b.map fun n:Int=>[PV.v (.int .i64 n)])[(j:Int).toNat]?=some [PV.v (.int .i64 (b[j]'(by omega)))]:=by rw [Int.toNat_natCast,List.getElem?_map,List.getElem?_eq_getElem (by omega)];rfl
   by_cases hx:a[j]=b[j]'(by omega)
   ·repeat' first|refine zd ?_|refine zc ?_|((first|refine zf ?_|refine zk ?_|refine zi ?_|refine regA ?_|refine drA (id:=6) 8 false [0,0,3,7,0,0,48,112,255] ?_|fail);conv=>whnf)|exact abA hb|((first|refine⟨_,ze ⟨by omega,ga⟩,?_⟩|refine⟨_,ze ⟨by omega,gb⟩,?_⟩|fail);conv=>whnf)|(refine zso rfl (fun hb=>?_) (fun hb=>?_))|((first|refine zsq ?_|refine andA ?_|fail);conv=>whnf)|(refine lnA fun hln=>?_;conv=>whnf)|fail
    exact⟨j+1,⟨by omega,by rw [List.take_add_one,List.take_add_one,he,List.getElem?_eq_getElem hjl,List.getElem?_eq_getElem (show j < b.length by omega),hx]⟩,by omega,impA⟩
   ·have hd:decide (a=b)=false:=decide_eq_false (by intro e;subst e;exact hx rfl);rw [hd];repeat' first|refine zd ?_|refine zc ?_|((first|refine zf ?_|refine zk ?_|refine zi ?_|refine regA ?_|refine drA (id:=6) 8 false [0,0,3,7,0,0,48,112,255] ?_|fail);conv=>whnf)|exact abA hb|((first|refine⟨_,ze ⟨by omega,ga⟩,?_⟩|refine⟨_,ze ⟨by omega,gb⟩,?_⟩|fail);conv=>whnf)|(refine zso rfl (fun hb=>?_) (fun hb=>?_))|((refine andA ?_);conv=>whnf)|(refine lnA fun hln=>?_;conv=>whnf)|fail
    rfl
  ·have hd:decide (a=b)=true:=decide_eq_true (by rw [List.take_of_length_le (by omega),List.take_of_length_le (by omega)] at he;exact he);rw [hd];repeat' first|refine zd ?_|refine zc ?_|((first|refine zf ?_|refine zk ?_|refine zi ?_|refine regA ?_|refine drA (id:=6) 8 false [0,0,3,7,0,0,48,112,255] ?_|fail);conv=>whnf)|exact abA hb|(refine zso rfl (fun hb=>?_) (fun hb=>?_))|(refine lnA fun hln=>?_;conv=>whnf)|fail
   rfl
 ·have hd:decide (a=b)=false:=decide_eq_false (by intro e;subst e;exact hl rfl);rw [hd];refine hdC Tryz.func11 Tryz.ntmps11 (res:=[.tmp 4]) fun w0 K0=>?_
  repeat' first|refine zd ?_|refine zc ?_|((first|refine zf ?_|refine zi ?_|refine regA ?_|fail);conv=>whnf)|exact abA hb|(refine zso rfl (fun hb=>?_) (fun hb=>?_))|(refine lnA fun hln=>?_;conv=>whnf)|fail
  rfl
end Go.Proofs.YtefglipcipjplaaGreatDoor
namespace Go.Proofs.YtefglipcipjplaaGreatDoor
open Go Go.QL FoT
set_option maxHeartbeats 1600000
attribute [local irreducible] ACall FnC
theorem zoS (n lo hi:Int):FnC Tryz.prog 25 [iv .i64 n,iv .i64 lo,iv .i64 hi] (bv (bif decide (lo≤n) then decide (n≤hi) else false)):=by
 refine hdC Tryz.func25 Tryz.ntmps25 (res:=[.tmp 6]) fun w0 K0=>?_
 repeat' first|refine zd ?_|((first|refine zi ?_|refine regA ?_|refine pkA ?_|fail);conv=>whnf)|fail
 rfl
theorem zjG (n lo hi:Int):(bif decide (lo≤n) then decide (n≤hi) else false)=decide (lo≤n∧n≤hi):=by
 rw [Bool.eq_iff_iff,decide_eq_true_iff,Bool.cond_eq_ite];by_cases h:lo≤n <;> simp [h]
theorem zho (n lo hi:Int):FnC Tryz.prog 25 [iv .i64 n,iv .i64 lo,iv .i64 hi] (bv (decide (lo≤n∧n≤hi))):=by
 rw [← zjG];exact zoS n lo hi
theorem znG {i n:Nat} (h:i≤n) (hn:n≤18):1≤(10:Int) ^ i∧(10:Int) ^ i≤1000000000000000000:=by
 have h1:(10:Nat) ^ i≤10 ^ 18:=Nat.pow_le_pow_right (by decide) (by omega);have h2:1≤(10:Nat) ^ i:=Nat.one_le_pow _ _ (by decide);have e:(10:Int) ^ i=((10 ^ i:Nat):Int):=by norm_cast
 rw [e];omega
theorem zpv (n:Nat) (h:n≤18):FnC Tryz.prog 59 [iv .i64 n] (iv .i64 ((10:Int) ^ n)):=by
 refine hdC Tryz.func59 Tryz.ntmps59 (res:=[.tmp 2]) fun w0 K0=>?_
 repeat' first|refine zd ?_|refine zc ?_|((refine regA ?_);conv=>whnf)|fail
 refine zJ (fun i:Nat=>[(4,iv .i64 i),(3,iv .i64 ((10:Int) ^ i)),(0,iv .i64 n)]) (fun _=>[]) (fun i=>i≤n) (fun i=>n - i) 0 (Nat.zero_le _) impA ?_
 intro i hi;rcases Nat.lt_or_ge i n with hil|hil
 ·have h1:=znG (show i+1≤n by omega) h;have e1:(10:Int) ^ (i+1)=10 * 10 ^ i:=by rw [Int.pow_succ,Int.mul_comm]
  rw [e1] at h1;generalize (10:Int) ^ i=p at h1 e1;repeat' first|refine zd ?_|refine zc ?_|((first|refine zf ?_|refine zk ?_|refine zi ?_|refine regA ?_|fail);conv=>whnf)|exact abA hb|(refine zso rfl (fun hb=>?_) (fun hb=>?_))|((refine zsq ?_);conv=>whnf)|fail
  exact⟨i+1,by omega,by omega,(impX (by repeat' (first|exact trivial|refine And.intro ?_ ?_|exact ivE e1.symm|exact zsw)))⟩
 ·obtain rfl:i=n:=by omega
  repeat' first|refine zd ?_|refine zc ?_|((first|refine zf ?_|refine zk ?_|refine zi ?_|refine regA ?_|fail);conv=>whnf)|exact abA hb|(refine zso rfl (fun hb=>?_) (fun hb=>?_))|fail
  rfl
theorem zls {n:FNode} (h:1≤n.places∧n.places≤6):FnC Tryz.prog 59 [iv .i64 n.places] (iv .i64 (ten n)):=by
 have t:=zpv n.places.toNat (by omega);rw [show ((n.places.toNat:Nat):Int)=n.places by omega] at t;exact t
theorem zlv (n:FNode):FnC Tryz.prog 28 [ndAV n] (bv (decide (3≤n.kind∧n.kind≤5))):=by
 have ri:=zho;refine hdC Tryz.func28 Tryz.ntmps28 (res:=[.tmp 2]) fun w0 K0=>?_
 repeat' first|refine zd ?_|((first|refine zi ?_|refine regA ?_|refine zsn ((ri _ _ _)) ?_|refine andA ?_|fail);conv=>whnf)|fail
 rfl
theorem b3 (a b c:Prop) [Decidable a] [Decidable b] [Decidable c]:(bif (bif decide a then decide b else false) then decide c else false)=decide (a∧b∧c):=by
 by_cases a <;> by_cases b <;> by_cases c <;> simp [*]
theorem znu (f:FormT) (n:FNode):FnC Tryz.prog 27 [zaB f,ndAV n] (iv .i64 (zbA f.vars.length n)):=by
 have ri:=zho;have hlv:(f.vars.map zaa).length=f.vars.length:=List.length_map _;by_cases hk:1≤n.kind∧n.kind≤5
 ·have hcf:(!decide (1≤n.kind∧n.kind≤5))=false:=by rw [decide_eq_true hk];rfl
  have hn:zbA f.vars.length n=if fine f.vars.length n then 0 else 7:=by unfold zbA;rw [if_pos hk]
  rw [hn];by_cases k1:n.kind=1
  ·have e:fine f.vars.length n↔(0≤n.var∧n.var≤(f.vars.length:Int) - 1)∧n.num=0∧n.places=0:=by unfold fine;rw [if_pos k1];exact⟨fun⟨a,b,c⟩=>⟨⟨a,b⟩,c⟩,fun⟨⟨a,b⟩,c⟩=>⟨a,b,c⟩⟩
   have hq:(bif (bif decide (0≤n.var∧n.var≤((f.vars.map zaa).length:Int) - 1) then n.num == 0 else false) then n.places == 0 else false)=decide (fine f.vars.length n):=by
    rw [hlv];refine (b3 _ (n.num=0) (n.places=0)).trans ?_
    rw [Bool.eq_iff_iff,decide_eq_true_iff,decide_eq_true_iff,e]
   by_cases hf:fine f.vars.length n
   ·rw [if_pos hf];rw [decide_eq_true hf] at hq;refine hdC Tryz.func27 Tryz.ntmps27 (res:=[.tmp 4]) fun w0 K0=>?_
    repeat' first|refine zd ?_|((first|refine zf ?_|refine zi ?_|refine regA ?_|refine drA (id:=7) 15 false [0,1,3,7,15,31,63,127,255,511,1023,511,2559,6655,14847,32767,65535,131071,262143,524287,1048575,2097151,4194303,8388607,16777215,33554431,67108863,134217727,268435455] ?_|fail);conv=>whnf)|exact abA hb|(refine za rfl (zM hcf) (fun _=>?_))|(refine za rfl (zM ((congrArg not hq).trans rfl)) (fun _=>?_))|((first|refine zsn ((ri _ _ _)) ?_|refine pkA ?_|fail);conv=>whnf)|(refine zso rfl (fun hb=>?_) (fun hb=>?_))|((refine zsq ?_);conv=>whnf)|(refine lnA fun hln=>?_;conv=>whnf)|fail
    rfl
   ·rw [if_neg hf];rw [decide_eq_false hf] at hq;refine hdC Tryz.func27 Tryz.ntmps27 (res:=[.tmp 4]) fun w0 K0=>?_
    repeat' first|refine zd ?_|((first|refine zf ?_|refine zi ?_|refine regA ?_|refine drA (id:=7) 15 false [0,1,3,7,15,31,63,127,255,511,1023,511,2559,6655,14847,32767,65535,131071,262143,524287,1048575,2097151,4194303,8388607,16777215,33554431,67108863,134217727,268435455] ?_|fail);conv=>whnf)|exact abA hb|(refine za rfl (zM hcf) (fun _=>?_))|(refine za rfl (fun _=>?_) (zaf ((congrArg not hq).trans rfl)))|((first|refine zsn ((ri _ _ _)) ?_|refine pkA ?_|fail);conv=>whnf)|(refine zso rfl (fun hb=>?_) (fun hb=>?_))|((refine zsq ?_);conv=>whnf)|(refine lnA fun hln=>?_;conv=>whnf)|fail
    rfl
  ·by_cases k2:n.kind=2
   ·have e:=zgA (nv:=f.vars.length) k2;by_cases hp:n.var=0∧1≤n.places∧n.places≤6
    ·have t:=zls hp.2;have ht:=(zdk hp.2).2;have hw:IntKind.i64.wrap (ten n - 1)=ten n - 1:=zg (by omega);have hq:(bif (bif (bif n.var == 0 then decide (1≤n.places∧n.places≤6) else false) then decide (0≤n.num∧n.num≤ten n - 1) else false) then (bif n.places == 1 then true else (n.num.tmod 10 != 0)) else false)=decide (fine f.vars.length n):=by
      have h1:(bif n.var == 0 then decide (1≤n.places∧n.places≤6) else false)=true:=by rw [hp.1,decide_eq_true hp.2];rfl
      rw [h1,cond_true,Bool.eq_iff_iff,decide_eq_true_iff,e];by_cases h2:0≤n.num∧n.num≤ten n - 1
      ·rw [decide_eq_true h2,cond_true,Int.tmod_eq_emod_of_nonneg h2.1];by_cases h3:n.places=1
       ·simp [h3,h2,hp.1]
       ·simp [h3,h2,hp.1,hp.2];omega
      ·rw [decide_eq_false h2,cond_false];simp [h2]
     by_cases hf:fine f.vars.length n
     ·rw [if_pos hf];rw [decide_eq_true hf] at hq;refine hdC Tryz.func27 Tryz.ntmps27 (res:=[.tmp 4]) fun w0 K0=>?_
      repeat' first|refine zd ?_|((first|refine zf ?_|refine zi ?_|refine regA ?_|refine drA (id:=7) 15 false [0,1,3,7,15,31,63,127,255,511,1023,511,2559,6655,14847,32767,65535,131071,262143,524287,1048575,2097151,4194303,8388607,16777215,33554431,67108863,134217727,268435455] ?_|fail);conv=>whnf)|exact abA hb|(refine za rfl (zM hcf) (fun _=>?_))|(refine za rfl (zM ((congrArg not hq).trans rfl)) (fun _=>?_))|((first|refine zsn ((ri _ _ _)) ?_|refine zsp ((ri _ _ _)) ?_|refine zsr ((ri _ _ _)) ?_|refine zsr (t) ?_|refine pkA ?_|refine⟨_,hw,?_⟩|refine⟨Int.tmod _ _,rfl,?_⟩|fail);conv=>whnf)|(refine zso rfl (fun hb=>?_) (fun hb=>?_))|((refine andA ?_);conv=>whnf)|fail
      rfl
     ·rw [if_neg hf];rw [decide_eq_false hf] at hq;refine hdC Tryz.func27 Tryz.ntmps27 (res:=[.tmp 4]) fun w0 K0=>?_
      repeat' first|refine zd ?_|((first|refine zf ?_|refine zi ?_|refine regA ?_|refine drA (id:=7) 15 false [0,1,3,7,15,31,63,127,255,511,1023,511,2559,6655,14847,32767,65535,131071,262143,524287,1048575,2097151,4194303,8388607,16777215,33554431,67108863,134217727,268435455] ?_|fail);conv=>whnf)|exact abA hb|(refine za rfl (zM hcf) (fun _=>?_))|(refine za rfl (fun _=>?_) (zaf ((congrArg not hq).trans rfl)))|((first|refine zsn ((ri _ _ _)) ?_|refine zsp ((ri _ _ _)) ?_|refine zsr ((ri _ _ _)) ?_|refine zsr (t) ?_|refine pkA ?_|refine⟨_,hw,?_⟩|refine⟨Int.tmod _ _,rfl,?_⟩|fail);conv=>whnf)|(refine zso rfl (fun hb=>?_) (fun hb=>?_))|((refine andA ?_);conv=>whnf)|fail
      rfl
    ·have hf:¬ fine f.vars.length n:=fun h=>hp ⟨(e.1 h).1,(e.1 h).2.1⟩
     rw [if_neg hf];have h1:(bif n.var == 0 then decide (1≤n.places∧n.places≤6) else false)=false:=by
      by_cases hv:n.var=0
      ·rw [hv,decide_eq_false (fun h=>hp ⟨hv,h⟩)];rfl
      ·rw [beq_eq_false_iff_ne.2 hv];rfl
     refine hdC Tryz.func27 Tryz.ntmps27 (res:=[.tmp 4]) fun w0 K0=>?_
     repeat' first|refine zd ?_|((first|refine zf ?_|refine zi ?_|refine regA ?_|refine drA (id:=7) 15 false [0,1,3,7,15,31,63,127,255,511,1023,511,2559,6655,14847,32767,65535,131071,262143,524287,1048575,2097151,4194303,8388607,16777215,33554431,67108863,134217727,268435455] ?_|fail);conv=>whnf)|exact abA hb|(refine za rfl (zM hcf) (fun _=>?_))|((first|refine zsn ((ri _ _ _)) ?_|refine zsp ((ri _ _ _)) ?_|refine zsr ((ri _ _ _)) ?_|refine pkA ?_|refine⟨iv .i64 0,zax (fun h=>absurd (h1.symm.trans h) (by decide)),?_⟩|refine⟨Int.tmod _ _,rfl,?_⟩|fail);conv=>whnf)|(refine za rfl (fun _=>?_) (zaf (by rw [h1];rfl)))|(refine zso rfl (fun hb=>?_) (fun hb=>?_))|((first|refine zsq ?_|refine andA ?_|fail);conv=>whnf)|fail
     rfl
   ·have hq:(bif (bif n.var == 0 then n.num == 0 else false) then n.places == 0 else false)=decide (fine f.vars.length n):=by
     refine (b3 (n.var=0) (n.num=0) (n.places=0)).trans ?_
     unfold fine;simp only [if_neg k1,if_neg k2]
    by_cases hf:fine f.vars.length n
    ·rw [if_pos hf];rw [decide_eq_true hf] at hq;refine hdC Tryz.func27 Tryz.ntmps27 (res:=[.tmp 4]) fun w0 K0=>?_
     repeat' first|refine zd ?_|((first|refine zf ?_|refine zi ?_|refine regA ?_|refine drA (id:=7) 15 false [0,1,3,7,15,31,63,127,255,511,1023,511,2559,6655,14847,32767,65535,131071,262143,524287,1048575,2097151,4194303,8388607,16777215,33554431,67108863,134217727,268435455] ?_|fail);conv=>whnf)|exact abA hb|(refine za rfl (zM hcf) (fun _=>?_))|(refine za rfl (zM ((congrArg not hq).trans rfl)) (fun _=>?_))|((first|refine zsn ((ri _ _ _)) ?_|refine pkA ?_|fail);conv=>whnf)|(refine zso rfl (fun hb=>?_) (fun hb=>?_))|fail
     rfl
    ·rw [if_neg hf];rw [decide_eq_false hf] at hq;refine hdC Tryz.func27 Tryz.ntmps27 (res:=[.tmp 4]) fun w0 K0=>?_
     repeat' first|refine zd ?_|((first|refine zf ?_|refine zi ?_|refine regA ?_|refine drA (id:=7) 15 false [0,1,3,7,15,31,63,127,255,511,1023,511,2559,6655,14847,32767,65535,131071,262143,524287,1048575,2097151,4194303,8388607,16777215,33554431,67108863,134217727,268435455] ?_|fail);conv=>whnf)|exact abA hb|(refine za rfl (zM hcf) (fun _=>?_))|(refine za rfl (fun _=>?_) (zaf ((congrArg not hq).trans rfl)))|((first|refine zsn ((ri _ _ _)) ?_|refine pkA ?_|fail);conv=>whnf)|(refine zso rfl (fun hb=>?_) (fun hb=>?_))|fail
     rfl
 ·have hct:(!decide (1≤n.kind∧n.kind≤5))=true:=by rw [decide_eq_false hk];rfl
  have hn:zbA f.vars.length n=2:=by unfold zbA;rw [if_neg hk]
  rw [hn];refine hdC Tryz.func27 Tryz.ntmps27 (res:=[.tmp 4]) fun w0 K0=>?_
  repeat' first|refine zd ?_|((first|refine zi ?_|refine regA ?_|fail);conv=>whnf)|(refine za rfl (fun _=>?_) (zaf hct))|((first|refine zsn ((ri _ _ _)) ?_|refine pkA ?_|fail);conv=>whnf)|fail
  rfl
end Go.Proofs.YtefglipcipjplaaGreatDoor
namespace Go.Proofs.YtefglipcipjplaaGreatDoor
open Go Go.QL FoT
set_option maxHeartbeats 3200000
attribute [local irreducible] ACall FnC fine ten zbx zav zaw
theorem zpE (n lo hi:Int):FnC Tryz.prog 58 [iv .i64 n,iv .i64 lo,iv .i64 hi] (bv (decide (lo≤n∧n≤hi))):=by
 rw [← zjG];refine hdC Tryz.func58 Tryz.ntmps58 (res:=[.tmp 6]) fun w0 K0=>?_
 repeat' first|refine zd ?_|((first|refine zi ?_|refine regA ?_|refine pkA ?_|fail);conv=>whnf)|fail
 rfl
abbrev rLet (c:UInt8):Bool:=bif decide ((c.toNat:Int) ≥ 97) then decide ((c.toNat:Int)≤122) else false
abbrev rOth (c:UInt8):Bool:=bif (bif decide ((c.toNat:Int) ≥ 48) then decide ((c.toNat:Int)≤57) else false) then true else ((c.toNat:Int) == 95)
theorem znw (i:Nat) (c:UInt8):(bif (!rLet c) then (bif ((i:Int) == 0) then true else !rOth c) else false) = !zg2 (decide (i=0)) c:=by
 rw [zg1];show _ = !(rLet c || zkW i c)
 cases rLet c with
 | true=>rfl
 | false=>
  rw [Bool.false_or,Bool.not_false,cond_true];unfold zkW rOth;by_cases hi:i=0
  ·subst hi;rfl
  ·rw [beq_eq_false_iff_ne.2 (by omega),decide_eq_true (show (i:Int) > 0 by omega),cond_false,cond_true];cases decide ((c.toNat:Int) ≥ 48) <;> cases decide ((c.toNat:Int)≤57) <;> cases ((c.toNat:Int) == 95) <;> rfl
theorem znv (l:Bs8):FnC Tryz.prog 26 [sv (bs l)] (bv (zbb l)):=by
 have hsz:=zbj l;have hli:=zco l;have o:=zpE (bs l).size 1 20;by_cases h1:1≤l.length∧l.length≤20
 ·have ho:decide ((1:Int)≤(bs l).size∧((bs l).size:Int)≤20)=true:=decide_eq_true (by omega);rw [ho] at o;have hg:(bs l).data.toList[((bs l).size - 1:Int).toNat]?=some (l.getLastD 0):=by
   rw [hli,show ((bs l).size - 1:Int).toNat=l.length - 1 by omega];exact zkd h1.1
  cases h2:zpT l with
  | true=>
   have hr:zbb l=false:=by
    unfold zbb;rw [← zeo,h2];simp
   rw [hr];refine hdC Tryz.func26 Tryz.ntmps26 (res:=[.tmp 2]) fun w0 K0=>?_
   repeat' first|refine zd ?_|((first|refine zi ?_|refine regA ?_|refine zsn (o) ?_|refine⟨_,ze ⟨by omega,hg⟩,?_⟩|fail);conv=>whnf)|(refine za rfl (fun _=>?_) (zaf h2))|((first|refine zsq ?_|refine andA ?_|fail);conv=>whnf)|fail
   rfl
  | false=>
   have hr:zbb l=z7 true l:=by
    unfold zbb;rw [← zeo,h2,decide_eq_true h1.1,decide_eq_true h1.2];rfl
   rw [hr];refine hdC Tryz.func26 Tryz.ntmps26 (res:=[.tmp 2]) fun w0 K0=>?_
   repeat' first|refine zd ?_|refine zc ?_|((first|refine zf ?_|refine regA ?_|refine zsn (o) ?_|refine⟨_,ze ⟨by omega,hg⟩,?_⟩|fail);conv=>whnf)|(refine za rfl (zM h2) (fun _=>?_))|((first|refine zsq ?_|refine andA ?_|fail);conv=>whnf)|fail
   refine zJ (fun i:Nat=>[(3,iv .i64 i),(0,sv (bs l))]) (fun _=>[])
    (fun i=>i≤l.length∧z7 true l=z7 (decide (i=0)) (l.drop i)) (fun i=>l.length - i) 0 ⟨Nat.zero_le _,rfl⟩ impA ?_
   rintro i ⟨hi,hn⟩;rcases Nat.lt_or_ge i l.length with hil|hil
   ·rw [List.drop_eq_getElem_cons hil,z7] at hn;have hgi:(bs l).data.toList[(i:Int).toNat]?=some l[i]:=by rw [hli,Int.toNat_natCast,List.getElem?_eq_getElem hil]
    have hq:=znw i l[i];cases ha:zg2 (decide (i=0)) l[i] with
    | true=>
     rw [ha] at hn hq;have hn:z7 true l=z7 (decide (i+1=0)) (l.drop (i+1)):=hn;repeat' first|refine zd ?_|refine zc ?_|((first|refine zf ?_|refine zk ?_|refine zi ?_|refine regA ?_|refine drA (id:=6) 27 false [0,0,3,7,15,31,31,127,255,511,0,0,3072,7168,15391,31775,31775,130079,261151,523295,1047583,2096159,2096159,8387615,16776223,33553439,2097151,134217727] ?_|fail);conv=>whnf)|exact abA hb|(refine za rfl (zM hq) (fun _=>?_))|((first|refine pkA ?_|refine⟨_,ze ⟨by omega,hgi⟩,?_⟩|fail);conv=>whnf)|(refine zso rfl (fun hb=>?_) (fun hb=>?_))|((first|refine zsq ?_|refine andA ?_|fail);conv=>whnf)|fail
     exact⟨i+1,⟨by omega,hn⟩,by omega,impA⟩
    | false=>
     rw [ha] at hn hq;have hn:z7 true l=false:=hn;rw [hn];repeat' first|refine zd ?_|refine zc ?_|((first|refine zf ?_|refine zk ?_|refine zi ?_|refine regA ?_|refine drA (id:=6) 27 false [0,0,3,7,15,31,31,127,255,511,0,0,3072,7168,15391,31775,31775,130079,261151,523295,1047583,2096159,2096159,8387615,16776223,33553439,2097151,134217727] ?_|fail);conv=>whnf)|exact abA hb|(refine za rfl (fun _=>?_) (zaf hq))|((first|refine pkA ?_|refine⟨_,ze ⟨by omega,hgi⟩,?_⟩|fail);conv=>whnf)|(refine zso rfl (fun hb=>?_) (fun hb=>?_))|((refine andA ?_);conv=>whnf)|fail
     rfl
   ·rw [List.drop_eq_nil_of_le hil] at hn;have hn:z7 true l=true:=hn;rw [hn];repeat' first|refine zd ?_|refine zc ?_|((first|refine zf ?_|refine zk ?_|refine zi ?_|refine regA ?_|refine drA (id:=6) 27 false [0,0,3,7,15,31,31,127,255,511,0,0,3072,7168,15391,31775,31775,130079,261151,523295,1047583,2096159,2096159,8387615,16776223,33553439,2097151,134217727] ?_|fail);conv=>whnf)|exact abA hb|(refine zso rfl (fun hb=>?_) (fun hb=>?_))|fail
    rfl
 ·have ho:decide ((1:Int)≤(bs l).size∧((bs l).size:Int)≤20)=false:=decide_eq_false (by omega);rw [ho] at o;have hr:zbb l=false:=by
   unfold zbb;have:(decide (1≤l.length) && decide (l.length≤20))=false:=by
    rw [Bool.eq_false_iff];simp;omega
   rw [this];rfl
  rw [hr];refine hdC Tryz.func26 Tryz.ntmps26 (res:=[.tmp 2]) fun w0 K0=>?_
  repeat' first|refine zd ?_|((first|refine zi ?_|refine regA ?_|refine zsn (o) ?_|refine⟨95,zax (fun h=>absurd h (by decide)),?_⟩|fail);conv=>whnf)|(refine zst rfl ?_)|((first|refine⟨IntKind.wrap _ _,rfl,?_⟩|refine andA ?_|fail);conv=>whnf)|fail
  rfl
theorem zrp {f:FormT} {s:CS} (hv:zaw [] f.vars=none) (h0:¬ (8 < f.vars.length∨¬ (1≤f.code.length∧f.code.length≤40))) (h:CkR f f.code.length s):zD f=if s.p≠1 then 6 else if s.b=false∨s.u < f.vars.length then 2 else 0:=by
 unfold CkR at h;unfold zD;rw [if_neg h0,hv];dsimp only;rw [h,List.drop_length,zav]
theorem str_eq {a b:Bs8}:((bs a).toList == (bs b).toList)=decide (a=b):=zdf a b
theorem zjW {V:List Bs8} {i:Nat} (h:i < V.length):(V.map zaa)[(i:Int).toNat]?=some [PV.v (.string (bs V[i]))]:=by
 rw [Int.toNat_natCast,List.getElem?_map,List.getElem?_eq_getElem h];rfl
theorem zh7 (f:FormT):FnC Tryz.prog 7 [zaB f] (iv .i64 (zD f)):=by
 have hlv:(f.vars.map zaa).length=f.vars.length:=List.length_map _;have hlc:(f.code.map ndPV).length=f.code.length:=List.length_map _;have o1:=zho ((f.code.map ndPV).length:Int) 1 40;by_cases h0:8 < f.vars.length∨¬ (1≤f.code.length∧f.code.length≤40)
 ·have hr:zD f=3:=by unfold zD;rw [if_pos h0]
  rw [hr];have hc:(bif decide (((f.vars.map zaa).length:Int) > 8) then true else !decide ((1:Int)≤((f.code.map ndPV).length:Int)∧((f.code.map ndPV).length:Int)≤40))=true:=by
   rcases h0 with h|h
   ·rw [decide_eq_true (show ((f.vars.map zaa).length:Int) > 8 by omega)];rfl
   ·rw [decide_eq_false (show ¬ ((1:Int)≤((f.code.map ndPV).length:Int)∧((f.code.map ndPV).length:Int)≤40) by omega)];cases decide (((f.vars.map zaa).length:Int) > 8) <;> rfl
  refine hdC Tryz.func7 Tryz.ntmps7 (res:=[.tmp 2]) fun w0 K0=>?_
  repeat' first|refine zd ?_|((first|refine zi ?_|refine regA ?_|refine zsp (o1) ?_|fail);conv=>whnf)|(refine za rfl (fun _=>?_) (zaf hc))|((refine andA ?_);conv=>whnf)|(refine lnA fun hln=>?_;conv=>whnf)|fail
  rfl
 ·have hc:(bif decide (((f.vars.map zaa).length:Int) > 8) then true else !decide ((1:Int)≤((f.code.map ndPV).length:Int)∧((f.code.map ndPV).length:Int)≤40))=false:=by
   rw [decide_eq_false (show ¬ ((f.vars.map zaa).length:Int) > 8 by omega),decide_eq_true (show ((1:Int)≤((f.code.map ndPV).length:Int)∧((f.code.map ndPV).length:Int)≤40) by omega)];rfl
  have hv8:f.vars.length≤8:=by omega
  have hc40:f.code.length≤40:=by omega
  refine hdC Tryz.func7 Tryz.ntmps7 (res:=[.tmp 2]) fun w0 K0=>?_
  repeat' first|refine zd ?_|refine zc ?_|((first|refine zf ?_|refine regA ?_|refine zsp (o1) ?_|fail);conv=>whnf)|(refine za rfl (zM hc) (fun _=>?_))|((refine andA ?_);conv=>whnf)|(refine lnA fun hln=>?_;conv=>whnf)|fail
  refine zJ (fun i:Nat=>[(3,iv .i64 i),(1,.x (.b 1 0))]) (fun _=>[(1,.box (zb5 f))])
   (fun i=>i≤f.vars.length∧zaw [] f.vars=zaw (f.vars.take i) (f.vars.drop i)) (fun i=>f.vars.length - i) 0 ⟨Nat.zero_le _,by simp⟩ impA ?_
  rintro i ⟨hi,hz⟩;rcases Nat.lt_or_ge i f.vars.length with hil|hil
  ·have nf:=znv f.vars[i];rw [List.drop_eq_getElem_cons hil] at hz;have gi:=zjW hil;cases hN:zbb f.vars[i] with
   | false=>
    have hr:zD f=6:=by
     unfold zD;rw [if_neg h0,hz,zaw,if_pos hN]
    rw [hr];rw [hN] at nf;repeat' first|refine zd ?_|refine zc ?_|((first|refine zf ?_|refine zk ?_|refine zi ?_|refine regA ?_|fail);conv=>whnf)|exact abA hb|((first|refine zsn (nf) ?_|refine⟨_,ze ⟨by omega,gi⟩,?_⟩|fail);conv=>whnf)|(refine zst rfl ?_)|(refine zso rfl (fun hb=>?_) (fun hb=>?_))|((refine andA ?_);conv=>whnf)|(refine lnA fun hln=>?_;conv=>whnf)|fail
    rfl
   | true=>
    rw [hN] at nf;repeat' first|refine zd ?_|refine zc ?_|((first|refine zf ?_|refine zk ?_|refine regA ?_|fail);conv=>whnf)|exact abA hb|((first|refine zsn (nf) ?_|refine⟨_,ze ⟨by omega,gi⟩,?_⟩|fail);conv=>whnf)|(refine zss rfl ?_)|(refine zso rfl (fun hb=>?_) (fun hb=>?_))|((refine andA ?_);conv=>whnf)|(refine lnA fun hln=>?_;conv=>whnf)|fail
    refine zJ (fun k:Nat=>[(4,iv .i64 k),(3,iv .i64 i),(1,.x (.b 1 0))]) (fun _=>[(1,.box (zb5 f))])
     (fun k=>k≤i∧f.vars[i] ∉ f.vars.take k) (fun k=>i - k) 0 ⟨Nat.zero_le _,by simp⟩ impA ?_
    rintro k ⟨hk,hm⟩;rcases Nat.lt_or_ge k i with hki|hki
    ·have gk:=zjW (show k < f.vars.length by omega);by_cases he:f.vars[k]=f.vars[i]
     ·have hr:zD f=5:=by
       unfold zD;rw [if_neg h0,hz,zaw,if_neg (by rw [hN];decide),if_pos];rw [← he];refine List.mem_iff_getElem.2 ⟨k,by rw [List.length_take];omega,?_⟩
       rw [List.getElem_take]
      rw [hr];have hq:((bs f.vars[k]).toList == (bs f.vars[i]).toList)=true:=by rw [zdf];exact decide_eq_true he
      repeat' first|refine zd ?_|refine zc ?_|((first|refine zf ?_|refine zk ?_|refine zi ?_|refine regA ?_|refine drA (id:=11) 10 false [0,1,0,7,15,0,32,0,224,480,1023] ?_|fail);conv=>whnf)|exact abA hb|(refine za rfl (fun _=>?_) (zaf hq))|((first|refine⟨_,ze ⟨by omega,gi⟩,?_⟩|refine⟨_,ze ⟨by omega,gk⟩,?_⟩|fail);conv=>whnf)|(refine zso rfl (fun hb=>?_) (fun hb=>?_))|((refine andA ?_);conv=>whnf)|fail
      rfl
     ·have hq:((bs f.vars[k]).toList == (bs f.vars[i]).toList)=false:=by rw [zdf];exact decide_eq_false he
      have hm2:f.vars[i] ∉ f.vars.take (k+1):=by
       rw [List.take_add_one,List.getElem?_eq_getElem (show k < f.vars.length by omega),List.mem_append,not_or];exact⟨hm,by simp;exact fun h=>he h.symm⟩
      repeat' first|refine zd ?_|refine zc ?_|((first|refine zf ?_|refine zk ?_|refine regA ?_|refine drA (id:=11) 10 false [0,1,0,7,15,0,32,0,224,480,1023] ?_|fail);conv=>whnf)|exact abA hb|(refine za rfl (zM hq) (fun _=>?_))|((first|refine⟨_,ze ⟨by omega,gi⟩,?_⟩|refine⟨_,ze ⟨by omega,gk⟩,?_⟩|fail);conv=>whnf)|(refine zso rfl (fun hb=>?_) (fun hb=>?_))|((first|refine zsq ?_|refine andA ?_|fail);conv=>whnf)|fail
      exact⟨k+1,⟨by omega,hm2⟩,by omega,impA⟩
    ·obtain rfl:k=i:=by omega
     have hz2:zaw [] f.vars=zaw (f.vars.take (k+1)) (f.vars.drop (k+1)):=by
      rw [hz,zaw,if_neg (by rw [hN];decide),if_neg hm,List.take_add_one,List.getElem?_eq_getElem hil];rfl
     repeat' first|refine zd ?_|refine zc ?_|((first|refine zf ?_|refine zk ?_|refine regA ?_|refine drA (id:=11) 10 false [0,1,0,7,15,0,32,0,224,480,1023] ?_|fail);conv=>whnf)|exact abA hb|(refine zso rfl (fun hb=>?_) (fun hb=>?_))|((refine zsq ?_);conv=>whnf)|fail
     exact⟨k+1,⟨by omega,hz2⟩,by omega,impA⟩
  ·have hv:zaw [] f.vars=none:=by rw [hz,List.drop_eq_nil_of_le hil,zaw]
   obtain rfl:i=f.vars.length:=by omega
   clear hz o1 hc;repeat' first|refine zd ?_|refine zc ?_|((first|refine zf ?_|refine zk ?_|refine regA ?_|fail);conv=>whnf)|exact abA hb|(refine zso rfl (fun hb=>?_) (fun hb=>?_))|((refine andA ?_);conv=>whnf)|(refine lnA fun hln=>?_;conv=>whnf)|fail
   refine zJ (fun x:Nat × CS=>[(8,iv .i64 x.1),(5,iv .i64 x.2.p),(6,iv .i64 x.2.u),(7,bv x.2.b),(1,.x (.b 1 0))]) (fun _=>[(1,.box (zb5 f))])
    (fun x=>x.1≤f.code.length∧x.2.p≤12∧x.2.u≤f.vars.length∧CkR f x.1 x.2) (fun x=>f.code.length - x.1) (0,⟨0,0,true⟩) ⟨Nat.zero_le _,Nat.zero_le _,Nat.zero_le _,rfl⟩ impA ?_
   rintro⟨i,s⟩ ⟨hi,hp,hu,hz⟩;dsimp only at hi hp hu hz ⊢;rcases Nat.lt_or_ge i f.code.length with hil|hil
   ·have stop:=fun {e:Int}=>zmX (e:=e) hv h0 hil hz
    have next:=fun {s':CS}=>zmY (s':=s') hil hz
    have nf:=znu f f.code[i];have op:=zlv f.code[i];clear hz;by_cases hk:1≤f.code[i].kind∧f.code[i].kind≤5
    ·by_cases hf:fine f.vars.length f.code[i]
     ·have hn0:zbA f.vars.length f.code[i]=0:=by unfold zbA;rw [if_pos hk,if_pos hf]
      rw [hn0] at nf;by_cases k3:3≤f.code[i].kind
      ·have st:=zqJ (s:=s) k3 hk.2 hp hf;rw [decide_eq_true (show 3≤f.code[i].kind∧f.code[i].kind≤5 from ⟨k3,hk.2⟩)] at op;have c1:(bif f.code[i].kind == 1 then decide (f.code[i].var > s.u) else false)=false:=by rw [beq_eq_false_iff_ne.2 (by omega)];rfl
       have c2:(bif f.code[i].kind == 1 then f.code[i].var == s.u else false)=false:=by rw [beq_eq_false_iff_ne.2 (by omega)];rfl
       by_cases hp2:s.p < 2
       ·rw [if_pos hp2] at st;rw [stop st];repeat' first|refine zd ?_|refine zc ?_|((first|refine zf ?_|refine zk ?_|refine zi ?_|refine regA ?_|fail);conv=>whnf)|exact abA hb|((first|refine zsn (nf) ?_|refine zsn (op) ?_|fail);conv=>whnf)|(refine zst rfl ?_)|(refine zss rfl ?_)|(refine zso rfl (fun hb=>?_) (fun hb=>?_))|((first|refine andA ?_|with_reducible refine exA fun _=>?_|fail);conv=>whnf)|(refine lnA fun hln=>?_;conv=>whnf)|fail
        rfl
       ·rw [if_neg hp2] at st;repeat' first|refine zd ?_|refine zc ?_|((first|refine zf ?_|refine zk ?_|refine zi ?_|refine regA ?_|fail);conv=>whnf)|exact abA hb|(refine za rfl (zM c1) (fun _=>?_))|(refine za rfl (zM c2) (fun _=>?_))|((first|refine zsn (nf) ?_|refine zsn (op) ?_|refine pkA ?_|fail);conv=>whnf)|(refine zst rfl ?_)|(refine zss rfl ?_)|(refine zso rfl (fun hb=>?_) (fun hb=>?_))|((first|refine zsq ?_|refine andA ?_|with_reducible refine exA fun _=>?_|fail);conv=>whnf)|(refine lnA fun hln=>?_;conv=>whnf)|fail
        exact⟨(i+1,(⟨s.p - 2+1,s.u,s.b⟩:CS)),⟨by show i+1≤f.code.length;omega,by show s.p - 2+1≤12;omega,hu,next st⟩,by show f.code.length - (i+1) < f.code.length - i;omega,impA⟩
      ·rw [decide_eq_false (fun h=>k3 h.1)] at op;have st:=zhi (s:=s) hk hf;rw [if_neg (fun h=>k3 h.1),if_neg k3] at st;by_cases h12:12 < s.p+1
       ·rw [if_pos h12] at st;rw [stop st];repeat' first|refine zd ?_|refine zc ?_|((first|refine zf ?_|refine zk ?_|refine zi ?_|refine regA ?_|fail);conv=>whnf)|exact abA hb|((first|refine zsn (nf) ?_|refine zsn (op) ?_|fail);conv=>whnf)|(refine zss rfl ?_)|(refine zso rfl (fun hb=>?_) (fun hb=>?_))|((first|refine zsq ?_|refine andA ?_|with_reducible refine exA fun _=>?_|fail);conv=>whnf)|(refine lnA fun hln=>?_;conv=>whnf)|fail
        rfl
       ·rw [if_neg h12] at st;by_cases k1:f.code[i].kind=1
        ·have hvar:=hf;unfold fine at hvar;rw [if_pos k1] at hvar;by_cases hg:(s.u:Int) < f.code[i].var
         ·rw [if_neg (by omega),decide_eq_true k1,decide_eq_true hg] at st;have c1:(bif f.code[i].kind == 1 then decide (f.code[i].var > s.u) else false)=true:=by rw [beq_iff_eq.2 k1,decide_eq_true (show f.code[i].var > s.u from hg)];rfl
          have c2:(bif f.code[i].kind == 1 then f.code[i].var == s.u else false)=false:=by rw [beq_eq_false_iff_ne.2 (show f.code[i].var≠s.u by omega)];cases (f.code[i].kind == 1) <;> rfl
          have hbb:false=(s.b && !(true && true)):=by simp
          repeat' first|refine zd ?_|refine zc ?_|((first|refine zf ?_|refine zk ?_|refine zi ?_|refine regA ?_|fail);conv=>whnf)|exact abA hb|(refine za rfl (fun _=>?_) (zaf c1))|(refine za rfl (zM c2) (fun _=>?_))|((first|refine zsn (nf) ?_|refine zsn (op) ?_|refine pkA ?_|fail);conv=>whnf)|(refine zss rfl ?_)|(refine zso rfl (fun hb=>?_) (fun hb=>?_))|((first|refine zsq ?_|refine andA ?_|with_reducible refine exA fun _=>?_|fail);conv=>whnf)|(refine lnA fun hln=>?_;conv=>whnf)|fail
          exact⟨(i+1,(⟨s.p+1,s.u,s.b && !(true && true)⟩:CS)),⟨by show i+1≤_;omega,by show s.p+1≤12;omega,hu,next st⟩,by show f.code.length - (i+1) < f.code.length - i;omega,(impX (by repeat' (first|exact trivial|refine And.intro ?_ ?_|exact bvE hbb|exact zsw)))⟩
         ·rw [decide_eq_false hg] at st;have c1:(bif f.code[i].kind == 1 then decide (f.code[i].var > s.u) else false)=false:=by rw [decide_eq_false (show ¬ f.code[i].var > s.u from hg)];cases (f.code[i].kind == 1) <;> rfl
          have hbb:s.b=(s.b && !(decide (f.code[i].kind=1) && false)):=by simp
          by_cases hue:f.code[i].var=s.u
          ·rw [if_pos ⟨k1,hue⟩] at st;have c2:(bif f.code[i].kind == 1 then f.code[i].var == s.u else false)=true:=by rw [beq_iff_eq.2 k1,beq_iff_eq.2 hue];rfl
           repeat' first|refine zd ?_|refine zc ?_|((first|refine zf ?_|refine zk ?_|refine zi ?_|refine regA ?_|fail);conv=>whnf)|exact abA hb|(refine za rfl (zM c1) (fun _=>?_))|(refine za rfl (fun _=>?_) (zaf c2))|((first|refine zsn (nf) ?_|refine zsn (op) ?_|refine pkA ?_|fail);conv=>whnf)|(refine zss rfl ?_)|(refine zso rfl (fun hb=>?_) (fun hb=>?_))|((first|refine zsq ?_|refine andA ?_|with_reducible refine exA fun _=>?_|fail);conv=>whnf)|(refine lnA fun hln=>?_;conv=>whnf)|fail
           exact⟨(i+1,(⟨s.p+1,s.u+1,s.b && !(decide (f.code[i].kind=1) && false)⟩:CS)),⟨by show i+1≤_;omega,by show s.p+1≤12;omega,by show s.u+1≤f.vars.length;omega,next st⟩,by show f.code.length - (i+1) < f.code.length - i;omega,(impX (by repeat' (first|exact trivial|refine And.intro ?_ ?_|exact bvE hbb|exact zsw)))⟩
          ·rw [if_neg (fun h=>hue h.2)] at st;have c2:(bif f.code[i].kind == 1 then f.code[i].var == s.u else false)=false:=by rw [beq_eq_false_iff_ne.2 hue];cases (f.code[i].kind == 1) <;> rfl
           repeat' first|refine zd ?_|refine zc ?_|((first|refine zf ?_|refine zk ?_|refine zi ?_|refine regA ?_|fail);conv=>whnf)|exact abA hb|(refine za rfl (zM c1) (fun _=>?_))|(refine za rfl (zM c2) (fun _=>?_))|((first|refine zsn (nf) ?_|refine zsn (op) ?_|refine pkA ?_|fail);conv=>whnf)|(refine zss rfl ?_)|(refine zso rfl (fun hb=>?_) (fun hb=>?_))|((first|refine zsq ?_|refine andA ?_|with_reducible refine exA fun _=>?_|fail);conv=>whnf)|(refine lnA fun hln=>?_;conv=>whnf)|fail
           exact⟨(i+1,(⟨s.p+1,s.u,s.b && !(decide (f.code[i].kind=1) && false)⟩:CS)),⟨by show i+1≤_;omega,by show s.p+1≤12;omega,hu,next st⟩,by show f.code.length - (i+1) < f.code.length - i;omega,(impX (by repeat' (first|exact trivial|refine And.intro ?_ ?_|exact bvE hbb|exact zsw)))⟩
        ·rw [if_neg (fun h=>k1 h.1),decide_eq_false k1] at st;have c1:(bif f.code[i].kind == 1 then decide (f.code[i].var > s.u) else false)=false:=by rw [beq_eq_false_iff_ne.2 k1];rfl
         have c2:(bif f.code[i].kind == 1 then f.code[i].var == s.u else false)=false:=by rw [beq_eq_false_iff_ne.2 k1];rfl
         have hbb:s.b=(s.b && !(false && decide ((s.u:Int) < f.code[i].var))):=by simp
         repeat' first|refine zd ?_|refine zc ?_|((first|refine zf ?_|refine zk ?_|refine zi ?_|refine regA ?_|fail);conv=>whnf)|exact abA hb|(refine za rfl (zM c1) (fun _=>?_))|(refine za rfl (zM c2) (fun _=>?_))|((first|refine zsn (nf) ?_|refine zsn (op) ?_|refine pkA ?_|fail);conv=>whnf)|(refine zss rfl ?_)|(refine zso rfl (fun hb=>?_) (fun hb=>?_))|((first|refine zsq ?_|refine andA ?_|with_reducible refine exA fun _=>?_|fail);conv=>whnf)|(refine lnA fun hln=>?_;conv=>whnf)|fail
         exact⟨(i+1,(⟨s.p+1,s.u,s.b && !(false && decide ((s.u:Int) < f.code[i].var))⟩:CS)),⟨by show i+1≤_;omega,by show s.p+1≤12;omega,hu,next st⟩,by show f.code.length - (i+1) < f.code.length - i;omega,(impX (by repeat' (first|exact trivial|refine And.intro ?_ ?_|exact bvE hbb|exact zsw)))⟩
     ·have hn0:zbA f.vars.length f.code[i]=7:=by unfold zbA;rw [if_pos hk,if_neg hf]
      rw [hn0] at nf;rw [stop (zjY hk hf)];repeat' first|refine zd ?_|refine zc ?_|((first|refine zf ?_|refine zk ?_|refine zi ?_|refine regA ?_|fail);conv=>whnf)|exact abA hb|((refine zsn (nf) ?_);conv=>whnf)|(refine zst rfl ?_)|(refine zso rfl (fun hb=>?_) (fun hb=>?_))|((first|refine andA ?_|with_reducible refine exA fun _=>?_|fail);conv=>whnf)|(refine lnA fun hln=>?_;conv=>whnf)|fail
      rfl
    ·have hn0:zbA f.vars.length f.code[i]=2:=by unfold zbA;rw [if_neg hk]
     rw [hn0] at nf;rw [stop (zjZ hk)];repeat' first|refine zd ?_|refine zc ?_|((first|refine zf ?_|refine zk ?_|refine zi ?_|refine regA ?_|fail);conv=>whnf)|exact abA hb|((refine zsn (nf) ?_);conv=>whnf)|(refine zst rfl ?_)|(refine zso rfl (fun hb=>?_) (fun hb=>?_))|((first|refine andA ?_|with_reducible refine exA fun _=>?_|fail);conv=>whnf)|(refine lnA fun hln=>?_;conv=>whnf)|fail
     rfl
   ·obtain rfl:i=f.code.length:=by omega
    have hfin:=zrp hv h0 hz;clear hz;rw [hfin];by_cases p1:s.p=1
    ·rw [if_neg (fun h=>h p1)];have e:(bif !s.b then true else ((s.u:Int) != ((f.vars.map zaa).length:Int)))=decide (s.b=false∨s.u < f.vars.length):=by
      rw [hlv,Bool.eq_iff_iff,decide_eq_true_iff];cases s.b with
      | false=>simp
      | true=>
       rw [Bool.not_true,cond_false,bne_iff_ne];constructor
       ·intro h;right;omega
       ·rintro (h|h)
        ·cases h
        ·omega
     by_cases hE:s.b=false∨s.u < f.vars.length
     ·rw [if_pos hE];rw [decide_eq_true hE] at e;repeat' first|refine zd ?_|refine zc ?_|((first|refine zf ?_|refine zk ?_|refine zi ?_|refine regA ?_|fail);conv=>whnf)|exact abA hb|(refine za rfl (fun _=>?_) (zaf e))|((refine pkA ?_);conv=>whnf)|(refine zso rfl (fun hb=>?_) (fun hb=>?_))|(refine lnA fun hln=>?_;conv=>whnf)|fail
      rfl
     ·rw [if_neg hE];rw [decide_eq_false hE] at e;repeat' first|refine zd ?_|refine zc ?_|((first|refine zf ?_|refine zk ?_|refine zi ?_|refine regA ?_|fail);conv=>whnf)|exact abA hb|(refine za rfl (zM e) (fun _=>?_))|((refine pkA ?_);conv=>whnf)|(refine zso rfl (fun hb=>?_) (fun hb=>?_))|(refine lnA fun hln=>?_;conv=>whnf)|fail
      rfl
    ·rw [if_pos p1];repeat' first|refine zd ?_|refine zc ?_|((first|refine zf ?_|refine zk ?_|refine zi ?_|refine regA ?_|fail);conv=>whnf)|exact abA hb|((refine pkA ?_);conv=>whnf)|(refine zso rfl (fun hb=>?_) (fun hb=>?_))|(refine lnA fun hln=>?_;conv=>whnf)|fail
     rfl
theorem zeh {st:List (List PV)} {x:List PV} {n:Nat} (hn:n=st.length+1):n≤(st.take st.length ++ [x]).length:=by
 rw [hn];simp
theorem zdo {st:List (List PV)} {x:List PV} {n:Nat} (hn:n=st.length+1):(st.take st.length ++ [x]).take n=st ++ [x]:=by
 rw [hn,List.take_length,List.take_of_length_le (by simp)]
end Go.Proofs.YtefglipcipjplaaGreatDoor
namespace Go.Proofs.YtefglipcipjplaaGreatDoor
open Go Go.QL FoT
set_option maxHeartbeats 3200000
attribute [local irreducible] ACall FnC YC fine ten
def wordU (l:List UInt32) (i:Nat):Int:=if l.length=0 then 0 else ((l.getD (i % l.length) 0).toNat:Int) % 16777216
def valuesL (n:Nat) (l:List UInt32):List Int:=(List.range n).map (wordU l)
theorem valuesL_len (n:Nat) (l:List UInt32):(valuesL n l).length=n:=by unfold valuesL;simp
theorem valuesL_succ (n:Nat) (l:List UInt32):valuesL (n+1) l=valuesL n l ++ [wordU l n]:=by unfold valuesL;rw [List.range_succ,List.map_append];rfl
theorem wordU_word (l:List UInt32) (i:Nat):zP (wordU l i):=by unfold wordU zP;split <;> omega
theorem valuesL_word {n:Nat} {l:List UInt32}:∀ w ∈ valuesL n l,zP w:=by
 intro w hw;obtain⟨i,_,rfl⟩:=List.mem_map.1 hw;exact wordU_word l i
theorem values_fn (f:FormT) (l:List UInt32) (hv:f.vars.length≤1048576):FnC Tryz.prog 5 [zaB f,.x (.d (zkE l))] (sl (valuesL f.vars.length l)):=by
 have hlv:(f.vars.map zaa).length=f.vars.length:=List.length_map _;have hlw:(l.map fun w=>[PV.v (.int .u32 w.toNat)]).length=l.length:=List.length_map _;have key:ACall Tryz.prog 5 [zaB f,.x (.d (zkE l))] [] (fun r σ'=>r=sl (valuesL f.vars.length l)∧σ'=[]):=by
  refine hdD Tryz.func5 Tryz.ntmps5 (res:=[.tmp 4]) fun w0 K0 B=>?_
  repeat' first|refine zd ?_|refine zc ?_|((refine regA ?_);conv=>whnf)|fail
  refine zaq (Imp.nil 900 3 1 (fr':=[(6,iv .i64 0),(5,.x (.o 900 0 0)),(1,.x (.d (zkE l))),(2,.x (.b 2 0))])
   (σ':=[(2,.box [.d (zac f.vars),.d (zS f.code)])]) rfl ?_ ?_ rfl rfl) ?_
  ·exact⟨⟨_,rfl,.inl rfl⟩,⟨_,rfl,.inr ⟨rfl,rfl⟩⟩,⟨_,rfl,.inl rfl⟩,⟨_,rfl,.inl rfl⟩,trivial⟩
  ·exact⟨⟨_,rfl,.inl rfl⟩,trivial⟩
  refine zJ (fun i:Nat=>[(6,iv .i64 i),(5,.x (.o 900 i i)),(1,.x (.d (zkE l))),(2,.x (.b 2 0))])
   (fun i=>[(900,.chain 3 1 i ((valuesL i l).map iPV)),(2,.box [.d (zac f.vars),.d (zS f.code)])])
   (fun i=>i≤f.vars.length) (fun i=>f.vars.length - i) 0 (Nat.zero_le _) impA ?_
  intro i hi;have hvl:((valuesL i l).map iPV).length=i:=by rw [List.length_map,valuesL_len]
  rcases Nat.lt_or_ge i f.vars.length with hil|hil
  ·have gu:i≤((valuesL i l).map iPV).length:=by omega
   have e1:((valuesL i l).map iPV).take i ++ [iPV (wordU l i)]=(valuesL (i+1) l).map iPV:=by
    rw [List.take_of_length_le (by omega),valuesL_succ,List.map_append];rfl
   rcases Nat.eq_zero_or_pos l.length with h0|h0
   ·have hwu:wordU l i=0:=by unfold wordU;rw [if_pos h0]
    rw [hwu] at e1;repeat' first|refine zd ?_|refine zc ?_|((first|refine zf ?_|refine zk ?_|refine zi ?_|refine regA ?_|fail);conv=>whnf)|exact abA hb|((refine And.intro ⟨gu,by show i+1≤_;unfold maxLen;omega,by show (i+1) * 8≤_;omega⟩ ?_);conv=>whnf)|(refine zso rfl (fun hb=>?_) (fun hb=>?_))|((first|refine zsq ?_|refine andA ?_|fail);conv=>whnf)|(refine lnA fun hln=>?_;conv=>whnf)|fail
    exact⟨i+1,by omega,by omega,impA⟩
   ·obtain⟨k,hk⟩:∃ k:Nat,i % l.length=k:=⟨_,rfl⟩;have hkl:k < l.length:=by rw [← hk];exact Nat.mod_lt _ h0
    have hrem:(i:Int).tmod ((l.map fun w=>[PV.v (.int .u32 w.toNat)]).length:Int)=k:=by rw [hlw,← hk];rfl
    have hgw:(l.map fun w=>[PV.v (.int .u32 w.toNat)])[(k:Int).toNat]?=some [PV.v (.int .u32 l[k].toNat)]:=by
     rw [Int.toNat_natCast,List.getElem?_map,List.getElem?_eq_getElem hkl];rfl
    have hwu:wordU l i=(l[k].toNat:Int) % 16777216:=by
     unfold wordU;rw [if_neg (by omega),hk,List.getD_eq_getElem?_getD,List.getElem?_eq_getElem hkl];rfl
    have hn32:=l[k].toNat_lt;rw [hwu] at e1;generalize l[k].toNat=n at hgw hn32 e1;have hwo:((n:Nat):Int).tmod 16777216=(n:Int) % 16777216:=Int.tmod_eq_emod_of_nonneg (by omega);repeat' first|refine zd ?_|refine zc ?_|((first|refine zf ?_|refine zk ?_|refine zi ?_|refine regA ?_|fail);conv=>whnf)|exact abA hb|((first|refine⟨_,hrem,?_⟩|refine⟨_,ze ⟨by omega,hgw⟩,?_⟩|refine⟨_,hwo,?_⟩|refine And.intro ⟨gu,by show i+1≤_;unfold maxLen;omega,by show (i+1) * 8≤_;omega⟩ ?_|fail);conv=>whnf)|(refine zso rfl (fun hb=>?_) (fun hb=>?_))|((first|refine zsq ?_|refine andA ?_|fail);conv=>whnf)|(refine lnA fun hln=>?_;conv=>whnf)|fail
    exact⟨i+1,by omega,by omega,impA⟩
  ·have hie:i=f.vars.length:=by omega
   subst hie;have hle:f.vars.length≤((valuesL f.vars.length l).map iPV).length:=by omega
   have hal:AV.x (.d (zR (valuesL f.vars.length l)))=.x (.d (.s 1 (((valuesL f.vars.length l).map iPV).take f.vars.length))):=by rw [List.take_of_length_le (by omega)];rfl
   refine zaq (Imp.freeze 900 (fr':=[(6,iv .i64 f.vars.length),(5,.x (.d (zR (valuesL f.vars.length l)))),(1,.x (.d (zkE l))),(2,.x (.b 2 0))]) (σ':=[(2,.box [.d (zac f.vars),.d (zS f.code)])]) rfl
    ⟨⟨_,rfl,.inl rfl⟩,⟨_,rfl,.inr ⟨_,rfl,hle,hal⟩⟩,⟨_,rfl,.inl rfl⟩,⟨_,rfl,.inl rfl⟩,trivial⟩ ⟨rfl,trivial⟩ rfl rfl) ?_
   repeat' first|refine zd ?_|refine zc ?_|((first|refine zf ?_|refine zk ?_|refine zi ?_|refine regA ?_|fail);conv=>whnf)|exact abA hb|(refine zso rfl (fun hb=>?_) (fun hb=>?_))|((refine andA ?_);conv=>whnf)|(refine lnA fun hln=>?_;conv=>whnf)|fail
   exact⟨_,[],trivial,rfl,rfl,rfl,rfl⟩
 exact FnC.of_ACall key rfl
theorem compiled_fn (f:FormT) (l:List UInt32) (hv:f.vars.length≤1048576):FnC Tryz.prog 3 [zaB f,.x (.d (zkE l))] (bv true):=by
 have aw:=zcK;have c1:=zg0 f;have c2:=values_fn f l hv;have c3:=znJ f (valuesL f.vars.length l);have c4:=zh7 f;have hvl:=valuesL_len f.vars.length l;have hvw:=valuesL_word (n:=f.vars.length) (l:=l);generalize hW:valuesL f.vars.length l=W at *;by_cases h0:zD f=0
 ·have hln:=zbD h0;obtain⟨cs,e,k1,_,k2,k3⟩:=zdt h0;rw [List.drop_zero] at k2;obtain⟨r1,r2,r3,r4,r5,t,st,r6⟩:=compiled_runs h0 hln k1 k2 k3 hvl;have he:zdU f W=(valF f W,0):=by
   unfold zdU;rw [if_neg (by simp [h0]),if_neg (by simp [hvl]),if_neg];simpa using hvw
  rw [he] at c3;rw [h0] at c4;obtain⟨⟨p,e2⟩,hp⟩:∃ p,zbN f=p:=⟨_,rfl⟩;rw [hp] at c1 r1 r2 r3 r4 r5 r6;dsimp only at r1 r2 r3 r4 r5 r6 c1 c3;subst r4;obtain⟨ps,pst,po⟩:=p;dsimp only at r1 r2 r3 r5 r6 c1;subst r3;have b1:=begin_fn ps W 0 r1 (by rw [hvl];omega) r2 (fun x hx=>hvw x hx) ⟨by decide,by decide⟩;have hg:GoodS (beginO ps W 0):=by
   refine⟨⟨?_,?_,by show W.length≤200;rw [hvl];omega,hvw,⟨Int.le_refl _,by show (0:Int)≤(W.length:Int);omega⟩,Nat.zero_le _,(fun w hw=>by cases hw),(show (0:Int)≤0 % 16∧(0:Int) % 16≤1000000000 by decide),(show (0:Int)≤0∧(0:Int)≤127 by decide),(show (0:Int)≤0∧(0:Int)≤0 % 16 by decide),(show (0:Int)≤0∧(0:Int)≤4 by decide)⟩,(show ((0:Int) % 16 - 0) % 16=0 by decide)⟩
   ·show (ps ++ List.replicate (128 - ps.length) 0).length=128
    simp;omega
   ·intro w hw;rcases List.mem_append.1 hw with q|q
    ·exact r2 w q
    ·rw [List.eq_of_mem_replicate q];exact⟨by decide,by decide⟩
  have b2:=orun_fn _ hg 5000 (Nat.le_refl _);rw [r6] at b2;have b3:=ztM [valF f W] [valF f W];rw [decide_eq_true rfl] at b3;generalize valF f W=v at *;generalize beginO ps W 0=S at *;have hpo':po=f.vars.length+f.code.length+2:=by
   have:=congrArg (fun q=>q.1.orders) hp;unfold zbN at this;rw [if_neg (by omega)] at this;exact this.symm
  have hpo:IntKind.i64.wrap (po - 1)=po - 1:=zg (by omega);have hWl:(W.map iPV).length=W.length:=List.length_map _;have hfin:(bif (bif (bif (bif (bif (bif (bif (0:Int) == 0 then (0:Int) == 0 else false) then (0:Int) == 0 else false) then (1:Int) == 1 else false) then po - 1 == po - 1 else false) then (W.length:Int) == ((W.map iPV).length:Int) else false) then true else false) then true else false)=true:=by rw [hWl];simp
  clear hpo' r5 r6 hg hln k2 k3 k1 hp he hvw r1 r2;refine hdC Tryz.func3 Tryz.ntmps3 (res:=[.tmp 4]) fun w0 K0=>?_
  repeat' first|refine zd ?_|((first|refine zf ?_|refine zi ?_|refine regA ?_|refine zsn (c1) ?_|refine zsn (c2) ?_|refine zsn (c3) ?_|refine zsn (c4) ?_|refine zsn (b1) ?_|refine zsn (b2) ?_|refine zsp (b3) ?_|refine zsp (aw) ?_|refine pkA ?_|refine⟨_,hpo,?_⟩|fail);conv=>whnf)|(refine zss rfl ?_)|fail
  exact congrArg some (congrArg bv hfin)
 ·have he:zdU f W=(0,zD f):=by unfold zdU;rw [if_pos h0]
  have hc:zbN f=(⟨[],0,0⟩,zD f):=by unfold zbN;rw [if_pos h0]
  rw [he] at c3;rw [hc] at c1;generalize zD f=e at *;have hct:(bif (e != 0) then true else (e != 0))=true:=by simpa using h0
  have hfin:(bif (bif e == e then (0:Int) == 0 else false) then true else false)=true:=by simp
  refine hdC Tryz.func3 Tryz.ntmps3 (res:=[.tmp 4]) fun w0 K0=>?_
  repeat' first|refine zd ?_|((first|refine zi ?_|refine regA ?_|fail);conv=>whnf)|(refine za rfl (fun _=>?_) (zaf hct))|((first|refine zsn (c1) ?_|refine zsn (c2) ?_|refine zsn (c3) ?_|refine zsn (c4) ?_|refine zsp (aw) ?_|refine pkA ?_|fail);conv=>whnf)|fail
  exact congrArg some (congrArg bv hfin)
end Go.Proofs.YtefglipcipjplaaGreatDoor
