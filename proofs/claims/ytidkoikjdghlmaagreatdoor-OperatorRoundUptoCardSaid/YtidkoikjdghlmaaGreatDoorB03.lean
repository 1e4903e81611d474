/- The logic of walks, and what the functions of the program return: part 3. No condition. -/
import Derived.Test.YtidkoikjdghlmaaGreatDoorB02
import Derived.RecoverIn
import Derived.Lib.SlicesS
import Derived.LoopNIn
set_option linter.all false
noncomputable section
namespace FoT
def beginO (store tape:List Int) (start:Int):OrS:=⟨store ++ List.replicate (128 - store.length) 0,tape,0,[],start % 16,start,0,0⟩
theorem run_add:∀ (a b:Nat) (s:OrS),runO (a+b) s=runO b (runO a s)
 | 0,b,s=>by rw [Nat.zero_add];rfl
 | a+1,b,s=>by
  rw [Nat.add_right_comm,runO,runO];by_cases h:s.why=0
  ·rw [if_pos h,if_pos h];exact run_add a b _
  ·rw [if_neg h,if_neg h,run_stop b h]
section
variable {P tape W C:List Int} {o pl:Int} {nv:Nat}
theorem run_reads (hP:P.length≤o) (ho:0≤o) (hC:o+nv+C.length≤127) (hk:nv≤90) (hlt:nv=tape.length) (hPn:nv≤P.length) (hpc:∀ (k:Nat) (h:k < nv),P[k]'(by omega)=encW 6 0 (o+k) (k+1)) :
  ∀ (k:Nat) (s:OrS),k≤nv→MI P o pl nv tape [] C [] 0 s→∃ s',MI P o pl nv tape (tape.take k) C [] k s'∧runO k s=s'
 | 0,s,_,h=>⟨s,h,rfl⟩
 | k+1,s,hl,h=>by
  obtain⟨s1,h1,e1⟩:=run_reads hP ho hC hk hlt hPn hpc k s (by omega) h;have hwl:(tape.take k).length=k:=by rw [List.length_take];omega
  have hv:tape[(tape.take k).length]?=some (tape[k]'(by omega)):=by rw [hwl];exact List.getElem?_eq_getElem (by omega)
  have:=h1.read hP (by omega) ho (by omega) hC (by omega) hv (by rw [hwl];exact hpc k (by omega));refine⟨_,?_,by rw [run_add,e1,run_step h1.why,runO]⟩
  rw [List.take_succ_eq_append_getElem (by omega)];exact this
theorem emit_len:∀ (l:List FNode) (v p pos:Int) (e:ES),(zbM v p l pos e).1.length=l.length
 | [],_,_,_,_=>rfl
 | n::r,v,p,pos,e=>by
  rw [zbM];split
  ·simp [emit_len r]
  ·split <;> simp [emit_len r]
theorem two_top' {α : Type} {l:List α} (h:2≤l.length):∃ (r:List α) (a b : α),l=r ++ [a,b]:=by
 have h1:l=l.take (l.length - 2) ++ l.drop (l.length - 2):=(List.take_append_drop _ l).symm;have h2:(l.drop (l.length - 2)).length=2:=by rw [List.length_drop];omega
 match hd:l.drop (l.length - 2),h2 with
 | [a,b],_=>exact⟨_,a,b,by rw [← hd];exact h1⟩
theorem run_nodes (hP:P.length≤o) (ho:0≤o) (hW:W.length=nv) (hC:o+nv+C.length≤pl) (hpl:pl+12≤127) (hP1:P.length≤100) :
  ∀ (l:List FNode) (k i:Nat) (s:OrS) (st:List Int) (cs e:CS) (es:ES) (c:Nat),MI P o pl nv tape W C st k s→zav nv l cs=.ok e→cs.p=st.length→st.length≤12→es.h=st.length→es.next=o+nv+c→C.drop c=zal l →
   (∀ (j:Nat) (h:j < l.length),P[k+j]?=some ((zbM o pl l k es).1[j]'(by rw [emit_len];exact h)))→∃ s',MI P o pl nv tape W C (zaN 0 (zcw W) zdQ i l st) (k+l.length) s'∧runO l.length s=s'∧(zaN 0 (zcw W) zdQ i l st).length=e.p
 | [],k,i,s,st,cs,e,es,c,h,hw,hp,_,_,_,_,_=>by cases hw;exact⟨s,h,rfl,hp.symm⟩
 | n::r,k,i,s,st,cs,e,es,c,h,hw,hp,h12,hh,hnx,hcs,hem=>by
  rw [zav] at hw;cases hs:zbx nv n cs with
  | error e'=>rw [hs] at hw;cases hw
  | ok cs'=>
   rw [hs] at hw;obtain⟨q1,q2,q3,q4⟩:=zd7 hs;obtain⟨k1,k2,k3⟩:=zfu q1;have h0:=hem 0 (by simp);rw [Nat.add_zero] at h0;have hkP:k < P.length:=(List.getElem?_eq_some_iff.1 h0).1;have hPk:=(List.getElem?_eq_some_iff.1 h0).2;have hcl:c+(zal (n::r)).length≤C.length∨(zal (n::r)).length=0:=by rw [← hcs,List.length_drop];omega
   rw [zaN];by_cases hk3:n.kind < 3
   ·rw [if_pos hk3];rw [if_neg (by omega)] at q3;have q5:cs'.p=st.length+1:=by rw [q4];show (if _ then _ else _)+1=_;rw [if_neg (by omega)];omega
    by_cases hn1:n.kind=1
    ·unfold fine at k3;rw [if_pos hn1] at k3;have hPk:P[k]=encW 1 (o+n.var) (pl+es.h) (k+1):=by rw [hPk];simp [zbM,hn1]
     rw [hh] at hPk;have hv:rdO s (o+n.var)=zcw W i n:=by
      unfold zcw;rw [if_pos hn1];have:=h.vars n.var.toNat (by omega);rw [show ((n.var.toNat:Nat):Int)=n.var by omega] at this;rw [this,List.getD_eq_getElem?_getD,List.getElem?_eq_getElem (by omega)];rfl
     have h':=h.push hP hkP ho (by omega) hC (by omega) ⟨by omega,by omega⟩ (by omega) hPk hv;have hem':∀ (j:Nat) (hj:j < r.length),P[k+1+j]?=some ((zbM o pl r ((k+1:Nat):Int) ⟨es.next,es.h+1,max es.most (es.h+1)⟩).1[j]'(by rw [emit_len];exact hj)):=by
      intro j hj;have:=hem (j+1) (by simp;omega);rw [show k+(j+1)=k+1+j by omega] at this;rw [this];simp [zbM,hn1]
     obtain⟨s',m1,m2,m3⟩:=run_nodes hP ho hW hC hpl hP1 r (k+1) (i+1) _ (st ++ [zcw W i n]) cs' e ⟨es.next,es.h+1,max es.most (es.h+1)⟩ c h' hw (by rw [q5];simp) (by simp;omega) (by show es.h+1=_;rw [hh];simp) hnx (by rw [hcs,zal,if_neg (by omega)]) hem';exact⟨s',by rw [show k+(n::r).length=k+1+r.length by simp;omega];exact m1,by rw [List.length_cons,run_step h.why];exact m2,m3⟩
    ·have hn2:n.kind=2:=by omega
     have hPk:P[k]=encW 1 es.next (pl+es.h) (k+1):=by rw [hPk];simp [zbM,hn2]
     rw [hh,hnx] at hPk;have hc1:C.drop c=zbo n::zal r:=by rw [hcs,zal,if_pos hn2]
     have hcc:c < C.length:=by have:=congrArg List.length hc1;rw [List.length_drop,List.length_cons] at this;omega
     rw [List.drop_eq_getElem_cons hcc] at hc1;have hv:rdO s (o+nv+c)=zcw W i n:=by
      unfold zcw;rw [if_neg hn1,h.cons c hcc];exact (List.cons.inj hc1).1
     have h':=h.push hP hkP ho (by omega) hC (by omega) ⟨by omega,by omega⟩ (by omega) hPk hv;have hem':∀ (j:Nat) (hj:j < r.length),P[k+1+j]?=some ((zbM o pl r ((k+1:Nat):Int) ⟨es.next+1,es.h+1,max es.most (es.h+1)⟩).1[j]'(by rw [emit_len];exact hj)):=by
      intro j hj;have:=hem (j+1) (by simp;omega);rw [show k+(j+1)=k+1+j by omega] at this;rw [this];simp [zbM,hn2]
     obtain⟨s',m1,m2,m3⟩:=run_nodes hP ho hW hC hpl hP1 r (k+1) (i+1) _ (st ++ [zcw W i n]) cs' e ⟨es.next+1,es.h+1,max es.most (es.h+1)⟩ (c+1) h' hw (by rw [q5];simp) (by simp;omega) (by show es.h+1=_;rw [hh];simp) (by show es.next+1=_;rw [hnx];push_cast;omega) (List.cons.inj hc1).2 hem';exact⟨s',by rw [show k+(n::r).length=k+1+r.length by simp;omega];exact m1,by rw [List.length_cons,run_step h.why];exact m2,m3⟩
   ·rw [if_neg hk3];rw [if_pos (by omega)] at q3;have q5:cs'.p=st.length - 2+1:=by rw [q4];show (if _ then _ else _)+1=_;rw [if_pos (by omega)];omega
    obtain⟨u,x,y,rfl⟩:=two_top' (l:=st) (by omega);have hul:(u ++ [x,y]).length=u.length+2:=by simp
    rw [hul] at q5 hp h12;have hn12:¬ n.kind=1∧¬ n.kind=2:=by omega
    have hPk:P[k]=encW (n.kind - 1) (pl+es.h - 1) (pl+es.h - 2) (k+1):=by rw [hPk];simp [zbM,hn12.1,hn12.2]
    rw [hh,hul,show pl+((u.length+2:Nat):Int) - 1=pl+u.length+1 by omega,show pl+((u.length+2:Nat):Int) - 2=pl+u.length by omega] at hPk;have h':=h.oper hP hkP ho (by omega) hC (by omega) (by omega) (kd:=n.kind) (by omega) hPk;have hem':∀ (j:Nat) (hj:j < r.length),P[k+1+j]?=some ((zbM o pl r ((k+1:Nat):Int) ⟨es.next,es.h - 1,es.most⟩).1[j]'(by rw [emit_len];exact hj)):=by
     intro j hj;have:=hem (j+1) (by simp;omega);rw [show k+(j+1)=k+1+j by omega] at this;rw [this];simp [zbM,hn12.1,hn12.2]
    have e2:(u ++ [x,y]).take ((u ++ [x,y]).length - 2) ++ [zdQ i n ((u ++ [x,y]).getD ((u ++ [x,y]).length - 2) 0) ((u ++ [x,y]).getD ((u ++ [x,y]).length - 1) 0)]=u ++ [opV n.kind (sgnW x) (sgnW y) % 16777216]:=by
     rw [hul];simp [zdQ,List.getElem?_append_right]
    rw [e2];obtain⟨s',m1,m2,m3⟩:=run_nodes hP ho hW hC hpl hP1 r (k+1) (i+1) _ (u ++ [opV n.kind (sgnW x) (sgnW y) % 16777216]) cs' e ⟨es.next,es.h - 1,es.most⟩ c h' hw (by rw [q5];simp) (by simp;omega) (by show es.h - 1=_;rw [hh];simp;omega) hnx (by rw [hcs,zal,if_neg hn12.2]) hem';exact⟨s',by rw [show k+(n::r).length=k+1+r.length by simp;omega];exact m1,by rw [List.length_cons,run_step h.why];exact m2,m3⟩
end
end FoT
namespace FoT
theorem enc_in {op a b c:Int} (h:0≤op∧op≤7) (ha:0≤a∧a≤127) (hb:0≤b∧b≤127) (hc:0≤c∧c≤127):0≤encW op a b c∧encW op a b c≤16777215:=by unfold encW;omega
theorem emit_in {o pl:Int} {nv:Nat} (ho:0≤o) (ho2:o+nv≤127) (hpl:pl+12≤127) (hp0:0≤pl):∀ (l:List FNode) (k:Int) (cs e:CS) (es:ES),zav nv l cs=.ok e→es.h=cs.p→cs.p≤12→0≤es.most∧es.most≤12→0≤es.next→es.next+l.length≤127→0≤k→k+l.length≤127 →
  (∀ w ∈ (zbM o pl l k es).1,0≤w∧w≤16777215)∧0≤(zbM o pl l k es).2.most∧(zbM o pl l k es).2.most≤12
 | [],k,cs,e,es,hw,hh,h12,hm,_,_,_,_=>⟨fun w hw=>by simp [zbM] at hw,hm⟩
 | n::r,k,cs,e,es,hw,hh,h12,hm,hn0,hn1,hk0,hk1=>by
  rw [zav] at hw;cases hs:zbx nv n cs with
  | error e'=>rw [hs] at hw;cases hw
  | ok cs'=>
   rw [hs] at hw;obtain⟨q1,q2,q3,q4⟩:=zd7 hs;obtain⟨k1,k2,k3⟩:=zfu q1;rw [List.length_cons] at hn1 hk1;push_cast at hn1 hk1;have hcs':(cs'.p:Int)=if 3≤n.kind then (cs.p:Int) - 1 else (cs.p:Int)+1:=by
    rw [q4];dsimp only;split <;> (push_cast;omega)
   have hcs12:cs'.p≤12:=by rw [q4];exact q3
   rw [zbM];by_cases hn1':n.kind=1
   ·unfold fine at k3;rw [if_pos hn1'] at k3;rw [if_pos hn1'];rw [if_neg (by omega)] at hcs';obtain⟨a1,a2⟩:=emit_in ho ho2 hpl hp0 r (k+1) cs' e ⟨es.next,es.h+1,max es.most (es.h+1)⟩ hw (by show es.h+1=_;omega) hcs12 ⟨by show 0≤max _ _;omega,by show max _ _≤12;omega⟩ hn0 (by show es.next+_≤_;omega) (by omega) (by omega);refine⟨fun w hw=>?_,a2⟩
    rcases List.mem_cons.1 hw with rfl|hw
    ·exact enc_in (by decide) (by omega) (by omega) (by omega)
    ·exact a1 w hw
   ·rw [if_neg hn1'];by_cases hn2:n.kind=2
    ·rw [if_pos hn2];rw [if_neg (by omega)] at hcs';obtain⟨a1,a2⟩:=emit_in ho ho2 hpl hp0 r (k+1) cs' e ⟨es.next+1,es.h+1,max es.most (es.h+1)⟩ hw (by show es.h+1=_;omega) hcs12 ⟨by show 0≤max _ _;omega,by show max _ _≤12;omega⟩ (by show 0≤es.next+1;omega) (by show es.next+1+_≤_;omega) (by omega) (by omega);refine⟨fun w hw=>?_,a2⟩
     rcases List.mem_cons.1 hw with rfl|hw
     ·exact enc_in (by decide) (by omega) (by omega) (by omega)
     ·exact a1 w hw
    ·rw [if_neg hn2];rw [if_pos (by omega)] at hcs';obtain⟨a1,a2⟩:=emit_in ho ho2 hpl hp0 r (k+1) cs' e ⟨es.next,es.h - 1,es.most⟩ hw (by show es.h - 1=_;omega) hcs12 hm hn0 (by show es.next+_≤_;omega) (by omega) (by omega);refine⟨fun w hw=>?_,a2⟩
     rcases List.mem_cons.1 hw with rfl|hw
     ·exact enc_in (by omega) (by omega) (by omega) (by omega)
     ·exact a1 w hw
theorem constsF_len:∀ (l:List FNode),(zal l).length≤l.length
 | []=>Nat.le_refl _
 | x::r=>by
  have:=constsF_len r;rw [zal];split <;> simp only [List.length_cons] <;> omega
theorem constsF_in {nv:Nat}:∀ (l:List FNode),(∀ n ∈ l,zbA nv n=0)→∀ w ∈ zal l,0≤w∧w≤16777215
 | [],_,w,hw=>by simp [zal] at hw
 | x::r,h,w,hw=>by
  rw [zal] at hw;split at hw
  ·rename_i h2;rcases List.mem_cons.1 hw with rfl|hw
   ·have:=zha h2 (zfu (h x (by simp))).2.2;omega
   ·exact constsF_in r (fun n hn=>h n (by simp [hn])) w hw
  ·exact constsF_in r (fun n hn=>h n (by simp [hn])) w hw
theorem reads_in {v:Int} {nv:Nat} (h:0≤v∧v+nv≤127) (h9:nv≤100):∀ w ∈ zaT v nv,0≤w∧w≤16777215:=by
 intro w hw;unfold zaT at hw;obtain⟨i,hi,rfl⟩:=List.mem_map.1 hw;have:=List.mem_range.1 hi;exact enc_in (by decide) (by omega) (by omega) (by omega)
theorem compiled_runs {f:FormT} {words:List Int} (h0:zD f=0) (hln:f.vars.length≤8∧1≤f.code.length∧f.code.length≤40) {cs e:CS} (hcs:cs.p=0) (hw:zav f.vars.length f.code cs=.ok e) (he:e.p=1) (hl:words.length=f.vars.length) :
  (zbN f).1.store.length≤128∧(∀ w ∈ (zbN f).1.store,0≤w∧w≤16777215)∧(zbN f).1.start=0∧(zbN f).2=0∧(zbN f).1.orders≤50 ∧
   ∃ t st,runO 5000 (beginO (zbN f).1.store words 0)=⟨st,words,words.length,[valF f words],t,(zbN f).1.orders - 1,(zbN f).1.orders - 1,1⟩:=by
 obtain⟨h8,hc1,hc40⟩:=hln;have hcl:=constsF_len f.code;unfold zbN;rw [if_neg (by omega)];dsimp only;obtain⟨o,ho⟩:∃ o:Int,o=(f.vars.length+f.code.length+2:Int):=⟨_,rfl⟩;obtain⟨pl,hpl⟩:∃ pl:Int,pl=o+f.vars.length+(zal f.code).length:=⟨_,rfl⟩;rw [← ho,← hpl];obtain⟨i1,i2,i3⟩:=emit_in (o:=o) (pl:=pl) (nv:=f.vars.length) (by omega) (by omega) (by omega) (by omega) f.code f.vars.length cs e ⟨o+f.vars.length,0,0⟩ hw (by rw [hcs];rfl) (by omega) ⟨Int.le_refl _,(show (0:Int)≤12 by decide)⟩ (by show 0≤o+(f.vars.length:Int);omega) (by show o+(f.vars.length:Int)+_≤_;omega) (by omega) (by omega);have hel:=emit_len f.code o pl f.vars.length ⟨o+f.vars.length,0,0⟩;generalize hT:zbM o pl f.code f.vars.length ⟨o+f.vars.length,0,0⟩=T at *;have hrl:(zaT o f.vars.length).length=f.vars.length:=by simp [zaT]
 have hmost:T.2.most.toNat≤12:=by omega
 obtain⟨P,hP⟩:∃ P,P=zaT o f.vars.length ++ T.1 ++ [encW 7 pl 0 (o - 1)] ++ [0]:=⟨_,rfl⟩;have hPl:P.length=f.vars.length+f.code.length+2:=by rw [hP];simp [hrl,hel];omega
 have hS:zaT o f.vars.length ++ T.1 ++ [encW 7 pl 0 (o - 1)] ++ List.replicate (1+f.vars.length) 0 ++ zal f.code ++ List.replicate T.2.most.toNat 0=P ++ List.replicate f.vars.length 0 ++ zal f.code ++ List.replicate T.2.most.toNat 0:=by
  rw [hP,Nat.add_comm 1,List.replicate_succ];simp
 rw [hS];have hSl:(P ++ List.replicate f.vars.length 0 ++ zal f.code ++ List.replicate T.2.most.toNat (0:Int)).length=P.length+f.vars.length+(zal f.code).length+T.2.most.toNat:=by simp;omega
 refine⟨by omega,?_,rfl,rfl,by omega,?_⟩
 ·intro w hw';rw [List.mem_append,List.mem_append,List.mem_append] at hw';rcases hw' with ((h|h)|h)|h
  ·rw [hP,List.mem_append,List.mem_append,List.mem_append] at h;rcases h with ((h|h)|h)|h
   ·exact reads_in (by omega) (by omega) w h
   ·exact i1 w h
   ·rw [List.mem_singleton] at h;subst h;exact enc_in (by decide) (by omega) (by omega) (by omega)
   ·rw [List.mem_singleton] at h;subst h;decide
  ·rw [List.eq_of_mem_replicate h];decide
  ·exact constsF_in f.code (zgE _ _ _ hw) w h
  ·rw [List.eq_of_mem_replicate h];decide
 ·obtain⟨S,hSS⟩:∃ S,S=P ++ List.replicate f.vars.length 0 ++ zal f.code ++ List.replicate T.2.most.toNat (0:Int):=⟨_,rfl⟩;rw [← hSS] at hSl ⊢;have hget:∀ j:Nat,(beginO S words 0).store.getD j 0=S.getD j 0:=by
   intro j;unfold beginO;dsimp only;rw [List.getD_eq_getElem?_getD,List.getD_eq_getElem?_getD];rcases Nat.lt_or_ge j S.length with h|h
   ·rw [List.getElem?_append_left h]
   ·rw [List.getElem?_append_right h,List.getElem?_eq_none (l:=S) h,List.getElem?_replicate];split <;> rfl
  have hrd:∀ j:Nat,rdO (beginO S words 0) (j:Int)=S.getD j 0:=by
   intro j;unfold rdO;rw [Int.toNat_natCast];exact hget j
  have hMI:MI P o pl f.vars.length words [] (zal f.code) [] 0 (beginO S words 0):=by
   refine⟨rfl,rfl,rfl,?_,?_,fun j h=>by simp at h,?_,fun j h=>by simp at h,⟨Int.le_refl _,(show (0:Int)≤100+100 * ((0:Nat):Int) by decide)⟩,rfl,rfl,rfl⟩
   ·show (S ++ List.replicate (128 - S.length) 0).length=128
    simp;omega
   ·intro j hj;rw [hrd,hSS,List.append_assoc,List.append_assoc,List.getD_eq_getElem?_getD,List.getElem?_append_left hj,List.getElem?_eq_getElem hj];rfl
   ·intro j hj;rw [show o+(f.vars.length:Int)+(j:Int)=((P.length+f.vars.length+j:Nat):Int) by omega,hrd,hSS,List.getD_eq_getElem?_getD,List.getElem?_append_left (by simp;omega),List.getElem?_append_right (by simp)];rw [show P.length+f.vars.length+j - (P ++ List.replicate f.vars.length (0:Int)).length=j by simp,List.getElem?_eq_getElem hj];rfl
  have hnP:∀ (k:Nat) (h:k < f.vars.length),P[k]'(by omega)=encW 6 0 (o+k) (k+1):=by
   intro k hk;have:P[k]?=some (encW 6 0 (o+k) (k+1)):=by
    rw [hP,List.append_assoc,List.append_assoc,List.getElem?_append_left (by omega)];simp [zaT,hk]
   exact (List.getElem?_eq_some_iff.1 this).2
  obtain⟨s1,m1,r1⟩:=run_reads (P:=P) (by omega) (by omega) (by omega) (by omega) hl.symm (by omega) hnP f.vars.length _ (Nat.le_refl _) hMI;rw [List.take_of_length_le (by omega)] at m1;have hem:∀ (j:Nat) (h:j < f.code.length),P[f.vars.length+j]?=some ((zbM o pl f.code (f.vars.length:Int) ⟨o+f.vars.length,0,0⟩).1[j]'(by rw [emit_len];exact h)):=by
   intro j hj;simp only [hT];rw [hP,List.append_assoc,List.append_assoc,List.getElem?_append_right (by omega),hrl,Nat.add_sub_cancel_left,List.getElem?_append_left (by omega),List.getElem?_eq_getElem]
  obtain⟨s2,m2,r2,l2⟩:=run_nodes (W:=words) (by omega) (by omega) hl (by omega) (by omega) (by omega) f.code f.vars.length 0 s1 [] cs e ⟨o+f.vars.length,0,0⟩ 0 m1 hw hcs (by decide) rfl (by simp) rfl hem;rw [he] at l2;have hst:zaN 0 (zcw words) zdQ 0 f.code []=[valF f words]:=by
   unfold valF;match hc:zaN 0 (zcw words) zdQ 0 f.code [],l2 with
   | [a],_=>rfl
  rw [hst] at m2;have hpk:f.vars.length+f.code.length < P.length:=by omega
  have hPp:P[f.vars.length+f.code.length]=encW 7 pl 0 (((f.vars.length+f.code.length:Nat):Int)+1):=by
   have:P[f.vars.length+f.code.length]?=some (encW 7 pl 0 (((f.vars.length+f.code.length:Nat):Int)+1)):=by
    rw [hP,List.getElem?_append_left (by simp [hrl,hel]),List.getElem?_append_right (by simp [hrl,hel])];rw [show f.vars.length+f.code.length - (zaT o f.vars.length ++ T.1).length=0 by simp [hrl,hel]];show some (encW 7 pl 0 (o - 1))=_
    rw [show ((f.vars.length+f.code.length:Nat):Int)+1=o - 1 by omega]
   exact (List.getElem?_eq_some_iff.1 this).2
  have hz:rdO s2 (((f.vars.length+f.code.length:Nat):Int)+1)=0:=by
   have:=m2.code (f.vars.length+f.code.length+1) (by omega);rw [show (((f.vars.length+f.code.length:Nat):Int)+1)=((f.vars.length+f.code.length+1:Nat):Int) by omega,this];have:P[f.vars.length+f.code.length+1]?=some 0:=by
    rw [hP,List.getElem?_append_right (by simp [hrl,hel];omega)];rw [show f.vars.length+f.code.length+1 - (zaT o f.vars.length ++ T.1 ++ [encW 7 pl 0 (o - 1)]).length=0 by simp [hrl,hel];omega];rfl
   exact (List.getElem?_eq_some_iff.1 this).2
  obtain⟨t,r3⟩:=m2.print hpk (by omega) (by omega) hPp hz (5000 - (f.vars.length+f.code.length) - 2);refine⟨t,s2.store,?_⟩
  rw [show 5000=f.vars.length+(f.code.length+(5000 - (f.vars.length+f.code.length) - 2+2)) by omega,run_add,r1,run_add,r2,r3];congr 1 <;> omega
end FoT
namespace Go.QL
open Go Go.RowKit
def zsk (tt:TT) (res:List ResultVar) (r:AV):Exit→Fr→Sg→Prop
 | .normal,fr,σ|.ret,fr,σ=>∃ r',za6 tt res fr σ=some r'∧LeAV r' r
 | _,_,_=>False
theorem LeAV.refl (x:AV):LeAV x x:=by
 cases x with
 | t xs=>
  refine⟨xs,rfl,?_⟩
  induction xs with
  | nil=>trivial
  | cons x r ih=>exact⟨LeAV1.refl x,ih⟩
 | x s=>exact LeAV1.refl (.x s)
 | a s=>exact LeAV1.refl (.a s)
 | g c s=>exact LeAV1.refl (.g c s)
section
variable {P:Program}
theorem zg7 {tt:TT} (htt:tt.ok P) {f:FuncId} {fn:Func} {c:Code} {args:List AV} {r:AV} {res:List ResultVar} (hf:P.funcs[f]?=some fn) (hb:fn.body=some c)
  (hname:(fn.name == "runtime.NumGoroutine")=false) (hres:fn.results=res.toArray) {nt:Nat} (hnt:fn.ntmps=nt) (hle:args.length≤nt)
  (h:∀ w0 K0,AW P (Cx.lone w0 K0 nt) c (zsk tt res r) (entry 0 args) []):FnC P f args r:=by
 refine⟨⟨fn,hf,by rw [hb];rfl,hname⟩,fun K w vs hL hK hs hv=>?_⟩
 refine calls_of_wp hf hb ((wpIn_wide (n:=0)).1 ?_)
 have hrel:Rel (Cx.lone w ⟨K,(· < w.heap.size)⟩ nt) (entry 0 args) [] ⟨K,fun _=>undef⟩ ⟨vs ++ Array.replicate (fn.ntmps - vs.size) undef,[]⟩ w:=by
  refine⟨⟨.refl _ _,fun _ h=>h,.refl _ _,fun _ _ _ h=>h,hK,(fun id ob hid=>by cases hid),(fun id b hi=>by cases hi),(fun i j b hi=>by cases hi)⟩,fun t x ht=>?_,by simp;omega,DRb.empty,fun s v hb=>hb.elim⟩
  obtain⟨_,hx⟩:=zbm args 0 t x ht;rw [Nat.sub_zero] at hx;have hlt:t < args.length:=(List.getElem?_eq_some_iff.1 hx).1;refine⟨by show t < nt;omega,?_⟩
  have hvt:vs[t]?=some (vs[t]'(by omega)):=Array.getElem?_eq_getElem (by omega);have e:(vs ++ Array.replicate (fn.ntmps - vs.size) undef).getD t undef=vs[t]'(by omega):=by
   rw [Array.getD_eq_getD_getElem?,Array.getElem?_append_left (by omega),hvt];rfl
  show VR _ _ _ _ ((vs ++ Array.replicate (fn.ntmps - vs.size) undef).getD t undef)
  rw [e];exact zZ (hv t x _ hx hvt)
 refine wpIn_mono ((h w ⟨K,(· < w.heap.size)⟩).use hL hrel) ?_
 intro e a' w' ⟨fr,σ,g,hr,hq⟩;have fin:(∃ r',za6 tt res fr σ=some r'∧LeAV r' r)→a'.defers=[]∧∃ v,(results fn a'.tmps).run P w'=.ok v w'∧∃ v_1 K',Ending.returned v=.returned v_1∧Below w.heap.size w w'∧Ext K w K' w' ∧
   (∀ b o,b < w.heap.size→K' b o→K b o)∧(∀ b o,K' b o→b < w'.heap.size)∧VR2 [] ⟨K',fun _=>undef⟩ w' r v_1:=by
  rintro⟨r',ho,hle⟩;obtain⟨v,hrun,hvr⟩:=zeW htt hr hres ho (μ:=fun _=>undef);exact⟨hr.defers.nil,v,hrun,v,Kall σ g w',rfl,hr.hp.kept.below,hr.hp.ext.trans zcM,zfH hr.hp,zeF hr.hp,hle.ok hvr⟩
 cases e with
 | normal=>exact fin hq
 | ret=>exact fin hq
 | _=>exact hq.elim
theorem zsm {Γ:Cx} {fr:Fr} {σ:Sg} {c:Code} {Q:Exit→Fr→Sg→Prop} (t:Nat) {sz:Nat} {xs:List (List PV)} (h1:lk t fr=some (.x (.d (.s sz xs))))
  (h:xs.length≤maxLen→AW P Γ c Q fr σ):AW P Γ c Q fr σ:=by
 refine AW.mk fun hL g a w hr=>?_
 have hv:SR σ g w (.d (.s sz xs)) (a.tmps.getD t undef):=(hr.fr t _ h1).2;refine (h ?_).use hL hr
 generalize a.tmps.getD t undef=u at hv;cases hv with
 | d _ _ hp=>
  cases hp with
  | s _ _ _ cap _ _ _ hcap hmax=>exact Nat.le_trans hcap hmax
end
end Go.QL
namespace Go.QL.DC
open Go Go.RowKit Go.QL
structure En where
 i:Nat
 d:Option Tmp
 x:AV
 ob:Sg
def frs:List En→Fr
 | []=>[]
 | ⟨_,d,x,_⟩::r=>match d with|some d=>(d,x)::frs r|none=>frs r
def obs:List En→Sg
 | []=>[]
 | ⟨_,_,_,ob⟩::r=>ob ++ obs r
def zaK (m:Nat):List En→List En
 | []=>[]
 | ⟨i,d,x,ob⟩::r=>bif zm3 m i then ⟨i,d,x,ob⟩::zaK m r else zaK m r
def zdZ (ob:Sg) (σ:Sg):Sg:=ob ++ σ
def ndB:List Nat→Bool
 | []=>true
 | x::r=>r.all (fun y=>!Nat.beq x y) && ndB r
def zcF (nob σ:Sg):Bool:=nob.all (fun p=>!(lk p.1 σ).isSome) && ndB (nob.map (·.1))
def oL:Option (Nat × Ob)→Sg
 | some p=>[p]
 | none=>[]
def zpI (P:Program) (tt:TT) (all:List Oper) (ob:Bool) (fr:Fr) (σ σt:Sg) (id:Nat) (o:Oper) (kk:Option Bool→AV→Sg→Prop):Prop:=
 match o.op with
 | .call ⟨.value f,args,_⟩=>zix all fr o.guard fun gd=>ev1 fr gd f fun fv=>evL fr gd args.toList fun vs=>
  (match fv,gd with
  | .x (.f (.func fid) first captured),none=>∃ rv nob,(ob && zcF nob σt)=true∧(∀ σE,(∀ p ∈ nob,lk p.1 σE=none)→ACall P fid (first.map .x ++ vs ++ captured.map .x) σE fun r' σ'=>r'=rv∧σ'=nob ++ σE)∧kk none rv nob
  | _,_=>False)
 | _=>opDr P tt all ob fr σ id o fun gd v nob=>kk gd v (oL nob)
def vcDr (P:Program) (tt:TT) (nt:Nat) (all:List Oper) (ob:Bool) (ms:List Nat) (fr0:Fr) (σ0:Sg) (k:Fr→Sg→Prop):List Oper→List En→Nat→Fr→Sg→Prop
 | [],_,_,fr,σ=>k fr σ
 | o::r,es,i,fr,σ=>
  zhE σ o.dst fun id=>zpI P tt all ob (selF (frs (zaK (ms.getD i 0) es) ++ fr0) (looks all o)) (obs (zaK (ms.getD i 0) es) ++ σ0) σ id o fun gd v nob=>
   putE nt o.dst gd v fun x=>vcDr P tt nt all ob ms fr0 σ0 k r (⟨i,o.dst,x,nob⟩::es) (i+1) (zbl o.dst x fr) (zdZ nob σ)
section
variable {P:Program} {Γ:Cx} {Qq:Exit→Act→World→Prop}
def SemE (P:Program) (Γ:Cx) (all:List Oper) (ob:Bool) (fr:Fr) (σ:Sg) (i:Nat) (o:Oper) (x:AV) (nob:Sg):Prop:=
 ∀ (Qq:Exit→Act→World→Prop) (frE:Fr) (σE:Sg) (g:Gh) (a:Act) (w:World),Sup fr frE→Sup σ σE→(ob=false→σE=σ)→(∀ p,p ∈ nob→lk p.1 σE=none)→Rel Γ frE σE g a w →
  ∀ K:Act→World→Prop,(∀ v g' w',Rel Γ frE (zdZ nob σE) g' a w'→VR (zdZ nob σE) g' w' x v→K (a.put o.dst v) w')→all.toArray[i]?=some o→wpOpIn (FX Γ.ro) 0 P all.toArray Qq i K a w
theorem SemE.of {all:List Oper} {ob:Bool} {fr:Fr} {σ:Sg} {i:Nat} {o:Oper} {x:AV} {nob:Option (Nat × Ob)} (h:QL.SemE P Γ all ob fr σ i o x nob):SemE P Γ all ob fr σ i o x (oL nob):=by
 intro Qq frE σE g a w hf hs hob hid hr K hK ho;refine h Qq frE σE g a w hf hs hob (fun p hp=>hid p (by subst hp;exact List.mem_singleton.2 rfl)) hr K (fun v g' w' hr' hv=>hK v g' w' ?_ ?_) ho
 ·cases nob <;> exact hr'
 ·cases nob <;> exact hv
theorem znL {tt:TT} (htt:tt.ok P) (hL:Laid P Γ.K0.K Γ.w0) {all:List Oper} {ob:Bool} {fr:Fr} {σ σt:Sg} {id:Nat} (hid:lk id σt=none) {o:Oper} {kk:Option Bool→AV→Sg→Prop}
  (h:zpI P tt all ob fr σ σt id o kk) (i:Nat) :
  ∃ gd x nob,kk gd x nob∧(nob=[]∨(ob=true∧zcF nob σt=true))∧SemE P Γ all ob fr σ i o (zeI gd x) nob:=by
 unfold zpI at h;split at h
 ·rename_i f args ts hop;have hnd:∀ c,o.op≠.defer c:=fun c hc=>by rw [hc] at hop;cases hop
  obtain⟨gd,h,hgd⟩:=zgl h;obtain⟨fv,h2,hfv⟩:=zK h;clear h;obtain⟨vs,h,hl,hvs⟩:=zbE h2;clear h2;split at h
  ·rename_i fid first captured
   obtain⟨rv,nob,hnn,hac,hk⟩:=h;simp only [Bool.and_eq_true] at hnn;refine⟨none,rv,nob,hk,.inr hnn,?_⟩
   intro Qq frE σE g a w hf hs hob hid' hr K hK ho;obtain⟨hwant,_⟩:=hgd Γ σE g a w (hr.subF hf) o rfl;unfold wpOpIn;simp only [ho];rw [if_pos (hwant.2 (.inl rfl))];have hac:=hac σE hid';have hrD:=hr.subF hf;have hsr:SR σE g w (.f (.func fid) first captured) (a.eval f):=hfv (.inl rfl) Γ σE g a w hrD;generalize hae:a.eval f=fval at hsr;cases hsr with
   | f _ _ _ v1 v2 s1 s2 r1 r2=>
    have hvl:vs.length=(args.map a.eval).size:=by simpa using hl
    have hargs:=zde (us:=args.map a.eval) s1 s2 r1 r2 hvl (fun j x v hx hv=>by
     rw [Array.getElem?_map] at hv;cases ha:args[j]? with
     | none=>rw [ha] at hv;cases hv
     | some y=>rw [ha] at hv;cases hv;exact hvs (.inl rfl) Γ σE g a w hrD _ x y hx (by simpa using ha))
    have hsize:(v1 ++ args.map a.eval ++ v2).size=(first.map AV.x ++ vs ++ captured.map AV.x).length:=by
     simp at hvl;simp [s1,s2,hvl]
    refine⟨fun _ _=>trivial,?_⟩
    rw [Oper.semAt_eq _ _ o hnd,zdl hop hae hac.1 w];refine⟨zfc,zbi.2 ?_⟩
    refine (hac.2 Γ.w0 Γ.K0 g w _ hL hr.hp hsize hargs).mono fun e w' ⟨v,g',σ',r,he,hd,hv,hR⟩=>?_
    obtain⟨rfl,rfl⟩:=hR;subst he;exact hK v g' w' (hr.did hd) (zZ hv)
  ·exact h.elim
 ·obtain⟨gd,x,nob,hk,hn,hs⟩:=zdM (Γ:=Γ) htt hL h i;refine⟨gd,x,oL nob,hk,?_,SemE.of hs⟩
  rcases hn with rfl|⟨h1,_,b,rfl⟩
  ·exact .inl rfl
  ·exact .inr ⟨h1,by simp [zcF,oL,hid,ndB]⟩
theorem zY {E:List En} {p:Nat × AV}:p ∈ frs E↔∃ e ∈ E,e.d=some p.1∧e.x=p.2:=by
 induction E with
 | nil=>simp [frs]
 | cons e r ih=>
  unfold frs;cases hd:e.d with
  | none=>
   simp only [ih,List.mem_cons];constructor
   ·rintro⟨e',h,h'⟩;exact⟨e',.inr h,h'⟩
   ·rintro⟨e',rfl|h,h'⟩
    ·rw [hd] at h';cases h'.1
    ·exact⟨e',h,h'⟩
  | some d=>
   simp only [List.mem_cons,ih];constructor
   ·rintro (rfl|⟨e',h,h'⟩)
    ·exact⟨e,.inl rfl,hd,rfl⟩
    ·exact⟨e',.inr h,h'⟩
   ·rintro⟨e',rfl|h,h1,h2⟩
    ·left;rw [hd] at h1;cases h1;obtain⟨a,b⟩:=p;cases h2;rfl
    ·exact .inr ⟨e',h,h1,h2⟩
theorem zF {E:List En} {p:Nat × Ob}:p ∈ obs E↔∃ e ∈ E,p ∈ e.ob:=by
 induction E with
 | nil=>simp [obs]
 | cons e r ih=>
  unfold obs;rw [List.mem_append,ih];constructor
  ·rintro (h|⟨e',h,h'⟩)
   ·exact⟨e,List.mem_cons_self,h⟩
   ·exact⟨e',List.mem_cons_of_mem _ h,h'⟩
  ·rintro⟨e',h,h'⟩;rcases List.mem_cons.1 h with rfl|h
   ·exact .inl h'
   ·exact .inr ⟨e',h,h'⟩
theorem zap {m:Nat} {e:En}:∀ {E:List En},e ∈ zaK m E→e ∈ E∧m.testBit e.i=true
 | [],h=>by simp [zaK] at h
 | x::r,h=>by
  unfold zaK at h;rw [zeC] at h;cases hb:m.testBit x.i with
  | true=>
   rw [hb] at h;rcases List.mem_cons.1 h with rfl|h
   ·exact⟨List.mem_cons_self,hb⟩
   ·exact⟨List.mem_cons_of_mem _ (zap h).1,(zap h).2⟩
  | false=>
   rw [hb] at h;exact⟨List.mem_cons_of_mem _ (zap h).1,(zap h).2⟩
theorem zbt {m:Nat} {e:En}:∀ {E:List En},e ∈ E→m.testBit e.i=true→e ∈ zaK m E
 | [],h,_=>by simp at h
 | x::r,h,hb=>by
  unfold zaK;rw [zeC];rcases List.mem_cons.1 h with rfl|h
  ·rw [hb];exact List.mem_cons_self
  ·cases m.testBit x.i with
   | true=>exact List.mem_cons_of_mem _ (zbt h hb)
   | false=>exact zbt h hb
theorem zbO (e:En) (E:List En) (fr0:Fr):zbl e.d e.x (frs E ++ fr0)=frs (e::E) ++ fr0:=by
 unfold zbl;simp only [frs];cases e.d <;> rfl
theorem zcL (e:En) (E:List En) (σ0:Sg):zdZ e.ob (obs E ++ σ0)=obs (e::E) ++ σ0:=by
 unfold zdZ;simp only [obs];rw [List.append_assoc]
theorem zo0:∀ {l:Sg},ndB (l.map (·.1))=true→∀ p ∈ l,∀ q ∈ l,p.1=q.1→p=q
 | [],_,p,hp,_,_,_=>by cases hp
 | x::r,h,p,hp,q,hq,e=>by
  simp only [List.map_cons,ndB,Bool.and_eq_true,List.all_eq_true] at h;have hx:∀ y ∈ r,x.1≠y.1:=fun y hy he=>by
   have:=h.1 y.1 (List.mem_map.2 ⟨y,hy,rfl⟩);rw [he] at this;simp at this
  rcases List.mem_cons.1 hp with hp1|hp1 <;> rcases List.mem_cons.1 hq with hq1|hq1
  ·rw [hp1,hq1]
  ·exact absurd (by rw [← hp1];exact e) (hx q hq1)
  ·exact absurd (by rw [← hq1];exact e.symm) (hx p hp1)
  ·exact zo0 h.2 p hp1 q hq1 e
theorem zjn {nob σ:Sg} (h:zcF nob σ=true):(∀ p ∈ nob,lk p.1 σ=none)∧∀ p ∈ nob,∀ q ∈ nob,p.1=q.1→p=q:=by
 unfold zcF at h;simp only [Bool.and_eq_true,List.all_eq_true] at h;refine⟨fun p hp=>?_,zo0 h.2⟩
 have:=h.1 p hp;cases hl:lk p.1 σ with
 | none=>rfl
 | some _=>rw [hl] at this;cases this
structure GoodE (P:Program) (Γ:Cx) (all:List Oper) (ob:Bool) (ms:List Nat) (fr0:Fr) (σ0:Sg) (es:List En):Prop where
 idx:∀ e ∈ es,∀ e' ∈ es,e.i=e'.i→e=e'
 ids:∀ e ∈ es,∀ e' ∈ es,∀ p q,p ∈ e.ob→q ∈ e'.ob→p.1=q.1→e=e'∧p=q
 id0:∀ e ∈ es,∀ p,p ∈ e.ob→lk p.1 σ0=none∧ob=true
 sem:∀ e ∈ es,∃ o D,all[e.i]?=some o∧e.d=o.dst∧(∀ t,o.dst=some t→t < Γ.nt)∧(∀ e' ∈ D,e' ∈ es∧(ms.getD e.i 0).testBit e'.i=true)∧(∀ e' ∈ es,(ms.getD e.i 0).testBit e'.i=true→e'.i < e.i→e' ∈ D) ∧
  SemE P Γ all ob (selF (frs D ++ fr0) (looks all o)) (obs D ++ σ0) e.i o e.x e.ob
theorem zdH {tt:TT} (htt:tt.ok P) (hL:Laid P Γ.K0.K Γ.w0) {all:List Oper} {ob:Bool} {ms:List Nat} {fr0:Fr} {σ0:Sg} {k:Fr→Sg→Prop}:∀ (rest:List Oper) (es:List En) (i:Nat),
  vcDr P tt Γ.nt all ob ms fr0 σ0 k rest es i (frs es ++ fr0) (obs es ++ σ0)→(∀ (j:Nat) (o:Oper),rest[j]?=some o→all[i+j]?=some o)→(∀ e ∈ es,e.i < i)→(∀ j,j < i→∃ e ∈ es,e.i=j)→GoodE P Γ all ob ms fr0 σ0 es →
  ∃ es',k (frs es' ++ fr0) (obs es' ++ σ0)∧GoodE P Γ all ob ms fr0 σ0 es'∧(∀ e ∈ es',e.i < i+rest.length)∧(∀ j,j < i+rest.length→∃ e ∈ es',e.i=j)
 | [],es,i,h,_,hlt,hcov,hg=>⟨es,h,hg,hlt,hcov⟩
 | o::rest,es,i,h,hall,hlt,hcov,hg=>by
  unfold vcDr at h;obtain⟨id,hidn,h⟩:=zfA h;obtain⟨gd,x,nob,hk,hnob,hsem⟩:=znL (Γ:=Γ) htt hL hidn h i;obtain⟨hk,hd⟩:=zdJ hk;let en:En:=⟨i,o.dst,zeI gd x,nob⟩
  have e1:=zbO en es fr0;have e2:=zcL en es σ0;have hk:vcDr P tt Γ.nt all ob ms fr0 σ0 k rest (en::es) (i+1) (frs (en::es) ++ fr0) (obs (en::es) ++ σ0):=by
   rw [← e1,← e2];exact hk
  have hfresh:ob=true∧zcF nob (obs es ++ σ0)=true→(∀ p ∈ nob,∀ e ∈ es,∀ q ∈ e.ob,q.1≠p.1)∧(∀ p ∈ nob,lk p.1 σ0=none)∧∀ p ∈ nob,∀ q ∈ nob,p.1=q.1→p=q:=by
   rintro⟨_,hn⟩;obtain⟨h1,h2⟩:=zjn hn;have key:∀ (L l0:List (Nat × Ob)) (t:Nat),lk t (L ++ l0)=none→∀ p ∈ L,p.1≠t:=by
    intro L l0 t;induction L with
    | nil=>intro _ p hp;simp at hp
    | cons q r ih=>
     intro h p hp;obtain⟨j,y⟩:=q;rw [List.cons_append,zr] at h;by_cases ej:j=t
     ·rw [if_pos ej] at h;cases h
     ·rw [if_neg ej] at h;rcases List.mem_cons.1 hp with rfl|hp
      ·exact ej
      ·exact ih h p hp
   refine⟨fun p hp e he q hq=>key _ _ _ (h1 p hp) q (zF.2 ⟨e,he,hq⟩),fun p hp=>?_,h2⟩
   rw [← zU (L:=obs es) (key _ _ _ (h1 p hp))];exact h1 p hp
  have hnob:∀ p ∈ nob,ob=true∧zcF nob (obs es ++ σ0)=true:=fun p hp=>by
   rcases hnob with hn|hn
   ·rw [hn] at hp;cases hp
   ·exact hn
  have:=zdH htt hL rest (en::es) (i+1) hk (fun j o' hj=>by
   have:=hall (j+1) o' hj;rwa [Nat.add_assoc,Nat.add_comm 1 j]) (fun e he=>by
   rcases List.mem_cons.1 he with rfl|he
   ·exact Nat.lt_succ_self _
   ·exact Nat.lt_succ_of_lt (hlt e he)) (fun j hj=>by
   by_cases hji:j=i
   ·exact⟨en,List.mem_cons_self,hji.symm⟩
   ·obtain⟨e,he,h'⟩:=hcov j (by omega);exact⟨e,List.mem_cons_of_mem _ he,h'⟩) ?_
  ·obtain⟨es',h1,h2,h3,h4⟩:=this;refine⟨es',h1,h2,fun e he=>?_,fun j hj=>?_⟩
   ·have:=h3 e he;simp;omega
   ·exact h4 j (by simp at hj;omega)
  ·refine⟨fun e he e' he' hii=>?_,fun e he e' he' p q hp hq hpq=>?_,fun e he p hp=>?_,fun e he=>?_⟩
   ·rcases List.mem_cons.1 he with rfl|he <;> rcases List.mem_cons.1 he' with rfl|he'
    ·rfl
    ·have:=hlt e' he';have:i=e'.i:=hii;omega
    ·have:=hlt e he;have:e.i=i:=hii;omega
    ·exact hg.idx e he e' he' hii
   ·rcases List.mem_cons.1 he with rfl|he <;> rcases List.mem_cons.1 he' with rfl|he'
    ·exact⟨rfl,(hfresh (hnob p hp)).2.2 p hp q hq hpq⟩
    ·exact absurd hpq.symm ((hfresh (hnob p hp)).1 p hp e' he' q hq)
    ·exact absurd hpq ((hfresh (hnob q hq)).1 q hq e he p hp)
    ·exact hg.ids e he e' he' p q hp hq hpq
   ·rcases List.mem_cons.1 he with rfl|he
    ·exact⟨(hfresh (hnob p hp)).2.1 p hp,(hnob p hp).1⟩
    ·exact hg.id0 e he p hp
   ·rcases List.mem_cons.1 he with rfl|he
    ·refine⟨o,zaK (ms.getD i 0) es,by simpa using hall 0 o rfl,rfl,hd,fun e' he'=>⟨List.mem_cons_of_mem _ (zap he').1,(zap he').2⟩,fun e' he' hb hlt'=>?_,hsem⟩
     rcases List.mem_cons.1 he' with rfl|he'
     ·exact absurd hlt' (Nat.lt_irrefl _)
     ·exact zbt he' hb
    ·obtain⟨o',D,a1,a2,a3,a4,a6,a5⟩:=hg.sem e he;refine⟨o',D,a1,a2,a3,fun e' he'=>⟨List.mem_cons_of_mem _ (a4 e' he').1,(a4 e' he').2⟩,fun e' he' hb hlt'=>?_,a5⟩
     rcases List.mem_cons.1 he' with rfl|he'
     ·have:=hlt e he;have hlt':i < e.i:=hlt';omega
     ·exact a6 e' he' hb hlt'
theorem zq {D E:List En} (h:∀ e ∈ D,e ∈ E):∀ p,p ∈ frs D→p ∈ frs E:=fun p hp=>by
 obtain⟨e,he,h'⟩:=zY.1 hp;exact zY.2 ⟨e,h e he,h'⟩
variable {fr:Fr} {σ:Sg} {Q:Exit→Fr→Sg→Prop}
theorem zrJ {tt:TT} (htt:tt.ok P) (hmix:P.follows .mixedOrders=true) (m:Nat) (ob:Bool) (ms:List Nat) {id:Nat} {ops:List Oper} (hms:zbe ms m ops 0=true) (hlen:Nat.ble m ops.length=true)
  (hds:zc2 (ops.take m) []=true) (hrd:zcn ops ms (ops.take m) (ops.take m) 0=true)
  (h:vcDr P tt Γ.nt ops ob ms fr σ (fun fr' σ'=>zah P tt Γ.nt ops (Q .normal) (ops.drop m) fr' σ') (ops.take m) [] 0 fr σ):AW P Γ (.region id ops.toArray true) Q fr σ:=by
 refine AW.mk fun hLd g a w hr=>?_
 have hm:=MaskOK.of hms;have hlen:m≤ops.length:=Nat.le_of_ble_eq_true hlen;have htake:(ops.take m).length=m:=by simp;omega
 obtain⟨es,hk,hg,hlt,hcov⟩:=zdH (Γ:=Γ) htt hLd (ops.take m) [] 0 h (fun j o hj=>by
   rw [List.getElem?_take] at hj;by_cases hjm:j < m
   ·rw [if_pos hjm] at hj;simpa using hj
   ·rw [if_neg hjm] at hj;cases hj) (fun e he=>by simp at he) (fun j hj=>by omega)
   ⟨fun e he=>by simp at he,fun e he=>by simp at he,fun e he=>by simp at he,fun e he=>by simp at he⟩
 rw [htake] at hlt hcov;simp only [Nat.zero_add] at hlt hcov;obtain⟨_,hd1⟩:=zb1 hds;have hrd:=fun j o h=>zaV (zbR hrd j o h)
 simp only [Nat.zero_add] at hrd;have hop:∀ e ∈ es,∃ o,(ops.take m)[e.i]?=some o∧e.d=o.dst:=fun e he=>by
  obtain⟨o,D,h1,h2,_⟩:=hg.sem e he;exact⟨o,by rw [List.getElem?_take,if_pos (hlt e he)];exact h1,h2⟩
 have hfF:∀ p ∈ frs es,∀ q ∈ frs es,p.1=q.1→p=q:=by
  intro p hp q hq hpq;obtain⟨e,he,h1,h2⟩:=zY.1 hp;obtain⟨e',he',h1',h2'⟩:=zY.1 hq;obtain⟨o,ho,hd⟩:=hop e he;obtain⟨o',ho',hd'⟩:=hop e' he';have:=hd1 e.i e'.i o o' p.1 ho ho' (by rw [← hd,h1]) (by rw [← hd',h1',hpq]);have:=hg.idx e he e' he' this;subst this;obtain⟨p1,p2⟩:=p;obtain⟨q1,q2⟩:=q;simp only at *;subst hpq;subst h2;subst h2';rfl
 have hfO:∀ p ∈ obs es,∀ q ∈ obs es,p.1=q.1→p=q:=by
  intro p hp q hq hpq;obtain⟨e,he,h1⟩:=zF.1 hp;obtain⟨e',he',h1'⟩:=zF.1 hq;exact (hg.ids e he e' he' p q h1 h1' hpq).2
 have hfO0:∀ p ∈ obs es,lk p.1 σ=none:=by
  intro p hp;obtain⟨e,he,h1⟩:=zF.1 hp;exact (hg.id0 e he p h1).1
 have supO:∀ D E:List En,(∀ e ∈ D,e ∈ E)→(∀ e ∈ E,e ∈ es)→Sup (obs D ++ σ) (obs E ++ σ):=fun D E h1 h2=>
  zeM hfO hfO0 (fun p hp=>by obtain⟨e,he,h'⟩:=zF.1 hp;exact zF.2 ⟨e,h1 e he,h'⟩) (fun p hp=>by obtain⟨e,he,h'⟩:=zF.1 hp;exact zF.2 ⟨e,h2 e he,h'⟩)
 let InvA:(Nat→Prop)→Act→World→Prop:=fun L a w=>∃ (E:List En) (g:Gh),(∀ e ∈ E,e ∈ es)∧(∀ j,L j↔∃ e ∈ E,e.i=j)∧(∀ k,L k→∀ b,(ms.getD k 0).testBit b=true→L b)∧Rel Γ (frs E ++ fr) (obs E ++ σ) g a w
 let InvB:(Nat→Prop)→Act→World→Prop:=fun L a w=>∃ j,m≤j∧j≤ops.length∧(∀ b,L b↔b < j)∧wpLs Γ.ro P ops.toArray (Lift Γ Q) (ops.drop j) a w
 have conv:∀ L a w,InvA L a w→(∀ b,b < m→L b)→InvB L a w:=by
  intro L a w ⟨E,g,h1,h2,_,h3⟩ hall;refine⟨m,Nat.le_refl _,hlen,fun b=>⟨fun hb=>?_,hall b⟩,?_⟩
  ·obtain⟨e,he,hi⟩:=(h2 b).1 hb;rw [← hi];exact hlt e (h1 e he)
  ·have hsub:∀ e ∈ es,e ∈ E:=by
    intro e he;obtain⟨e',he',hi⟩:=(h2 e.i).1 (hall e.i (hlt e he));have:=hg.idx e' (h1 e' he') e he hi;subst this;exact he'
   have hr':Rel Γ (frs es ++ fr) (obs es ++ σ) g a w:=h3.same (zb4 (fun p hp q hq=>hfF p ((zq h1) p hp) q ((zq h1) q hq)) (fun p=>⟨zq hsub p,zq h1 p⟩)) (supO E es h1 (fun e he=>he)) (supO es E hsub h1);exact zcc htt hLd (fun _ _ h=>h) (ops.drop m) _ _ hk g a w hr'
 refine wpIn_region_any hmix ?_
 refine zbU hm (fun L a w=>InvA L a w∨InvB L a w) ?_ ?_ _ _ _ _ (by simp) ?_ ?_ ?_
 ·-- a step
  intro L a w hinv i hi hL hbits;have hi':i < ops.length:=by simpa using hi
  have stepB:InvB L a w→wpOpIn (FX Γ.ro) 0 P ops.toArray (Lift Γ Q) i (fun a w=>InvA (fun j=>L j∨j=i) a w∨InvB (fun j=>L j∨j=i) a w) a w:=by
   intro ⟨j,hj1,hj2,hj3,hj4⟩;have hji:j≤i:=by
    rcases Nat.lt_or_ge i j with h'|h'
    ·exact absurd ((hj3 i).2 h') hL
    ·exact h'
   have hij:i=j:=by
    rcases Nat.lt_or_ge j i with h'|h'
    ·have:=hm.tail i _ (Array.getElem?_eq_getElem (by simpa using hi')) (by omega) j h';have:=(hj3 j).1 (hbits j this);omega
    ·omega
   subst hij;rw [List.drop_eq_getElem_cons hi'] at hj4;have hoi:ops.toArray[i]?=some ops[i]:=by simp [hi']
   have hnew:∀ a w,wpLs Γ.ro P ops.toArray (Lift Γ Q) (ops.drop (i+1)) a w→InvA (fun j=>L j∨j=i) a w∨InvB (fun j=>L j∨j=i) a w:=by
    intro a w hw;refine .inr ⟨i+1,by omega,by omega,fun b=>?_,hw⟩
    show (L b∨b=i)↔b < i+1
    rw [hj3 b];omega
   unfold wpOpIn;simp only [hoi];unfold wpLs wpLk at hj4;split
   ·rename_i hwant;rw [if_pos hwant] at hj4;exact Oper.wpIn_mono hnew hj4
   ·rename_i hwant;rw [if_neg hwant] at hj4;exact⟨fun _ _=>trivial,hnew _ _ hj4⟩
  rcases hinv with hA|hB
  ·rcases Nat.lt_or_ge i m with him|him
   ·obtain⟨E,g,h1,h2,hcl,h3⟩:=hA;obtain⟨en,hen,heni⟩:=hcov i him;obtain⟨o,D,a1,a2,a3,a4,a6,a5⟩:=hg.sem en hen;rw [heni] at a1 a4 a5 a6;have hDE:∀ e ∈ D,e ∈ E:=by
     intro e he;obtain⟨he1,he2⟩:=a4 e he;obtain⟨e',he',hi'⟩:=(h2 e.i).1 (hbits e.i he2);have:=hg.idx e' (h1 e' he') e he1 hi';subst this;exact he'
    have hsup:Sup (selF (frs D ++ fr) (looks ops o)) (frs E ++ fr):=by
     intro t v hl;obtain⟨ht,hl⟩:=zbF hl;rcases zdB hl with hl|⟨hn,hl⟩
     ·exact zas (fun p hp q hq=>hfF p (zq h1 p hp) q (zq h1 q hq)) (zq hDE _ hl)
     ·rw [zU]
      ·exact hl
      ·intro p hp hpt;obtain⟨e,he,h1',h2'⟩:=zY.1 hp;obtain⟨oe,hoe,hde⟩:=hop e (h1 e he);have hLe:L e.i:=(h2 e.i).2 ⟨e,he,rfl⟩;rcases hrd i o (by rw [List.getElem?_take,if_pos him];exact a1) e.i oe t hoe (by rw [← hde,h1',hpt]) ht with hk|hk|hk
       ·exact hL (hk ▸ hLe)
       ·have hlt':e.i < i:=hm.lt i o (by simpa using a1) e.i hk;exact hn p (zY.2 ⟨e,a6 e (h1 e he) hk hlt',h1',h2'⟩) hpt
       ·exact hL (hcl e.i hLe i hk)
    refine a5 _ (frs E ++ fr) (obs E ++ σ) g a w hsup (supO D E hDE h1) ?_ ?_ h3 _ ?_ (by simpa using a1)
    ·intro hob;have hn:∀ X:List En,(∀ e ∈ X,e ∈ es)→obs X=[]:=by
      intro X hX;cases hx:obs X with
      | nil=>rfl
      | cons p r=>
       obtain⟨e,he,hp⟩:=zF.1 (show p ∈ obs X by rw [hx];exact List.mem_cons_self);have:=(hg.id0 e (hX e he) p hp).2;rw [hob] at this;cases this
     rw [hn E h1,hn D (fun e he=>h1 e (hDE e he))]
    ·intro p hp;rw [zU]
     ·exact (hg.id0 en hen p hp).1
     ·intro q hq he;obtain⟨e',he',hq'⟩:=zF.1 hq;have:=(hg.ids e' (h1 e' he') en hen q p hq' hp he).1;subst this;exact hL ((h2 i).2 ⟨e',he',heni⟩)
    ·intro v g' w' hr' hv;left
     refine⟨en::E,g',fun e he=>?_,fun j=>?_,fun k hk b hb=>?_,?_⟩
     ·rcases List.mem_cons.1 he with rfl|he
      ·exact hen
      ·exact h1 e he
     ·show (L j∨j=i)↔_
      rw [h2 j];constructor
      ·rintro (⟨e,he,h'⟩|rfl)
       ·exact⟨e,List.mem_cons_of_mem _ he,h'⟩
       ·exact⟨en,List.mem_cons_self,heni⟩
      ·rintro⟨e,he,h'⟩;rcases List.mem_cons.1 he with rfl|he
       ·exact .inr (h'.symm.trans heni)
       ·exact .inl ⟨e,he,h'⟩
     ·rcases hk with hk|rfl
      ·exact .inl (hcl k hk b hb)
      ·exact .inl (hbits b hb)
     ·rw [← zbO,← zcL];rw [a2];cases hdd:o.dst with
      | none=>exact hr'
      | some d=>exact hr'.put (a3 d hdd) hv
   ·have hall:∀ b,b < i→L b:=fun b hb=>hbits b (hm.tail i _ (Array.getElem?_eq_getElem (by simpa using hi')) him b hb)
    exact stepB (conv L a w hA fun b hb=>hall b (by omega))
  ·exact stepB hB
 ·-- the end
  intro L a w hinv hall;have hB:InvB L a w:=by
   rcases hinv with hA|hB
   ·exact conv L a w hA fun b hb=>hall b (by simp;omega)
   ·exact hB
  obtain⟨j,hj1,hj2,hj3,hj4⟩:=hB;have:j=ops.length:=by
   rcases Nat.lt_or_ge j ops.length with h'|h'
   ·have:=(hj3 j).1 (hall j (by simpa using h'));omega
   ·omega
  subst this;rw [List.drop_length] at hj4;exact hj4
 ·intro i hi;have:(Array.replicate ops.length false)[i]?.getD false=false:=by
   rw [Array.getElem?_replicate];split <;> rfl
  simp [this] at hi
 ·unfold unl;refine Nat.le_trans (List.length_filter_le _ _) (by simp)
 ·left
  refine⟨[],g,fun e he=>by simp at he,fun j=>?_,fun k hk=>?_,hr.drawn _⟩
  rotate_left
  ·have:(Array.replicate ops.length false)[k]?.getD false=false:=by
    rw [Array.getElem?_replicate];split <;> rfl
   simp [this] at hk
  have:(Array.replicate ops.length false)[j]?.getD false=false:=by
   rw [Array.getElem?_replicate];split <;> rfl
  simp [this]
end
theorem ziH:∀ (σ:Sg),ziI [] σ=σ
 | []=>rfl
 | (i,o)::r=>by
  show (bif false then _ else _)=_
  rw [cond_false,ziH r]
theorem ACall.anew {P:Program} {f:FuncId} {args:List AV} {rv:AV} {nob:Sg} (h:ACall P f args [] (fun r σ'=>r=rv∧σ'=nob)) (ρ : Nat→Nat) {args':List AV} {rv':AV} {nob':Sg}
  (ha:args'=args.map (rnAV ρ)) (hr:rv'=rnAV ρ rv) (hn:nob'=rnSg ρ nob) (hc:(args.all (zeR []) && injK ρ (nob.map (·.1)))=true) (σE:Sg) (hf:∀ p ∈ nob',lk p.1 σE=none) :
  ACall P f args' σE (fun r' σ'=>r'=rv'∧σ'=nob' ++ σE):=by
 subst ha;subst hr;subst hn;simp only [Bool.and_eq_true] at hc;refine (h.frame ρ (σ:=σE) trivial (by simp [hc.1,rsSg,injK]) ?_).mono ?_
 ·rintro r1 σ1 ⟨rfl,rfl⟩;unfold zdN;simp only [List.map_nil,List.all_nil,Bool.and_true,List.any_nil,Bool.false_or,Bool.and_eq_true,List.all_eq_true,Bool.not_eq_true'];refine⟨hc.2,fun i hi=>?_⟩
  obtain⟨p,hp,rfl⟩:=List.mem_map.1 hi;have hm:∃ q ∈ rnSg ρ σ1,q.1 = ρ p.1:=by
   clear hc hf hi h;induction σ1 with
   | nil=>cases hp
   | cons x r ih=>
    rcases List.mem_cons.1 hp with rfl|hp
    ·exact⟨_,List.mem_cons_self,rfl⟩
    ·obtain⟨q,hq,e⟩:=ih hp;exact⟨q,List.mem_cons_of_mem _ hq,e⟩
  obtain⟨q,hq,e⟩:=hm;have h1:=hf q hq;rw [e] at h1;cases hb:(σE.map (·.1)).any (Nat.beq (ρ p.1)) with
  | false=>rfl
  | true=>
   have:=zz.2 (zdY.1 hb);rw [h1] at this;cases this
 ·rintro r σ' ⟨r1,σ1,⟨rfl,rfl⟩,rfl,rfl⟩;refine⟨rfl,?_⟩
  unfold after;congr 1
  exact ziH σE
end Go.QL.DC
namespace Go.QL
open Go Go.RowKit
section
variable {w0:World} {K0:Bs} {σ:Sg} {g:Gh} {w:World}
theorem zgX (h:Hp w0 K0 σ g w) {c e sz st n:Nat} {xs:List (List PV)} (hl:lk c σ=some (.chain e sz st xs)) (hn:n≤xs.length) {v:Value} (hv:SR σ g w (.o c st n) v) :
  ∃ g',Did w0 K0 σ g w (zat c (.chain e sz (st+1) []) σ) g' w∧SR (zat c (.chain e sz (st+1) []) σ) g' w (.d (.s sz (xs.take n))) v:=by
 have hsome:(lk c σ).isSome:=by rw [hl];rfl
 let K':Nat→Nat→Prop:=fun b o=>g.K b o∨(blk (g.μ c)=some b∧b < w.heap.size)
 let g':Gh:=⟨K',upd g.μ c (.slice none 0 0)⟩
 have hext:Ext g.K w K' w:=⟨fun _ _ h=>.inl h,fun _ _ _=>rfl⟩;have hc:Compat σ g (zat c (.chain e sz (st+1) []) σ) g':=by
  refine⟨fun i cs hi=>?_,fun i e1 sz1 st1 xs1 hi=>?_,fun i o hi=>?_⟩
  ·have hne:i≠c:=fun e=>by rw [e,hl] at hi;cases hi
   exact⟨zo _ _ hne,cs,by rw [zt _ _ _ _ hne];exact hi⟩
  ·by_cases hne:i=c
   ·subst hne;rw [hl] at hi;cases hi;exact .inl ⟨_,_,_,_,zab _ _ _ hsome,Nat.lt_succ_self _⟩
   ·exact .inr ⟨zo _ _ hne,xs1,by rw [zt _ _ _ _ hne];exact hi,rfl⟩
  ·have hne:i≠c:=fun e=>by rw [e,hl] at hi;cases hi
   exact⟨zo _ _ hne,o,by rw [zt _ _ _ _ hne];exact hi,rfl⟩
 have hkeep:∀ s u,SR σ g w s u→SR (zat c (.chain e sz (st+1) []) σ) g' w s u:=fun s u hs=>hs.keep hc hext
 refine⟨g',⟨⟨h.kept,h.flt,h.ext.trans hext,?_,?_,?_,?_,?_⟩,hkeep⟩,?_⟩
 ·intro b o hb hk;rcases hk with hk|⟨hk,_⟩
  ·exact h.old b o hb hk
  ·exact absurd hb (h.own c b hsome hk)
 ·intro b o hk;rcases hk with hk|⟨_,hk⟩
  ·exact h.val b o hk
  ·exact hk
 ·intro i ob hi;by_cases hne:i=c
  ·subst hne;rw [zab _ _ _ hsome] at hi;cases hi;refine⟨[],?_,⟨none,0,zy _ _ _,Nat.le_refl _,by simp [maxLen]⟩,fun x hx=>by simp at hx,fun i x hi=>by simp at hi,fun b hb=>?_⟩
   ·show World.ownsRow w 0 e sz (upd g.μ i (.slice none 0 0) i) 0 []
    rw [zy];exact World.ownsRow_nil w _ _ _
   ·have hb:blk (upd g.μ i (.slice none 0 0) i)=some b:=hb;rw [zy] at hb;cases hb
  ·rw [zt _ _ _ _ hne] at hi;have hO:=h.obs i ob hi;refine hO.keep hkeep hext (zo _ _ hne) (fun _ _=>rfl) (fun b hb o hk=>?_)
   rcases hk with hk|⟨hk,_⟩
   ·exact h.notK hi hb o hk
   ·exact hne (h.inj i c b (by rw [hi];rfl) hsome hb hk)
 ·intro i b hi hb;have hb:blk (upd g.μ c (.slice none 0 0) i)=some b:=hb;by_cases hne:i=c
  ·subst hne;rw [zy] at hb;cases hb
  ·rw [zt _ _ _ _ hne] at hi;rw [zo _ _ hne] at hb;exact h.own i b hi hb
 ·intro i j b hi hj hbi hbj;have hbi:blk (upd g.μ c (.slice none 0 0) i)=some b:=hbi;have hbj:blk (upd g.μ c (.slice none 0 0) j)=some b:=hbj;by_cases e1:i=c
  ·subst e1;rw [zy] at hbi;cases hbi
  ·by_cases e2:j=c
   ·subst e2;rw [zy] at hbj;cases hbj
   ·rw [zt _ _ _ _ e1] at hi;rw [zt _ _ _ _ e2] at hj;rw [zo _ _ e1] at hbi;rw [zo _ _ e2] at hbj;exact h.inj i j b hi hj hbi hbj
 ·obtain⟨vs,hown,⟨a0,cap0,hμ0,hcap0,hmax0⟩,hsz,hpr,_⟩:=h.obs _ _ hl;cases hv with
  | old _ _ _ e1 sz1 st1 xs1 v hl1 hlt1 _=>rw [hl] at hl1;cases hl1;omega
  | o _ _ _ e1 sz1 xs1 a cap hl1 hn1 hμ1=>
   rw [hl] at hl1;cases hl1;have hmax1:cap≤maxLen:=by rw [hμ1] at hμ0;cases hμ0;exact hmax0
   have hcap1:xs.length≤cap:=by rw [hμ1] at hμ0;cases hμ0;exact hcap0
   have htl:(xs.take n).length=n:=by simp;omega
   rcases hown.2 with ⟨hnil,hz⟩|⟨gb,cap',cur,hv',hB,hg,_⟩
   ·have hx:xs=[]:=List.eq_nil_of_length_eq_zero hz;subst hx;have hn0:n=0:=by simpa using hn
    subst hn0;have:=PR.s (K:=K') (w:=w) sz ([]:List (List PV)) a cap 0 0 (fun _ _=>undef) (Nat.zero_le _) hmax1 (by simp) (fun h=>absurd rfl h) (fun i e hi=>by simp at hi) (fun i e hi=>by simp at hi) (fun i e hi=>by simp at hi);exact .d _ _ (by simpa using this)
   ·rw [hμ1] at hv';cases hv';have hbl:blk (g.μ c)=some gb:=by rw [hμ1];rfl
    have hlt:gb < w.heap.size:=(h.obs _ _ hl).blk_lt hbl |>.2
    have hcell:=hown.cells (g:=gb) (by rw [hμ1];rfl);have:=PR.s (K:=K') (w:=w) sz (xs.take n) (some ⟨gb,0,none⟩) cap gb 0 (fun i j=>vs.getD (i * sz+j) undef) (by rw [htl];omega) hmax1 (fun x hx=>hsz x (List.mem_of_mem_take hx)) (fun _=>rfl)
     (fun i e hi j hj=>.inr ⟨hbl,hlt⟩) (fun i e hi j hj=>by
      rw [List.getElem?_take] at hi;by_cases hin:i < n
      ·rw [if_pos hin] at hi;obtain⟨u,hu,_⟩:=hpr i e hi j _ (List.getElem?_eq_getElem hj);have:=hcell _ _ hu;rw [zad] at this;rw [this];simp [hu]
      ·rw [if_neg hin] at hi;cases hi) (fun i e hi j p hp'=>by
      rw [List.getElem?_take] at hi;by_cases hin:i < n
      ·rw [if_pos hin] at hi;obtain⟨u,hu,hpu⟩:=hpr i e hi j p hp';have e2:vs.getD (i * sz+j) undef=u:=by simp [hu]
       rw [e2];exact hpu.mono hext
      ·rw [if_neg hin] at hi;cases hi)
    rw [htl] at this;exact .d _ _ this
def FzGo (on:Bool) (σ:Sg) (v:AV) (k:AV→Sg→Prop):Prop:=
 bif on then (match v with
  | .x (.o c st n)=>(match lk c σ with
   | some (.chain e sz st' xs)=>(st'=st∧n≤xs.length)∧k (.x (.d (.s sz (xs.take n)))) (zat c (.chain e sz (st+1) []) σ)
   | _=>False)
  | _=>False)
 else k v σ
theorem zqt {P:Program} {Γ:Cx} {on:Bool} {v:AV} {k:AV→Sg→Prop} (h:FzGo on σ v k):∃ v' σ',k v' σ'∧∀ (d:Option Tmp) (fr:Fr) (g:Gh) (a:Act) (w:World),Rel Γ (zbl d v fr) σ g a w→∃ g',Rel Γ (zbl d v' fr) σ' g' a w:=by
 unfold FzGo at h;cases on with
 | false=>exact⟨v,σ,h,fun d fr g a w hr=>⟨g,hr⟩⟩
 | true=>
  simp only [cond_true] at h;split at h
  ·rename_i c st n;split at h
   ·rename_i e sz st' xs hl;obtain⟨⟨rfl,hn⟩,hk⟩:=h;refine⟨_,_,hk,fun d fr g a w hr=>?_⟩
    cases d with
    | none=>
     have hO:=hr.hp.obs _ _ hl;obtain⟨vs,hown,⟨a0,cap0,hμ0,hcap0,hmax0⟩,hsz,hpr,_⟩:=hO;obtain⟨g',hd,_⟩:=zgX hr.hp hl hn (SR.o c st' n e sz xs a0 cap0 hl hn hμ0);exact⟨g',hr.did hd⟩
    | some t=>
     have ht:=hr.fr t (.x (.o c st' n)) (by show lk t ((t,_)::fr)=_;rw [zr,if_pos rfl]);obtain⟨g',hd,hv⟩:=zgX hr.hp hl hn (show SR σ g w (.o c st' n) _ from ht.2);refine⟨g',hd.hp,fun s x hs=>?_,hr.size,(hr.did hd).defers,(hr.did hd).base⟩
     have hs:lk s ((t,_)::fr)=some x:=hs;rw [zr] at hs;by_cases e1:t=s
     ·subst e1;rw [if_pos rfl] at hs;cases hs;exact⟨ht.1,hv⟩
     ·rw [if_neg e1] at hs;refine (hr.did hd).fr s x ?_
      show lk s ((t,_)::fr)=some x
      rw [zr,if_neg e1];exact hs
   ·exact h.elim
  ·exact h.elim
end
structure Stg where
 w:Nat
 ob:Bool
 fz:Bool
 re:List Nat
 fl:List Nat
def vcFl (P:Program) (tt:TT) (nt:Nat) (ops:List Oper) (ms:List Nat) (fr0:Fr) (σ:Sg) (k:List En→Prop):List Nat→List En→Prop
 | [],es=>k es
 | i::r,es=>match ops[i]? with
  | some o=>opDr P tt ops false (selF (frs (zaK (ms.getD i 0) es) ++ fr0) (looks ops o)) σ 0 o fun gd v nob=>nob=none∧putE nt o.dst gd v fun x=>vcFl P tt nt ops ms fr0 σ k r (⟨i,o.dst,x,none⟩::es)
  | none=>False
def getE:List En→Nat→Option AV
 | [],_=>none
 | ⟨j,_,x,_⟩::r,i=>bif Nat.beq j i then some x else getE r i
def vcRe (P:Program) (tt:TT) (nt:Nat) (ops:List Oper) (ms:List Nat) (fr0:Fr) (es:List En) (σ:Sg) (k:Prop):List Nat→Prop
 | []=>k
 | l::r=>match ops[l]? with
  | some o=>opDr P tt ops false (selF (frs (zaK (ms.getD l 0) es) ++ fr0) (looks ops o)) σ 0 o fun gd v nob=>nob=none∧putE nt o.dst gd v fun x=>getE es l=some x∧vcRe P tt nt ops ms fr0 es σ k r
  | none=>False
def vcSt (P:Program) (tt:TT) (nt:Nat) (ops:List Oper) (ms:List Nat) (fr0:Fr) (k:Fr→Sg→Prop):List Stg→List En→Sg→Prop
 | [],es,σ=>k (frs es ++ fr0) σ
 | ⟨w,mk,fz,re,fl⟩::r,es,σ=>match ops[w]? with
  | none=>False
  | some o=>
   bif mk then
    zhE σ o.dst fun id=>opDr P tt ops true (selF (frs (zaK (ms.getD w 0) es) ++ fr0) (looks ops o)) σ id o fun gd v nob=>putE nt o.dst gd v fun x=>
     FzGo fz (zdZ nob σ) x fun x σ2=>vcRe P tt nt ops ms fr0 (⟨w,o.dst,x,none⟩::es) σ2 (vcFl P tt nt ops ms fr0 σ2 (fun es'=>vcSt P tt nt ops ms fr0 k r es' σ2) fl (⟨w,o.dst,x,none⟩::es)) re
   else
    zah P tt nt ops (fun fr2 σ2=>LateGo o.dst fr2 (selF (frs (zaK (ms.getD w 0) es) ++ fr0) (looks ops o)) fun x=>FzGo fz σ2 x fun x σ2=>
     vcRe P tt nt ops ms fr0 (⟨w,o.dst,x,none⟩::es) σ2 (vcFl P tt nt ops ms fr0 σ2 (fun es'=>vcSt P tt nt ops ms fr0 k r es' σ2) fl (⟨w,o.dst,x,none⟩::es)) re)
     [o] (selF (frs (zaK (ms.getD w 0) es) ++ fr0) (looks ops o)) σ
noncomputable def lrec {α β : Type} (z : β) (s : α→List α→β→β) (l:List α) : β:=List.rec (motive:=fun _=>β) z s l
def getL {α : Type} (l:List α):Nat→Option α:=lrec (fun _=>none) (fun x _ ih i=>Nat.casesOn (motive:=fun _=>Option α) i (some x) (fun j=>ih j)) l
theorem getL_eq {α : Type}:∀ (l:List α) (i:Nat),getL l i=l[i]?
 | [],i=>by rw [List.getElem?_nil];rfl
 | x::r,0=>rfl
 | x::r,i+1=>by rw [List.getElem?_cons_succ];exact getL_eq r i
def lenL {α : Type} (l:List α):Nat:=lrec (fun n=>n) (fun _ _ ih n=>ih (Nat.add n 1)) l 0
theorem lenL_at {α : Type}:∀ (l:List α) (n:Nat),lrec (fun n=>n) (fun (_ : α) (_:List α) (ih:Nat→Nat) n=>ih (Nat.add n 1)) l n=n+l.length
 | [],n=>rfl
 | x::r,n=>by
  show lrec (fun n=>n) (fun (_ : α) (_:List α) (ih:Nat→Nat) n=>ih (Nat.add n 1)) r (n+1)=_
  rw [lenL_at r (n+1),List.length_cons];omega
theorem lenL_eq {α : Type} (l:List α):lenL l=l.length:=(lenL_at l 0).trans (Nat.zero_add _)
def takL {α : Type} (n:Nat) (l:List α):List α:=lrec (fun _=>[]) (fun x _ ih n=>Nat.casesOn (motive:=fun _=>List α) n [] (fun j=>x::ih j)) l n
theorem takL_eq {α : Type}:∀ (n:Nat) (l:List α),takL n l=l.take n
 | n,[]=>by rw [List.take_nil];rfl
 | 0,x::r=>rfl
 | n+1,x::r=>by rw [List.take_succ_cons,← takL_eq n r];rfl
def drpL {α : Type} (n:Nat) (l:List α):List α:=lrec (fun _=>[]) (fun x r ih n=>Nat.casesOn (motive:=fun _=>List α) n (x::r) (fun j=>ih j)) l n
theorem drpL_eq {α : Type}:∀ (n:Nat) (l:List α),drpL n l=l.drop n
 | n,[]=>by rw [List.drop_nil];rfl
 | 0,x::r=>rfl
 | n+1,x::r=>by rw [List.drop_succ_cons,← drpL_eq n r];rfl
def appL {α : Type} (l m:List α):List α:=lrec m (fun x _ ih=>x::ih) l
theorem appL_eq {α : Type}:∀ (l m:List α),appL l m=l ++ m
 | [],m=>rfl
 | x::r,m=>by rw [List.cons_append,← appL_eq r m];rfl
def takA {α : Type} (n:Nat) (l m:List α):List α:=lrec (fun _=>m) (fun x _ ih n=>Nat.casesOn (motive:=fun _=>List α) n m (fun j=>x::ih j)) l n
theorem takA_eq {α : Type}:∀ (n:Nat) (l m:List α),takA n l m=l.take n ++ m
 | n,[],m=>by rw [List.take_nil];rfl
 | 0,x::r,m=>rfl
 | n+1,x::r,m=>by rw [List.take_succ_cons,List.cons_append,← takA_eq n r m];rfl
def setL {α : Type} (i:Nat) (a : α) (l:List α):List α:=lrec (fun _=>[]) (fun x r ih n=>Nat.casesOn (motive:=fun _=>List α) n (a::r) (fun j=>x::ih j)) l i
theorem setL_eq {α : Type}:∀ (i:Nat) (a : α) (l:List α),setL i a l=l.set i a
 | i,a,[]=>by rw [List.set_nil];rfl
 | 0,a,x::r=>rfl
 | i+1,a,x::r=>by rw [List.set_cons_succ,← setL_eq i a r];rfl
def segL {α : Type} (cs:List α) (off:Nat) (ss:List α):List α:=takA off cs (appL ss (drpL (Nat.add off (lenL ss)) cs))
theorem segL_eq {α : Type} (cs:List α) (off:Nat) (ss:List α):segL cs off ss=seg cs off ss:=by
 unfold segL seg;rw [takA_eq,appL_eq,drpL_eq,lenL_eq,List.append_assoc];rfl
def cellsQ (σ:Sg):SV→Nat→Option (List SV)
 | .b id off,n=>match lk id σ with
  | some (.box cs)=>bif Nat.ble (Nat.add off n) (lenL cs) then some (takL n (drpL off cs)) else none
  | _=>none
 | .se e off,n=>bif Nat.ble (Nat.add off n) (lenL e) then some ((takL n (drpL off e)).map .d) else none
 | _,_=>none
theorem cellsQ_eq (σ:Sg) (s:SV) (n:Nat):cellsQ σ s n=zdd σ s n:=by
 have key:∀ (a b:Nat) {β : Type} (x y : β),(bif Nat.ble a b then x else y)=if a≤b then x else y:=by
  intro a b β x y;cases h:Nat.ble a b with
  | true=>rw [if_pos (Nat.le_of_ble_eq_true h)];rfl
  | false=>rw [if_neg (fun e=>by rw [Nat.ble_eq_true_of_le e] at h;cases h)];rfl
 cases s <;> simp only [cellsQ,zdd,key,takL_eq,drpL_eq,lenL_eq] <;> rfl
def inL (l:List Nat) (i:Nat):Bool:=lrec false (fun x _ ih=>bif Nat.beq i x then true else ih) l
theorem inL_cons (x:Nat) (l:List Nat) (i:Nat):inL (x::l) i=bif Nat.beq i x then true else inL l i:=rfl
def zlV (ms:List Nat) (m i:Nat) (ls:List Nat):Bool:=Nat.blt i m && !inL ls i && (List.range m).all fun b=>!Nat.testBit (ms.getD i 0) b || inL ls b
def okFl (ms:List Nat) (m:Nat) (k:List Nat→Bool):List Nat→List Nat→Bool
 | [],ls=>k ls
 | i::r,ls=>zlV ms m i ls && okFl ms m k r (i::ls)
def okSt (ms:List Nat) (m:Nat):List Stg→List Nat→Bool
 | [],ls=>(List.range m).all (inL ls)
 | s::r,ls=>zlV ms m s.w ls && (ls.all fun i=>Nat.testBit (ms.getD s.w 0) i || inL s.re i) && (s.re.all (inL ls)) &&
   ((List.range m).all fun i=>inL ls i || Nat.beq i s.w || Nat.testBit (ms.getD i 0) s.w) && okFl ms m (okSt ms m r) s.fl (s.w::ls)
theorem zgk {l:List Nat} {i:Nat}:inL l i=true↔i ∈ l:=by
 induction l with
 | nil=>exact⟨fun h=>(by cases h),fun h=>(by cases h)⟩
 | cons x r ih=>
  rw [inL_cons,List.mem_cons];cases hb:Nat.beq i x with
  | true=>exact⟨fun _=>.inl (Nat.eq_of_beq_eq_true hb),fun _=>rfl⟩
  | false=>
   rw [cond_false,ih];exact⟨.inr,fun h=>h.resolve_left (fun e=>by subst e;rw [Nat.beq_refl] at hb;cases hb)⟩
theorem zkn {i:Nat} {x:AV}:∀ {es:List En},getE es i=some x→∃ e ∈ es,e.i=i∧e.x=x
 | [],h=>by cases h
 | ⟨j,d,y,ob⟩::r,h=>by
  unfold getE at h;cases hb:Nat.beq j i with
  | true=>
   rw [hb] at h;cases h;exact⟨_,List.mem_cons_self,Nat.eq_of_beq_eq_true hb,rfl⟩
  | false=>
   rw [hb] at h;obtain⟨e,he,h'⟩:=zkn (es:=r) h;exact⟨e,List.mem_cons_of_mem _ he,h'⟩
section
variable {P:Program} {Γ:Cx} {fr:Fr} {σ:Sg} {Q:Exit→Fr→Sg→Prop}
structure GoodS (ops:List Oper) (ms:List Nat) (m nt:Nat) (es:List En):Prop where
 idx:∀ e ∈ es,∀ e' ∈ es,e.i=e'.i→e=e'
 lt:∀ e ∈ es,e.i < m
 op:∀ e ∈ es,∃ o,ops[e.i]?=some o∧e.d=o.dst∧∀ t,o.dst=some t→t < nt
 cl:∀ e ∈ es,∀ b,(ms.getD e.i 0).testBit b=true→b < m→b ∈ es.map (·.i)
def SemF (P:Program) (Γ:Cx) (ops:List Oper) (ms:List Nat) (fr0:Fr) (es:List En) (σ:Sg) (e:En):Prop:=
 ∃ o,ops[e.i]?=some o∧SemE P Γ ops false (selF (frs (zaK (ms.getD e.i 0) es) ++ fr0) (looks ops o)) σ e.i o e.x none
theorem zft {ms:List Nat} {m i:Nat} {ls:List Nat} (h:zlV ms m i ls=true):i < m∧i ∉ ls∧∀ b,b < m→(ms.getD i 0).testBit b=true→b ∈ ls:=by
 unfold zlV at h;simp only [Bool.and_eq_true,List.all_eq_true] at h;obtain⟨⟨h1,h2⟩,h3⟩:=h;refine⟨Nat.le_of_ble_eq_true h1,fun hm=>?_,fun b hb hbit=>?_⟩
 ·rw [zgk.2 hm] at h2;cases h2
 ·have:=h3 b (List.mem_range.2 hb);rw [hbit] at this;exact zgk.1 (by simpa using this)
theorem GoodS.add {ops:List Oper} {ms:List Nat} {m nt:Nat} {es:List En} (hg:GoodS ops ms m nt es) {i:Nat} {o:Oper} {x:AV} {ob:Option (Nat × Ob)} (ho:ops[i]?=some o) (h1:zlV ms m i (es.map (·.i))=true) (hd:∀ t,o.dst=some t→t < nt) :
  GoodS ops ms m nt (⟨i,o.dst,x,ob⟩::es):=by
 obtain⟨h1,h2,h3⟩:=zft h1;have hn:∀ e ∈ es,e.i≠i:=fun e he hi=>h2 (List.mem_map.2 ⟨e,he,hi⟩)
 refine⟨fun e he e' he' hii=>?_,fun e he=>?_,fun e he=>?_,fun e he b hb hbm=>?_⟩
 ·rcases List.mem_cons.1 he with rfl|he <;> rcases List.mem_cons.1 he' with rfl|he'
  ·rfl
  ·exact absurd hii.symm (hn e' he')
  ·exact absurd hii (hn e he)
  ·exact hg.idx e he e' he' hii
 ·rcases List.mem_cons.1 he with rfl|he
  ·exact h1
  ·exact hg.lt e he
 ·rcases List.mem_cons.1 he with rfl|he
  ·exact⟨o,ho,rfl,hd⟩
  ·exact hg.op e he
 ·rcases List.mem_cons.1 he with rfl|he
  ·exact List.mem_cons_of_mem _ (h3 b hbm hb)
  ·exact List.mem_cons_of_mem _ (hg.cl e he b hb hbm)
theorem zgS {ms k:Nat} {e:En} {es:List En} (h:ms.testBit e.i=false):zaK ms (e::es)=zaK ms es:=by
 obtain⟨i,d,x,ob⟩:=e;show (bif zm3 ms i then _ else _)=_
 rw [zeC,h];rfl
theorem SemF.add {ops:List Oper} {ms:List Nat} {m nt:Nat} {fr0:Fr} {es:List En} {σ:Sg} (hg:GoodS ops ms m nt es) {en:En} (hen:en.i ∉ es.map (·.i)) (hm:en.i < m) {e:En} (he:e ∈ es) (h:SemF P Γ ops ms fr0 es σ e):SemF P Γ ops ms fr0 (en::es) σ e:=by
 obtain⟨o,ho,hs⟩:=h;refine⟨o,ho,?_⟩
 rw [zgS (k:=0)]
 ·exact hs
 ·cases hb:(ms.getD e.i 0).testBit en.i with
  | false=>rfl
  | true=>exact absurd (hg.cl e he en.i hb hm) hen
theorem zi3 {tt:TT} (htt:tt.ok P) (hL:Laid P Γ.K0.K Γ.w0) {ops:List Oper} {ms:List Nat} {m:Nat} (hmk:MaskOK ops.toArray ms m) {fr0:Fr} {σ:Sg} {k:List En→Prop} {kb:List Nat→Bool}:∀ {l:List Nat} {es:List En},
  vcFl P tt Γ.nt ops ms fr0 σ k l es→okFl ms m kb l (es.map (·.i))=true→GoodS ops ms m Γ.nt es →
  ∃ es',k es'∧kb (es'.map (·.i))=true∧GoodS ops ms m Γ.nt es'∧(∀ e ∈ es,e ∈ es')∧(∀ e ∈ es',e ∈ es∨SemF P Γ ops ms fr0 es' σ e)∧(∀ e ∈ es,SemF P Γ ops ms fr0 es σ e→SemF P Γ ops ms fr0 es' σ e)
 | [],es,h,hb,hg=>⟨es,h,hb,hg,fun e he=>he,fun e he=>.inl he,fun e _ hs=>hs⟩
 | i::r,es,h,hb,hg=>by
  unfold vcFl at h;unfold okFl at hb;rw [Bool.and_eq_true] at hb;cases ho:ops[i]? with
  | none=>rw [ho] at h;exact h.elim
  | some o=>
   rw [ho] at h;simp only at h;obtain⟨gd,x,nob,⟨hn,hk⟩,_,hsem⟩:=zdM (Γ:=Γ) htt hL h i;subst hn;obtain⟨hk,hd⟩:=zdJ hk;obtain⟨h1,h2,h3⟩:=zft hb.1;have hg':=hg.add (x:=zeI gd x) (ob:=none) ho hb.1 hd;obtain⟨es',k1,k2,k3,k4,k5,k6⟩:=zi3 htt hL hmk hk hb.2 hg';have hself:SemF P Γ ops ms fr0 (⟨i,o.dst,zeI gd x,none⟩::es) σ ⟨i,o.dst,zeI gd x,none⟩:=by
    refine⟨o,ho,?_⟩
    rw [zgS (k:=0)]
    ·exact hsem
    ·cases hbt:(ms.getD i 0).testBit i with
     | false=>rfl
     | true=>have:=hmk.lt i o (by simpa using ho) i hbt;omega
   refine⟨es',k1,k2,k3,fun e he=>k4 e (List.mem_cons_of_mem _ he),fun e he=>?_,fun e he hs=>k6 e (List.mem_cons_of_mem _ he) (hs.add hg h2 h1 he)⟩
   rcases k5 e he with he|hs
   ·rcases List.mem_cons.1 he with rfl|he
    ·exact .inr (k6 _ List.mem_cons_self hself)
    ·exact .inl he
   ·exact .inr hs
theorem zlc {tt:TT} (htt:tt.ok P) (hL:Laid P Γ.K0.K Γ.w0) {ops:List Oper} {ms:List Nat} {m:Nat} {fr0:Fr} {es:List En} (hg:GoodS ops ms m Γ.nt es) {σ:Sg} {k:Prop}:∀ {l:List Nat},vcRe P tt Γ.nt ops ms fr0 es σ k l →
  k∧∀ e ∈ es,e.i ∈ l→SemF P Γ ops ms fr0 es σ e
 | [],h=>⟨h,fun e _ he=>by cases he⟩
 | i::r,h=>by
  unfold vcRe at h;cases ho:ops[i]? with
  | none=>rw [ho] at h;exact h.elim
  | some o=>
   rw [ho] at h;simp only at h;obtain⟨gd,x,nob,⟨hn,hk⟩,_,hsem⟩:=zdM (Γ:=Γ) htt hL h i;subst hn;obtain⟨⟨hx,hr⟩,_⟩:=zdJ hk;obtain⟨h1,h2⟩:=zlc htt hL hg hr;refine⟨h1,fun e he hi=>?_⟩
   rcases List.mem_cons.1 hi with hi|hi
   ·obtain⟨e',he',hi',hx'⟩:=zkn hx;have:=hg.idx e he e' he' (hi.trans hi'.symm);subst this;refine⟨o,by rw [hi];exact ho,?_⟩
    rw [hi,hx'];exact hsem
   ·exact h2 e he hi
theorem zkA {tt:TT} (htt:tt.ok P) (hmix:P.follows .mixedOrders=true) (m:Nat) (fl0:List Nat) (sts:List Stg) (ms:List Nat) {id:Nat} {ops:List Oper} (hms:zbe ms m ops 0=true) (hlen:Nat.ble m ops.length=true)
  (hds:zc2 (ops.take m) []=true) (hrd:zcn ops ms (ops.take m) (ops.take m) 0=true) (hst:okFl ms m (okSt ms m sts) fl0 []=true)
  (h:vcFl P tt Γ.nt ops ms fr σ (fun es=>vcSt P tt Γ.nt ops ms fr (fun fr' σ'=>zah P tt Γ.nt ops (Q .normal) (ops.drop m) fr' σ') sts es σ) fl0 []):AW P Γ (.region id ops.toArray true) Q fr σ:=by
 refine AW.mk fun hLd g a w hr=>?_
 have hm:=MaskOK.of hms;have hlen:m≤ops.length:=Nat.le_of_ble_eq_true hlen;obtain⟨es0,hk0,hb0,hg0,_,hs0,_⟩:=zi3 (Γ:=Γ) htt hLd hm h hst ⟨fun e he=>by simp at he,fun e he=>by simp at he,fun e he=>by simp at he,fun e he=>by simp at he⟩;have hs0:∀ e ∈ es0,SemF P Γ ops ms fr es0 σ e:=fun e he=>(hs0 e he).resolve_left (by simp)
 clear h hst;obtain⟨_,hd1⟩:=zb1 hds;have hrd:=fun j o h=>zaV (zbR hrd j o h)
 simp only [Nat.zero_add] at hrd;have htk:∀ {i:Nat} {o:Oper},i < m→ops[i]?=some o→(ops.take m)[i]?=some o:=fun hi ho=>by rw [List.getElem?_take,if_pos hi];exact ho
 have hfF:∀ es,GoodS ops ms m Γ.nt es→∀ p ∈ frs es,∀ q ∈ frs es,p.1=q.1→p=q:=by
  intro es hg p hp q hq hpq;obtain⟨e,he,h1,h2⟩:=zY.1 hp;obtain⟨e',he',h1',h2'⟩:=zY.1 hq;obtain⟨o,ho,hd,_⟩:=hg.op e he;obtain⟨o',ho',hd',_⟩:=hg.op e' he';have:=hd1 e.i e'.i o o' p.1 (htk (hg.lt e he) ho) (htk (hg.lt e' he') ho') (by rw [← hd,h1]) (by rw [← hd',h1',hpq]);have:=hg.idx e he e' he' this;subst this;obtain⟨p1,p2⟩:=p;obtain⟨q1,q2⟩:=q;simp only at *;subst hpq;subst h2;subst h2';rfl
 let InvA:(Nat→Prop)→Act→World→Prop:=fun L a w=>∃ (E es:List En) (σ1:Sg) (rest:List Stg) (g:Gh),GoodS ops ms m Γ.nt es∧okSt ms m rest (es.map (·.i))=true ∧
  vcSt P tt Γ.nt ops ms fr (fun fr' σ'=>zah P tt Γ.nt ops (Q .normal) (ops.drop m) fr' σ') rest es σ1∧(∀ e ∈ es,¬ L e.i→SemF P Γ ops ms fr es σ1 e) ∧
  (∀ e ∈ E,e ∈ es)∧(∀ j,L j↔∃ e ∈ E,e.i=j)∧(∀ k,L k→∀ b,(ms.getD k 0).testBit b=true→L b)∧Rel Γ (frs E ++ fr) σ1 g a w
 let InvB:(Nat→Prop)→Act→World→Prop:=fun L a w=>∃ j,m≤j∧j≤ops.length∧(∀ b,L b↔b < j)∧wpLs Γ.ro P ops.toArray (Lift Γ Q) (ops.drop j) a w
 have conv:∀ L a w,InvA L a w→(∀ b,b < m→L b)→InvB L a w:=by
  intro L a w ⟨E,es,σ1,rest,g,hg,hb,hk,_,h1,h2,_,h3⟩ hall;cases rest with
  | cons s r=>
   unfold okSt at hb;simp only [Bool.and_eq_true] at hb;obtain⟨k1,k2,_⟩:=zft hb.1.1.1.1;obtain⟨e,he,hi⟩:=(h2 s.w).1 (hall s.w k1);exact absurd (List.mem_map.2 ⟨e,h1 e he,hi⟩) k2
  | nil=>
   refine⟨m,Nat.le_refl _,hlen,fun b=>⟨fun hb=>?_,hall b⟩,?_⟩
   ·obtain⟨e,he,hi⟩:=(h2 b).1 hb;rw [← hi];exact hg.lt e (h1 e he)
   ·have hsub:∀ e ∈ es,e ∈ E:=by
     intro e he;obtain⟨e',he',hi⟩:=(h2 e.i).1 (hall e.i (hg.lt e he));have:=hg.idx e' (h1 e' he') e he hi;subst this;exact he'
    have hf:=hfF es hg;have hr':Rel Γ (frs es ++ fr) σ1 g a w:=h3.subF (zb4 (fun p hp q hq=>hf p ((zq h1) p hp) q ((zq h1) q hq)) (fun p=>⟨zq hsub p,zq h1 p⟩));exact zcc htt hLd (fun _ _ h=>h) (ops.drop m) _ _ hk g a w hr'
 have look:∀ (L:Nat→Prop) (E es:List En) (i:Nat) (o:Oper),GoodS ops ms m Γ.nt es→(∀ e ∈ E,e ∈ es)→(∀ j,L j↔∃ e ∈ E,e.i=j)→(∀ k,L k→∀ b,(ms.getD k 0).testBit b=true→L b)→¬ L i→i < m→ops[i]?=some o →
   (∀ b,(ms.getD i 0).testBit b=true→L b)→Sup (selF (frs (zaK (ms.getD i 0) es) ++ fr) (looks ops o)) (frs E ++ fr):=by
  intro L E es i o hg h1 h2 hcl hL him ho hbits t v hl;have hf:=hfF es hg;obtain⟨ht,hl⟩:=zbF hl;have hpE:∀ e ∈ zaK (ms.getD i 0) es,e ∈ E:=fun e he=>by
   obtain⟨he,hbit⟩:=zap he;obtain⟨e',he',hi'⟩:=(h2 e.i).1 (hbits e.i hbit);have:=hg.idx e' (h1 e' he') e he hi';subst this;exact he'
  rcases zdB hl with hl|⟨hn,hl⟩
  ·exact zas (fun p hp q hq=>hf p (zq h1 p hp) q (zq h1 q hq)) (zq hpE _ hl)
  ·rw [zU]
   ·exact hl
   ·intro p hp hpt;obtain⟨e,he,h1',h2'⟩:=zY.1 hp;obtain⟨oe,hoe,hde,_⟩:=hg.op e (h1 e he);have hLe:L e.i:=(h2 e.i).2 ⟨e,he,rfl⟩;rcases hrd i o (htk him ho) e.i oe t (htk (hg.lt e (h1 e he)) hoe) (by rw [← hde,h1',hpt]) ht with hk|hk|hk
    ·exact hL (hk ▸ hLe)
    ·exact hn p (zY.2 ⟨e,zbt (h1 e he) hk,h1',h2'⟩) hpt
    ·exact hL (hcl e.i hLe i hk)
 refine wpIn_region_any hmix ?_
 refine zbU hm (fun L a w=>InvA L a w∨InvB L a w) ?_ ?_ _ _ _ _ (by simp) ?_ ?_ ?_
 ·-- a step
  intro L a w hinv i hi hL hbits;have hi':i < ops.length:=by simpa using hi
  have stepB:InvB L a w→wpOpIn (FX Γ.ro) 0 P ops.toArray (Lift Γ Q) i (fun a w=>InvA (fun j=>L j∨j=i) a w∨InvB (fun j=>L j∨j=i) a w) a w:=by
   intro ⟨j,hj1,hj2,hj3,hj4⟩;have hji:j≤i:=by
    rcases Nat.lt_or_ge i j with h'|h'
    ·exact absurd ((hj3 i).2 h') hL
    ·exact h'
   have hij:i=j:=by
    rcases Nat.lt_or_ge j i with h'|h'
    ·have:=hm.tail i _ (Array.getElem?_eq_getElem (by simpa using hi')) (by omega) j h';have:=(hj3 j).1 (hbits j this);omega
    ·omega
   subst hij;rw [List.drop_eq_getElem_cons hi'] at hj4;have hoi:ops.toArray[i]?=some ops[i]:=by simp [hi']
   have hnew:∀ a w,wpLs Γ.ro P ops.toArray (Lift Γ Q) (ops.drop (i+1)) a w→InvA (fun j=>L j∨j=i) a w∨InvB (fun j=>L j∨j=i) a w:=by
    intro a w hw;refine .inr ⟨i+1,by omega,by omega,fun b=>?_,hw⟩
    show (L b∨b=i)↔b < i+1
    rw [hj3 b];omega
   unfold wpOpIn;simp only [hoi];unfold wpLs wpLk at hj4;split
   ·rename_i hwant;rw [if_pos hwant] at hj4;exact Oper.wpIn_mono hnew hj4
   ·rename_i hwant;rw [if_neg hwant] at hj4;exact⟨fun _ _=>trivial,hnew _ _ hj4⟩
  rcases hinv with hA|hB
  ·rcases Nat.lt_or_ge i m with him|him
   ·obtain⟨E,es,σ1,rest,g,hg,hb,hk,hsF,h1,h2,hcl,h3⟩:=hA;have hcl':∀ k,(L k∨k=i)→∀ b,(ms.getD k 0).testBit b=true→(L b∨b=i):=by
     intro k hk b hb;rcases hk with hk|rfl
     ·exact .inl (hcl k hk b hb)
     ·exact .inl (hbits b hb)
    have hL2:∀ (en:En),en.i=i→∀ j,(L j∨j=i)↔∃ e ∈ en::E,e.i=j:=by
     intro en hen j;rw [h2 j];constructor
     ·rintro (⟨e,he,h'⟩|rfl)
      ·exact⟨e,List.mem_cons_of_mem _ he,h'⟩
      ·exact⟨en,List.mem_cons_self,hen⟩
     ·rintro⟨e,he,h'⟩;rcases List.mem_cons.1 he with rfl|he
      ·exact .inr (h'.symm.trans hen)
      ·exact .inl ⟨e,he,h'⟩
    by_cases hin:i ∈ es.map (·.i)
    ·-- one that floats
     obtain⟨en,hen,heni⟩:=List.mem_map.1 hin;obtain⟨o,ho,hsem⟩:=hsF en hen (by rw [heni];exact hL);obtain⟨o',ho',hd,hdn⟩:=hg.op en hen;rw [ho] at ho';cases ho';rw [heni] at ho hsem;refine hsem _ (frs E ++ fr) σ1 g a w (look L E es i o hg h1 h2 hcl hL him ho hbits) (fun _ _ h=>h) (fun _=>rfl) (fun p hp=>by cases hp) h3 _ (fun v g' w' hr' hv=>.inl ?_) (by simpa using ho)
     refine⟨en::E,es,σ1,rest,g',hg,hb,hk,fun e he hn=>hsF e he (fun h=>hn (.inl h)),fun e he=>?_,hL2 en heni,hcl',?_⟩
     ·rcases List.mem_cons.1 he with rfl|he
      ·exact hen
      ·exact h1 e he
     ·rw [← zbO,hd];have hr':Rel Γ (frs E ++ fr) σ1 g' a w':=hr';cases hdd:o.dst with
      | none=>exact hr'
      | some d=>exact hr'.put (hdn d hdd) hv
    ·-- the next one that writes
     cases rest with
     | nil=>
      unfold okSt at hb;rw [List.all_eq_true] at hb;exact absurd (zgk.1 (hb i (List.mem_range.2 him))) hin
     | cons s r=>
      obtain⟨sw,mk,fz,re,fl⟩:=s;unfold okSt at hb;simp only [Bool.and_eq_true] at hb;obtain⟨⟨⟨⟨hone,hre⟩,_⟩,hrst⟩,hfl⟩:=hb;obtain⟨k1,k2,k3⟩:=zft hone;have hiw:i=sw:=by
       rw [List.all_eq_true] at hrst;have:=hrst i (List.mem_range.2 him);simp only [Bool.or_eq_true] at this;rcases this with (h'|h')|h'
       ·exact absurd (zgk.1 h') hin
       ·exact Nat.eq_of_beq_eq_true h'
       ·obtain⟨e,he,hi2⟩:=(h2 sw).1 (hbits sw h');exact absurd (List.mem_map.2 ⟨e,h1 e he,hi2⟩) k2
      subst hiw;unfold vcSt at hk;have ho:ops[i]?=some ops[i]:=List.getElem?_eq_getElem hi';rw [ho] at hk;simp only at hk;generalize ops[i]=o at ho hk;have hoi:ops.toArray[i]?=some o:=by simpa using ho
      have hsup:=look L E es i o hg h1 h2 hcl hL him ho hbits;have fin:∀ (x:AV) (σ2:Sg),(∀ t,o.dst=some t→t < Γ.nt)→(FzGo fz σ2 x fun x σ2=>
        vcRe P tt Γ.nt ops ms fr (⟨i,o.dst,x,none⟩::es) σ2 (vcFl P tt Γ.nt ops ms fr σ2 (fun es'=>vcSt P tt Γ.nt ops ms fr (fun fr' σ'=>zah P tt Γ.nt ops (Q .normal) (ops.drop m) fr' σ') r es' σ2) fl (⟨i,o.dst,x,none⟩::es)) re) →
        ∀ g2 a2 w2,Rel Γ (zbl o.dst x (frs E ++ fr)) σ2 g2 a2 w2→InvA (fun j=>L j∨j=i) a2 w2:=by
       intro x1 σ3 hdn hk2 g3 a2 w2 hr3;obtain⟨x,σ2,hk2,hfz⟩:=zqt (P:=P) (Γ:=Γ) hk2;obtain⟨g2,hr2⟩:=hfz _ _ g3 a2 w2 hr3;have hg':=hg.add (x:=x) (ob:=none) ho hone hdn;obtain⟨hk3,hre2⟩:=zlc (Γ:=Γ) htt hLd hg' hk2;obtain⟨es',q1,q2,q3,q4,q5,q6⟩:=zi3 (Γ:=Γ) htt hLd hm hk3 hfl hg';refine⟨⟨i,o.dst,x,none⟩::E,es',σ2,r,g2,q3,q2,q1,fun e he hn=>?_,fun e he=>?_,hL2 _ rfl,hcl',?_⟩
       ·rcases q5 e he with he'|hs
        ·refine q6 e he' (hre2 e he' ?_)
         rcases List.mem_cons.1 he' with rfl|he'
         ·exact absurd (.inr rfl) hn
         ·rw [List.all_eq_true] at hre;have:=hre e.i (List.mem_map.2 ⟨e,he',rfl⟩);rw [Bool.or_eq_true] at this;rcases this with h'|h'
          ·exact absurd (.inl (hbits e.i h')) hn
          ·exact zgk.1 h'
        ·exact hs
       ·rcases List.mem_cons.1 he with rfl|he
        ·exact q4 _ List.mem_cons_self
        ·exact q4 e (List.mem_cons_of_mem _ (h1 e he))
       ·rw [← zbO];exact hr2
      cases mk with
      | true=>
       simp only [cond_true] at hk;obtain⟨id,hid,hk⟩:=zfA hk;obtain⟨gd,x,nob,hk,hnob,hsem⟩:=zdM (Γ:=Γ) htt hLd hk i;obtain⟨hk,hdn⟩:=zdJ hk;refine hsem _ (frs E ++ fr) σ1 g a w hsup (fun _ _ h=>h) (fun _=>rfl) (fun p hp=>?_) h3 _ (fun v g' w' hr' hv=>.inl ?_) hoi
       ·rcases hnob with hn|⟨_,_,b,hb⟩
        ·rw [hn] at hp;cases hp
        ·rw [hb] at hp;cases hp;exact hid
       ·refine fin (zeI gd x) (zdZ nob σ1) hdn hk g' _ w' ?_
        cases hdd:o.dst with
        | none=>exact hr'
        | some d=>exact hr'.put (hdn d hdd) hv
      | false=>
       simp only [cond_false] at hk;generalize hF:selF (frs (zaK (ms.getD i 0) es) ++ fr) (looks ops o)=F at hk hsup;have hr':Rel Γ F σ1 g a w:=h3.subF hsup;let Γ':Cx:=⟨Γ.w0,Γ.K0,Γ.nt,SR σ1 g w,σ1.map (·.1),Γ.ro,Γ.dfs,Γ.bs⟩
       have hr2:Rel Γ' F σ1 g a w:=⟨hr'.hp,hr'.fr,hr'.size,hr'.defers,fun s v hb=>⟨hb,SR.inI hb⟩⟩;have hw:=zaJ (Γ:=Γ') htt hLd (Qx:=Lift Γ Q) (K:=fun a w=>∃ g2 fr2 σ2,Rel Γ' fr2 σ2 g2 a w∧∃ v,fr2=zbl o.dst v F∧FzGo fz σ2 v fun v σ2=>
        vcRe P tt Γ.nt ops ms fr (⟨i,o.dst,v,none⟩::es) σ2 (vcFl P tt Γ.nt ops ms fr σ2 (fun es'=>vcSt P tt Γ.nt ops ms fr (fun fr' σ'=>zah P tt Γ.nt ops (Q .normal) (ops.drop m) fr' σ') r es' σ2) fl (⟨i,o.dst,v,none⟩::es)) re)
        (fun fr2 σ2 g2 a2 w2 hr2 hk2=>⟨g2,fr2,σ2,hr2,hk2.ex⟩) [o] _ _ hk g a w hr2
       have hw2:wpOpIn (FX Γ.ro) 0 P ops.toArray (Lift Γ Q) i (fun a w=>∃ g2 fr2 σ2,Rel Γ' fr2 σ2 g2 a w∧∃ v,fr2=zbl o.dst v F∧FzGo fz σ2 v fun v σ2=>
        vcRe P tt Γ.nt ops ms fr (⟨i,o.dst,v,none⟩::es) σ2 (vcFl P tt Γ.nt ops ms fr σ2 (fun es'=>vcSt P tt Γ.nt ops ms fr (fun fr' σ'=>zah P tt Γ.nt ops (Q .normal) (ops.drop m) fr' σ') r es' σ2) fl (⟨i,o.dst,v,none⟩::es)) re) a w:=by
        unfold wpOpIn;simp only [hoi];unfold wpLk at hw;split
        ·rename_i hwant;rw [if_pos hwant] at hw;exact hw
        ·rename_i hwant;rw [if_neg hwant] at hw;exact⟨fun _ _=>trivial,hw⟩
       refine wpOpIn_mono ?_ (zgC hoi hw2)
       rintro a2 w2 ⟨⟨g2,fr2,σ2,hr2,v,rfl,hk2⟩,v',htm⟩;have hdn:∀ t,o.dst=some t→t < Γ.nt:=fun t hd=>(hr2.fr t v (by rw [hd];show lk t ((t,v)::F)=_;rw [zr,if_pos rfl])).1
       refine .inl (fin v σ2 hdn hk2 g2 a2 w2 ?_)
       have keep:∀ s u,SR σ1 g w s u→SR σ2 g2 w2 s u:=fun s u hsu=>(hr2.base s u hsu).1
       refine⟨hr2.hp,fun t x ht=>?_,hr2.size,hr2.defers,fun s u hb=>⟨keep s u (h3.base s u hb).1,(h3.base s u hb).2⟩⟩
       by_cases hdt:o.dst=some t
       ·have:lk t (zbl o.dst v F)=some x:=by
         rw [hdt] at ht ⊢;have ht:lk t ((t,v)::(frs E ++ fr))=some x:=ht;show lk t ((t,v)::_)=some x
         rw [zr,if_pos rfl] at ht ⊢;exact ht
        exact hr2.fr t x this
       ·have ht:lk t (frs E ++ fr)=some x:=by
         cases hd:o.dst with
         | none=>rw [hd] at ht;exact ht
         | some d=>
          rw [hd] at ht;have ht:lk t ((d,v)::(frs E ++ fr))=some x:=ht;rw [zr,if_neg (fun e=>hdt (by rw [hd,e]))] at ht;exact ht
        have h4:=h3.fr t x ht;refine⟨h4.1,?_⟩
        have e:a2.tmps.getD t undef=a.tmps.getD t undef:=by
         rw [htm];cases hd:o.dst with
         | none=>rfl
         | some d=>
          have:¬ d=t:=fun e=>hdt (by rw [hd,e])
          simp [Act.put,this]
        rw [e];exact h4.2.keep keep
   ·have hall:∀ b,b < i→L b:=fun b hb=>hbits b (hm.tail i _ (Array.getElem?_eq_getElem (by simpa using hi')) him b hb)
    exact stepB (conv L a w hA fun b hb=>hall b (by omega))
  ·exact stepB hB
 ·-- the end
  intro L a w hinv hall;have hB:InvB L a w:=by
   rcases hinv with hA|hB
   ·exact conv L a w hA fun b hb=>hall b (by simp;omega)
   ·exact hB
  obtain⟨j,hj1,hj2,hj3,hj4⟩:=hB;have:j=ops.length:=by
   rcases Nat.lt_or_ge j ops.length with h'|h'
   ·have:=(hj3 j).1 (hall j (by simpa using h'));omega
   ·omega
  subst this;rw [List.drop_length] at hj4;exact hj4
 ·intro i hi;have:(Array.replicate ops.length false)[i]?.getD false=false:=by
   rw [Array.getElem?_replicate];split <;> rfl
  simp [this] at hi
 ·unfold unl;refine Nat.le_trans (List.length_filter_le _ _) (by simp)
 ·left
  refine⟨[],es0,σ,sts,g,hg0,hb0,hk0,fun e he _=>hs0 e he,fun e he=>by simp at he,fun j=>?_,fun k hk=>?_,hr.drawn _⟩
  rotate_left
  ·have:(Array.replicate ops.length false)[k]?.getD false=false:=by
    rw [Array.getElem?_replicate];split <;> rfl
   simp [this] at hk
  have:(Array.replicate ops.length false)[j]?.getD false=false:=by
   rw [Array.getElem?_replicate];split <;> rfl
  simp [this]
end
end Go.QL
namespace Go.QL
open Go Go.RowKit
def allN (g:Nat→Oper→Prop):List Oper→Nat→Prop
 | [],_=>True
 | o::r,i=>g i o∧allN g r (i+1)
theorem zhJ {g:Nat→Oper→Prop}:∀ {l:List Oper} {k:Nat},allN g l k→∀ (j:Nat) (o:Oper),l[j]?=some o→g (k+j) o
 | [],_,_,j,o,h=>by simp at h
 | x::r,k,h,0,o,hj=>by cases hj;exact h.1
 | x::r,k,h,j+1,o,hj=>by
  have:=zhJ h.2 j o hj;rwa [show k+1+j=k+(j+1) by omega] at this
def zi4 (P:Program) (tt:TT) (nt:Nat) (all:List Oper) (ms:List Nat) (full:Nat) (k:Fr→Sg→Prop):Nat→Nat→Fr→Sg→Prop
 | 0,done,fr,σ=>bif Nat.beq done full then k fr σ else False
 | f+1,done,fr,σ=>bif Nat.beq done full then k fr σ else
  allN (fun i o=>bif Nat.beq (Nat.land done (Nat.pow 2 i)) 0 && Nat.beq (Nat.land (ms.getD i 0) done) (ms.getD i 0) then
   zah P tt nt all (fun fr' σ'=>zi4 P tt nt all ms full k f (Nat.lor done (Nat.pow 2 i)) fr' σ') [o] fr σ else True) all 0
section
variable {P:Program} {Γ:Cx} {fr:Fr} {σ:Sg} {Q:Exit→Fr→Sg→Prop}
theorem zkf {d i:Nat} (h:d.testBit i=false):Nat.land d (Nat.pow 2 i)=0:=by
 show d &&& 2 ^ i=0
 apply Nat.eq_of_testBit_eq;intro j;rw [Nat.testBit_and,Nat.zero_testBit,Nat.testBit_two_pow];by_cases e:i=j
 ·subst e;simp [h]
 ·simp [e]
theorem zke {m d:Nat} (h:∀ b,m.testBit b=true→d.testBit b=true):Nat.land m d=m:=by
 show m &&& d=m
 apply Nat.eq_of_testBit_eq;intro j;rw [Nat.testBit_and];cases hm:m.testBit j with
 | false=>rfl
 | true=>rw [h j hm];rfl
theorem zrK {tt:TT} (htt:tt.ok P) (hmix:P.follows .mixedOrders=true) (ms:List Nat) {id:Nat} {ops:List Oper} (hms:zbe ms ops.length ops 0=true) (fr':Fr) (σ':Sg)
  (h:zi4 P tt Γ.nt ops ms (Nat.sub (Nat.pow 2 ops.length) 1) (fun fr1 σ1=>Imp Γ fr1 σ1 fr' σ') ops.length 0 fr σ) (hk:Q .normal fr' σ'):AW P Γ (.region id ops.toArray true) Q fr σ:=by
 refine AW.mk fun hLd g a w hr=>?_
 have hm:=MaskOK.of hms;generalize hfull:Nat.sub (Nat.pow 2 ops.length) 1=full at h;have hfb:∀ j,full.testBit j=decide (j < ops.length):=by
  intro j;rw [← hfull];exact Nat.testBit_two_pow_sub_one ops.length j
 let Inv:(Nat→Prop)→Act→World→Prop:=fun L a w=>∃ (fr1:Fr) (σ1:Sg) (g:Gh) (f done:Nat),Rel Γ fr1 σ1 g a w∧zi4 P tt Γ.nt ops ms full (fun fr1 σ1=>Imp Γ fr1 σ1 fr' σ') f done fr1 σ1∧(∀ j,L j↔done.testBit j=true)∧(∀ j,L j→j < ops.length)
 refine wpIn_region_any hmix ?_
 refine zbU hm Inv ?_ ?_ _ _ _ _ (by simp) ?_ ?_ ?_
 ·intro L a w ⟨fr1,σ1,g1,f,done,hr1,hv,hL,hlt⟩ i hi hLi hbits;have hi':i < ops.length:=by simpa using hi
  have hdi:done.testBit i=false:=by
   cases hb:done.testBit i with
   | false=>rfl
   | true=>exact absurd ((hL i).2 hb) hLi
  have hne:Nat.beq done full=false:=by
   cases hb:Nat.beq done full with
   | false=>rfl
   | true=>
    have:=Nat.eq_of_beq_eq_true hb;rw [this,hfb] at hdi;simp [hi'] at hdi
  cases f with
  | zero=>unfold zi4 at hv;rw [hne] at hv;exact hv.elim
  | succ f=>
   unfold zi4 at hv;rw [hne] at hv;simp only [cond_false] at hv;have hoi:ops.toArray[i]?=some ops[i]:=by simp [hi']
   have h1:=zhJ hv i ops[i] (List.getElem?_eq_getElem hi');rw [Nat.zero_add,zkf hdi,zke (fun b hb=>(hL b).1 (hbits b hb))] at h1;have e1:Nat.beq 0 0=true:=rfl;have e2:Nat.beq (ms.getD i 0) (ms.getD i 0)=true:=by rw [Nat.beq_eq]
   rw [e1,e2] at h1;simp only [Bool.and_self,cond_true] at h1;have h2:=zaJ (Γ:=Γ) htt hLd (Qx:=Lift Γ Q) (K:=Inv (fun j=>L j∨j=i)) (fun fr2 σ2 g2 a2 w2 hr2 hv2=>by
    refine⟨fr2,σ2,g2,f,_,hr2,hv2,fun j=>?_,fun j hj=>?_⟩
    ·show (L j∨j=i)↔(done ||| 2 ^ i).testBit j=true
     rw [Nat.testBit_or,Nat.testBit_two_pow,hL j];simp only [Bool.or_eq_true,decide_eq_true_eq];exact⟨fun h=>h.elim .inl (fun e=>.inr e.symm),fun h=>h.elim .inl (fun e=>.inr e.symm)⟩
    ·rcases hj with hj|rfl
     ·exact hlt j hj
     ·exact hi') [ops[i]] fr1 σ1 h1 g1 a w hr1
   unfold wpOpIn;simp only [hoi];unfold wpLk at h2;split
   ·rename_i hwant;rw [if_pos hwant] at h2;exact Oper.wpIn_mono (fun a w h=>h) h2
   ·rename_i hwant;rw [if_neg hwant] at h2;exact⟨fun _ _=>trivial,h2⟩
 ·intro L a w ⟨fr1,σ1,g1,f,done,hr1,hv,hL,hlt⟩ hall;have hd:done=full:=by
   apply Nat.eq_of_testBit_eq;intro j;rw [hfb];by_cases hj:j < ops.length
   ·rw [(hL j).1 (hall j (by simpa using hj))];simp [hj]
   ·cases hb:done.testBit j with
    | true=>exact absurd (hlt j ((hL j).2 hb)) hj
    | false=>simp [hj]
  have hb:Nat.beq done full=true:=by rw [hd,Nat.beq_eq]
  have hi:Imp Γ fr1 σ1 fr' σ':=by
   cases f with
   | zero=>unfold zi4 at hv;rw [hb] at hv;exact hv
   | succ f=>unfold zi4 at hv;rw [hb] at hv;exact hv
  obtain⟨g',hr'⟩:=hi g1 a w hr1;exact⟨fr',σ',g',hr',hk⟩
 ·intro i hi;have:(Array.replicate ops.length false)[i]?.getD false=false:=by
   rw [Array.getElem?_replicate];split <;> rfl
  simp [this] at hi
 ·unfold unl;refine Nat.le_trans (List.length_filter_le _ _) (by simp)
 ·refine⟨fr,σ,g,ops.length,0,hr.drawn _,h,fun j=>?_,fun j hj=>?_⟩
  ·have:(Array.replicate ops.length false)[j]?.getD false=false:=by
    rw [Array.getElem?_replicate];split <;> rfl
   simp [this]
  ·have:(Array.replicate ops.length false)[j]?.getD false=false:=by
    rw [Array.getElem?_replicate];split <;> rfl
   simp [this] at hj
end
end Go.QL
namespace Go.QL
open Go Go.RowKit
def PCall (P:Program) (f:FuncId) (args:List AV) (σ:Sg) (R:AV→Sg→Prop) (Rp:Value→Sg→Prop):Prop:=
 Good P f∧∀ (w0:World) (K0:Bs) (g:Gh) (w:World) (vs:Array Value),Laid P K0.K w0→Hp w0 K0 σ g w→vs.size=args.length →
  (∀ (i:Nat) (x:AV) (v:Value),args[i]?=some x→vs[i]?=some v→VR2 σ g w x v) →
  Calls P f vs w (fun e w'=>(∃ v g' σ' r,e=.returned v∧Did w0 K0 σ g w σ' g' w'∧VR2 σ' g' w' r v∧R r σ') ∨
   ∃ v g' σ',e=.panicked [{ v:=v,recovered:=false }]∧Did w0 K0 σ g w σ' g' w'∧Rp v σ')
theorem ACall.toP {P:Program} {f:FuncId} {args:List AV} {σ:Sg} {R:AV→Sg→Prop} (h:ACall P f args σ R):PCall P f args σ R fun _ _=>False:=
 ⟨h.1,fun w0 K0 g w vs hL hp hs hv=>(h.2 w0 K0 g w vs hL hp hs hv).mono fun e w' h=>.inl h⟩
theorem PCall.toA {P:Program} {f:FuncId} {args:List AV} {σ:Sg} {R:AV→Sg→Prop} (h:PCall P f args σ R fun _ _=>False):ACall P f args σ R:=
 ⟨h.1,fun w0 K0 g w vs hL hp hs hv=>(h.2 w0 K0 g w vs hL hp hs hv).mono fun e w' h=>h.elim id fun⟨_,_,_,_,_,h⟩=>h.elim⟩
theorem PCall.mono {P:Program} {f:FuncId} {args:List AV} {σ:Sg} {R R':AV→Sg→Prop} {Rp Rp':Value→Sg→Prop} (h:PCall P f args σ R Rp) (hr:∀ r σ',R r σ'→R' r σ') (hp:∀ v σ',Rp v σ'→Rp' v σ'):PCall P f args σ R' Rp':=
 ⟨h.1,fun w0 K0 g w vs hL hp' hs hv=>(h.2 w0 K0 g w vs hL hp' hs hv).mono fun e w' h=>h.elim (fun⟨v,g',σ',r,a,b,c,d⟩=>.inl ⟨v,g',σ',r,a,b,c,hr _ _ d⟩) fun⟨v,g',σ',a,b,c⟩=>.inr ⟨v,g',σ',a,b,hp _ _ c⟩⟩
def zhH (P:Program) (T:TypeId):Prop:=∃ d,P.underlying T=some d∧(match d with|.interface _=>false|_=>true)=true
def zp2 (op:BinOp) (u:AV) (k:AV→Prop):Prop:=
 match op,u with
 | .eql,.x (.f _ _ _)=>k (bv false)
 | .neq,.x (.f _ _ _)=>k (bv true)
 | .eql,.x (.d (.v .nilFunc))=>k (bv true)
 | .neq,.x (.d (.v .nilFunc))=>k (bv false)
 | _,_=>False
def fnF:AV→AV
 | .x (.d (.v (.func (.func fid) ⟨[]⟩ ⟨[]⟩)))=>.x (.f (.func fid) [] [])
 | x=>x
theorem fnF_ok {σ:Sg} {g:Gh} {w:World} {x:AV} {v:Value} (h:VR σ g w x v):VR σ g w (fnF x) v:=by
 unfold fnF;split
 ·obtain rfl:=zm (show VR2 σ g w _ v from h);exact .f _ [] [] _ _ rfl rfl (fun i s v h=>by simp at h) (fun i s v h=>by simp at h)
 ·exact h
def opP (P:Program) (tt:TT) (nt:Nat) (all:List Oper) (kp:Value→Fr→Sg→Prop) (o:Oper) (fr:Fr) (σ:Sg) (k:Fr→Sg→Prop):Prop:=
 match o.guard,o.op with
 | none,.panic x=>ev1 fr none x fun u=>(match u with|.x (.d (.v (.iface T v)))=>kp (.iface T v) fr σ|_=>False)
 | none,.makeInterface T x=>zhH P T∧ev1 fr none x fun u=>(match u with|.x (.d (.v v))=>zba nt o.dst none (.x (.d (.v (.iface T v)))) fr fun fr'=>k fr' σ|_=>False)
 | none,.typeAssert x _ T false=>zhH P T∧ev1 fr none x fun u=>(match u with|.x (.d (.v (.iface S v)))=>S=T∧v.oneCell'=true∧zba nt o.dst none (.x (.d (.v v))) fr fun fr'=>k fr' σ|_=>False)
 | none,.typeAssert x _ T true=>zhH P T∧ev1 fr none x fun u=>(match u with
   | .x (.d (.v (.iface S v)))=>(S=T→v.oneCell'=true∧zba nt o.dst none (.t [.x (.d (.v v)),bv true]) fr fun fr'=>k fr' σ) ∧
     (S≠T→(match tt T with|some ti=>(match zk7 ti with|some z=>zba nt o.dst none (.t [z,bv false]) fr fun fr'=>k fr' σ|none=>False)|none=>False))
   | _=>False)
 | none,.binOp op xT x (.const .nilIface) _=>(∃ ms,P.underlying xT=some (.interface ms))∧ev1 fr none x fun u=>zgg op u fun v=>zba nt o.dst none v fr fun fr'=>k fr' σ
 | none,.binOp op xT x (.const .nilFunc) _=>(∃ ps rs v,P.underlying xT=some (.func ps rs v))∧ev1 fr none x fun u=>zp2 op u fun v=>zba nt o.dst none v fr fun fr'=>k fr' σ
 | none,.call ⟨.value f,args,_⟩=>ev1 fr none f fun fv=>evL fr none args.toList fun vs=>
   (match fnF fv with
   | .x (.f (.func fid) first captured)=>∃ R Rp,PCall P fid (first.map .x ++ vs ++ captured.map .x) σ R Rp∧(∀ rv σ',R rv σ'→zba nt o.dst none rv fr fun fr'=>k fr' σ')∧∀ v σ',Rp v σ'→kp v fr σ'
   | _=>False)
 | _,_=>zah P tt nt all k [o] fr σ
def zhO (P:Program) (tt:TT) (nt:Nat) (all:List Oper) (kp:Value→Fr→Sg→Prop) (k:Fr→Sg→Prop):List Oper→Fr→Sg→Prop
 | [],fr,σ=>k fr σ
 | o::r,fr,σ=>opP P tt nt all kp o fr σ (zhO P tt nt all kp k r)
section
variable {P:Program} {Γ:Cx} {fr:Fr} {σ:Sg} {Q:Exit→Fr→Sg→Prop}
theorem znq {op:BinOp} {xT:TypeId} {ps rs:Array TypeId} {va:Bool} (hu:P.underlying xT=some (.func ps rs va)) {X:Operand} {u:AV} {k:AV→Prop} (h:zp2 op u k) {g:Gh} {w:World} {v:Value} (hv:VR2 σ g w u v) :
  ∃ b,k (bv b)∧(do eqGuard op xT X (.const .nilFunc) v .nilFunc;binOp op xT v .nilFunc:Sem Value).run P w=.ok (.bool b) w:=by
 have hun:=run_underlying hu w;have e1:∀ f a b,(Op.equal xT (.func f a b) .nilFunc).run P w=.ok false w:=fun f a b=>by
  show (Op.equalIn (Op.maxDepth - 1+1) xT (.func f a b) .nilFunc).run P w=_
  rw [Op.equalIn,Sem.run_bind,hun];rfl
 have e2:(Op.equal xT .nilFunc .nilFunc).run P w=.ok true w:=by
  show (Op.equalIn (Op.maxDepth - 1+1) xT .nilFunc .nilFunc).run P w=_
  rw [Op.equalIn,Sem.run_bind,hun];rfl
 unfold zp2 at h;split at h
 ·cases hv with
  | f _ _ _ v1 v2 s1 s2 r1 r2=>
   refine⟨_,h,?_⟩
   show ((do pure (.bool (← Op.equal xT _ .nilFunc)):Sem Value)).run P w=_
   rw [Sem.run_bind,e1];rfl
 ·cases hv with
  | f _ _ _ v1 v2 s1 s2 r1 r2=>
   refine⟨_,h,?_⟩
   show ((do pure (.bool (!(← Op.equal xT _ .nilFunc))):Sem Value)).run P w=_
   rw [Sem.run_bind,e1];rfl
 ·have:=zm hv;subst this;refine⟨_,h,?_⟩
  show ((do pure (.bool (← Op.equal xT .nilFunc .nilFunc)):Sem Value)).run P w=_
  rw [Sem.run_bind,e2];rfl
 ·have:=zm hv;subst this;refine⟨_,h,?_⟩
  show ((do pure (.bool (!(← Op.equal xT .nilFunc .nilFunc))):Sem Value)).run P w=_
  rw [Sem.run_bind,e2];rfl
 ·exact h.elim
theorem zlT {tt:TT} (htt:tt.ok P) (hL:Laid P Γ.K0.K Γ.w0) {all:List Oper} {E:Exit→Act→World→Prop} {kp:Value→Fr→Sg→Prop} {k:Fr→Sg→Prop} {K:Act→World→Prop}
  (hE:∀ v fr σ g a w,Rel Γ fr σ g a w→kp v fr σ→E (.panic [{ v:=v,recovered:=false }]) a w) (rest:List Oper) (hk:∀ fr σ g a w,Rel Γ fr σ g a w→k fr σ→wpLk Γ.ro P all.toArray E K rest a w)
  (o:Oper) (fr:Fr) (σ:Sg) (h:opP P tt Γ.nt all kp o fr σ k) (g:Gh) (a:Act) (w:World) (hr:Rel Γ fr σ g a w):wpLk Γ.ro P all.toArray E K (o::rest) a w:=by
 have easy:zah P tt Γ.nt all k [o] fr σ→wpLk Γ.ro P all.toArray E K (o::rest) a w:=fun h=>by
  have h2:=zaJ (Γ:=Γ) htt hL (Qx:=E) (K:=wpLk Γ.ro P all.toArray E K rest) hk [o] fr σ h g a w hr;unfold wpLk at h2 ⊢;exact h2
 unfold opP at h;have val:o.guard=none→∀ (x:AV) (v:Value),(execOp a.eval o).run P w=.ok (.value v) w→(∀ c,¬ o.op=.defer c)→VR2 σ g w x v→zba Γ.nt o.dst none x fr (fun fr'=>k fr' σ)→wpLk Γ.ro P all.toArray E K (o::rest) a w:=by
  intro hg x v hrun hnc hv hput;unfold wpLk;rw [if_pos (show Region.wanted o _=true by simp [Region.wanted,hg])];refine⟨fun _ _=>trivial,?_⟩
  rw [Oper.semAt_eq _ _ o hnc,hrun];obtain⟨fr',hk',hr''⟩:=zcf hr hput (v:=v) (zZ hv);exact hk _ _ _ _ _ hr'' hk'
 split at h
 ·rename_i x hg ho;obtain⟨u,hk,hu⟩:=zK h;split at hk
  ·rename_i T v;have hv:=zm (hu (.inl rfl) Γ σ g a w hr);unfold wpLk;rw [if_pos (show Region.wanted o _=true by simp [Region.wanted,hg])];refine⟨fun _ _=>trivial,?_⟩
   rw [Oper.semAt_eq _ _ o (by intro c hc;rw [ho] at hc;cases hc)];have hrun:(execOp a.eval o).run P w=.halt (.panic (.iface T v)) w:=by
    simp only [execOp,ho];rw [hv];rfl
   rw [hrun];exact hE _ _ _ _ _ _ hr hk
  ·exact hk.elim
 ·rename_i T x hg ho;obtain⟨⟨d,hd,hdc⟩,h⟩:=h;obtain⟨u,hk,hu⟩:=zK h;split at hk
  ·rename_i v;have hv:=zm (hu (.inl rfl) Γ σ g a w hr);refine val hg _ (.iface T v) ?_ (by intro c hc;rw [ho] at hc;cases hc) (zL _ rfl) hk
   simp only [execOp,ho];rw [hv];simp only [Instr.makeInterface,Sem.run_bind,run_underlying hd,Result.andThen_ok];cases d <;> first|(cases hdc;done)|rfl
  ·exact hk.elim
 ·rename_i x xT T hg ho;obtain⟨⟨d,hd,hdc⟩,h⟩:=h;obtain⟨u,hk,hu⟩:=zK h;split at hk
  ·rename_i S v;obtain⟨rfl,h1,hk⟩:=hk;have hv:=zm (hu (.inl rfl) Γ σ g a w hr);refine val hg _ v ?_ (by intro c hc;rw [ho] at hc;cases hc) (zL _ h1) hk
   simp only [execOp,ho];rw [hv];simp only [Instr.typeAssert,Sem.run_bind,run_underlying hd,Result.andThen_ok];cases d <;> first|(cases hdc;done)|simp
  ·exact hk.elim
 ·rename_i x xT T hg ho;obtain⟨⟨d,hd,hdc⟩,h⟩:=h;obtain⟨u,hk,hu⟩:=zK h;split at hk
  ·rename_i S v;have hv:=zm (hu (.inl rfl) Γ σ g a w hr);by_cases e:S=T
   ·obtain⟨h1,h2⟩:=hk.1 e;refine val hg _ (.tuple #[v,.bool true]) ?_ (by intro c hc;rw [ho] at hc;cases hc) ?_ h2
    ·simp only [execOp,ho];rw [hv];simp only [Instr.typeAssert,Sem.run_bind,run_underlying hd,Result.andThen_ok];cases d <;> first|(cases hdc;done)|simp [e]
    ·refine⟨#[v,.bool true],rfl,rfl,fun j x u hx hu=>?_⟩
     match j with
     | 0=>cases hx;cases hu;exact zL (σ:=σ) (g:=g) (w:=w) _ h1
     | 1=>cases hx;cases hu;exact zL (σ:=σ) (g:=g) (w:=w) _ rfl
     | j+2=>cases hx
   ·have h2:=hk.2 e;split at h2
    ·rename_i ti hti;split at h2
     ·rename_i z hz;obtain⟨_,zv,hrun,hzr⟩:=zhM (P:=P) htt hti hz w;refine val hg _ (.tuple #[zv,.bool false]) ?_ (by intro c hc;rw [ho] at hc;cases hc) ?_ h2
      ·simp only [execOp,ho];rw [hv];simp only [Instr.typeAssert,Sem.run_bind,run_underlying hd,Result.andThen_ok];cases d <;> first|(cases hdc;done)|(simp [e,Sem.run_bind,hrun];done)
      ·refine⟨#[zv,.bool false],rfl,rfl,fun j x u hx hu=>?_⟩
       match j with
       | 0=>cases hx;cases hu;exact hzr σ g w
       | 1=>cases hx;cases hu;exact zL (σ:=σ) (g:=g) (w:=w) _ rfl
       | j+2=>cases hx
     ·exact h2.elim
    ·exact h2.elim
  ·exact hk.elim
 ·rename_i op xT x yT hg ho;obtain⟨⟨ms,hms⟩,h⟩:=h;obtain⟨u,hk,hu⟩:=zK h;obtain⟨b,hb,hrun⟩:=zj1 (X:=x) hms hk (hu (.inl rfl) Γ σ g a w hr);refine val hg _ (.bool b) ?_ (by intro c hc;rw [ho] at hc;cases hc) (zL _ rfl) hb
  simp only [execOp,ho];show ((do eqGuard op xT x (.const .nilIface) (a.eval x) .nilIface;binOp op xT (a.eval x) .nilIface) >>= fun x=>pure (Next.value x):Sem Next).run P w=_
  rw [Sem.run_bind,hrun];rfl
 ·rename_i op xT x yT hg ho;obtain⟨⟨ps,rs,va,hms⟩,h⟩:=h;obtain⟨u,hk,hu⟩:=zK h;obtain⟨b,hb,hrun⟩:=znq (X:=x) hms hk (hu (.inl rfl) Γ σ g a w hr);refine val hg _ (.bool b) ?_ (by intro c hc;rw [ho] at hc;cases hc) (zL _ rfl) hb
  simp only [execOp,ho];show ((do eqGuard op xT x (.const .nilFunc) (a.eval x) .nilFunc;binOp op xT (a.eval x) .nilFunc) >>= fun x=>pure (Next.value x):Sem Next).run P w=_
  rw [Sem.run_bind,hrun];rfl
 ·rename_i f args ts hg ho;obtain⟨fv,h2,hfv⟩:=zK h;clear h;obtain⟨vs,h,hl,hvs⟩:=zbE h2;clear h2;split at h
  ·rename_i fid first captured hfF
   obtain⟨R,Rp,hac,hcont,hpan⟩:=h;unfold wpLk;rw [if_pos (show Region.wanted o _=true by simp [Region.wanted,hg])];refine⟨fun _ _=>trivial,?_⟩
   rw [Oper.semAt_eq _ _ o (by intro c hc;rw [ho] at hc;cases hc)];have hsr:SR σ g w (.f (.func fid) first captured) (a.eval f):=by
    have h0:=fnF_ok (zZ (hfv (.inl rfl) Γ σ g a w hr));rw [hfF] at h0;exact h0
   generalize hae:a.eval f=fval at hsr;cases hsr with
   | f _ _ _ v1 v2 s1 s2 r1 r2=>
    have hvl:vs.length=(args.map a.eval).size:=by simpa using hl
    have hargs:=zde (us:=args.map a.eval) s1 s2 r1 r2 hvl (fun j x v hx hv=>by
     rw [Array.getElem?_map] at hv;cases ha:args[j]? with
     | none=>rw [ha] at hv;cases hv
     | some y=>rw [ha] at hv;cases hv;exact hvs (.inl rfl) Γ σ g a w hr _ x y hx (by simpa using ha))
    have hsize:(v1 ++ args.map a.eval ++ v2).size=(first.map AV.x ++ vs ++ captured.map AV.x).length:=by
     simp at hvl;simp [s1,s2,hvl]
    rw [zdl ho hae hac.1 w];refine⟨zfc,zbi.2 ?_⟩
    refine (hac.2 Γ.w0 Γ.K0 g w _ hL hr.hp hsize hargs).mono fun e w' h=>?_
    rcases h with ⟨v,g',σ',r,he,hd,hv,hR⟩|⟨v,g',σ',he,hd,hR⟩
    ·subst he;have hr':=hr.did hd;obtain⟨fr',hk',hr''⟩:=zcf hr' (hcont r σ' hR) (v:=v) (zZ hv);exact hk _ _ _ _ _ hr'' hk'
    ·subst he;exact hE _ _ _ _ _ _ (hr.did hd) (hpan v σ' hR)
  ·exact h.elim
 ·exact easy h
theorem zgF {tt:TT} (htt:tt.ok P) (hL:Laid P Γ.K0.K Γ.w0) {all:List Oper} {E:Exit→Act→World→Prop} {kp:Value→Fr→Sg→Prop} {k:Fr→Sg→Prop} {K:Act→World→Prop}
  (hE:∀ v fr σ g a w,Rel Γ fr σ g a w→kp v fr σ→E (.panic [{ v:=v,recovered:=false }]) a w) (hk:∀ fr σ g a w,Rel Γ fr σ g a w→k fr σ→K a w) :
  ∀ (rest:List Oper) (fr:Fr) (σ:Sg),zhO P tt Γ.nt all kp k rest fr σ→∀ (g:Gh) (a:Act) (w:World),Rel Γ fr σ g a w→wpLk Γ.ro P all.toArray E K rest a w
 | [],fr,σ,h,g,a,w,hr=>by unfold zhO at h;exact hk _ _ _ _ _ hr h
 | o::rest,fr,σ,h,g,a,w,hr=>by
  unfold zhO at h;exact zlT htt hL hE rest (fun fr σ g a w hr hh=>zgF htt hL hE hk rest fr σ hh g a w hr) o fr σ h g a w hr
theorem zH {tt:TT} (htt:tt.ok P) {id:Nat} {ops:List Oper} (h:zhO P tt Γ.nt ops (fun v fr σ=>Q (.panic [{ v:=v,recovered:=false }]) fr σ) (Q .normal) ops fr σ):AW P Γ (.region id ops.toArray false) Q fr σ:=
 AW.mk fun hL g a w hr=>zbT (zgF htt hL (E:=Lift Γ Q) (fun _ _ _ _ _ _ hr hq=>⟨_,_,_,hr,hq⟩) (fun _ _ _ _ _ hr hq=>⟨_,_,_,hr,hq⟩) ops fr σ h g a w hr)
def zfR (P:Program) (tt:TT) (nt:Nat) (all:List Oper) (kp:Value→Fr→Sg→Prop) (ms:List Nat) (full:Nat) (k:Fr→Sg→Prop):Nat→Nat→Fr→Sg→Prop
 | 0,done,fr,σ=>bif Nat.beq done full then k fr σ else False
 | f+1,done,fr,σ=>bif Nat.beq done full then k fr σ else
  allN (fun i o=>bif Nat.beq (Nat.land done (Nat.pow 2 i)) 0 && Nat.beq (Nat.land (ms.getD i 0) done) (ms.getD i 0) then
   opP P tt nt all kp o fr σ (fun fr' σ'=>zfR P tt nt all kp ms full k f (Nat.lor done (Nat.pow 2 i)) fr' σ') else True) all 0
theorem zoL {tt:TT} (htt:tt.ok P) (hmix:P.follows .mixedOrders=true) (ms:List Nat) {id:Nat} {ops:List Oper} (hms:zbe ms ops.length ops 0=true) (fr':Fr) (σ':Sg)
  (h:zfR P tt Γ.nt ops (fun v fr σ=>Q (.panic [{ v:=v,recovered:=false }]) fr σ) ms (Nat.sub (Nat.pow 2 ops.length) 1) (fun fr1 σ1=>Imp Γ fr1 σ1 fr' σ') ops.length 0 fr σ) (hk:Q .normal fr' σ'):AW P Γ (.region id ops.toArray true) Q fr σ:=by
 refine AW.mk fun hLd g a w hr=>?_
 have hm:=MaskOK.of hms;generalize hfull:Nat.sub (Nat.pow 2 ops.length) 1=full at h;have hfb:∀ j,full.testBit j=decide (j < ops.length):=by
  intro j;rw [← hfull];exact Nat.testBit_two_pow_sub_one ops.length j
 let Inv:(Nat→Prop)→Act→World→Prop:=fun L a w=>∃ (fr1:Fr) (σ1:Sg) (g:Gh) (f done:Nat),Rel Γ fr1 σ1 g a w∧zfR P tt Γ.nt ops (fun v fr σ=>Q (.panic [{ v:=v,recovered:=false }]) fr σ) ms full (fun fr1 σ1=>Imp Γ fr1 σ1 fr' σ') f done fr1 σ1∧(∀ j,L j↔done.testBit j=true)∧(∀ j,L j→j < ops.length)
 refine wpIn_region_any hmix ?_
 refine zbU hm Inv ?_ ?_ _ _ _ _ (by simp) ?_ ?_ ?_
 ·intro L a w ⟨fr1,σ1,g1,f,done,hr1,hv,hL,hlt⟩ i hi hLi hbits;have hi':i < ops.length:=by simpa using hi
  have hdi:done.testBit i=false:=by
   cases hb:done.testBit i with
   | false=>rfl
   | true=>exact absurd ((hL i).2 hb) hLi
  have hne:Nat.beq done full=false:=by
   cases hb:Nat.beq done full with
   | false=>rfl
   | true=>
    have:=Nat.eq_of_beq_eq_true hb;rw [this,hfb] at hdi;simp [hi'] at hdi
  cases f with
  | zero=>unfold zfR at hv;rw [hne] at hv;exact hv.elim
  | succ f=>
   unfold zfR at hv;rw [hne] at hv;simp only [cond_false] at hv;have hoi:ops.toArray[i]?=some ops[i]:=by simp [hi']
   have h1:=zhJ hv i ops[i] (List.getElem?_eq_getElem hi');rw [Nat.zero_add,zkf hdi,zke (fun b hb=>(hL b).1 (hbits b hb))] at h1;have e1:Nat.beq 0 0=true:=rfl;have e2:Nat.beq (ms.getD i 0) (ms.getD i 0)=true:=by rw [Nat.beq_eq]
   rw [e1,e2] at h1;simp only [Bool.and_self,cond_true] at h1;have h2:=zlT (Γ:=Γ) htt hLd (E:=Lift Γ Q) (K:=Inv (fun j=>L j∨j=i)) (fun _ _ _ _ _ _ hr hq=>⟨_,_,_,hr,hq⟩) [] (fun fr2 σ2 g2 a2 w2 hr2 hv2=>by
    refine⟨fr2,σ2,g2,f,_,hr2,hv2,fun j=>?_,fun j hj=>?_⟩
    ·show (L j∨j=i)↔(done ||| 2 ^ i).testBit j=true
     rw [Nat.testBit_or,Nat.testBit_two_pow,hL j];simp only [Bool.or_eq_true,decide_eq_true_eq];exact⟨fun h=>h.elim .inl (fun e=>.inr e.symm),fun h=>h.elim .inl (fun e=>.inr e.symm)⟩
    ·rcases hj with hj|rfl
     ·exact hlt j hj
     ·exact hi') ops[i] fr1 σ1 h1 g1 a w hr1
   unfold wpOpIn;simp only [hoi];unfold wpLk at h2;split
   ·rename_i hwant;rw [if_pos hwant] at h2;exact Oper.wpIn_mono (fun a w h=>h) h2
   ·rename_i hwant;rw [if_neg hwant] at h2;exact⟨fun _ _=>trivial,h2⟩
 ·intro L a w ⟨fr1,σ1,g1,f,done,hr1,hv,hL,hlt⟩ hall;have hd:done=full:=by
   apply Nat.eq_of_testBit_eq;intro j;rw [hfb];by_cases hj:j < ops.length
   ·rw [(hL j).1 (hall j (by simpa using hj))];simp [hj]
   ·cases hb:done.testBit j with
    | true=>exact absurd (hlt j ((hL j).2 hb)) hj
    | false=>simp [hj]
  have hb:Nat.beq done full=true:=by rw [hd,Nat.beq_eq]
  have hi:Imp Γ fr1 σ1 fr' σ':=by
   cases f with
   | zero=>unfold zfR at hv;rw [hb] at hv;exact hv
   | succ f=>unfold zfR at hv;rw [hb] at hv;exact hv
  obtain⟨g',hr'⟩:=hi g1 a w hr1;exact⟨fr',σ',g',hr',hk⟩
 ·intro i hi;have:(Array.replicate ops.length false)[i]?.getD false=false:=by
   rw [Array.getElem?_replicate];split <;> rfl
  simp [this] at hi
 ·unfold unl;refine Nat.le_trans (List.length_filter_le _ _) (by simp)
 ·refine⟨fr,σ,g,ops.length,0,hr.drawn _,h,fun j=>?_,fun j hj=>?_⟩
  ·have:(Array.replicate ops.length false)[j]?.getD false=false:=by
    rw [Array.getElem?_replicate];split <;> rfl
   simp [this]
  ·have:(Array.replicate ops.length false)[j]?.getD false=false:=by
    rw [Array.getElem?_replicate];split <;> rfl
   simp [this] at hj
def zsj (tt:TT) (res:List ResultVar) (ids:List Nat) (R:AV→Sg→Prop) (Rp:Value→Sg→Prop):Exit→Fr→Sg→Prop
 | .normal,fr,σ|.ret,fr,σ=>∃ r σ',SubS σ σ'∧(rsSg σ' σ' && zbC ids σ')=true∧zb0 tt res fr σ σ'=some r∧R r σ'
 | .panic ch,fr,σ=>∃ v σ',ch=[{ v:=v,recovered:=false }]∧SubS σ σ'∧(rsSg σ' σ' && zbC ids σ')=true∧Rp v σ'
 | _,_,_=>False
theorem z6 {tt:TT} (htt:tt.ok P) {f:FuncId} {fn:Func} {c:Code} {args:List AV} {σ:Sg} {R:AV→Sg→Prop} {Rp:Value→Sg→Prop} {res:List ResultVar} (hf:P.funcs[f]?=some fn) (hb:fn.body=some c)
  (hname:(fn.name == "runtime.NumGoroutine")=false) (hres:fn.results=res.toArray) {nt:Nat} (hnt:fn.ntmps=nt) (hle:args.length≤nt)
  (h:∀ w0 K0 B,AW P ⟨w0,K0,nt,B,σ.map (·.1),none,[],[]⟩ c (zsj tt res (σ.map (·.1)) R Rp) (entry 0 args) σ):PCall P f args σ R Rp:=by
 refine⟨⟨fn,hf,by rw [hb];rfl,hname⟩,fun w0 K0 g w vs hL hp hs hv=>?_⟩
 refine calls_of_wp hf hb ((wpIn_wide (n:=0)).1 ?_)
 have hrel:Rel ⟨w0,K0,nt,SR σ g w,σ.map (·.1),none,[],[]⟩ (entry 0 args) σ g ⟨vs ++ Array.replicate (fn.ntmps - vs.size) undef,[]⟩ w:=by
  refine⟨hp,fun t x ht=>?_,by simp;omega,DRb.empty,fun s v hb=>⟨hb,SR.inI hb⟩⟩
  obtain⟨_,hx⟩:=zbm args 0 t x ht;rw [Nat.sub_zero] at hx;have hlt:t < args.length:=(List.getElem?_eq_some_iff.1 hx).1;refine⟨by show t < nt;omega,?_⟩
  have hvt:vs[t]?=some (vs[t]'(by omega)):=Array.getElem?_eq_getElem (by omega);have e:(vs ++ Array.replicate (fn.ntmps - vs.size) undef).getD t undef=vs[t]'(by omega):=by
   rw [Array.getD_eq_getD_getElem?,Array.getElem?_append_left (by omega),hvt];rfl
  show VR _ _ _ _ ((vs ++ Array.replicate (fn.ntmps - vs.size) undef).getD t undef)
  rw [e];exact zZ (hv t x _ hx hvt)
 refine wpIn_mono ((h w0 K0 _).use hL hrel) ?_
 intro e a' w' ⟨fr,τ,g',hr,hq⟩;have fin:(∃ r σ',SubS τ σ'∧(rsSg σ' σ' && zbC (σ.map (·.1)) σ')=true∧zb0 tt res fr τ σ'=some r∧R r σ') →
   a'.defers=[]∧∃ v,(results fn a'.tmps).run P w'=.ok v w'∧((∃ v_1 g'' σ'' r,Ending.returned v=.returned v_1∧Did w0 K0 σ g w σ'' g'' w'∧VR2 σ'' g'' w' r v_1∧R r σ'') ∨
    ∃ v_1 g'' σ'',Ending.returned v=.panicked [{ v:=v_1,recovered:=false }]∧Did w0 K0 σ g w σ'' g'' w'∧Rp v_1 σ''):=by
  rintro⟨r,σ',hss,hc,ho,hR⟩;simp only [Bool.and_eq_true] at hc;have hsup:=za9 hss;obtain⟨v,hrun,hvr⟩:=zbQ htt hr hsup hres ho;exact⟨hr.defers.nil,v,hrun,.inl ⟨v,_,σ',r,rfl,⟨hr.hp.atEnd hsup hc.1,fun s u hs=>zak (zai hsup hc.2 (hr.base s u hs).1 (hr.base s u hs).2)⟩,hvr,hR⟩⟩
 cases e with
 | normal=>exact fin hq
 | ret=>exact fin hq
 | panic ch=>
  obtain⟨v,σ',rfl,hss,hc,hR⟩:=hq;simp only [Bool.and_eq_true] at hc;have hsup:=za9 hss;exact⟨hr.defers.nil,.inr ⟨v,g',σ',rfl,⟨hr.hp.weaken hsup hc.1,fun s u hs=>zai hsup hc.2 (hr.base s u hs).1 (hr.base s u hs).2⟩,hR⟩⟩
 | exit id=>exact hq.elim
 | goto l=>exact hq.elim
 | outgrown=>exact hq.elim
end
end Go.QL
namespace Go.QL
open Go Go.RowKit
def zm8 (P:Program) (f:FuncId) (args:List AV) (σ:Sg) (u:FrameMode) (R:FrameMode→Sg→Prop):Prop:=
 Good P f∧∀ (w0:World) (K0:Bs) (g:Gh) (w:World) (vs:Array Value),Laid P K0.K w0→Hp w0 K0 σ g w→vs.size=args.length →
  (∀ (i:Nat) (x:AV) (v:Value),args[i]?=some x→vs[i]?=some v→VR2 σ g w x v) →
  CallsDIn Fence.wide 0 P f vs u w fun e u' w'=>∃ v g' σ',e=.returned v∧Did w0 K0 σ g w σ' g' w'∧R u' σ'
def AWx (P:Program) (Γ:Cx) (c:Code) (E:Exit→Act→World→Prop) (fr:Fr) (σ:Sg):Prop:=
 Laid P Γ.K0.K Γ.w0→∀ g a w,Rel Γ fr σ g a w→c.wpIn (FX Γ.ro) 0 P E a w
def DF (B B':SV→Value→Prop) (fid:FuncId) (first captured:List SV) (d:Deferred):Prop:=
 (∀ s v,B s v→B' s v)∧∃ v1 v2,B' (.f (.func fid) first captured) (.func (.func fid) v1 v2)∧d=⟨.fn (.func fid) v2,v1⟩
abbrev Cx.dfrd (Γ:Cx) (σ:Sg) (B':SV→Value→Prop) (d:Deferred):Cx:=⟨Γ.w0,Γ.K0,Γ.nt,B',σ.map (·.1),Γ.ro,Γ.dfs,d :: Γ.bs⟩
def zjQ (P:Program) (tt:TT) (Γ:Cx) (all:List Oper) (k:Cx→Fr→Sg→Prop):List Oper→Fr→Sg→Prop
 | [],_,_=>False
 | o::r,fr,σ=>
  match o.guard,o.dst,o.op with
  | none,none,.defer ⟨.value f,args,_⟩=>args.toList=[]∧ev1 fr none f fun fv=>
   (match fv with
   | .x (.f (.func fid) first captured)=>(Γ.dfs.all fun i=>!(lk i σ).isSome)=true∧∀ B' d,DF Γ.B B' fid first captured d→zah P tt Γ.nt all (fun fr' σ'=>k (Γ.dfrd σ B' d) fr' σ') r fr σ
   | _=>False)
  | _,_,_=>zah P tt Γ.nt all (fun fr' σ'=>zjQ P tt Γ all k r fr' σ') [o] fr σ
section
variable {P:Program} {Γ:Cx} {fr:Fr} {σ:Sg}
theorem zrx {c:Code} {Q:Exit→Fr→Sg→Prop} {E:Exit→Act→World→Prop} (h:AW P Γ c Q fr σ) (hq:∀ e fr σ g a w,Rel Γ fr σ g a w→Q e fr σ→E e a w):AWx P Γ c E fr σ:=
 fun hL g a w hr=>wpIn_mono (h.use hL hr) fun e a w ⟨fr,σ,g,r,q⟩=>hq e fr σ g a w r q
theorem zm9 {x y:Code} {Q:Exit→Fr→Sg→Prop} {E:Exit→Act→World→Prop} (h:AW P Γ x (Exit.thn (AWx P Γ y E) Q) fr σ) (hq:∀ e fr σ g a w,Rel Γ fr σ g a w→Q e fr σ→E e a w):AWx P Γ (.seq x y) E fr σ:=by
 intro hL g a w hr;refine wpIn_seq (wpIn_mono (h.use hL hr) ?_)
 intro e a w ⟨fr,σ,g,r,q⟩;cases e with
 | normal=>exact q hL g a w r
 | ret=>exact hq _ _ _ _ _ _ r q
 | exit _=>exact hq _ _ _ _ _ _ r q
 | goto _=>exact hq _ _ _ _ _ _ r q
 | panic _=>exact hq _ _ _ _ _ _ r q
 | outgrown=>exact hq _ _ _ _ _ _ r q
theorem Rel.dfrd {g:Gh} {a:Act} {w:World} (hr:Rel Γ fr σ g a w) (hno:(Γ.dfs.all fun i=>!(lk i σ).isSome)=true) (d:Deferred):Rel (Γ.dfrd σ (SR σ g w) d) fr σ g { a with defers:=d::a.defers } w:=by
 refine⟨hr.hp,hr.fr,hr.size,?_,fun s v h=>⟨h,h.inI⟩⟩
 obtain⟨ms,hms,is,h1,h2,h3⟩:=hr.defers;have:ms=[]:=by
  cases ms with
  | nil=>rfl
  | cons x r=>
   cases is with
   | nil=>cases h2
   | cons i r'=>
    obtain⟨hi,hl,_⟩:=h3 0 i x rfl rfl;rw [List.all_eq_true] at hno;have:=hno i hi;rw [hl] at this;cases this
 subst this;exact⟨[],by show d::a.defers=_;rw [hms];rfl,DR.empty⟩
theorem zhP {tt:TT} (htt:tt.ok P) (hro:Γ.ro=none) (hL:Laid P Γ.K0.K Γ.w0) {all:List Oper} {k:Cx→Fr→Sg→Prop} {E:Exit→Act→World→Prop} {K:Act→World→Prop}
  (hk:∀ σ0 B' d fr σ g a w,Rel (Γ.dfrd σ0 B' d) fr σ g a w→k (Γ.dfrd σ0 B' d) fr σ→K a w):∀ (rest:List Oper) (fr:Fr) (σ:Sg),zjQ P tt Γ all k rest fr σ →
  ∀ (g:Gh) (a:Act) (w:World),Rel Γ fr σ g a w→wpLk Γ.ro P all.toArray E K rest a w
 | [],fr,σ,h,g,a,w,hr=>h.elim
 | o::rest,fr,σ,h,g,a,w,hr=>by
  have ih:=fun fr σ=>zhP htt hro hL (all:=all) (E:=E) hk rest fr σ
  unfold zjQ at h;split at h
  ·rename_i f args ts hg hdst ho;obtain⟨ha,h⟩:=h;obtain⟨fv,h,hfv⟩:=zK h;split at h
   ·rename_i fid first captured
    obtain⟨hno,h⟩:=h;have hsr:SR σ g w (.f (.func fid) first captured) (a.eval f):=hfv (.inl rfl) Γ σ g a w hr;generalize hae:a.eval f=fval at hsr;have hsr0:=hsr;cases hsr with
    | f _ _ _ v1 v2 s1 s2 r1 r2=>
     unfold wpLk;rw [if_pos (show Region.wanted o _=true by simp [Region.wanted,hg])];refine⟨fun _ _=>trivial,?_⟩
     obtain⟨args⟩:=args;simp only at ha;subst ha;have hrun:(o.semAt (FX Γ.ro).round a.eval).run P w=.ok (.defer ⟨.fn (.func fid) v2,v1⟩) w:=by
      rw [show (FX Γ.ro).round=none from hro,Oper.semAt_none];simp [execOp,ho,resolve,Deferred.ofValue,hae]
     rw [hrun];show wpLk Γ.ro P all.toArray E K rest ({ a with defers:=⟨.fn (.func fid) v2,v1⟩::a.defers }.put o.dst undef) w
     rw [hdst];show wpLk Γ.ro P all.toArray E K rest { a with defers:=⟨.fn (.func fid) v2,v1⟩::a.defers } w
     have hr':=hr.dfrd hno ⟨.fn (.func fid) v2,v1⟩;exact zaJ (Γ:=Γ.dfrd σ (SR σ g w) ⟨.fn (.func fid) v2,v1⟩) htt hL (Qx:=E) (K:=K) (fun fr σ g a w hr h=>hk _ _ _ _ _ _ _ _ hr h) rest fr σ
      (h (SR σ g w) _ ⟨fun s v hb=>(hr.base s v hb).1,v1,v2,hsr0,rfl⟩) g _ w hr'
   ·exact h.elim
  ·have h2:=zaJ (Γ:=Γ) htt hL (Qx:=E) (K:=wpLk Γ.ro P all.toArray E K rest) (fun fr2 σ2 g2 a2 w2 hr2 hv2=>ih fr2 σ2 hv2 g2 a2 w2 hr2) [o] fr σ h g a w hr;unfold wpLk at h2 ⊢;exact h2
theorem zna {tt:TT} (htt:tt.ok P) (hro:Γ.ro=none) {id:Nat} {ops:List Oper} {y:Code} {E:Exit→Act→World→Prop} (h:zjQ P tt Γ ops (fun Γ' fr σ=>AWx P Γ' y E fr σ) ops fr σ):AWx P Γ (.seq (.region id ops.toArray false) y) E fr σ:=by
 intro hL g a w hr;refine wpIn_seq (zbT ?_)
 exact zhP htt hro hL (E:=Exit.then (y.wpIn (FX Γ.ro) 0 P E) E) (K:=fun a w=>y.wpIn (FX Γ.ro) 0 P E a w) (fun σ0 B' d fr σ g a w hr h=>h hL g a w hr) ops fr σ h g a w hr
end
section
variable {P:Program} {Γ:Cx} {w0:World} {K0:Bs} {fr:Fr} {σ σ':Sg} {g:Gh} {a:Act} {w:World}
theorem zhk (hs:Sup σ' σ) (hr:rsSg σ' σ'=true):∀ (is:List Nat) (ds:List Deferred) (w:World),is.Nodup→is.length=ds.length→Hp w0 K0 σ' g w →
  (∀ i ∈ is,lk i σ'=none) →
  (∀ (k i:Nat) (x:Deferred),is[k]?=some i→ds[k]?=some x→∃ d,g.μ i=.pointer (some ⟨d,0,none⟩)∧x=⟨.collected d,#[]⟩∧w.heap[d]?=some (.deferred (some []))∧(∀ o,¬ g.K d o)∧¬ K0.F d∧(∀ id,(lk id σ').isSome→blk (g.μ id)≠some d)) →
  (∀ (i j:Nat),i ∈ is→j ∈ is→∀ b,blk (g.μ i)=some b→blk (g.μ j)=some b→i=j) →
  ∃ w1,Hp w0 K0 σ' g w1∧(∀ s v,SR σ' g w s v→SR σ' g w1 s v)∧w1.heap.size=w.heap.size ∧
   ∀ (F:Fence) (n:Nat) (fn:Func) (tmps:Array Value) (R:Ending→World→Prop),∀ (u:FrameMode) (bs:List Deferred),u≠.run→LeavesInM F n P fn tmps R bs u w1→LeavesInM F n P fn tmps R (ds ++ bs) u w
 | [],ds,w,_,hl,hp,_,_,_=>by
  cases ds with
  | nil=>exact⟨w,hp,fun _ _ h=>h,rfl,fun _ _ _ _ _ _ _ _ h=>h⟩
  | cons _ _=>cases hl
 | i::is,ds,w,hnd,hl,hp,hno,hx,hinj=>by
  cases ds with
  | nil=>cases hl
  | cons x ds=>
   rw [List.nodup_cons] at hnd;obtain⟨d,hμ,rfl,hheap,hK,hF,hother⟩:=hx 0 i x rfl rfl;have hbi:blk (g.μ i)=some d:=by rw [hμ];rfl
   let w1:=putO w d (.deferred none)
   have hext:Ext g.K w g.K w1:=⟨fun _ _ h=>h,fun b o hk=>World.cell?_of_block (w:=w) (a:=⟨b,o,none⟩) (zan (fun e=>hK o (e ▸ hk)))⟩;have hkeep:∀ s v,SR σ' g w s v→SR σ' g w1 s v:=fun s v h=>
    SR.keep (σ:=σ') (σ':=σ') (g:=g) (g':=g) (w:=w) (w':=w1) (Compat.refl σ' g) hext h
   have hp1:Hp w0 K0 σ' g w1:=by
    refine⟨?_,hp.flt,hp.ext.trans hext,hp.old,fun b o hk=>by have:=hp.val b o hk;simpa [w1] using this,fun id obj hid=>?_,hp.own,hp.inj⟩
    ·exact hp.kept.trans ⟨rfl,rfl,rfl,by simp [w1],fun k hk=>zan (fun e=>hF (e ▸ hk))⟩
    ·exact (hp.obs id obj hid).keep hkeep hext rfl (fun b hb=>zan (fun e=>hother id (by rw [hid];rfl) (e ▸ hb))) (fun b hb o=>hp.notK hid hb o)
   have ih:=zhk hs hr is ds w1 hnd.2 (by simpa using hl) hp1 (fun j hj=>hno j (List.mem_cons_of_mem _ hj)) (fun k j y hj hy=>?_) (fun j k hj hk=>hinj j k (List.mem_cons_of_mem _ hj) (List.mem_cons_of_mem _ hk))
   ·obtain⟨w2,q1,q2,q3,q4⟩:=ih;refine⟨w2,q1,fun s v h=>q2 s v (hkeep s v h),by rw [q3];simp [w1],fun F n fn tmps R u bs hu h=>?_⟩
    refine⟨hu,.inl ⟨d,w1,rfl,run_takeDeferred hheap,q4 F n fn tmps R u bs hu h⟩⟩
   ·obtain⟨d',p1,p2,p3,p4,p5,p6⟩:=hx (k+1) j y hj hy;refine⟨d',p1,p2,?_,p4,p5,p6⟩
    have hjm:j ∈ is:=List.mem_of_getElem? hj;have hne:d'≠d:=fun e=>by
     have:=hinj j i (List.mem_cons_of_mem _ hjm) (by simp) d (by rw [p1,e];rfl) hbi;subst this;exact hnd.1 hjm
    show (putO w d (.deferred none)).heap[d']?=_
    rw [zan hne];exact p3
def EndX (P:Program) (fn:Func) (w0:World) (K0:Bs) (σ:Sg) (g:Gh) (w:World) (R:AV→Sg→Prop):Exit→Act→World→Prop:=
 bodyPostM Fence.wide 0 P fn fun e w'=>∃ v g' σ' r,e=.returned v∧Did w0 K0 σ g w σ' g' w'∧VR2 σ' g' w' r v∧R r σ'
theorem zg8 {tt:TT} (htt:tt.ok P) {fn:Func} {res:List ResultVar} (hres:fn.results=res.toArray) {nt:Nat} {dfs:List Nat} {R:AV→Sg→Prop} {e:Exit} {fr:Fr} {τ : Sg} {g':Gh} {a':Act} {w':World}
  (hr:Rel ⟨w0,K0,nt,SR σ g w,σ.map (·.1),none,dfs,[]⟩ fr τ g' a' w') (hq:zk6 tt res (σ.map (·.1)) dfs R e fr τ):EndX P fn w0 K0 σ g w R e a' w':=by
 have fin:zk6 tt res (σ.map (·.1)) dfs R .ret fr τ →
   LeavesInM Fence.wide 0 P fn a'.tmps (fun e w'=>∃ v g' σ' r,e=.returned v∧Did w0 K0 σ g w σ' g' w'∧VR2 σ' g' w' r v∧R r σ') a'.defers .returning w':=by
  rintro⟨fr1,σ1,hsf,hss,hc,r,σ',hsub,hc2,ho,hR⟩;simp only [Bool.and_eq_true,List.all_eq_true,Bool.not_eq_true'] at hc hc2;obtain⟨⟨hcf,hcs⟩,hno⟩:=hc;have hsf:=ze8 hsf;have hss:=za9 hss;have hp1:=hr.hp.weaken hss hcs;obtain⟨ms,hms,is,q1,q2,q3⟩:=hr.defers;obtain rfl:ms=a'.defers:=by simpa using hms.symm
  have hnone:∀ i ∈ is,lk i σ1=none:=fun i hi=>by
   obtain⟨k,hk,he⟩:=List.getElem_of_mem hi;have:=(q3 k i (a'.defers[k]'(by omega)) (by rw [List.getElem?_eq_getElem hk,he]) (List.getElem?_eq_getElem (by omega))).1;have:=hno i this;cases hl:lk i σ1 with
   | none=>rfl
   | some _=>rw [hl] at this;cases this
  have hdfr:∀ i ∈ is,lk i τ = some (.x .dfr):=fun i hi=>by
   obtain⟨k,hk,he⟩:=List.getElem_of_mem hi;exact (q3 k i (a'.defers[k]'(by omega)) (by rw [List.getElem?_eq_getElem hk,he]) (List.getElem?_eq_getElem (by omega))).2.1
  obtain⟨w1,s1,s2,s3,s4⟩:=zhk (P:=P) (w0:=w0) (K0:=K0) (g:=g') hss hcs is a'.defers w' q1 q2 hp1 hnone (fun k i x hi hx=>by
   obtain⟨b1,b2,d,b3,b4⟩:=q3 k i x hi hx;have hbi:blk (g'.μ i)=some d:=by rw [b3];rfl
   obtain⟨b',h1,h2,h3,h4⟩:=hr.hp.obs i _ b2;rw [b3] at h1;cases h1;refine⟨d,b3,b4,h3,h4,hr.hp.own i d (by rw [b2];rfl) hbi,fun id hid hb=>?_⟩
   obtain⟨ob,hob⟩:=Option.isSome_iff_exists.1 hid;have:=hr.hp.inj id i d (by rw [hss _ _ hob];rfl) (by rw [b2];rfl) hb hbi;subst this;rw [hnone id (List.mem_of_getElem? hi)] at hob;cases hob)
   (fun i j hi hj b hb1 hb2=>hr.hp.inj i j b (by rw [hdfr i hi];rfl) (by rw [hdfr j hj];rfl) hb1 hb2)
  rw [← List.append_nil a'.defers];refine s4 Fence.wide 0 fn a'.tmps _ _ [] (by simp) ?_
  have hrel1:Rel ⟨w0,K0,nt,SR σ g w,σ.map (·.1),none,[],[]⟩ fr1 σ1 g' { a' with defers:=[] } w1:=by
   refine⟨s1,fun t v ht=>⟨(hr.fr t v (hsf t v ht)).1,?_⟩,hr.size,DRb.empty,fun s v hb=>⟨s2 _ _ (zai hss hc2.2 (hr.base s v hb).1 (hr.base s v hb).2),(hr.base s v hb).2⟩⟩
   exact (zeQ hss (zaO hcf t v ht) (hr.fr t v (hsf t v ht)).2).keep s2
  have hsup:=za9 hsub;obtain⟨v,hrun,hvr⟩:=zbQ htt hrel1 hsup hres ho;refine zdC hrun ?_
  exact⟨v,_,σ',r,rfl,⟨hrel1.hp.atEnd hsup hc2.1.1,fun s u hs=>zak (zai hsup hc2.1.2 (hrel1.base s u hs).1 (hrel1.base s u hs).2)⟩,hvr,hR⟩
 cases e with
 | normal=>exact fin hq
 | ret=>exact fin hq
 | _=>exact hq.elim
theorem Rel.unmark {nt:Nat} {B:SV→Value→Prop} {ids dfs:List Nat} {bs:List Deferred} {fr fr1:Fr} {τ σ1:Sg} {g':Gh} {a':Act} {w':World} (hr:Rel ⟨w0,K0,nt,B,ids,none,dfs,bs⟩ fr τ g' a' w') (hsf:SubF fr fr1) (hss:SubS τ σ1)
  (hc:(rsFr σ1 fr1 && rsSg σ1 σ1 && dfs.all (fun i=>!(lk i σ1).isSome) && zbC ids σ1)=true) :
  ∃ w1,Rel ⟨w0,K0,nt,B,ids,none,[],bs⟩ fr1 σ1 g' { a' with defers:=bs } w1∧∀ (fn:Func) (tmps:Array Value) (R:Ending→World→Prop) (u:FrameMode),u≠.run→LeavesInM Fence.wide 0 P fn tmps R bs u w1→LeavesInM Fence.wide 0 P fn tmps R a'.defers u w':=by
 simp only [Bool.and_eq_true,List.all_eq_true,Bool.not_eq_true'] at hc;obtain⟨⟨⟨hcf,hcs⟩,hno⟩,hids⟩:=hc;have hsf:=ze8 hsf;have hss:=za9 hss;have hp1:=hr.hp.weaken hss hcs;obtain⟨ms,hms,is,q1,q2,q3⟩:=hr.defers;have hdi:∀ i ∈ is,i ∈ dfs∧lk i τ = some (.x .dfr):=fun i hi=>by
  obtain⟨k,hk,he⟩:=List.getElem_of_mem hi;have:=q3 k i (ms[k]'(by omega)) (by rw [List.getElem?_eq_getElem hk,he]) (List.getElem?_eq_getElem (by omega));exact⟨this.1,this.2.1⟩
 have hnone:∀ i ∈ is,lk i σ1=none:=fun i hi=>by
  have:=hno i (hdi i hi).1;cases hl:lk i σ1 with
  | none=>rfl
  | some _=>rw [hl] at this;cases this
 obtain⟨w1,s1,s2,s3,s4⟩:=zhk (P:=P) (w0:=w0) (K0:=K0) (g:=g') hss hcs is ms w' q1 q2 hp1 hnone (fun k i x hi hx=>by
  obtain⟨b1,b2,d,b3,b4⟩:=q3 k i x hi hx;have hbi:blk (g'.μ i)=some d:=by rw [b3];rfl
  obtain⟨b',h1,h2,h3,h4⟩:=hr.hp.obs i _ b2;rw [b3] at h1;cases h1;refine⟨d,b3,b4,h3,h4,hr.hp.own i d (by rw [b2];rfl) hbi,fun id hid hb=>?_⟩
  obtain⟨ob,hob⟩:=Option.isSome_iff_exists.1 hid;have:=hr.hp.inj id i d (by rw [hss _ _ hob];rfl) (by rw [b2];rfl) hb hbi;subst this;rw [hnone id (List.mem_of_getElem? hi)] at hob;cases hob)
  (fun i j hi hj b hb1 hb2=>hr.hp.inj i j b (by rw [(hdi i hi).2];rfl) (by rw [(hdi j hj).2];rfl) hb1 hb2)
 refine⟨w1,⟨s1,fun t v ht=>⟨(hr.fr t v (hsf t v ht)).1,?_⟩,hr.size,DRb.empty,fun s v hb=>⟨s2 _ _ (zai hss hids (hr.base s v hb).1 (hr.base s v hb).2),(hr.base s v hb).2⟩⟩,fun fn tmps R u hu h=>?_⟩
 ·exact (zeQ hss (zaO hcf t v ht) (hr.fr t v (hsf t v ht)).2).keep s2
 ·rw [show a'.defers=ms ++ bs from hms];exact s4 Fence.wide 0 fn tmps R u bs hu h
def zhL (P:Program) (tt:TT) (res:List ResultVar) (ids ids' dfs:List Nat) (R:AV→Sg→Prop) (fid:FuncId) (first captured:List SV) (u:FrameMode) (fr:Fr) (τ : Sg):Prop:=
 ∃ fr1 σ1,SubF fr fr1∧SubS τ σ1∧(rsFr σ1 fr1 && rsSg σ1 σ1 && dfs.all (fun i=>!(lk i σ1).isSome) && zbC ids' σ1)=true ∧
  ∃ Rd,zm8 P fid (first.map .x ++ captured.map .x) σ1 u Rd∧∀ u' σ2,Rd u' σ2→settle u'=.returning ∧
   ∃ r σ',SubS σ2 σ'∧(rsSg σ' σ' && zbC ids σ')=true∧zb0 tt res fr1 σ2 σ'=some r∧R r σ'
def zpc (P:Program) (tt:TT) (res:List ResultVar) (ids ids' dfs:List Nat) (R:AV→Sg→Prop) (fid:FuncId) (first captured:List SV):Exit→Fr→Sg→Prop
 | .normal,fr,τ | .ret,fr,τ=>zhL P tt res ids ids' dfs R fid first captured .returning fr τ
 | .panic ch,fr,τ=>zhL P tt res ids ids' dfs R fid first captured (.panicking ch) fr τ
 | _,_,_=>False
theorem zoJ {tt:TT} (htt:tt.ok P) (hL:Laid P K0.K w0) {fn:Func} {res:List ResultVar} (hres:fn.results=res.toArray) {nt:Nat} {dfs ids':List Nat} {R:AV→Sg→Prop} {fid:FuncId} {first captured:List SV} {B':SV→Value→Prop} {d:Deferred}
  (hd:DF (SR σ g w) B' fid first captured d) {e:Exit} {fr:Fr} {τ : Sg} {g':Gh} {a':Act} {w':World}
  (hr:Rel ⟨w0,K0,nt,B',ids',none,dfs,[d]⟩ fr τ g' a' w') (hq:zpc P tt res (σ.map (·.1)) ids' dfs R fid first captured e fr τ):EndX P fn w0 K0 σ g w R e a' w':=by
 have fin:∀ u,u≠.run→zhL P tt res (σ.map (·.1)) ids' dfs R fid first captured u fr τ →
   LeavesInM Fence.wide 0 P fn a'.tmps (fun e w'=>∃ v g' σ' r,e=.returned v∧Did w0 K0 σ g w σ' g' w'∧VR2 σ' g' w' r v∧R r σ') a'.defers u w':=by
  rintro u hu ⟨fr1,σ1,hsf,hss,hc,Rd,hdc,hR⟩;obtain⟨w1,hr1,hl⟩:=Rel.unmark (P:=P) hr hsf hss hc;refine hl fn a'.tmps _ u hu ?_
  obtain⟨hB,v1,v2,hf,rfl⟩:=hd;have hsr:=(hr1.base _ _ hf).1;have hargs:∀ (i:Nat) (x:AV) (v:Value),(first.map AV.x ++ [] ++ captured.map AV.x)[i]?=some x→(v1 ++ #[] ++ v2)[i]?=some v→VR2 σ1 g' w1 x v:=by
   cases hsr with
   | f _ _ _ _ _ s1 s2 r1 r2=>exact zde (us:=#[]) (vs:=[]) s1 s2 r1 r2 rfl (fun j x v hx hv=>by simp at hx)
  have hsz:(v1 ++ v2).size=(first.map AV.x ++ captured.map AV.x).length:=by
   cases hsr with
   | f _ _ _ _ _ s1 s2 r1 r2=>simp [s1,s2]
  obtain⟨hgood,hcall⟩:=hdc;have hinv:(invoke (.fn (.func fid) v2) v1).run P w1=.ok (.enter fid (v1 ++ v2)) w1:=by
   obtain⟨fn,h1,h2,h3⟩:=hgood;have hb:¬ fn.body=none:=fun e=>by rw [e] at h2;cases h2
   have h3':¬ fn.name = "runtime.NumGoroutine" :=by simpa using h3
   simp [invoke,callFunc,h1,h3',hb]
  refine⟨hu,.inr ⟨(fun h=>by cases h),.func fid,v2,fid,v1 ++ v2,rfl,hinv,fun _ _=>trivial,?_⟩⟩
  refine (hcall w0 K0 g' w1 (v1 ++ v2) hL hr1.hp hsz (fun i x v hx hv=>hargs i x v (by simpa using hx) (by simpa using hv))).mono fun e u' w2 ⟨v,g2,σ2,he,hdid,hRd⟩=>?_
  subst he;obtain⟨hset,r,σ',hsub,hc2,ho,hRr⟩:=hR u' σ2 hRd;simp only [Bool.and_eq_true] at hc2;have hr2:=hr1.did hdid;have hsup:=za9 hsub;obtain⟨v',hrun,hvr⟩:=zbQ htt hr2 hsup hres ho;show LeavesInM Fence.wide 0 P fn a'.tmps _ [] (settle u') w2
  rw [hset];refine⟨v',hrun,v',_,σ',r,rfl,⟨hr2.hp.atEnd hsup hc2.1,fun s u hs=>?_⟩,hvr,hRr⟩
  exact zak (zai hsup hc2.2 (hr2.base s u (hB _ _ hs)).1 hs.inI)
 cases e with
 | normal=>exact fin .returning (by simp) hq
 | ret=>exact fin .returning (by simp) hq
 | panic ch=>exact fin (.panicking ch) (by simp) hq
 | exit id=>exact hq.elim
 | goto l=>exact hq.elim
 | outgrown=>exact hq.elim
theorem zi0 {f:FuncId} {fn:Func} {c:Code} {args:List AV} {σ:Sg} {R:AV→Sg→Prop} (dfs:List Nat) (hf:P.funcs[f]?=some fn) (hb:fn.body=some c)
  (hname:(fn.name == "runtime.NumGoroutine")=false) {nt:Nat} (hnt:fn.ntmps=nt) (hle:args.length≤nt)
  (h:∀ w0 K0 g w,Laid P K0.K w0→AWx P ⟨w0,K0,nt,SR σ g w,σ.map (·.1),none,dfs,[]⟩ c (EndX P fn w0 K0 σ g w R) (entry 0 args) σ):ACall P f args σ R:=by
 refine⟨⟨fn,hf,by rw [hb];rfl,hname⟩,fun w0 K0 g w vs hL hp hs hv=>?_⟩
 refine callsIn_wide.1 (callsIn_of_wp_marks (F:=Fence.wide) (n:=0) hf hb trivial ?_)
 have hrel:Rel ⟨w0,K0,nt,SR σ g w,σ.map (·.1),none,dfs,[]⟩ (entry 0 args) σ g ⟨vs ++ Array.replicate (fn.ntmps - vs.size) undef,[]⟩ w:=by
  refine⟨hp,fun t x ht=>?_,by simp;omega,DRb.empty,fun s v hb=>⟨hb,SR.inI hb⟩⟩
  obtain⟨_,hx⟩:=zbm args 0 t x ht;rw [Nat.sub_zero] at hx;have hlt:t < args.length:=(List.getElem?_eq_some_iff.1 hx).1;refine⟨by show t < nt;omega,?_⟩
  have hvt:vs[t]?=some (vs[t]'(by omega)):=Array.getElem?_eq_getElem (by omega);have e:(vs ++ Array.replicate (fn.ntmps - vs.size) undef).getD t undef=vs[t]'(by omega):=by
   rw [Array.getD_eq_getD_getElem?,Array.getElem?_append_left (by omega),hvt];rfl
  show VR _ _ _ _ ((vs ++ Array.replicate (fn.ntmps - vs.size) undef).getD t undef)
  rw [e];exact zZ (hv t x _ hx hvt)
 exact h w0 K0 g w hL hL g _ w hrel
inductive Rcv:FrameMode→Value→FrameMode→Prop
 | none:Rcv .returning .nilIface .returning
 | some (v:Value):Rcv (.panicking [{ v:=v,recovered:=false }]) v (.panicking [{ v:=v,recovered:=true }])
theorem Rcv.recoverD {u u':FrameMode} {rv:Value} (h:Rcv u rv u') (c₀ : Frame) (cs:List Frame) (hu:c₀.mode=u) :
  (Go.recoverD (c₀ :: cs)=Option.some (rv,{ c₀ with mode:=u' }::cs))∨(Go.recoverD (c₀ :: cs)=Option.none∧rv=.nilIface∧{ c₀ with mode:=u' }=c₀):=by
 cases h with
 | none=>exact .inr ⟨by simp [Go.recoverD,hu],rfl,by rw [← hu]⟩
 | some v=>exact .inl (by simp [Go.recoverD,hu])
theorem zfe {Q:Exit→Act→List Frame→World→Prop} {cs:List Frame} {c₀ : Frame} {u u':FrameMode} {rv:Value} (hu:Rcv u rv u') (hc:c₀.mode=u) {id:Nat} {o:Oper} {ops:List Oper} {ts:Array TypeId} (ho:o.op=.call ⟨.builtin .recover,#[],ts⟩) (hg:o.guard=none)
  (h:wpLs none P (o::ops).toArray (fun e a w=>Q e a ({ c₀ with mode:=u' }::cs) w) ops (a.put o.dst rv) w):(Code.region id (o::ops).toArray false).wpSIn Fence.wide 0 P Q a (c₀ :: cs) w:=by
 intro b k hb hro hF hroom;have hx:=zcU (ro:=none) (P:=P) (ops:=(o::ops).toArray) ops 1 (fun j=>by simp [Nat.add_comm 1 j]) _ w h;obtain⟨e,a',w',hq,harr⟩:=wp_opsIn (F:=FX none) (n:=0) _ _ w hx b k ({ c₀ with mode:=u' }::cs) hro hF hroom;have hgo:((o::ops).toArray)[0]?=Option.some o:=by simp
 have hw:Region.wanted o (yielded (o::ops).toArray a.tmps)=true:=by simp [Region.wanted,hg]
 have hgs:=stepGR_op (P:=P) (b:=b) (a:=a) (k:=k) (cs:=c₀ :: cs) (w:=w) (rest:=List.range' 1 ops.length) hgo hw;rw [hro,Oper.semAt_none] at hgs;have hfin:∀ v,(b.atR a (.inRegion (o::ops).toArray (0::List.range' 1 ops.length)::k)).finish v=b.atR (a.put o.dst v) (.inRegion (o::ops).toArray (List.range' 1 ops.length)::k):=by
  intro v;rw [Frame.finish_atR,hgo];rfl
 have hk:(b.atR a (.inRegion (o::ops).toArray (0::List.range' 1 ops.length)::k)).kind=.deferred:=hb;have htr:=tryRecover_deferred hk (c₀ :: cs);have hr:(execOp a.eval o).run P w=.ok .recover w:=by
  simp [execOp,ho,resolve,invoke,builtin]
 have hrange:List.range ((o::ops).toArray).size=0::List.range' 1 ops.length:=by
  rw [List.range_eq_range'];simp [List.range'_succ]
 have hstep:step P (lone (b.atR a (.inRegion (o::ops).toArray (0::List.range' 1 ops.length)::k)) (c₀ :: cs) w)=.next (lone (b.atR (a.put o.dst rv) (.inRegion (o::ops).toArray (List.range' 1 ops.length)::k)) ({ c₀ with mode:=u' }::cs) w):=by
  refine step_lone_go ?_
  rw [hgs,← hfin];rcases hu.recoverD c₀ cs hc with hrec|⟨hrec,rfl,heq⟩
  ·simp only [Frame.atR,hro] at htr ⊢;simp [stepG.apply,hr,htr,hrec]
  ·rw [heq];simp only [Frame.atR,hro] at htr ⊢;simp [stepG.apply,hr,htr,hrec]
 refine⟨e,a',_,w',by simp,hq,.of_steps (.head (fenced_calm hF hroom rfl) stepR_region (.one ?_ (hrange ▸ hstep))) harr⟩
 rw [hrange];exact fenced_oper hF hroom hgo (fun f hf=>trivial)
theorem zcR {tt:TT} (htt:tt.ok P) {f:FuncId} {fn:Func} {id:Nat} {o:Oper} {ops:List Oper} {ts:Array TypeId} {y:Code} {args:List AV} {σ:Sg} {Rd:FrameMode→Sg→Prop} {res:List ResultVar} {u u':FrameMode} {rv:Value}
  (hu:Rcv u rv u') (h1:rv.oneCell'=true) (hf:P.funcs[f]?=Option.some fn) (hb:fn.body=Option.some (.seq (.region id (o::ops).toArray false) y)) (ho:o.op=.call ⟨.builtin .recover,#[],ts⟩) (hg:o.guard=none)
  (hname:(fn.name == "runtime.NumGoroutine")=false) (hres:fn.results=res.toArray) {nt:Nat} (hnt:fn.ntmps=nt) (hle:args.length≤nt)
  (h:∀ w0 K0 B,zba nt o.dst none (.x (.d (.v rv))) (entry 0 args) fun fr'=>zah P tt nt (o::ops) (AW P ⟨w0,K0,nt,B,σ.map (·.1),none,[],[]⟩ y (zqs tt res (σ.map (·.1)) fun _ σ'=>Rd u' σ')) ops fr' σ):zm8 P f args σ u Rd:=by
 refine⟨⟨fn,hf,by rw [hb];rfl,hname⟩,fun w0 K0 g w vs hL hp hs hv=>?_⟩
 refine callsDIn_of_wpSIn hf hb trivial fun c₀ cs hc=>?_
 have hrel:Rel ⟨w0,K0,nt,SR σ g w,σ.map (·.1),none,[],[]⟩ (entry 0 args) σ g ⟨vs ++ Array.replicate (fn.ntmps - vs.size) undef,[]⟩ w:=by
  refine⟨hp,fun t x ht=>?_,by simp;omega,DRb.empty,fun s v hb=>⟨hb,SR.inI hb⟩⟩
  obtain⟨_,hx⟩:=zbm args 0 t x ht;rw [Nat.sub_zero] at hx;have hlt:t < args.length:=(List.getElem?_eq_some_iff.1 hx).1;refine⟨by show t < nt;omega,?_⟩
  have hvt:vs[t]?=Option.some (vs[t]'(by omega)):=Array.getElem?_eq_getElem (by omega);have e:(vs ++ Array.replicate (fn.ntmps - vs.size) undef).getD t undef=vs[t]'(by omega):=by
   rw [Array.getD_eq_getD_getElem?,Array.getElem?_append_left (by omega),hvt];rfl
  show VR _ _ _ _ ((vs ++ Array.replicate (fn.ntmps - vs.size) undef).getD t undef)
  rw [e];exact zZ (hv t x _ hx hvt)
 refine wpSIn_seq (zfe hu hc ho hg ?_)
 obtain⟨fr',hk,hrel'⟩:=zcf hrel (h w0 K0 (SR σ g w)) (v:=rv) (zL _ h1);have fin:∀ e a w',Lift ⟨w0,K0,nt,SR σ g w,σ.map (·.1),none,[],[]⟩ (zqs tt res (σ.map (·.1)) fun _ σ'=>Rd u' σ') e a w' →
   bodyPostS P fn c₀ cs (fun e u' w'=>∃ v g' σ',e=.returned v∧Did w0 K0 σ g w σ' g' w'∧Rd u' σ') e a ({ c₀ with mode:=u' }::cs) w':=by
  intro e a' w' ⟨fr,τ,g',hr,hq⟩;have fin2:(∃ r σ',SubS τ σ'∧(rsSg σ' σ' && zbC (σ.map (·.1)) σ')=true∧zb0 tt res fr τ σ'=Option.some r∧Rd u' σ') →
    a'.defers=[]∧∃ u'',({ c₀ with mode:=u' }::cs:List Frame)={ c₀ with mode:=u'' }::cs∧∃ v,(results fn a'.tmps).run P w'=.ok v w'∧∃ v1 g'' σ'',Ending.returned v=.returned v1∧Did w0 K0 σ g w σ'' g'' w'∧Rd u'' σ'':=by
   rintro⟨r,σ',hsub,hc,ho,hR⟩;simp only [Bool.and_eq_true] at hc;have hsup:=za9 hsub;obtain⟨v,hrun,hvr⟩:=zbQ htt hr hsup hres ho;exact⟨hr.defers.nil,u',rfl,v,hrun,v,_,σ',rfl,⟨hr.hp.atEnd hsup hc.1,fun s u hs=>zak (zai hsup hc.2 (hr.base s u hs).1 (hr.base s u hs).2)⟩,hR⟩
  cases e with
  | normal=>exact fin2 hq
  | ret=>exact fin2 hq
  | _=>exact hq.elim
 refine zaJ (Γ:=⟨w0,K0,nt,SR σ g w,σ.map (·.1),none,[],[]⟩) htt hL ?_ ops fr' σ hk g _ w hrel'
 intro fr σ1 g1 a1 w1 hr1 haw;show y.wpSIn Fence.wide 0 P _ a1 _ w1
 exact wpSIn_of_wpIn rfl (wpIn_mono (haw.use hL hr1) fin)
end
end Go.QL
namespace Go.QL
open Go Go.RowKit
def FnP (P:Program) (f:FuncId) (args:List AV) (r:Option AV) (pv:Value):Prop:=
 Good P f∧∀ (K:Nat→Nat→Prop) (w:World) (vs:Array Value),Laid P K w→(∀ b o,K b o→b < w.heap.size)→vs.size=args.length →
  (∀ (i:Nat) (x:AV) (v:Value),args[i]?=some x→vs[i]?=some v→VR2 [] ⟨K,fun _=>undef⟩ w x v) →
  Calls P f vs w (fun e w'=>∃ K',Below w.heap.size w w'∧Ext K w K' w'∧(∀ b o,b < w.heap.size→K' b o→K b o)∧(∀ b o,K' b o→b < w'.heap.size) ∧
   ((∃ v x,r=some x∧e=.returned v∧VR2 [] ⟨K',fun _=>undef⟩ w' x v)∨(r=none∧e=.panicked [{ v:=pv,recovered:=false }])))
def zrX:Option AV→Bool
 | some x=>zf6 x
 | none=>true
theorem FnP.call {P:Program} {f:FuncId} {args:List AV} {r:Option AV} {pv:Value} (h:FnP P f args r pv) {σ:Sg} (hp:args.all zf6=true) (hr:zrX r=true) :
  PCall P f args σ (fun r' σ'=>r=some r'∧σ'=σ) fun v σ'=>r=none∧v=pv∧σ'=σ:=by
 refine⟨h.1,fun w0 K0 g w vs hL hhp hs hv=>?_⟩
 rw [List.all_eq_true] at hp;refine (h.2 g.K w vs (hL.mono hhp.ext) hhp.val hs fun i x v hi hu=>zcY (g:=g) (g':=⟨g.K,fun _=>undef⟩) (hp x (List.mem_of_getElem? hi)) (Ext.refl _ _) (hv i x v hi hu)).mono ?_
 intro e w' ⟨K',hb,hext,hold,hval,hvr⟩;rcases hvr with ⟨v,x,rfl,rfl,hvr⟩|⟨rfl,rfl⟩
 ·exact .inl ⟨v,⟨K',g.μ⟩,σ,x,rfl,hhp.grow hb hext hold hval,zcY hr (Ext.refl K' w') hvr,rfl,rfl⟩
 ·exact .inr ⟨pv,⟨K',g.μ⟩,σ,rfl,hhp.grow hb hext hold hval,rfl,rfl,rfl⟩
def zrv (tt:TT) (res:List ResultVar) (r:Option AV) (pv:Value):Exit→Fr→Sg→Prop
 | .normal,fr,σ|.ret,fr,σ=>∃ x,r=some x∧za6 tt res fr σ=some x
 | .panic ch,_,_=>r=none∧ch=[{ v:=pv,recovered:=false }]
 | _,_,_=>False
theorem zrw {P:Program} {tt:TT} (htt:tt.ok P) {f:FuncId} {fn:Func} {c:Code} {args:List AV} {r:Option AV} {pv:Value} {res:List ResultVar} (hf:P.funcs[f]?=some fn) (hb:fn.body=some c)
  (hname:(fn.name == "runtime.NumGoroutine")=false) (hres:fn.results=res.toArray) {nt:Nat} (hnt:fn.ntmps=nt) (hle:args.length≤nt)
  (h:∀ w0 K0,AW P (Cx.lone w0 K0 nt) c (zrv tt res r pv) (entry 0 args) []):FnP P f args r pv:=by
 refine⟨⟨fn,hf,by rw [hb];rfl,hname⟩,fun K w vs hL hK hs hv=>?_⟩
 refine calls_of_wp hf hb ((wpIn_wide (n:=0)).1 ?_)
 have hrel:Rel (Cx.lone w ⟨K,(· < w.heap.size)⟩ nt) (entry 0 args) [] ⟨K,fun _=>undef⟩ ⟨vs ++ Array.replicate (fn.ntmps - vs.size) undef,[]⟩ w:=by
  refine⟨⟨.refl _ _,fun _ h=>h,.refl _ _,fun _ _ _ h=>h,hK,(fun id ob hid=>by cases hid),(fun id b hi=>by cases hi),(fun i j b hi=>by cases hi)⟩,fun t x ht=>?_,by simp;omega,DRb.empty,fun s v hb=>hb.elim⟩
  obtain⟨_,hx⟩:=zbm args 0 t x ht;rw [Nat.sub_zero] at hx;have hlt:t < args.length:=(List.getElem?_eq_some_iff.1 hx).1;refine⟨by show t < nt;omega,?_⟩
  have hvt:vs[t]?=some (vs[t]'(by omega)):=Array.getElem?_eq_getElem (by omega);have e:(vs ++ Array.replicate (fn.ntmps - vs.size) undef).getD t undef=vs[t]'(by omega):=by
   rw [Array.getD_eq_getD_getElem?,Array.getElem?_append_left (by omega),hvt];rfl
  show VR _ _ _ _ ((vs ++ Array.replicate (fn.ntmps - vs.size) undef).getD t undef)
  rw [e];exact zZ (hv t x _ hx hvt)
 refine wpIn_mono ((h w ⟨K,(· < w.heap.size)⟩).use hL hrel) ?_
 intro e a' w' ⟨fr,σ,g,hr,hq⟩;have fin:(∃ x,r=some x∧za6 tt res fr σ=some x)→a'.defers=[]∧∃ v,(results fn a'.tmps).run P w'=.ok v w'∧∃ K',Below w.heap.size w w'∧Ext K w K' w' ∧
   (∀ b o,b < w.heap.size→K' b o→K b o)∧(∀ b o,K' b o→b < w'.heap.size)∧((∃ v_1 x,r=some x∧Ending.returned v=.returned v_1∧VR2 [] ⟨K',fun _=>undef⟩ w' x v_1)∨(r=none∧Ending.returned v=.panicked [{ v:=pv,recovered:=false }])):=by
  rintro⟨x,hx,ho⟩;obtain⟨v,hrun,hvr⟩:=zeW htt hr hres ho (μ:=fun _=>undef);exact⟨hr.defers.nil,v,hrun,Kall σ g w',hr.hp.kept.below,hr.hp.ext.trans zcM,zfH hr.hp,zeF hr.hp,.inl ⟨v,x,hx,rfl,hvr⟩⟩
 cases e with
 | normal=>exact fin hq
 | ret=>exact fin hq
 | panic ch=>
  obtain⟨hr0,rfl⟩:=hq;exact⟨hr.defers.nil,Kall σ g w',hr.hp.kept.below,hr.hp.ext.trans zcM,zfH hr.hp,zeF hr.hp,.inr ⟨hr0,rfl⟩⟩
 | exit id=>exact hq.elim
 | goto l=>exact hq.elim
 | outgrown=>exact hq.elim
end Go.QL
namespace Go.QL
open Go Go.RowKit
def LeC:List SV→List SV→Prop
 | [],[]=>True
 | s::r,t::q=>LeSV s t∧LeC r q
 | _,_=>False
def LeW1:AV→AV→Prop
 | .x s,.x t=>LeSV s t
 | .a cs,.a ds=>LeC cs ds
 | _,_=>False
def LeW2:List AV→List AV→Prop
 | [],[]=>True
 | x::r,y::q=>LeW1 x y∧LeW2 r q
 | _,_=>False
def LeW:AV→AV→Prop
 | .t xs,.t ys=>LeW2 xs ys
 | x,y=>LeW1 x y
section
variable {P:Program} {σ:Sg} {g:Gh} {w:World}
theorem LeC.get:∀ {cs ds:List SV},LeC cs ds→cs.length=ds.length∧∀ (i:Nat) (t:SV),ds[i]?=some t→∃ s,cs[i]?=some s∧LeSV s t
 | [],[],_=>⟨rfl,fun i t h=>by simp at h⟩
 | s::r,t::q,h=>by
  obtain⟨e,ih⟩:=LeC.get h.2;refine⟨by simp [e],fun i z hi=>?_⟩
  cases i with
  | zero=>cases hi;exact⟨s,rfl,h.1⟩
  | succ i=>exact ih i z hi
 | [],_::_,h=>h.elim
 | _::_,[],h=>h.elim
theorem LeW2.get:∀ {cs ds:List AV},LeW2 cs ds→cs.length=ds.length∧∀ (i:Nat) (t:AV),ds[i]?=some t→∃ s,cs[i]?=some s∧LeW1 s t
 | [],[],_=>⟨rfl,fun i t h=>by simp at h⟩
 | s::r,t::q,h=>by
  obtain⟨e,ih⟩:=LeW2.get h.2;refine⟨by simp [e],fun i z hi=>?_⟩
  cases i with
  | zero=>cases hi;exact⟨s,rfl,h.1⟩
  | succ i=>exact ih i z hi
 | [],_::_,h=>h.elim
 | _::_,[],h=>h.elim
theorem LeW1.ok {x y:AV} (h:LeW1 x y) {v:Value} (hv:VR1 σ g w x v):VR1 σ g w y v:=by
 cases x with
 | x s=>
  cases y with
  | x t=>exact LeSV.ok h hv
  | _=>exact h.elim
 | a cs=>
  cases y with
  | a ds=>
   obtain⟨vs,rfl,hs,hr⟩:=hv;obtain⟨e,hg⟩:=LeC.get h;exact⟨vs,rfl,by omega,fun i t u hi hu=>let ⟨s,h1,h2⟩:=hg i t hi;h2.ok (hr i s u h1 hu)⟩
  | _=>exact h.elim
 | t _=>exact h.elim
 | g _ _=>exact h.elim
theorem LeW.ok {x y:AV} (h:LeW x y) {v:Value} (hv:VR2 σ g w x v):VR2 σ g w y v:=by
 cases x with
 | x s=>
  cases y with
  | x t=>exact LeW1.ok (x:=.x s) (y:=.x t) h hv
  | _=>exact h.elim
 | a cs=>
  cases y with
  | a ds=>exact LeW1.ok (x:=.a cs) (y:=.a ds) h hv
  | _=>exact h.elim
 | t xs=>
  cases y with
  | t ys=>
   obtain⟨vs,rfl,hs,hr⟩:=hv;obtain⟨e,hg⟩:=LeW2.get h;exact⟨vs,rfl,by omega,fun i t u hi hu=>let ⟨s,h1,h2⟩:=hg i t hi;h2.ok (hr i s u h1 hu)⟩
  | _=>exact h.elim
 | g _ _=>
  cases y with
  | g _ _=>exact h.elim
  | _=>exact h.elim
theorem ACall.leW {f:FuncId} {args:List AV} {R R':AV→Sg→Prop} (h:ACall P f args σ R) (hr:∀ r σ',R r σ'→∃ r',LeW r r'∧R' r' σ'):ACall P f args σ R':=
 ⟨h.1,fun w0 K0 g w vs hL hp hs hv=>(h.2 w0 K0 g w vs hL hp hs hv).mono fun e w' ⟨v,g',σ',r,a,b,c,d⟩=>let ⟨r',l,d'⟩:=hr r σ' d;⟨v,g',σ',r',a,b,l.ok c,d'⟩⟩
theorem zfd {f:FuncId} {args:List AV} {r:AV} (h:ACall P f args [] fun r' σ'=>r'=r∧σ'=[]):FnC P f args r:=by
 refine⟨h.1,fun K w vs hL hK hs hv=>?_⟩
 have hp:Hp w ⟨K,(· < w.heap.size)⟩ [] ⟨K,fun _=>undef⟩ w:=⟨.refl _ _,fun _ h=>h,.refl _ _,fun _ _ _ h=>h,hK,(fun id ob hid=>by cases hid),(fun id b hi=>by cases hi),(fun i j b hi=>by cases hi)⟩;refine (h.2 w ⟨K,(· < w.heap.size)⟩ ⟨K,fun _=>undef⟩ w vs hL hp hs hv).mono ?_
 rintro e w' ⟨v,g',σ',r',rfl,hd,hv,rfl,rfl⟩;refine⟨v,g'.K,rfl,hd.hp.kept.below,hd.hp.ext,fun b o hb hk=>hd.hp.old b o hb hk,hd.hp.val,?_⟩
 exact VR2.keep (fun s u hs=>SR.keep (σ:=[]) (σ':=[]) (g:=g') (g':=⟨g'.K,fun _=>undef⟩) ⟨fun _ cs h=>(by cases h),fun _ _ _ _ xs h=>(by cases h),fun _ o h=>(by cases h)⟩ (Ext.refl _ _) hs) hv
end
end Go.QL
namespace Go.Proofs.YtidkoikjdghlmaaGreatDoor
open Go Go.QL FoT
set_option maxHeartbeats 1600000
set_option maxRecDepth 20000
attribute [local irreducible] ACall FnC YC
def outB (n lo hi:Int):Bool:=bif decide (n < lo) then true else decide (hi < n)
theorem zQ {n lo hi:Int}:outB n lo hi=false↔lo≤n∧n≤hi:=by
 unfold outB;cases h:decide (n < lo) with
 | true=>have:=of_decide_eq_true h;simp;omega
 | false=>have:=of_decide_eq_false h;simp;omega
def fstI {α : Type} (p : α→Bool):List α→Nat→Option Nat
 | [],_=>none
 | x::r,j=>if p x=true then some j else fstI p r (j+1)
def idxI {α : Type} (p : α→Bool) (xs:List α):Int:=
 match fstI p xs 0 with
 | some j=>j
 | none=>-1
theorem zoj {α : Type} (p : α→Bool) (xs:List α) (j:Nat):(fstI p xs j).isSome=xs.any p:=by
 induction xs generalizing j with
 | nil=>rfl
 | cons x r ih=>
  simp only [fstI,List.any_cons];cases h:p x with
  | true=>simp
  | false=>simp [ih]
theorem zoh {α : Type} (p : α→Bool) (xs:List α):decide (0≤idxI p xs)=xs.any p:=by
 rw [← zoj p xs 0];unfold idxI;cases fstI p xs 0 with
 | none=>rfl
 | some j=>simp
theorem zp9 (fid:FuncId) (cs:List SV) (p:Int→Bool) (xs:List Int) (σ:Sg)
  (hf:∀ x ∈ xs,ACall Tryz.prog fid ([].map AV.x ++ [iv .i64 x] ++ cs.map .x) σ (fun r σ'=>r=bv (p x)∧σ'=σ)) :
  ACall Tryz.prog 112 [sl xs,.x (.f (.func fid) [] cs)] σ (fun r σ'=>r=iv .i64 (idxI p xs)∧σ'=σ):=by
 refine zcN hTt Tryz.func112 rfl (by kernel_rfl) (res:=[.tmp 4]) rfl Tryz.ntmps112 (by simp) fun w0 K0 B=>?_
 dsimp only [entry];repeat' first|refine zd ?_|refine zc ?_|refine zA ?_|((first|refine zf ?_|refine zB ?_|refine zk ?_|refine zi ?_|refine regA ?_|fail);conv=>whnf)|(refine zst rfl ?_)|(refine zss rfl ?_)|(refine zsu rfl ?_)|(refine zsv rfl ?_)|(refine zso rfl (fun hb=>?_) (fun hb=>?_))|((first|refine zsq ?_|refine⟨IntKind.wrap _ _,rfl,?_⟩|refine andA ?_|with_reducible refine exA fun _=>?_|with_reducible refine And.intro (ze (And.intro (by omega) (And.intro (by first|omega|(simp only [List.length_map];omega)) (by first|omega|(simp only [List.length_map];omega)|(simp only [List.length_set,List.length_map];omega))))) ?_|with_reducible refine Exists.intro _ (And.intro (ze (zh (by omega) (by omega))) (And.intro (And.intro (Nat.le_of_ble_eq_true rfl) rfl) ?_))|with_reducible refine Exists.intro _ (And.intro (ze (And.intro (by omega) (zh (by omega) (by omega)))) ?_)|with_reducible refine And.intro (And.intro (by omega) (And.intro (by first|omega|(simp only [List.length_map];omega)) (by first|omega|(simp only [List.length_map,List.length_set];omega)))) ?_|with_reducible refine Exists.intro _ (And.intro (zh (by omega) (by omega)) (And.intro (Nat.le_of_ble_eq_true rfl) ?_))|fail);conv=>whnf)|((refine And.intro (by refine⟨?_,?_,?_⟩ <;> simp [zO,maxLen] <;> omega) ?_);conv=>whnf)|(refine lnA fun hln=>?_;conv=>whnf)|fail
 refine zJ (fun i:Nat=>[(8,iv .i64 i),(7,iv .i64 xs.length),(0,sl xs),(1,.x (.f (.func fid) [] cs))]) (fun _=>σ)
  (fun i=>i≤xs.length∧fstI p xs 0=fstI p (xs.drop i) i) (fun i=>xs.length - i) 0 (by simp) (Imp.slots ⟨rfl,congrArg (fun k:Nat=>some (iv .i64 k)) (List.length_map _),rfl,rfl,trivial⟩) ?_
 rintro i ⟨hi,hfo⟩;rcases Nat.lt_or_ge i xs.length with hil|hil
 ·have hc:=hf xs[i] (List.getElem_mem hil);rw [List.drop_eq_getElem_cons hil] at hfo;simp only [fstI] at hfo;generalize p xs[i]=b at hc hfo;cases b with
  | true=>
   rw [if_pos rfl] at hfo;repeat' first|refine zd ?_|refine zc ?_|refine zA ?_|((first|refine zf ?_|refine zB ?_|refine zk ?_|refine zi ?_|refine regA ?_|fail);conv=>whnf)|exact abA hb|((refine⟨_,hc,?_⟩);(rintro _ _ ⟨rfl,rfl⟩);conv=>whnf)|(refine zst rfl ?_)|(refine zss rfl ?_)|(refine zsu rfl ?_)|(refine zsv rfl ?_)|(refine zso rfl (fun hb=>?_) (fun hb=>?_))|((first|refine zsq ?_|refine⟨IntKind.wrap _ _,rfl,?_⟩|refine andA ?_|with_reducible refine exA fun _=>?_|with_reducible refine And.intro (ze (And.intro (by omega) (And.intro (by first|omega|(simp only [List.length_map];omega)) (by first|omega|(simp only [List.length_map];omega)|(simp only [List.length_set,List.length_map];omega))))) ?_|with_reducible refine Exists.intro _ (And.intro (ze (zh (by omega) (by omega))) (And.intro (And.intro (Nat.le_of_ble_eq_true rfl) rfl) ?_))|with_reducible refine Exists.intro _ (And.intro (ze (And.intro (by omega) (zh (by omega) (by omega)))) ?_)|with_reducible refine And.intro (And.intro (by omega) (And.intro (by first|omega|(simp only [List.length_map];omega)) (by first|omega|(simp only [List.length_map,List.length_set];omega)))) ?_|with_reducible refine Exists.intro _ (And.intro (zh (by omega) (by omega)) (And.intro (Nat.le_of_ble_eq_true rfl) ?_))|fail);conv=>whnf)|((refine And.intro (by refine⟨?_,?_,?_⟩ <;> simp [zO,maxLen] <;> omega) ?_);conv=>whnf)|(refine lnA fun hln=>?_;conv=>whnf)|fail
   exact⟨_,rfl,by unfold idxI;rw [hfo],rfl⟩
  | false=>
   rw [if_neg (by decide)] at hfo;repeat' first|refine zd ?_|refine zc ?_|refine zA ?_|((first|refine zf ?_|refine zB ?_|refine zk ?_|refine zi ?_|refine regA ?_|fail);conv=>whnf)|exact abA hb|((refine⟨_,hc,?_⟩);(rintro _ _ ⟨rfl,rfl⟩);conv=>whnf)|(refine zst rfl ?_)|(refine zss rfl ?_)|(refine zsu rfl ?_)|(refine zsv rfl ?_)|(refine zso rfl (fun hb=>?_) (fun hb=>?_))|((first|refine zsq ?_|refine⟨IntKind.wrap _ _,rfl,?_⟩|refine andA ?_|with_reducible refine exA fun _=>?_|with_reducible refine And.intro (ze (And.intro (by omega) (And.intro (by first|omega|(simp only [List.length_map];omega)) (by first|omega|(simp only [List.length_map];omega)|(simp only [List.length_set,List.length_map];omega))))) ?_|with_reducible refine Exists.intro _ (And.intro (ze (zh (by omega) (by omega))) (And.intro (And.intro (Nat.le_of_ble_eq_true rfl) rfl) ?_))|with_reducible refine Exists.intro _ (And.intro (ze (And.intro (by omega) (zh (by omega) (by omega)))) ?_)|with_reducible refine And.intro (And.intro (by omega) (And.intro (by first|omega|(simp only [List.length_map];omega)) (by first|omega|(simp only [List.length_map,List.length_set];omega)))) ?_|with_reducible refine Exists.intro _ (And.intro (zh (by omega) (by omega)) (And.intro (Nat.le_of_ble_eq_true rfl) ?_))|fail);conv=>whnf)|((refine And.intro (by refine⟨?_,?_,?_⟩ <;> simp [zO,maxLen] <;> omega) ?_);conv=>whnf)|(refine lnA fun hln=>?_;conv=>whnf)|fail
   exact⟨i+1,⟨by omega,hfo⟩,by omega,Imp.slots ⟨rfl,rfl,rfl,rfl,trivial⟩⟩
 ·rw [List.drop_eq_nil_of_le hil] at hfo;repeat' first|refine zd ?_|refine zc ?_|refine zA ?_|((first|refine zf ?_|refine zB ?_|refine zk ?_|refine zi ?_|refine regA ?_|fail);conv=>whnf)|exact abA hb|(refine zst rfl ?_)|(refine zss rfl ?_)|(refine zsu rfl ?_)|(refine zsv rfl ?_)|(refine zso rfl (fun hb=>?_) (fun hb=>?_))|((first|refine zsq ?_|refine⟨IntKind.wrap _ _,rfl,?_⟩|refine andA ?_|with_reducible refine exA fun _=>?_|with_reducible refine And.intro (ze (And.intro (by omega) (And.intro (by first|omega|(simp only [List.length_map];omega)) (by first|omega|(simp only [List.length_map];omega)|(simp only [List.length_set,List.length_map];omega))))) ?_|with_reducible refine Exists.intro _ (And.intro (ze (zh (by omega) (by omega))) (And.intro (And.intro (Nat.le_of_ble_eq_true rfl) rfl) ?_))|with_reducible refine Exists.intro _ (And.intro (ze (And.intro (by omega) (zh (by omega) (by omega)))) ?_)|with_reducible refine And.intro (And.intro (by omega) (And.intro (by first|omega|(simp only [List.length_map];omega)) (by first|omega|(simp only [List.length_map,List.length_set];omega)))) ?_|with_reducible refine Exists.intro _ (And.intro (zh (by omega) (by omega)) (And.intro (Nat.le_of_ble_eq_true rfl) ?_))|fail);conv=>whnf)|((refine And.intro (by refine⟨?_,?_,?_⟩ <;> simp [zO,maxLen] <;> omega) ?_);conv=>whnf)|(refine lnA fun hln=>?_;conv=>whnf)|fail
  exact⟨_,rfl,by unfold idxI;rw [hfo];rfl,rfl⟩
theorem zdc (fid:FuncId) (cs:List SV) (p:Int→Bool) (xs:List Int) (σ:Sg)
  (hf:∀ x ∈ xs,ACall Tryz.prog fid ([].map AV.x ++ [iv .i64 x] ++ cs.map .x) σ (fun r σ'=>r=bv (p x)∧σ'=σ)) :
  ACall Tryz.prog 76 [sl xs,.x (.f (.func fid) [] cs)] σ (fun r σ'=>r=bv (xs.any p)∧σ'=σ):=by
 have hc:=zp9 fid cs p xs σ hf;rw [← zoh];refine zcN hTt Tryz.func76 rfl (by kernel_rfl) (res:=[.tmp 4]) rfl Tryz.ntmps76 (by simp) fun w0 K0 B=>?_
 dsimp only [entry];repeat' first|refine zd ?_|refine zc ?_|refine zA ?_|((first|refine zf ?_|refine zB ?_|refine zk ?_|refine zi ?_|refine regA ?_|((refine⟨_,hc,?_⟩);(rintro _ _ ⟨rfl,rfl⟩))|fail);conv=>whnf)|(refine zst rfl ?_)|(refine zss rfl ?_)|(refine zsu rfl ?_)|(refine zsv rfl ?_)|(refine zso rfl (fun hb=>?_) (fun hb=>?_))|((first|refine zsq ?_|refine⟨IntKind.wrap _ _,rfl,?_⟩|refine andA ?_|with_reducible refine exA fun _=>?_|with_reducible refine And.intro (ze (And.intro (by omega) (And.intro (by first|omega|(simp only [List.length_map];omega)) (by first|omega|(simp only [List.length_map];omega)|(simp only [List.length_set,List.length_map];omega))))) ?_|with_reducible refine Exists.intro _ (And.intro (ze (zh (by omega) (by omega))) (And.intro (And.intro (Nat.le_of_ble_eq_true rfl) rfl) ?_))|with_reducible refine Exists.intro _ (And.intro (ze (And.intro (by omega) (zh (by omega) (by omega)))) ?_)|with_reducible refine And.intro (And.intro (by omega) (And.intro (by first|omega|(simp only [List.length_map];omega)) (by first|omega|(simp only [List.length_map,List.length_set];omega)))) ?_|with_reducible refine Exists.intro _ (And.intro (zh (by omega) (by omega)) (And.intro (Nat.le_of_ble_eq_true rfl) ?_))|fail);conv=>whnf)|((refine And.intro (by refine⟨?_,?_,?_⟩ <;> simp [zO,maxLen] <;> omega) ?_);conv=>whnf)|(refine lnA fun hln=>?_;conv=>whnf)|fail
 exact⟨_,rfl,rfl,rfl⟩
theorem znM (hi x:Int):ACall Tryz.prog 233 [iv .i64 x,.x (.b 2 0)] [(2,.box [.d (.v (.int .i64 hi))])]
  (fun r σ'=>r=bv (outB x 0 hi)∧σ'=[(2,.box [.d (.v (.int .i64 hi))])]):=by
 refine zcN hTt Tryz.func233 rfl (by kernel_rfl) (res:=[.tmp 3]) rfl Tryz.ntmps233 (by simp) fun w0 K0 B=>?_
 dsimp only [entry];repeat' first|refine zd ?_|refine zc ?_|refine zA ?_|((first|refine zf ?_|refine zB ?_|refine zk ?_|refine zi ?_|refine regA ?_|fail);conv=>whnf)|(refine zst rfl ?_)|(refine zss rfl ?_)|(refine zsu rfl ?_)|(refine zsv rfl ?_)|(refine zso rfl (fun hb=>?_) (fun hb=>?_))|((first|refine zsq ?_|refine⟨IntKind.wrap _ _,rfl,?_⟩|refine andA ?_|with_reducible refine exA fun _=>?_|with_reducible refine And.intro (ze (And.intro (by omega) (And.intro (by first|omega|(simp only [List.length_map];omega)) (by first|omega|(simp only [List.length_map];omega)|(simp only [List.length_set,List.length_map];omega))))) ?_|with_reducible refine Exists.intro _ (And.intro (ze (zh (by omega) (by omega))) (And.intro (And.intro (Nat.le_of_ble_eq_true rfl) rfl) ?_))|with_reducible refine Exists.intro _ (And.intro (ze (And.intro (by omega) (zh (by omega) (by omega)))) ?_)|with_reducible refine And.intro (And.intro (by omega) (And.intro (by first|omega|(simp only [List.length_map];omega)) (by first|omega|(simp only [List.length_map,List.length_set];omega)))) ?_|with_reducible refine Exists.intro _ (And.intro (zh (by omega) (by omega)) (And.intro (Nat.le_of_ble_eq_true rfl) ?_))|fail);conv=>whnf)|((refine And.intro (by refine⟨?_,?_,?_⟩ <;> simp [zO,maxLen] <;> omega) ?_);conv=>whnf)|(refine lnA fun hln=>?_;conv=>whnf)|fail
 exact⟨_,rfl,rfl,rfl⟩
theorem zjl (hi:Int) (xs:List Int):FnC Tryz.prog 178 [iv .i64 hi,sl xs] (bv (xs.any fun x=>outB x 0 hi)):=by
 have hc:=zdc 233 [.b 2 0] (fun x=>outB x 0 hi) xs _ (fun x _=>znM hi x);generalize (xs.any fun x=>outB x 0 hi)=b at hc;refine hdC Tryz.func178 Tryz.ntmps178 (res:=[.tmp 4]) fun w0 K0=>?_
 repeat' first|refine zd ?_|refine zc ?_|refine zA ?_|((first|refine zf ?_|refine zB ?_|refine zk ?_|refine zi ?_|refine regA ?_|((refine⟨_,hc,?_⟩);(rintro _ _ ⟨rfl,rfl⟩))|fail);conv=>whnf)|(refine zst rfl ?_)|(refine zss rfl ?_)|(refine zsu rfl ?_)|(refine zsv rfl ?_)|(refine zso rfl (fun hb=>?_) (fun hb=>?_))|((first|refine zsq ?_|refine⟨IntKind.wrap _ _,rfl,?_⟩|refine andA ?_|with_reducible refine exA fun _=>?_|with_reducible refine And.intro (ze (And.intro (by omega) (And.intro (by first|omega|(simp only [List.length_map];omega)) (by first|omega|(simp only [List.length_map];omega)|(simp only [List.length_set,List.length_map];omega))))) ?_|with_reducible refine Exists.intro _ (And.intro (ze (zh (by omega) (by omega))) (And.intro (And.intro (Nat.le_of_ble_eq_true rfl) rfl) ?_))|with_reducible refine Exists.intro _ (And.intro (ze (And.intro (by omega) (zh (by omega) (by omega)))) ?_)|with_reducible refine And.intro (And.intro (by omega) (And.intro (by first|omega|(simp only [List.length_map];omega)) (by first|omega|(simp only [List.length_map,List.length_set];omega)))) ?_|with_reducible refine Exists.intro _ (And.intro (zh (by omega) (by omega)) (And.intro (Nat.le_of_ble_eq_true rfl) ?_))|fail);conv=>whnf)|((refine And.intro (by refine⟨?_,?_,?_⟩ <;> simp [zO,maxLen] <;> omega) ?_);conv=>whnf)|(refine lnA fun hln=>?_;conv=>whnf)|fail
 rfl
theorem zps (v:Int) (h:zP v):FnC Tryz.prog 256 [iv .i64 v] (iv .i64 (sgnW v)):=by
 unfold zP at h;have hs:∃ b:Int,(b=0∨b=1)∧v.fdiv (2 ^ min (Int.toNat 23) IntKind.i64.bits)=b∧sgnW v=v - b * 16777216:=by
  refine⟨v / 8388608,by omega,Int.fdiv_eq_ediv_of_nonneg _ (by decide),?_⟩
  unfold sgnW;split <;> omega
 obtain⟨b,hb01,hs1,hs2⟩:=hs;have hs3:IntKind.i64.wrap (1 * 2 ^ min (Int.toNat 24) IntKind.i64.bits)=16777216:=by decide
 rw [hs2];rcases hb01 with rfl|rfl
 ·refine hdC Tryz.func256 Tryz.ntmps256 (res:=[.tmp 2]) fun w0 K0=>?_
  repeat' first|refine zd ?_|refine zc ?_|refine zA ?_|((first|refine zf ?_|refine zB ?_|refine zk ?_|refine zi ?_|refine regA ?_|refine⟨_,hs1,?_⟩|refine⟨_,hs3,?_⟩|fail);conv=>whnf)|(refine zst rfl ?_)|(refine zss rfl ?_)|(refine zsu rfl ?_)|(refine zsv rfl ?_)|(refine zso rfl (fun hb=>?_) (fun hb=>?_))|((first|refine zsq ?_|refine⟨IntKind.wrap _ _,rfl,?_⟩|refine andA ?_|with_reducible refine exA fun _=>?_|with_reducible refine And.intro (ze (And.intro (by omega) (And.intro (by first|omega|(simp only [List.length_map];omega)) (by first|omega|(simp only [List.length_map];omega)|(simp only [List.length_set,List.length_map];omega))))) ?_|with_reducible refine Exists.intro _ (And.intro (ze (zh (by omega) (by omega))) (And.intro (And.intro (Nat.le_of_ble_eq_true rfl) rfl) ?_))|with_reducible refine Exists.intro _ (And.intro (ze (And.intro (by omega) (zh (by omega) (by omega)))) ?_)|with_reducible refine And.intro (And.intro (by omega) (And.intro (by first|omega|(simp only [List.length_map];omega)) (by first|omega|(simp only [List.length_map,List.length_set];omega)))) ?_|with_reducible refine Exists.intro _ (And.intro (zh (by omega) (by omega)) (And.intro (Nat.le_of_ble_eq_true rfl) ?_))|fail);conv=>whnf)|((refine And.intro (by refine⟨?_,?_,?_⟩ <;> simp [zO,maxLen] <;> omega) ?_);conv=>whnf)|(refine lnA fun hln=>?_;conv=>whnf)|fail
  rfl
 ·refine hdC Tryz.func256 Tryz.ntmps256 (res:=[.tmp 2]) fun w0 K0=>?_
  repeat' first|refine zd ?_|refine zc ?_|refine zA ?_|((first|refine zf ?_|refine zB ?_|refine zk ?_|refine zi ?_|refine regA ?_|refine⟨_,hs1,?_⟩|refine⟨_,hs3,?_⟩|fail);conv=>whnf)|(refine zst rfl ?_)|(refine zss rfl ?_)|(refine zsu rfl ?_)|(refine zsv rfl ?_)|(refine zso rfl (fun hb=>?_) (fun hb=>?_))|((first|refine zsq ?_|refine⟨IntKind.wrap _ _,rfl,?_⟩|refine andA ?_|with_reducible refine exA fun _=>?_|with_reducible refine And.intro (ze (And.intro (by omega) (And.intro (by first|omega|(simp only [List.length_map];omega)) (by first|omega|(simp only [List.length_map];omega)|(simp only [List.length_set,List.length_map];omega))))) ?_|with_reducible refine Exists.intro _ (And.intro (ze (zh (by omega) (by omega))) (And.intro (And.intro (Nat.le_of_ble_eq_true rfl) rfl) ?_))|with_reducible refine Exists.intro _ (And.intro (ze (And.intro (by omega) (zh (by omega) (by omega)))) ?_)|with_reducible refine And.intro (And.intro (by omega) (And.intro (by first|omega|(simp only [List.length_map];omega)) (by first|omega|(simp only [List.length_map,List.length_set];omega)))) ?_|with_reducible refine Exists.intro _ (And.intro (zh (by omega) (by omega)) (And.intro (Nat.le_of_ble_eq_true rfl) ?_))|fail);conv=>whnf)|((refine And.intro (by refine⟨?_,?_,?_⟩ <;> simp [zO,maxLen] <;> omega) ?_);conv=>whnf)|(refine lnA fun hln=>?_;conv=>whnf)|fail
  rfl
theorem zsh (v:Int):ze6 .and .i64 v 16777215=v % 16777216:=by
 have e:(BitVec.ofInt 64 v &&& BitVec.ofInt 64 16777215).toNat=(v % 16777216).toNat:=by
  rw [BitVec.toNat_and,BitVec.toNat_ofInt,BitVec.toNat_ofInt];have e2:((16777215:Int) % ((2 ^ 64:Nat):Int)).toNat=2 ^ 24 - 1:=by decide
  rw [e2,Nat.and_two_pow_sub_one_eq_mod];have e3:((2 ^ 64:Nat):Int)=18446744073709551616:=by decide
  rw [e3];omega
 show IntKind.i64.wrap ((BitVec.ofInt 64 v &&& BitVec.ofInt 64 16777215).toNat:Int)=_
 rw [e,Int.toNat_of_nonneg (by omega)];exact zg (by omega)
def iPV (v:Int):List PV:=[.v (.int .i64 v)]
abbrev orAV (op a b c:Int):AV:=.a [.d (.v (.int .i64 op)),.d (.v (.int .i64 a)),.d (.v (.int .i64 b)),.d (.v (.int .i64 c))]
def Stp (P:Program) (Γ:Cx) (c:Code) (Q:Exit→Fr→Sg→Prop) (fr:Fr) (σ:Sg):Prop:=AW P Γ c Q fr σ
attribute [irreducible] Stp
end Go.Proofs.YtidkoikjdghlmaaGreatDoor
namespace Go.Proofs.YtidkoikjdghlmaaGreatDoor
open Go Go.QL FoT
set_option maxHeartbeats 1600000
set_option maxRecDepth 20000
attribute [local irreducible] ACall FnC YC fine ten
theorem and15 (x:Int) (h : -9223372036854775808≤x∧x≤9223372036854775807):ze6 .and .i64 x 15=x % 16:=by
 show IntKind.i64.wrap ((BitVec.ofInt 64 x &&& BitVec.ofInt 64 15).toNat:Int)=_
 have e2:(BitVec.ofInt 64 15)=BitVec.ofNat 64 15:=by decide
 rw [e2,BitVec.toNat_and,BitVec.toNat_ofNat,BitVec.toNat_ofInt];rw [show (15 % 2 ^ 64:Nat)=2 ^ 4 - 1 by decide,Nat.and_two_pow_sub_one_eq_mod];rw [zg (by omega)];omega
theorem passing_fn (time addr:Int):ACall Tryz.prog 300 [iv .i64 time,iv .i64 addr] [] (fun r σ'=>r=.x (.f (.func 304) [] [.b 3 0,.b 2 0])∧σ'=[(3,.box [.d (.v (.int .i64 addr))]),(2,.box [.d (.v (.int .i64 time))])]):=by
 refine hdD Tryz.func300 Tryz.ntmps300 (res:=[.tmp 4]) fun w0 K0 B=>?_
 repeat' first|refine zd ?_|((first|refine zi ?_|refine regA ?_|fail);conv=>whnf)|fail
 exact⟨_,[(3,.box [.d (.v (.int .i64 addr))]),(2,.box [.d (.v (.int .i64 time))])],⟨rfl,rfl,trivial⟩,rfl,rfl,rfl,rfl⟩
abbrev frAf (time addr:Int):Fr:=[(8,.x (.f (.func 304) [] [.b 963 0,.b 962 0])),(4,.x (.b 4 0)),(0,iv .i64 time),(1,iv .i64 addr)]
abbrev sgA (asg bdy:Code) (s:LoopState) (pd:Option Code) (time addr v:Int):Sg:=
 [(930,.x (.loop s pd #[9] asg bdy 12 (frAf time addr) 931)),(931,.x .dfr),(4,.box [.d (.v (.int .i64 v))]),(963,.box [.d (.v (.int .i64 addr))]),(962,.box [.d (.v (.int .i64 time))])]
theorem passing1_fn {asg bdy:Code} {time addr:Int} {pd:Option Code} (ht : -1000000≤time∧time≤1000000000000) (ha : -1000000≤addr∧addr≤1000000)
  (hy:YC Tryz.prog 930 [iv .i64 (afterO time addr)] (sgA asg bdy .ready none time addr 0) (fun r σ'=>r=bv false∧σ'=sgA asg bdy .done pd time addr (afterO time addr))) :
  ACall Tryz.prog 304 [.x (.h 930),.x (.b 963 0),.x (.b 962 0)] (sgA asg bdy .ready none time addr 0) (fun r σ'=>r=.t []∧σ'=sgA asg bdy .done pd time addr (afterO time addr)):=by
 have h15:=and15 (addr - time - 1) (by omega);have hw:IntKind.i64.wrap (time+1+(addr - time - 1) % 16)=afterO time addr:=by unfold afterO;exact zg (by omega)
 generalize afterO time addr=v at hy hw;refine hdD Tryz.func304 Tryz.ntmps304 (res:=[]) fun w0 K0 B=>?_
 repeat' first|refine zd ?_|refine zc ?_|((first|refine regA ?_|refine⟨_,h15,?_⟩|refine⟨_,hw,?_⟩|refine zsq ?_|fail);conv=>whnf)|fail
 refine zJ (fun _:Unit=>[(5,iv .i64 v),(0,.x (.h 930)),(1,.x (.b 963 0)),(2,.x (.b 962 0))]) (fun _=>sgA asg bdy .ready none time addr 0) (fun _=>True) (fun _=>0) () trivial impA ?_
 intro _ _;repeat' first|refine zd ?_|((first|refine zk ?_|refine regA ?_|((refine⟨_,hy,?_⟩);(rintro _ _ ⟨rfl,rfl⟩))|fail);conv=>whnf)|(refine zss rfl ?_)|fail
 exact⟨_,sgA asg bdy .done pd time addr v,⟨rfl,rfl,rfl,rfl,rfl,trivial⟩,rfl,rfl,rfl,rfl⟩
theorem after_fn (time addr:Int) (ht : -1000000≤time∧time≤1000000000000) (ha : -1000000≤addr∧addr≤1000000):FnC Tryz.prog 289 [iv .i64 time,iv .i64 addr] (iv .i64 (afterO time addr)):=by
 have c1:=DC.ACall.anew (passing_fn time addr) (asc [(3,963),(2,962)]) (args':=[iv .i64 time,iv .i64 addr]) (rv':=.x (.f (.func 304) [] [.b 963 0,.b 962 0])) (nob':=[(963,.box [.d (.v (.int .i64 addr))]),(962,.box [.d (.v (.int .i64 time))])]) rfl rfl rfl rfl
  [(4,.box [.d (.v (.int .i64 0))])] (by intro p hp;simp only [List.mem_cons,List.not_mem_nil,or_false] at hp;rcases hp with rfl|rfl <;> rfl)
 refine FnC.of_ACall ?_ rfl
 refine zpe hTt [931] Tryz.func289 rfl (by kernel_rfl) (res:=[.cell 4 3]) rfl Tryz.ntmps289 (by simp) fun w0 K0 B=>?_
 dsimp only [entry];repeat' first|refine zd ?_|refine zc ?_|((first|refine regA ?_|((refine⟨_,c1,?_⟩);(rintro _ _ ⟨rfl,rfl⟩))|fail);conv=>whnf)|fail
 refine zaq (Imp.forget (fr':=frAf time addr) (σ':=[(4,.box [.d (.v (.int .i64 0))]),(963,.box [.d (.v (.int .i64 addr))]),(962,.box [.d (.v (.int .i64 time))])])
  ⟨rfl,rfl,rfl,rfl,trivial⟩ ⟨rfl,rfl,rfl,trivial⟩ rfl) ?_
 refine ziZ 930 931 rfl rfl rfl (by decide) (by simp) rfl _ (passing1_fn (pd:=some .ret) ht ha ?hy) ?hk
 case hk=>
  rintro rv σ' ⟨rfl,rfl⟩;refine⟨rfl,.done,some .ret,rfl,by decide,?_⟩
  dsimp only;repeat' first|((refine zi ?_);conv=>whnf)|fail
  exact⟨[(4,.x (.b 4 0))],[(4,.box [.d (.v (.int .i64 (afterO time addr)))])],⟨rfl,trivial⟩,⟨rfl,trivial⟩,rfl,iv .i64 (afterO time addr),[],trivial,rfl,rfl,rfl,rfl⟩
 case hy=>
  generalize afterO time addr=v;refine zoH (pend:=none) rfl rfl (by decide) rfl ?_
  intro w0 K0 B b;dsimp only [zk2];repeat' first|((refine regA ?_);conv=>whnf)|fail
  refine⟨_,rfl,?_⟩
  repeat' first|refine zd ?_|refine zc ?_|((first|refine zi ?_|refine regA ?_|fail);conv=>whnf)|fail
  refine⟨sgA ?a ?b .busy none time addr v,none,?h1,?h2,?h3,?h4⟩
  case h3=>exact rfl
  case h1=>exact⟨rfl,rfl,rfl,rfl,rfl,trivial⟩
  case h2=>rfl
  case h4=>exact⟨rfl,rfl⟩
end Go.Proofs.YtidkoikjdghlmaaGreatDoor
namespace Go.Proofs.YtidkoikjdghlmaaGreatDoor
open Go Go.QL FoT
set_option maxHeartbeats 1600000
set_option maxRecDepth 20000
attribute [local irreducible] ACall FnC YC fine ten
theorem and127 (x:Int) (h:0≤x∧x≤1000000000):ze6 .and .i64 x 127=x % 128:=by
 show IntKind.i64.wrap ((BitVec.ofInt 64 x &&& BitVec.ofInt 64 127).toNat:Int)=_
 have e2:(BitVec.ofInt 64 127)=BitVec.ofNat 64 127:=by decide
 rw [e2,BitVec.toNat_and,BitVec.toNat_ofNat,BitVec.toNat_ofInt];rw [show (127 % 2 ^ 64:Nat)=2 ^ 7 - 1 by decide,Nat.and_two_pow_sub_one_eq_mod];rw [zg (by omega)];omega
theorem unpack_fn (w:Int) (h:0≤w∧w≤1000000000):FnC Tryz.prog 252 [iv .i64 w] (.t [iv .i64 (w / 128),iv .i64 (w % 128)]):=by
 have h1:w.fdiv (2 ^ min (Int.toNat 7) IntKind.i64.bits)=w / 128:=Int.fdiv_eq_ediv_of_nonneg _ (by decide);have h2:=and127 w h;refine hdC Tryz.func252 Tryz.ntmps252 (res:=[.tmp 2,.tmp 3]) fun w0 K0=>?_
 repeat' first|refine zd ?_|((first|refine zi ?_|refine regA ?_|refine⟨_,h1,?_⟩|refine⟨_,h2,?_⟩|refine andA ?_|fail);conv=>whnf)|fail
 rfl
abbrev oAV (o:OrO):AV:=orAV o.op o.a o.b o.n
theorem decode_fn (w:Int) (h:zP w):FnC Tryz.prog 207 [iv .i64 w] (oAV (decO w)):=by
 unfold zP at h;have p1:=unpack_fn w (by omega);have p2:=unpack_fn (w / 128) (by omega);have p3:=unpack_fn (w / 128 / 128) (by omega);have e1:w / 128 / 128 / 128=w / 2097152:=by omega
 have e2:w / 128 / 128 % 128=w / 16384 % 128:=by omega
 rw [e1,e2] at p3;refine hdC Tryz.func207 Tryz.ntmps207 (res:=[.cell 2 196]) fun w0 K0=>?_
 repeat' first|refine zd ?_|((first|refine zi ?_|refine regA ?_|refine zsn (p1) ?_|refine zsn (p2) ?_|refine zsn (p3) ?_|refine andA ?_|fail);conv=>whnf)|fail
 rfl
structure OrOK (o:OrO):Prop where
 op:0≤o.op∧o.op≤7
 a:0≤o.a∧o.a≤127
 b:0≤o.b∧o.b≤127
 n:0≤o.n∧o.n≤127
theorem dec_ok {w:Int} (h:zP w):OrOK (decO w):=by
 unfold zP at h;refine⟨?_,?_,?_,?_⟩ <;> (unfold decO;dsimp only;omega)
def atO (o:OrO) (neg:Bool):Int:=if o.op=5∧neg=true then o.b else o.n
theorem when_fn (o:OrO) (ho:OrOK o) (time:Int) (ht:0≤time∧time≤10000000000) (neg:Bool):FnC Tryz.prog 255 [oAV o,iv .i64 time,bv neg] (.t [iv .i64 (atO o neg),iv .i64 (untilO o time (atO o neg))]):=by
 obtain⟨op,a,b,n⟩:=o;obtain⟨h1,h2,h3,h4⟩:=ho;dsimp only at h1 h2 h3 h4;show FnC Tryz.prog 255 [orAV op a b n,iv .i64 time,bv neg] _
 have hat:0≤atO ⟨op,a,b,n⟩ neg∧atO ⟨op,a,b,n⟩ neg≤127:=by unfold atO;split <;> assumption
 have b1:=after_le time a;have b2:=after_le time b;have b3:=after_le (afterO time a) b;have b4:=after_le (afterO (afterO time a) b+12) b;have c1:=after_fn time a (by omega) (by omega);have c2:=after_fn time b (by omega) (by omega);have c3:=after_fn (afterO time a) b (by omega) (by omega);have c4:=after_fn (afterO (afterO time a) b+12) b (by omega) (by omega);have d1:=after_fn (afterO time a) (atO ⟨op,a,b,n⟩ neg) (by omega) (by omega);have d2:=after_fn (afterO time b) (atO ⟨op,a,b,n⟩ neg) (by omega) (by omega);have d3:=after_fn (afterO (afterO time a) b) (atO ⟨op,a,b,n⟩ neg) (by omega) (by omega);have d4:=after_fn (afterO (afterO (afterO time a) b+12) b) (atO ⟨op,a,b,n⟩ neg) (by omega) (by omega);clear hat;unfold untilO atO at *;dsimp only at *;by_cases k5:op=5
 ·subst k5;cases neg with
  | true=>
   simp only [and_self,if_true,true_or] at *;refine hdC Tryz.func255 Tryz.ntmps255 (res:=[.tmp 6,.tmp 7]) fun w0 K0=>?_
   repeat' first|refine zd ?_|refine zc ?_|((first|refine zk ?_|refine zi ?_|refine regA ?_|refine zsn (c1) ?_|refine zsn (d1) ?_|fail);conv=>whnf)|(refine zst rfl ?_)|((refine andA ?_);conv=>whnf)|fail
   rfl
  | false=>
   simp only [and_false,if_false,Bool.false_eq_true,true_or,if_true] at *;refine hdC Tryz.func255 Tryz.ntmps255 (res:=[.tmp 6,.tmp 7]) fun w0 K0=>?_
   repeat' first|refine zd ?_|refine zc ?_|((first|refine zf ?_|refine zk ?_|refine zi ?_|refine regA ?_|refine zsn (c1) ?_|refine zsn (d1) ?_|fail);conv=>whnf)|(refine zst rfl ?_)|(refine zss rfl ?_)|((refine andA ?_);conv=>whnf)|fail
   rfl
 ·simp only [k5,false_and,if_false,false_or] at d1 d2 d3 d4 ⊢;by_cases k7:op=7
  ·subst k7;rw [if_pos rfl];refine hdC Tryz.func255 Tryz.ntmps255 (res:=[.tmp 6,.tmp 7]) fun w0 K0=>?_
   repeat' first|refine zd ?_|refine zc ?_|((first|refine zf ?_|refine zk ?_|refine zi ?_|refine regA ?_|refine zsn (c1) ?_|refine zsn (d1) ?_|fail);conv=>whnf)|(refine zst rfl ?_)|(refine zss rfl ?_)|((refine andA ?_);conv=>whnf)|fail
   rfl
  ·rw [if_neg k7];by_cases k6:op=6
   ·subst k6;rw [if_pos rfl];refine hdC Tryz.func255 Tryz.ntmps255 (res:=[.tmp 6,.tmp 7]) fun w0 K0=>?_
    repeat' first|refine zd ?_|refine zc ?_|((first|refine zf ?_|refine zk ?_|refine zi ?_|refine regA ?_|refine zsn (c2) ?_|refine zsn (d2) ?_|fail);conv=>whnf)|(refine zst rfl ?_)|(refine zss rfl ?_)|((refine andA ?_);conv=>whnf)|fail
    rfl
   ·rw [if_neg k6];by_cases k4:op=4
    ·subst k4;rw [if_pos rfl];refine hdC Tryz.func255 Tryz.ntmps255 (res:=[.tmp 6,.tmp 7]) fun w0 K0=>?_
     repeat' first|refine zd ?_|refine zc ?_|((first|refine zf ?_|refine zk ?_|refine zi ?_|refine regA ?_|refine drA (id:=11) 6 false [0,0,2,7,0,16,63,127,255] ?_|refine zsp (c1) ?_|refine zsn (c3) ?_|refine zsn (c4) ?_|refine zsn (d4) ?_|fail);conv=>whnf)|(refine zst rfl ?_)|(refine zss rfl ?_)|((first|refine zsq ?_|refine andA ?_|fail);conv=>whnf)|fail
     rfl
    ·rw [if_neg k4];refine hdC Tryz.func255 Tryz.ntmps255 (res:=[.tmp 6,.tmp 7]) fun w0 K0=>?_
     repeat' first|refine zd ?_|refine zc ?_|((first|refine zf ?_|refine zk ?_|refine zi ?_|refine regA ?_|refine drA (id:=11) 6 false [0,0,2,7,0,16,63,127,255] ?_|refine drA (id:=13) 6 false [0,0,2,7,0,16,63,127] ?_|fail);conv=>whnf)|exact abA hb|((first|refine zsp (c1) ?_|refine zsn (c3) ?_|refine zsn (d3) ?_|fail);conv=>whnf)|(refine zso rfl (fun hb=>?_) (fun hb=>?_))|((refine andA ?_);conv=>whnf)|fail
     rfl
end Go.Proofs.YtidkoikjdghlmaaGreatDoor
namespace Go.Proofs.YtidkoikjdghlmaaGreatDoor
open Go Go.QL FoT
set_option maxHeartbeats 1600000
set_option maxRecDepth 20000
attribute [local irreducible] ACall FnC YC fine ten
abbrev iC (n:Int):SV:=.d (.v (.int .i64 n))
abbrev mS (s:OrS) (o:OrO) (p:Nat):Sg:=
 [(26,.box [.o 900 1 128,.d (zR s.tape),iC s.taken,.o 901 p s.printed.length,iC s.time,iC s.at_,iC s.done,iC s.why,iC o.op,iC o.a,iC o.b,iC o.n]),
  (900,.chain 3 1 1 (s.store.map iPV)),(901,.chain 3 1 p (s.printed.map iPV))]
theorem mfrom_fn (s:OrS) (o:OrO) (p:Nat) (hl:s.store.length=128) (h:0≤o.a∧o.a≤127):ACall Tryz.prog 257 [.x (.b 26 0)] (mS s o p) (fun r σ'=>r=.x (.oe 900 1 o.a.toNat 0)∧σ'=mS s o p):=by
 have hm:(s.store.map iPV).length=128:=by rw [List.length_map,hl]
 refine hdD Tryz.func257 Tryz.ntmps257 (res:=[.tmp 2]) fun w0 K0 B=>?_
 repeat' first|refine zd ?_|((first|refine zi ?_|refine regA ?_|refine drA (id:=1) 10 false [0,1,3,7,15,0,32,96,224,480,1023,2047] ?_|refine andA ?_|fail);conv=>whnf)|fail
 exact⟨_,mS s o p,⟨rfl,rfl,rfl,trivial⟩,rfl,rfl,rfl,rfl⟩
theorem mto_fn (s:OrS) (o:OrO) (p:Nat) (hl:s.store.length=128) (h:0≤o.b∧o.b≤127):ACall Tryz.prog 290 [.x (.b 26 0)] (mS s o p) (fun r σ'=>r=.x (.oe 900 1 o.b.toNat 0)∧σ'=mS s o p):=by
 have hm:(s.store.map iPV).length=128:=by rw [List.length_map,hl]
 refine hdD Tryz.func290 Tryz.ntmps290 (res:=[.tmp 2]) fun w0 K0 B=>?_
 repeat' first|refine zd ?_|((first|refine zi ?_|refine regA ?_|refine drA (id:=1) 10 false [0,1,3,7,15,0,32,96,224,480,1023,2047] ?_|refine andA ?_|fail);conv=>whnf)|fail
 exact⟨_,mS s o p,⟨rfl,rfl,rfl,trivial⟩,rfl,rfl,rfl,rfl⟩
theorem rd_get {s:OrS} {a:Int} (hl:s.store.length=128) (h:0≤a∧a≤127):(s.store.map iPV)[a.toNat]?=some (iPV (rdO s a)):=by
 rw [List.getElem?_map,List.getElem?_eq_getElem (by omega)];unfold rdO;rw [List.getD_eq_getElem?_getD,List.getElem?_eq_getElem (by omega)];rfl
theorem wr_map (s:OrS) (b v:Int):(s.store.map iPV).set b.toNat (iPV v)=(wrO s b v).store.map iPV:=by
 unfold wrO;dsimp only;rw [List.map_set]
theorem word_wrap {x y:Int} (hx:zP x) (hy:zP y):IntKind.i64.wrap (x+y)=x+y∧IntKind.i64.wrap (x - y)=x - y:=by
 unfold zP at *;exact⟨zg (by omega),zg (by omega)⟩
theorem sgn_in {x:Int} (h:zP x) : -8388608≤sgnW x∧sgnW x≤8388607:=by
 unfold zP at h;unfold sgnW;split <;> omega
theorem sgn_mul {x y:Int} (hx:zP x) (hy:zP y):IntKind.i64.wrap (sgnW x * sgnW y)=sgnW x * sgnW y∧(sgnW x * sgnW y).fdiv (2 ^ min (Int.toNat 23) IntKind.i64.bits)=sgnW x * sgnW y / 8388608:=by
 have h1:=sgn_in hx;have h2:=sgn_in hy;generalize sgnW x=a at *;generalize sgnW y=b at *;refine⟨zg ?_,Int.fdiv_eq_ediv_of_nonneg _ (by decide)⟩
 have h3:a * b≤8388608 * 8388608∧-(8388608 * 8388608)≤a * b:=by
  have:=zdO (y:=b) h1.1 h1.2;have e1:(-8388608:Int) * b≤8388608 * 8388608∧-(8388608 * 8388608)≤(-8388608:Int) * b:=by omega
  have e2:(8388607:Int) * b≤8388608 * 8388608∧-(8388608 * 8388608)≤(8388607:Int) * b:=by omega
  omega
 omega
theorem mmove_fn (s:OrS) (o:OrO) (p:Nat) (hl:s.store.length=128) (h:OrOK o):ACall Tryz.prog 259 [.x (.b 26 0)] (mS s o p) (fun r σ'=>r=.t []∧σ'=mS (wrO s o.b (rdO s o.a)) o p):=by
 have h1:=mfrom_fn s o p hl h.a;have h2:=mto_fn s o p hl h.b;have g1:=rd_get hl h.a;have g2:=rd_get hl h.b;have hw:=wr_map s o.b (rdO s o.a);refine hdD Tryz.func259 Tryz.ntmps259 (res:=[]) fun w0 K0 B=>?_
 repeat' first|((first|refine regA ?_|((refine⟨_,h1,?_⟩);(rintro _ _ ⟨rfl,rfl⟩))|((refine⟨_,h2,?_⟩);(rintro _ _ ⟨rfl,rfl⟩))|with_reducible refine Exists.intro _ (And.intro (ze g1) (And.intro (And.intro (Nat.le_of_ble_eq_true rfl) rfl) ?_))|with_reducible refine Exists.intro _ (And.intro g2 (And.intro (Nat.le_of_ble_eq_true rfl) ?_))|refine andA ?_|fail);conv=>whnf)|fail
 exact⟨_,mS (wrO s o.b (rdO s o.a)) o p,⟨rfl,chE hw,rfl,trivial⟩,rfl,rfl,rfl,rfl⟩
theorem madd_fn (s:OrS) (o:OrO) (p:Nat) (hl:s.store.length=128) (h:OrOK o) (wa:zP (rdO s o.a)) (wb:zP (rdO s o.b)):ACall Tryz.prog 260 [.x (.b 26 0)] (mS s o p) (fun r σ'=>r=.t []∧σ'=mS (wrO s o.b ((rdO s o.b+rdO s o.a) % 16777216)) o p):=by
 have h1:=mfrom_fn s o p hl h.a;have h2:=mto_fn s o p hl h.b;have g1:=rd_get hl h.a;have g2:=rd_get hl h.b;have w1:=(word_wrap wb wa).1;have w2:=zsh (rdO s o.b+rdO s o.a);have hw:=wr_map s o.b ((rdO s o.b+rdO s o.a) % 16777216);refine hdD Tryz.func260 Tryz.ntmps260 (res:=[]) fun w0 K0 B=>?_
 repeat' first|((first|refine zkA hTt hMix (id:=0) 10 [0,2,6] [⟨1,false,false,[2,6],[]⟩,⟨3,false,false,[6],[4,5]⟩,⟨7,false,false,[4,5],[8,9]⟩] [0,1,0,7,15,31,0,79,207,463,1023,2047,4095,8191] (by kernel_rfl) rfl (by kernel_rfl) (by kernel_rfl) (by kernel_rfl) ?_|refine LateGo.mk ⟨_,rfl,?_⟩|((refine⟨_,h1,?_⟩);(rintro _ _ ⟨rfl,rfl⟩))|((refine⟨_,h2,?_⟩);(rintro _ _ ⟨rfl,rfl⟩))|refine⟨_,w1,?_⟩|refine⟨_,w2,?_⟩|with_reducible refine Exists.intro _ (And.intro (ze g1) (And.intro (And.intro (Nat.le_of_ble_eq_true rfl) rfl) ?_))|with_reducible refine Exists.intro _ (And.intro (ze g2) (And.intro (And.intro (Nat.le_of_ble_eq_true rfl) rfl) ?_))|with_reducible refine Exists.intro _ (And.intro g2 (And.intro (Nat.le_of_ble_eq_true rfl) ?_))|refine andA ?_|fail);conv=>whnf)|fail
 exact⟨_,mS (wrO s o.b ((rdO s o.b+rdO s o.a) % 16777216)) o p,⟨rfl,chE hw,rfl,trivial⟩,rfl,rfl,rfl,rfl⟩
theorem msub_fn (s:OrS) (o:OrO) (p:Nat) (hl:s.store.length=128) (h:OrOK o) (wa:zP (rdO s o.a)) (wb:zP (rdO s o.b)):ACall Tryz.prog 261 [.x (.b 26 0)] (mS s o p) (fun r σ'=>r=.t []∧σ'=mS (wrO s o.b ((rdO s o.b - rdO s o.a) % 16777216)) o p):=by
 have h1:=mfrom_fn s o p hl h.a;have h2:=mto_fn s o p hl h.b;have g1:=rd_get hl h.a;have g2:=rd_get hl h.b;have w1:=(word_wrap wb wa).2;have w2:=zsh (rdO s o.b - rdO s o.a);have hw:=wr_map s o.b ((rdO s o.b - rdO s o.a) % 16777216);refine hdD Tryz.func261 Tryz.ntmps261 (res:=[]) fun w0 K0 B=>?_
 repeat' first|((first|refine zkA hTt hMix (id:=0) 10 [0,2,6] [⟨1,false,false,[2,6],[]⟩,⟨3,false,false,[6],[4,5]⟩,⟨7,false,false,[4,5],[8,9]⟩] [0,1,0,7,15,31,0,79,207,463,1023,2047,4095,8191] (by kernel_rfl) rfl (by kernel_rfl) (by kernel_rfl) (by kernel_rfl) ?_|refine LateGo.mk ⟨_,rfl,?_⟩|((refine⟨_,h1,?_⟩);(rintro _ _ ⟨rfl,rfl⟩))|((refine⟨_,h2,?_⟩);(rintro _ _ ⟨rfl,rfl⟩))|refine⟨_,w1,?_⟩|refine⟨_,w2,?_⟩|with_reducible refine Exists.intro _ (And.intro (ze g1) (And.intro (And.intro (Nat.le_of_ble_eq_true rfl) rfl) ?_))|with_reducible refine Exists.intro _ (And.intro (ze g2) (And.intro (And.intro (Nat.le_of_ble_eq_true rfl) rfl) ?_))|with_reducible refine Exists.intro _ (And.intro g2 (And.intro (Nat.le_of_ble_eq_true rfl) ?_))|refine andA ?_|fail);conv=>whnf)|fail
 exact⟨_,mS (wrO s o.b ((rdO s o.b - rdO s o.a) % 16777216)) o p,⟨rfl,chE hw,rfl,trivial⟩,rfl,rfl,rfl,rfl⟩
theorem mmul_fn (s:OrS) (o:OrO) (p:Nat) (hl:s.store.length=128) (h:OrOK o) (wa:zP (rdO s o.a)) (wb:zP (rdO s o.b)):ACall Tryz.prog 262 [.x (.b 26 0)] (mS s o p) (fun r σ'=>r=.t []∧σ'=mS (wrO s o.b (sgnW (rdO s o.a) * sgnW (rdO s o.b) / 8388608 % 16777216)) o p):=by
 have h1:=mfrom_fn s o p hl h.a;have h2:=mto_fn s o p hl h.b;have g1:=rd_get hl h.a;have g2:=rd_get hl h.b;have s1:=zps _ wa;have s2:=zps _ wb;obtain⟨w1,w3⟩:=sgn_mul wa wb;have w2:=zsh (sgnW (rdO s o.a) * sgnW (rdO s o.b) / 8388608);have hw:=wr_map s o.b (sgnW (rdO s o.a) * sgnW (rdO s o.b) / 8388608 % 16777216);refine hdD Tryz.func262 Tryz.ntmps262 (res:=[]) fun w0 K0 B=>?_
 repeat' first|((first|refine regA ?_|((refine⟨_,h1,?_⟩);(rintro _ _ ⟨rfl,rfl⟩))|((refine⟨_,h2,?_⟩);(rintro _ _ ⟨rfl,rfl⟩))|refine zsn (s1) ?_|refine zsn (s2) ?_|refine⟨_,w1,?_⟩|refine⟨_,w2,?_⟩|refine⟨_,w3,?_⟩|with_reducible refine Exists.intro _ (And.intro (ze g1) (And.intro (And.intro (Nat.le_of_ble_eq_true rfl) rfl) ?_))|with_reducible refine Exists.intro _ (And.intro (ze g2) (And.intro (And.intro (Nat.le_of_ble_eq_true rfl) rfl) ?_))|with_reducible refine Exists.intro _ (And.intro g2 (And.intro (Nat.le_of_ble_eq_true rfl) ?_))|refine andA ?_|fail);conv=>whnf)|fail
 exact⟨_,mS (wrO s o.b (sgnW (rdO s o.a) * sgnW (rdO s o.b) / 8388608 % 16777216)) o p,⟨rfl,chE hw,rfl,trivial⟩,rfl,rfl,rfl,rfl⟩
theorem mread_fn (s:OrS) (o:OrO) (p:Nat) (hl:s.store.length=128) (h:OrOK o) (ht:0≤s.taken∧s.taken < s.tape.length) (htm:s.tape.length≤1000):ACall Tryz.prog 263 [.x (.b 26 0)] (mS s o p)
  (fun r σ'=>r=.t []∧σ'=mS { wrO s o.b (s.tape.getD s.taken.toNat 0) with taken:=s.taken+1 } o p):=by
 have h2:=mto_fn s o p hl h.b;have g2:=rd_get hl h.b;have hw:=wr_map s o.b (s.tape.getD s.taken.toNat 0);have gt:s.tape[s.taken.toNat]?=some (s.tape.getD s.taken.toNat 0):=by rw [List.getD_eq_getElem?_getD,List.getElem?_eq_getElem (by omega)];rfl
 generalize s.tape.getD s.taken.toNat 0=v at *;refine hdD Tryz.func263 Tryz.ntmps263 (res:=[]) fun w0 K0 B=>?_
 repeat' first|((first|refine zkA hTt hMix (id:=0) 14 [0,2,3,4,5,6,7,8,9,10,11,12,13] [⟨1,false,false,[2,3,4,5,6,7,8,9,10,11,12,13],[]⟩] [0,1,0,4,12,28,60,0,128,384,896,1920,4092,8188,16383,32767] (by kernel_rfl) rfl (by kernel_rfl) (by kernel_rfl) (by kernel_rfl) ?_|refine LateGo.mk ⟨_,rfl,?_⟩|fail);conv=>whnf)|refine zd ?_|((first|refine regA ?_|((refine⟨_,h2,?_⟩);(rintro _ _ ⟨rfl,rfl⟩))|with_reducible refine Exists.intro _ (And.intro g2 (And.intro (Nat.le_of_ble_eq_true rfl) ?_))|with_reducible refine Exists.intro _ (And.intro (ze (And.intro (by omega) (zgb gt))) ?_)|refine zsq ?_|refine andA ?_|fail);conv=>whnf)|fail
 exact⟨_,mS { wrO s o.b v with taken:=s.taken+1 } o p,⟨rfl,chE hw,rfl,trivial⟩,rfl,rfl,rfl,rfl⟩
theorem mprint_fn (s:OrS) (o:OrO) (p:Nat) (hl:s.store.length=128) (h:OrOK o) (hp:s.printed.length≤1000):ACall Tryz.prog 264 [.x (.b 26 0)] (mS s o p)
  (fun r σ'=>r=.t []∧σ'=mS { s with printed:=s.printed ++ [rdO s o.a] } o (p+1)):=by
 have h1:=mfrom_fn s o p hl h.a;have g1:=rd_get hl h.a;have hpl:(s.printed.map iPV).length=s.printed.length:=List.length_map _;have e2:(s.printed.map iPV).take s.printed.length ++ [iPV (rdO s o.a)]=(s.printed ++ [rdO s o.a]).map iPV:=by rw [List.map_append,List.take_of_length_le (by omega)];rfl
 refine hdD Tryz.func264 Tryz.ntmps264 (res:=[]) fun w0 K0 B=>?_
 repeat' first|((first|refine zkA hTt hMix (id:=0) 12 [0,1,2,3,4,5,6] [⟨7,false,false,[0,1,2,3,4,5],[8,9,10]⟩,⟨11,false,false,[0],[]⟩] [0,0,2,6,14,30,0,64,192,448,960,2046,4095,8191,16383,32767] (by kernel_rfl) rfl (by kernel_rfl) (by kernel_rfl) (by kernel_rfl) ?_|refine LateGo.mk ⟨_,rfl,?_⟩|((refine⟨_,h1,?_⟩);(rintro _ _ ⟨rfl,rfl⟩))|with_reducible refine Exists.intro _ (And.intro (ze g1) (And.intro (And.intro (Nat.le_of_ble_eq_true rfl) rfl) ?_))|refine andA ?_|fail);conv=>whnf)|((refine And.intro (by refine⟨?_,?_,?_⟩ <;> simp [zO,maxLen] <;> omega) ?_);conv=>whnf)|fail
 have e3:s.printed.length+1=(s.printed ++ [rdO s o.a]).length:=by rw [List.length_append];rfl
 exact⟨_,mS { s with printed:=s.printed ++ [rdO s o.a] } o (p+1),⟨(by show _=some (Ob.box [_,_,_,SV.o 901 (p+1) (s.printed ++ [rdO s o.a]).length,_,_,_,_,_,_,_,_]);rw [← e3];rfl),rfl,chE e2,trivial⟩,rfl,rfl,rfl,rfl⟩
end Go.Proofs.YtidkoikjdghlmaaGreatDoor
namespace Go.Proofs.YtidkoikjdghlmaaGreatDoor
open Go Go.QL FoT
set_option maxHeartbeats 3200000
set_option maxRecDepth 20000
attribute [local irreducible] ACall FnC YC fine ten
structure OKS (s:OrS):Prop where
 len:s.store.length=128
 words:∀ w ∈ s.store,zP w
 tape:s.tape.length≤200
 twords:∀ w ∈ s.tape,zP w
 taken:0≤s.taken∧s.taken≤s.tape.length
 pr:s.printed.length≤200
 pwords:∀ w ∈ s.printed,zP w
 time:0≤s.time∧s.time≤1000000000
 at_:0≤s.at_∧s.at_≤127
 done:0≤s.done∧s.done≤s.time
 why:0≤s.why∧s.why≤4
theorem OKS.rd {s:OrS} (h:OKS s) (i:Int):zP (rdO s i):=by
 unfold rdO;rw [List.getD_eq_getElem?_getD];cases hx:s.store[i.toNat]? with
 | none=>exact⟨by decide,by decide⟩
 | some w=>exact h.words w (List.mem_of_getElem? hx)
def stepF (s:OrS) (o:OrO) (A u:Int):OrS:=
 let why:=if o.op=0 then 1 else if o.op=6∧s.taken=s.tape.length then 2 else if o.op=7∧s.printed.length=200 then 3 else 0
 let why:=if why=0∧1000000000 < u then 4 else why
 if why=0 then { doO s o with at_:=A,time:=u,done:=s.done+1,why:=0 } else { s with why:=why }
theorem stepF_eq {s:OrS} (hw:s.why=0):stepO s=stepF s (decO (rdO s s.at_)) (atO (decO (rdO s s.at_)) (decide (sgnW (rdO s (decO (rdO s s.at_)).a) < 0))) (untilO (decO (rdO s s.at_)) s.time (atO (decO (rdO s s.at_)) (decide (sgnW (rdO s (decO (rdO s s.at_)).a) < 0)))):=by
 unfold stepO stepF atO;rw [hw];simp only [decide_eq_true_eq]
theorem stepnop_fn:FnC Tryz.prog 258 [] (.t []):=by
 refine hdC Tryz.func258 Tryz.ntmps258 (res:=[]) fun w0 K0=>?_
 repeat' first|((refine zf ?_);conv=>whnf)|fail
 rfl
section
variable {st tp pr X pr':List Int} {tk tk' tm at' dn op a b n A u w va:Int} {o:OrO} {p p':Nat}
theorem step_go (hop:1≤op∧op≤7) (hln:st.length=128) (hat:0≤at'∧at'≤127) (hdn:0≤dn∧dn≤1000000000) (g0:(st.map iPV)[at'.toNat]?=some (iPV w)) (g1:(st.map iPV)[a.toNat]?=some (iPV va))
  (dc:FnC Tryz.prog 207 [iv .i64 w] (orAV op a b n)) (hsg:FnC Tryz.prog 256 [iv .i64 va] (iv .i64 (sgnW va)))
  (hwh:FnC Tryz.prog 255 [orAV op a b n,iv .i64 tm,bv (decide (sgnW va < 0))] (.t [iv .i64 A,iv .i64 u])) (hu:¬ 1000000000 < u)
  (hfr:ACall Tryz.prog 257 [.x (.b 26 0)] (mS ⟨st,tp,tk,pr,tm,at',dn,0⟩ ⟨op,a,b,n⟩ p) (fun r σ'=>r=.x (.oe 900 1 a.toNat 0)∧σ'=mS ⟨st,tp,tk,pr,tm,at',dn,0⟩ ⟨op,a,b,n⟩ p))
  (h1:op=1→ACall Tryz.prog 259 [.x (.b 26 0)] (mS ⟨st,tp,tk,pr,tm,at',dn,0⟩ ⟨op,a,b,n⟩ p) (fun r σ'=>r=.t []∧σ'=mS ⟨X,tp,tk',pr',tm,at',dn,0⟩ ⟨op,a,b,n⟩ p'))
  (h2:op=2→ACall Tryz.prog 260 [.x (.b 26 0)] (mS ⟨st,tp,tk,pr,tm,at',dn,0⟩ ⟨op,a,b,n⟩ p) (fun r σ'=>r=.t []∧σ'=mS ⟨X,tp,tk',pr',tm,at',dn,0⟩ ⟨op,a,b,n⟩ p'))
  (h3:op=3→ACall Tryz.prog 261 [.x (.b 26 0)] (mS ⟨st,tp,tk,pr,tm,at',dn,0⟩ ⟨op,a,b,n⟩ p) (fun r σ'=>r=.t []∧σ'=mS ⟨X,tp,tk',pr',tm,at',dn,0⟩ ⟨op,a,b,n⟩ p'))
  (h4:op=4→ACall Tryz.prog 262 [.x (.b 26 0)] (mS ⟨st,tp,tk,pr,tm,at',dn,0⟩ ⟨op,a,b,n⟩ p) (fun r σ'=>r=.t []∧σ'=mS ⟨X,tp,tk',pr',tm,at',dn,0⟩ ⟨op,a,b,n⟩ p'))
  (h5:op=5→X=st∧tk'=tk∧pr'=pr∧p'=p)
  (h6:op=6→tk≠tp.length∧ACall Tryz.prog 263 [.x (.b 26 0)] (mS ⟨st,tp,tk,pr,tm,at',dn,0⟩ ⟨op,a,b,n⟩ p) (fun r σ'=>r=.t []∧σ'=mS ⟨X,tp,tk',pr',tm,at',dn,0⟩ ⟨op,a,b,n⟩ p'))
  (h7:op=7→pr.length≠200∧ACall Tryz.prog 264 [.x (.b 26 0)] (mS ⟨st,tp,tk,pr,tm,at',dn,0⟩ ⟨op,a,b,n⟩ p) (fun r σ'=>r=.t []∧σ'=mS ⟨X,tp,tk',pr',tm,at',dn,0⟩ ⟨op,a,b,n⟩ p')) :
  ACall Tryz.prog 213 [.x (.b 26 0)] (mS ⟨st,tp,tk,pr,tm,at',dn,0⟩ o p) (fun r σ'=>r=.t []∧σ'=mS ⟨X,tp,tk',pr',u,A,dn+1,0⟩ ⟨op,a,b,n⟩ p'):=by
 have hud:decide (1000000000 < u)=false:=decide_eq_false hu;have hdw:IntKind.i64.wrap (dn+1)=dn+1:=zg (by omega);have hnp:=stepnop_fn;dsimp only [mS] at *;clear hu;refine hdD Tryz.func213 Tryz.ntmps213 (res:=[]) fun w0 K0 B=>?_
 repeat' first|((first|refine zkA hTt hMix (id:=1) 20 [0,1,2,3,4,5,6,7,8,9] [⟨10,false,false,[0,1,2,3,4,5,6,7,8],[11,12,13,14,15,16,17,18,19]⟩] [0,1,3,7,0,16,48,112,240,0,512,1536,3584,7680,15872,32767,65535,131071,131071,262143,1048575] (by kernel_rfl) rfl (by kernel_rfl) (by kernel_rfl) (by kernel_rfl) ?_|refine LateGo.mk ⟨_,rfl,?_⟩|fail);conv=>whnf)|refine zd ?_|refine zc ?_|((first|refine zf ?_|refine regA ?_|refine drA (id:=0) 14 false [0,0,2,6,14,30,0,64,192,448,960,2046,4094,8190,16383,32767,65535] ?_|refine drA (id:=16) 11 false [0,1,3,7,15,0,32,96,224,480,992,2047] ?_|refine zsp (dc) ?_|((refine⟨_,hfr,?_⟩);(rintro _ _ ⟨rfl,rfl⟩))|with_reducible refine Exists.intro _ (And.intro (ze g0) (And.intro (And.intro (Nat.le_of_ble_eq_true rfl) rfl) ?_))|with_reducible refine Exists.intro _ (And.intro (ze g1) (And.intro (And.intro (Nat.le_of_ble_eq_true rfl) rfl) ?_))|refine zsp (hsg) ?_|refine zsp (hwh) ?_|((refine⟨_,(h1 (by assumption)),?_⟩);(rintro _ _ ⟨rfl,rfl⟩))|((refine⟨_,(h2 (by assumption)),?_⟩);(rintro _ _ ⟨rfl,rfl⟩))|((refine⟨_,(h3 (by assumption)),?_⟩);(rintro _ _ ⟨rfl,rfl⟩))|((refine⟨_,(h4 (by assumption)),?_⟩);(rintro _ _ ⟨rfl,rfl⟩))|((refine⟨_,(h6 (by assumption)).2,?_⟩);(rintro _ _ ⟨rfl,rfl⟩))|((refine⟨_,(h7 (by assumption)).2,?_⟩);(rintro _ _ ⟨rfl,rfl⟩))|refine zsn (hnp) ?_|fail);conv=>whnf)|(refine za rfl (zM hud) (fun _=>?_))|((refine⟨_,hdw,?_⟩);conv=>whnf)|exact abA hb|(refine zst rfl ?_)|(refine zso rfl (fun hb=>?_) (fun hb=>?_))|((first|refine andA ?_|with_reducible refine And.intro (ze (And.intro (by omega) (And.intro (by first|omega|(simp only [List.length_map];omega)) (by first|omega|(simp only [List.length_map];omega)|(simp only [List.length_set,List.length_map];omega))))) ?_|fail);conv=>whnf)|(refine lnA fun hln=>?_;conv=>whnf)|fail
 all_goals first
  | exact⟨_,mS ⟨X,tp,tk',pr',u,A,dn+1,0⟩ ⟨op,a,b,n⟩ p',⟨rfl,rfl,rfl,trivial⟩,rfl,rfl,rfl,rfl⟩
  | (obtain⟨rfl,rfl,rfl,rfl⟩:=h5 (by omega);exact⟨_,mS ⟨X,tp,tk',pr',u,A,dn+1,0⟩ ⟨op,a,b,n⟩ p',⟨rfl,rfl,rfl,trivial⟩,rfl,rfl,rfl,rfl⟩)
theorem step_stop {wy:Int} (hop:0≤op∧op≤7) (hln:st.length=128) (hat:0≤at'∧at'≤127) (g0:(st.map iPV)[at'.toNat]?=some (iPV w)) (g1:(st.map iPV)[a.toNat]?=some (iPV va))
  (dc:FnC Tryz.prog 207 [iv .i64 w] (orAV op a b n)) (hsg:FnC Tryz.prog 256 [iv .i64 va] (iv .i64 (sgnW va)))
  (hwh:FnC Tryz.prog 255 [orAV op a b n,iv .i64 tm,bv (decide (sgnW va < 0))] (.t [iv .i64 A,iv .i64 u]))
  (hfr:ACall Tryz.prog 257 [.x (.b 26 0)] (mS ⟨st,tp,tk,pr,tm,at',dn,0⟩ ⟨op,a,b,n⟩ p) (fun r σ'=>r=.x (.oe 900 1 a.toNat 0)∧σ'=mS ⟨st,tp,tk,pr,tm,at',dn,0⟩ ⟨op,a,b,n⟩ p))
  (q0:op=0→wy=1) (q6:op=6→tk=tp.length→wy=2) (q7:op=7→(pr.length:Int)=200→wy=3) (ql:op≠0→¬ (op=6∧tk=tp.length)→¬ (op=7∧(pr.length:Int)=200)→wy=4∧1000000000 < u) :
  ACall Tryz.prog 213 [.x (.b 26 0)] (mS ⟨st,tp,tk,pr,tm,at',dn,0⟩ o p) (fun r σ'=>r=.t []∧σ'=mS ⟨st,tp,tk,pr,tm,at',dn,wy⟩ ⟨op,a,b,n⟩ p):=by
 dsimp only [mS] at *;refine hdD Tryz.func213 Tryz.ntmps213 (res:=[]) fun w0 K0 B=>?_
 repeat' first|((first|refine zkA hTt hMix (id:=1) 20 [0,1,2,3,4,5,6,7,8,9] [⟨10,false,false,[0,1,2,3,4,5,6,7,8],[11,12,13,14,15,16,17,18,19]⟩] [0,1,3,7,0,16,48,112,240,0,512,1536,3584,7680,15872,32767,65535,131071,131071,262143,1048575] (by kernel_rfl) rfl (by kernel_rfl) (by kernel_rfl) (by kernel_rfl) ?_|refine LateGo.mk ⟨_,rfl,?_⟩|fail);conv=>whnf)|refine zd ?_|refine zc ?_|((first|refine zf ?_|refine regA ?_|refine drA (id:=0) 14 false [0,0,2,6,14,30,0,64,192,448,960,2046,4094,8190,16383,32767,65535] ?_|refine drA (id:=16) 11 false [0,1,3,7,15,0,32,96,224,480,992,2047] ?_|refine zsp (dc) ?_|((refine⟨_,hfr,?_⟩);(rintro _ _ ⟨rfl,rfl⟩))|with_reducible refine Exists.intro _ (And.intro (ze g0) (And.intro (And.intro (Nat.le_of_ble_eq_true rfl) rfl) ?_))|with_reducible refine Exists.intro _ (And.intro (ze g1) (And.intro (And.intro (Nat.le_of_ble_eq_true rfl) rfl) ?_))|refine zsp (hsg) ?_|refine zsp (hwh) ?_|fail);conv=>whnf)|(exact absurd hb (by have:=ql (by omega) (by omega) (by omega);omega))|(refine zss rfl ?_)|(refine zso rfl (fun hb=>?_) (fun hb=>?_))|((first|refine andA ?_|with_reducible refine And.intro (ze (And.intro (by omega) (And.intro (by first|omega|(simp only [List.length_map];omega)) (by first|omega|(simp only [List.length_map];omega)|(simp only [List.length_set,List.length_map];omega))))) ?_|fail);conv=>whnf)|(refine lnA fun hln=>?_;conv=>whnf)|fail
 all_goals first
  | (obtain rfl:=q0 (by assumption);exact⟨_,mS ⟨st,tp,tk,pr,tm,at',dn,1⟩ ⟨op,a,b,n⟩ p,⟨rfl,rfl,rfl,trivial⟩,rfl,rfl,rfl,rfl⟩)
  | (obtain rfl:=q6 (by assumption) (by assumption);exact⟨_,mS ⟨st,tp,tk,pr,tm,at',dn,2⟩ ⟨op,a,b,n⟩ p,⟨rfl,rfl,rfl,trivial⟩,rfl,rfl,rfl,rfl⟩)
  | (obtain rfl:=q7 (by assumption) (by assumption);exact⟨_,mS ⟨st,tp,tk,pr,tm,at',dn,3⟩ ⟨op,a,b,n⟩ p,⟨rfl,rfl,rfl,trivial⟩,rfl,rfl,rfl,rfl⟩)
  | (obtain⟨rfl,_⟩:=ql (by omega) (by omega) (by omega);exact⟨_,mS ⟨st,tp,tk,pr,tm,at',dn,4⟩ ⟨op,a,b,n⟩ p,⟨rfl,rfl,rfl,trivial⟩,rfl,rfl,rfl,rfl⟩)
end
end Go.Proofs.YtidkoikjdghlmaaGreatDoor
namespace Go.Proofs.YtidkoikjdghlmaaGreatDoor
open Go Go.QL FoT
set_option maxHeartbeats 3200000
set_option maxRecDepth 20000
attribute [local irreducible] ACall FnC YC fine ten
theorem step_fn (s:OrS) (o:OrO) (p:Nat) (hs:OKS s) (hw:s.why=0):∃ p',ACall Tryz.prog 213 [.x (.b 26 0)] (mS s o p) (fun r σ'=>r=.t []∧σ'=mS (stepO s) (decO (rdO s s.at_)) p'):=by
 rw [stepF_eq hw];have hok:=dec_ok (hs.rd s.at_);have dc:=decode_fn _ (hs.rd s.at_);have g0:=rd_get hs.len hs.at_;generalize decO (rdO s s.at_)=o' at *;have hsg:=zps _ (hs.rd o'.a);have g1:=rd_get hs.len hok.a;have hwh:=when_fn o' hok s.time (by have:=hs.time;omega) (decide (sgnW (rdO s o'.a) < 0));have hfr:=mfrom_fn s o' p hs.len hok.a;have m1:=mmove_fn s o' p hs.len hok;have m2:=madd_fn s o' p hs.len hok (hs.rd _) (hs.rd _);have m3:=msub_fn s o' p hs.len hok (hs.rd _) (hs.rd _);have m4:=mmul_fn s o' p hs.len hok (hs.rd _) (hs.rd _);have m6:=fun h=>mread_fn s o' p hs.len hok h (by have:=hs.tape;omega)
 have m7:=mprint_fn s o' p hs.len hok (by have:=hs.pr;omega);have hln:=hs.len;have hat:=hs.at_;have hdn:=hs.done;have htm:=hs.time;have htk:=hs.taken;have hop:=hok.op;clear hs hok;generalize atO o' (decide (sgnW (rdO s o'.a) < 0))=A at *;generalize untilO o' s.time A=u at *;generalize rdO s s.at_=w at *;obtain⟨st,tp,tk,pr,tm,at',dn,wy⟩:=s;obtain⟨op,a,b,n⟩:=o';dsimp only at *;subst hw;by_cases hstop:op=0∨(op=6∧tk=tp.length)∨(op=7∧(pr.length:Int)=200)∨1000000000 < u
 ·refine⟨p,?_⟩
  have e:stepF ⟨st,tp,tk,pr,tm,at',dn,0⟩ ⟨op,a,b,n⟩ A u=⟨st,tp,tk,pr,tm,at',dn,if op=0 then 1 else if op=6∧tk=tp.length then 2 else if op=7∧(pr.length:Int)=200 then 3 else 4⟩:=by
   unfold stepF;dsimp only;by_cases h0:op=0
   ·rw [if_pos h0,if_pos h0,if_neg (show ¬ ((1:Int)=0∧_) from fun h=>absurd h.1 (by decide))];rfl
   ·rw [if_neg h0,if_neg h0];by_cases h6:op=6∧tk=tp.length
    ·rw [if_pos h6,if_pos h6,if_neg (show ¬ ((2:Int)=0∧_) from fun h=>absurd h.1 (by decide))];rfl
    ·rw [if_neg h6,if_neg h6];by_cases h7:op=7∧pr.length=200
     ·rw [if_pos h7,if_pos (show op=7∧(pr.length:Int)=200 by omega),if_neg (show ¬ ((3:Int)=0∧_) from fun h=>absurd h.1 (by decide))];rfl
     ·have:1000000000 < u:=by rcases hstop with h|h|h|h <;> first|exact h|contradiction|(exact absurd h (by omega))
      rw [if_neg h7,if_neg (show ¬ (op=7∧(pr.length:Int)=200) by omega),if_pos (show (0:Int)=0∧1000000000 < u from ⟨rfl,this⟩)];rfl
  rw [e];refine step_stop hop hln hat g0 g1 dc hsg hwh hfr (fun h=>by rw [if_pos h]) (fun h k=>?_) (fun h k=>?_) (fun h k l=>?_)
  ·rw [if_neg (by omega),if_pos ⟨h,k⟩]
  ·rw [if_neg (by omega),if_neg (by omega),if_pos ⟨h,k⟩]
  ·rw [if_neg h,if_neg k,if_neg l];exact⟨rfl,by rcases hstop with q|q|q|q <;> first|exact q|contradiction⟩
 ·have hu:¬ 1000000000 < u:=fun h=>hstop (by simp [h])
  have e:stepF ⟨st,tp,tk,pr,tm,at',dn,0⟩ ⟨op,a,b,n⟩ A u={ doO ⟨st,tp,tk,pr,tm,at',dn,0⟩ ⟨op,a,b,n⟩ with at_:=A,time:=u,done:=dn+1,why:=0 }:=by
   unfold stepF;dsimp only;have h7:¬ (op=7∧pr.length=200):=fun h=>hstop (.inr (.inr (.inl ⟨h.1,by omega⟩)))
   have h6:¬ (op=6∧tk=tp.length):=fun h=>hstop (.inr (.inl h))
   have h0:¬ op=0:=fun h=>hstop (.inl h)
   rw [if_neg h0,if_neg h6,if_neg h7,if_neg (show ¬ ((0:Int)=0∧1000000000 < u) from fun h=>hu h.2)];rfl
  rw [e];have key:∃ (X pr':List Int) (tk':Int) (p':Nat),doO ⟨st,tp,tk,pr,tm,at',dn,0⟩ ⟨op,a,b,n⟩=⟨X,tp,tk',pr',tm,at',dn,0⟩∧p'=(if op=7 then p+1 else p):=by
   unfold doO wrO;dsimp only;repeat' split
   all_goals exact⟨_,_,_,_,rfl,rfl⟩
  obtain⟨X,pr',tk',p',hD,hp⟩:=key;refine⟨p',?_⟩
  rw [hD];unfold doO at hD;dsimp only at hD;refine step_go (by omega) hln hat (by omega) g0 g1 dc hsg hwh hu hfr ?_ ?_ ?_ ?_ ?_ ?_ ?_
  ·rintro rfl;rw [if_pos rfl] at hD;rw [if_neg (by decide)] at hp;rw [hp,← hD];exact m1
  ·rintro rfl;rw [if_neg (by decide),if_pos rfl] at hD;rw [if_neg (by decide)] at hp;rw [hp,← hD];exact m2
  ·rintro rfl;rw [if_neg (by decide),if_neg (by decide),if_pos rfl] at hD;rw [if_neg (by decide)] at hp;rw [hp,← hD];exact m3
  ·rintro rfl;rw [if_neg (by decide),if_neg (by decide),if_neg (by decide),if_pos rfl] at hD;rw [if_neg (by decide)] at hp;rw [hp,← hD];exact m4
  ·rintro rfl;rw [if_neg (by decide),if_neg (by decide),if_neg (by decide),if_neg (by decide),if_neg (by decide),if_neg (by decide)] at hD;rw [if_neg (by decide)] at hp;cases hD;exact⟨rfl,rfl,rfl,hp⟩
  ·rintro rfl;rw [if_neg (by decide),if_neg (by decide),if_neg (by decide),if_neg (by decide),if_pos rfl] at hD;rw [if_neg (by decide)] at hp;have ht:tk≠tp.length:=fun h=>hstop (by simp [h])
   refine⟨ht,?_⟩
   rw [hp,← hD];exact m6 (by omega)
  ·rintro rfl;rw [if_neg (by decide),if_neg (by decide),if_neg (by decide),if_neg (by decide),if_neg (by decide),if_pos rfl] at hD;rw [if_pos rfl] at hp;refine⟨fun h=>hstop (by simp [h]),?_⟩
   rw [hp,← hD];exact m7
end Go.Proofs.YtidkoikjdghlmaaGreatDoor
namespace Go.Proofs.YtidkoikjdghlmaaGreatDoor
open Go Go.QL FoT
set_option maxHeartbeats 1600000
set_option maxRecDepth 20000
attribute [local irreducible] ACall FnC YC fine ten
theorem clone_own (xs:List Int) (hm:xs.length≤1000):ACall Tryz.prog 179 [sl xs] [] (fun r σ'=>(xs=[]∧r=.x (.d (.v (.slice none 0 0)))∧σ'=[])∨(r=.x (.o 5 1 xs.length)∧σ'=[(5,.chain 3 1 1 (xs.map iPV))])):=by
 have hpl:(xs.map iPV).length=xs.length:=List.length_map _;have h0:(0:Nat)+(xs.map iPV).length=xs.length:=by omega
 refine hdD Tryz.func179 Tryz.ntmps179 (res:=[.tmp 2]) fun w0 K0 B=>?_
 repeat' first|refine zd ?_|((first|refine zf ?_|refine zi ?_|refine regA ?_|fail);conv=>whnf)|(refine fun (_:Bool) hln=>?_;conv=>whnf)|(refine zso rfl (fun hb=>?_) (fun hb=>?_))|((refine andA ?_);conv=>whnf)|((refine And.intro (by refine⟨?_,?_,?_⟩ <;> simp [zO,maxLen] <;> omega) ?_);conv=>whnf)|fail
 ·exact⟨_,[],trivial,rfl,rfl,.inl ⟨List.map_eq_nil_iff.1 (hln hb),rfl,rfl⟩⟩
 ·exact⟨_,[(5,.chain 3 1 1 (xs.map iPV))],⟨rfl,trivial⟩,rfl,rfl,.inr ⟨congrArg (fun k=>AV.x (.o 5 1 k)) h0,rfl⟩⟩
theorem outKx {tt:TT} {a:Tmp} {fr:Fr} {σ σ':Sg} {c st n:Nat} {e:TypeId} {sz:Nat} {xs:List (List PV)} (h1:lk a fr=some (.x (.o c st n))) (h2:lk c σ'=none) (h3:lk c σ=some (.chain e sz st xs)) (h4:n≤xs.length) :
  zb0 tt [.tmp a] fr σ σ'=some (.x (.d (.s sz (xs.take n)))):=by
 simp [zb0,zbY,zhp,h1,zc5,zcy,h2,zbq,h3,h4]
theorem clone_data (xs:List Int) (hm:xs.length≤1000):FnC Tryz.prog 179 [sl xs] (sl xs):=by
 have hpl:(xs.map iPV).length=xs.length:=List.length_map _;have key:ACall Tryz.prog 179 [sl xs] [] (fun r σ'=>((r=.x (.d (.v (.slice none 0 0)))∧xs=[])∨r=sl xs)∧σ'=[]):=by
  refine hdD Tryz.func179 Tryz.ntmps179 (res:=[.tmp 2]) fun w0 K0 B=>?_
  repeat' first|refine zd ?_|((first|refine zf ?_|refine zi ?_|refine regA ?_|fail);conv=>whnf)|(refine fun (_:Bool) hln=>?_;conv=>whnf)|(refine zso rfl (fun hb=>?_) (fun hb=>?_))|((refine andA ?_);conv=>whnf)|((refine And.intro (by refine⟨?_,?_,?_⟩ <;> simp [zO,maxLen] <;> omega) ?_);conv=>whnf)|fail
  ·exact⟨_,[],trivial,rfl,rfl,.inl ⟨rfl,List.map_eq_nil_iff.1 (hln hb)⟩,rfl⟩
  ·refine⟨_,[],trivial,rfl,outKx rfl rfl rfl (by show 0+(xs.map iPV).length≤([] ++ xs.map iPV).length;simp),.inr ?_,rfl⟩
   show AV.x (.d (.s 1 (([] ++ xs.map iPV).take (0+(xs.map iPV).length))))=_
   rw [List.nil_append,Nat.zero_add,List.take_length];rfl
 refine FnC.of_ACall (key.le ?_) rfl
 rintro r σ' ⟨h,rfl⟩;rcases h with ⟨rfl,rfl⟩|rfl
 ·exact⟨_,LeAV1.nil 1,rfl,rfl⟩
 ·exact⟨_,LeAV.refl _,rfl,rfl⟩
abbrev stAV (s:OrS):AV:=.a [.d (zR s.store),.d (zR s.tape),iC s.taken,.d (zR s.printed),iC s.time,iC s.at_,iC s.done,iC s.why]
structure GoodS (s:OrS):Prop extends OKS s where
 mod:(s.time - s.at_) % 16=0
theorem chk1_fn (x:Int) {σ:Sg}:ACall Tryz.prog 208 ([].map AV.x ++ [iv .i64 x] ++ [].map .x) σ (fun r σ'=>r=bv (outB x 0 16777215)∧σ'=σ):=by
 have h1:=zjl 16777215 [x];rw [List.any_cons,List.any_nil,Bool.or_false] at h1;have:FnC Tryz.prog 208 [iv .i64 x] (bv (outB x 0 16777215)):=by
  refine hdC Tryz.func208 Tryz.ntmps208 (res:=[.tmp 2]) fun w0 K0=>?_
  repeat' first|refine zd ?_|((first|refine zi ?_|refine regA ?_|refine zsn (h1) ?_|fail);conv=>whnf)|fail
  rfl
 exact this.call rfl rfl
theorem idx_words {l:List Int} (h:∀ w ∈ l,zP w) (σ:Sg):ACall Tryz.prog 112 [sl l,.x (.f (.func 208) [] [])] σ (fun r σ'=>r=iv .i64 (-1)∧σ'=σ):=by
 have:=zp9 208 [] (fun x=>outB x 0 16777215) l σ (fun x _=>chk1_fn x);have e:idxI (fun x=>outB x 0 16777215) l = -1:=by
  have hf:fstI (fun x=>outB x 0 16777215) l 0=none:=by
   have:=zoj (fun x=>outB x 0 16777215) l 0;cases hx:fstI (fun x=>outB x 0 16777215) l 0 with
   | none=>rfl
   | some j=>
    rw [hx] at this;obtain⟨w,hw,hb⟩:=List.any_eq_true.1 this.symm;rw [zQ.2 (h w hw)] at hb;cases hb
  unfold idxI;rw [hf]
 rw [e] at this;exact this
theorem oout1_ok {hi x:Int} (h:0≤x∧x≤hi):FnC Tryz.prog 178 [iv .i64 hi,sl [x]] (bv false):=by
 have:=zjl hi [x];rw [List.any_cons,List.any_nil,Bool.or_false,zQ.2 h] at this;exact this
theorem ocheck_fn (s:OrS) (h:GoodS s):FnC Tryz.prog 153 [stAV s] (.t [iv .i64 0,iv .i64 0,iv .i64 0]):=by
 have i1:=idx_words h.words;have i2:=idx_words h.twords;have i3:=idx_words h.pwords;have l1:=h.len;have l2:=h.tape;have l3:=h.pr;have o1:=oout1_ok h.taken;have o2:=oout1_ok h.time;have o3:=oout1_ok h.at_;have o4:=oout1_ok h.done;have o5:=oout1_ok h.why;have b1:=h.time;have b2:=h.at_;have hmod:=h.mod;have hr:(s.time - s.at_).tmod 16=0:=Int.tmod_eq_zero_of_dvd (Int.dvd_of_emod_eq_zero hmod);clear h hmod;obtain⟨st,tp,tk,pr,tm,at',dn,wy⟩:=s;dsimp only at *;have m1:(st.map iPV).length=128:=by rw [List.length_map,l1]
 have m2:(tp.map iPV).length=tp.length:=List.length_map _;have m3:(pr.map iPV).length=pr.length:=List.length_map _;rw [← m2] at o1;refine hdC Tryz.func153 Tryz.ntmps153 (res:=[.tmp 2,.tmp 3,.tmp 4]) fun w0 K0=>?_
 repeat' first|refine zd ?_|refine zc ?_|((first|refine zf ?_|refine regA ?_|refine pkA ?_|fail);conv=>whnf)|(refine za rfl (zM (by simp [l1];exact⟨by omega,by omega⟩)) (fun _=>?_))|(refine lnA fun hln=>?_;conv=>whnf)|fail
 refine zJ (fun i:Nat=>[(32,iv .i64 i),(31,iv .i64 3),(30,.x (.d (.s 1 [[zR st],[zR tp],[zR pr]]))),(1,.x (.b 1 0))]) (fun _=>[(1,.box [.d (zR st),.d (zR tp),iC tk,.d (zR pr),iC tm,iC at',iC dn,iC wy])]) (fun i=>i≤3) (fun i=>3 - i) 0 (Nat.zero_le _) impA ?_
 intro i hi;rcases (show i=0∨i=1∨i=2∨i=3 by omega) with rfl|rfl|rfl|rfl
 ·repeat' first|refine zd ?_|refine zc ?_|((first|refine zf ?_|refine regA ?_|with_reducible refine Exists.intro _ (And.intro (ze (And.intro (by decide) rfl)) ?_)|((refine⟨_,(i1 _),?_⟩);(rintro _ _ ⟨rfl,rfl⟩))|fail);conv=>whnf)|(refine zst rfl ?_)|(refine zss rfl ?_)|((first|refine zsq ?_|refine andA ?_|fail);conv=>whnf)|fail
  exact⟨1,by decide,by decide,impA⟩
 ·repeat' first|refine zd ?_|refine zc ?_|((first|refine zf ?_|refine regA ?_|with_reducible refine Exists.intro _ (And.intro (ze (And.intro (by decide) rfl)) ?_)|((refine⟨_,(i2 _),?_⟩);(rintro _ _ ⟨rfl,rfl⟩))|fail);conv=>whnf)|(refine zst rfl ?_)|(refine zss rfl ?_)|((first|refine zsq ?_|refine andA ?_|fail);conv=>whnf)|fail
  exact⟨2,by decide,by decide,impA⟩
 ·repeat' first|refine zd ?_|refine zc ?_|((first|refine zf ?_|refine regA ?_|with_reducible refine Exists.intro _ (And.intro (ze (And.intro (by decide) rfl)) ?_)|((refine⟨_,(i3 _),?_⟩);(rintro _ _ ⟨rfl,rfl⟩))|fail);conv=>whnf)|(refine zst rfl ?_)|(refine zss rfl ?_)|((first|refine zsq ?_|refine andA ?_|fail);conv=>whnf)|fail
  exact⟨3,by decide,by decide,impA⟩
 ·repeat' first|refine zd ?_|refine zc ?_|((first|refine zf ?_|refine zk ?_|refine zi ?_|refine regA ?_|refine pkA ?_|refine zsn (o1) ?_|refine zsp (o2) ?_|refine zsp (o3) ?_|refine zsp (o4) ?_|refine zsp (o5) ?_|refine⟨_,hr,?_⟩|fail);conv=>whnf)|(refine zss rfl ?_)|((first|refine zsq ?_|refine andA ?_|fail);conv=>whnf)|(refine lnA fun hln=>?_;conv=>whnf)|fail
  rfl
end Go.Proofs.YtidkoikjdghlmaaGreatDoor
namespace Go.Proofs.YtidkoikjdghlmaaGreatDoor
open Go Go.QL FoT
set_option maxHeartbeats 3200000
set_option maxRecDepth 20000
attribute [local irreducible] ACall FnC YC fine ten
theorem after_mod (t a:Int):(afterO t a - a) % 16=0:=by unfold afterO;omega
theorem until_mod (o:OrO) (t a:Int):(untilO o t a - a) % 16=0:=by
 unfold untilO;exact after_mod _ _
theorem sgn_word {x:Int}:zP (x % 16777216):=by unfold zP;omega
theorem OKS.wr {s:OrS} (h:OKS s) (b v:Int) (hv:zP v):OKS (wrO s b v):=by
 refine⟨by rw [wr_len];exact h.len,fun w hw=>?_,h.tape,h.twords,h.taken,h.pr,h.pwords,h.time,h.at_,h.done,h.why⟩
 rcases List.mem_or_eq_of_mem_set hw with q|rfl
 ·exact h.words w q
 ·exact hv
theorem GoodS.step {s:OrS} (h:GoodS s) (hw:s.why=0):GoodS (stepO s):=by
 have hok:=dec_ok (h.rd s.at_);rw [stepF_eq hw];generalize hd:decO (rdO s s.at_)=o at *;generalize hA:atO o (decide (sgnW (rdO s o.a) < 0))=A;have hAb:0≤A∧A≤127:=by rw [← hA];unfold atO;split;exact hok.b;exact hok.n
 have hu:=until_le o s.time A;have hum:=until_mod o s.time A;generalize untilO o s.time A=u at *;have stop:∀ wy:Int,0≤wy∧wy≤4→GoodS { s with why:=wy }:=fun wy hy=>⟨⟨h.len,h.words,h.tape,h.twords,h.taken,h.pr,h.pwords,h.time,h.at_,h.done,hy⟩,h.mod⟩
 unfold stepF;dsimp only;by_cases hgo:(o.op≠0∧¬ (o.op=6∧s.taken=s.tape.length)∧¬ (o.op=7∧s.printed.length=200))∧¬ 1000000000 < u
 ·obtain⟨⟨h0,h6,h7⟩,h1⟩:=hgo;rw [if_neg h0,if_neg h6,if_neg h7,if_neg (show ¬ ((0:Int)=0∧_) from fun q=>h1 q.2),if_pos rfl];have hD:OKS (doO s o)∧(doO s o).time=s.time∧(doO s o).done=s.done:=by
   unfold doO;split
   ·exact⟨h.wr _ _ (h.rd _),rfl,rfl⟩
   ·split
    ·exact⟨h.wr _ _ sgn_word,rfl,rfl⟩
    ·split
     ·exact⟨h.wr _ _ sgn_word,rfl,rfl⟩
     ·split
      ·exact⟨h.wr _ _ sgn_word,rfl,rfl⟩
      ·split
       ·rename_i k6;have ht:=h.taken;have hne:s.taken≠s.tape.length:=fun q=>h6 ⟨k6,q⟩
        have hv:zP (s.tape.getD s.taken.toNat 0):=by
         rw [List.getD_eq_getElem?_getD,List.getElem?_eq_getElem (by omega)];exact h.twords _ (List.getElem_mem _)
        have q:=h.wr o.b _ hv;exact⟨⟨q.len,q.words,q.tape,q.twords,⟨by show 0≤s.taken+1;omega,by show s.taken+1≤(s.tape.length:Int);omega⟩,q.pr,q.pwords,q.time,q.at_,q.done,q.why⟩,rfl,rfl⟩
       ·split
        ·rename_i k7;have hne:s.printed.length≠200:=fun q=>h7 ⟨k7,q⟩
         have hp:=h.pr;refine⟨⟨h.len,h.words,h.tape,h.twords,h.taken,by show (s.printed ++ [_]).length≤200;rw [List.length_append,List.length_singleton];omega,fun w hw=>?_,h.time,h.at_,h.done,h.why⟩,rfl,rfl⟩
         rcases List.mem_append.1 hw with q|q
         ·exact h.pwords w q
         ·rw [List.mem_singleton.1 q];exact h.rd _
        ·exact⟨h.toOKS,rfl,rfl⟩
  obtain⟨q,e1,e2⟩:=hD;have ht:=h.time;have hdn:=h.done;exact⟨⟨q.len,q.words,q.tape,q.twords,q.taken,q.pr,q.pwords,⟨by show 0≤u;omega,by show u≤_;omega⟩,hAb,⟨by show 0≤s.done+1;omega,by show s.done+1≤u;omega⟩,(show (0:Int)≤0∧(0:Int)≤4 by decide)⟩,hum⟩
 ·generalize hy:(if o.op=0 then (1:Int) else if o.op=6∧s.taken=s.tape.length then 2 else if o.op=7∧s.printed.length=200 then 3 else 0)=y;have hyb:0≤y∧y≤4:=by
   rw [← hy];split
   ·decide
   ·split
    ·decide
    ·split <;> decide
  generalize hz:(if y=0∧1000000000 < u then (4:Int) else y)=z;have hzb:(0≤z∧z≤4)∧z≠0:=by
   rw [← hz];split
   ·decide
   ·rename_i q;refine⟨hyb,fun hy0=>hgo ⟨⟨fun k=>?_,fun k=>?_,fun k=>?_⟩,fun k=>q ⟨hy0,k⟩⟩⟩
    ·rw [if_pos k] at hy;omega
    ·rw [if_neg (by omega),if_pos k] at hy;omega
    ·rw [if_neg (by omega),if_neg (by omega),if_pos k] at hy;omega
  rw [if_neg hzb.2];exact stop z hzb.1
theorem GoodS.run:∀ (n:Nat) {s:OrS},GoodS s→GoodS (runO n s)
 | 0,_,h=>h
 | n+1,s,h=>by
  rw [runO];split
  ·rename_i hw;exact GoodS.run n (h.step hw)
  ·exact h
abbrev stpAV (a op x b n t u:Int):AV:=.a [iC a,iC op,iC x,iC b,iC n,iC t,iC u]
theorem tell_fn (a op x b n t u:Int):FnC Tryz.prog 157 [stpAV a op x b n t u] (.t []):=by
 refine hdC Tryz.func157 Tryz.ntmps157 (res:=[]) fun w0 K0=>?_
 repeat' first|((refine regA ?_);conv=>whnf)|fail
 rfl
theorem mrun_fn (s:OrS) (o:OrO) (p:Nat) (hs:GoodS s) (most:Nat) (hm:most≤5000) :
  ACall Tryz.prog 156 [.x (.b 26 0),iv .i64 most,.x (.f (.func 157) [] [])] (mS s o p) (fun r σ'=>∃ x:OrO × Nat,r=.t []∧σ'=mS (runO most s) x.1 x.2):=by
 refine hdD Tryz.func156 Tryz.ntmps156 (res:=[]) fun w0 K0 B=>?_
 repeat' first|refine zd ?_|refine zc ?_|refine zA ?_|((first|refine zB ?_|refine regA ?_|fail);conv=>whnf)|fail
 refine zJ (fun x:Nat × OrS × OrO × Nat=>[(8,iv .i64 x.1),(7,iv .i64 most),(0,.x (.b 26 0)),(2,.x (.f (.func 157) [] []))]) (fun x=>mS x.2.1 x.2.2.1 x.2.2.2)
  (fun x=>x.1≤most∧GoodS x.2.1∧runO (most - x.1) x.2.1=runO most s) (fun x=>most - x.1) (0,s,o,p) ⟨Nat.zero_le _,hs,rfl⟩ impA ?_
 rintro⟨i,s',o',p'⟩ ⟨hi,hs',hr⟩;dsimp only at hi hs' hr ⊢;rcases Nat.lt_or_ge i most with hil|hil
 ·rw [show most - i=(most - (i+1))+1 by omega,runO] at hr;by_cases hw:s'.why=0
  ·rw [if_pos hw] at hr;obtain⟨p2,hst⟩:=step_fn s' o' p' hs'.toOKS hw;have hs2:=hs'.step hw;generalize stepO s'=s2 at hst hr hs2;generalize decO (rdO s' s'.at_)=o2 at hst;have hwf:(s'.why != 0)=false:=by rw [hw];rfl
   repeat' first|refine zd ?_|refine zc ?_|((first|refine zf ?_|refine zk ?_|refine regA ?_|refine drA (id:=3) 12 true [0,1,3,7,15,0,32,96,224,480,1023,0,4095] ?_|refine drM (id:=6) 10 [4,5,6,7,8] false [0,1,3,7,0,16,48,112,240,15,527,2047,4095] ?_|refine LateGo.mk ⟨.x .j,rfl,?_⟩|fail);conv=>whnf)|(refine za rfl (zM hwf) (fun _=>?_))|((first|refine frA (hst) [] ?_|refine zsn ((tell_fn _ _ _ _ _ _ _)) ?_|fail);conv=>whnf)|exact abA hb|(refine zso rfl (fun hb=>?_) (fun hb=>?_))|((first|refine zsq ?_|refine andA ?_|fail);conv=>whnf)|fail
   all_goals exact⟨(i+1,s2,o2,p2),⟨hil,hs2,hr⟩,by show most - (i+1) < most - i;omega,impA⟩
  ·rw [if_neg hw] at hr;have hwt:(s'.why != 0)=true:=by simpa using hw
   repeat' first|refine zd ?_|refine zc ?_|((first|refine zf ?_|refine zk ?_|refine regA ?_|fail);conv=>whnf)|(refine za rfl (fun _=>?_) (zaf hwt))|exact abA hb|(refine zso rfl (fun hb=>?_) (fun hb=>?_))|((refine andA ?_);conv=>whnf)|fail
   exact⟨_,mS s' o' p',⟨rfl,rfl,rfl,trivial⟩,rfl,rfl,⟨(o',p'),rfl,by rw [← hr]⟩⟩
 ·rw [show most - i=0 by omega] at hr;repeat' first|refine zd ?_|refine zc ?_|((first|refine zf ?_|refine zk ?_|refine regA ?_|fail);conv=>whnf)|exact abA hb|(refine zso rfl (fun hb=>?_) (fun hb=>?_))|fail
  exact⟨_,mS s' o' p',⟨rfl,rfl,rfl,trivial⟩,rfl,rfl,⟨(o',p'),rfl,by rw [← hr];rfl⟩⟩
end Go.Proofs.YtidkoikjdghlmaaGreatDoor
namespace Go.QL
open Go Go.RowKit
def FzSV (c sz st:Nat) (xs:List (List PV)) (s s':SV):Prop:=s=s'∨∃ n,s=.o c st n∧n≤xs.length∧s'=.d (.s sz (xs.take n))
def zjP (c sz st:Nat) (xs:List (List PV)):List SV→List SV→Prop
 | [],[]=>True
 | s::r,s'::r'=>FzSV c sz st xs s s'∧zjP c sz st xs r r'
 | _,_=>False
def FzOb (c sz st:Nat) (xs:List (List PV)) (o o':Ob):Prop:=o=o'∨∃ cs cs',o=.box cs∧o'=.box cs'∧zjP c sz st xs cs cs'
def FzS (c sz st:Nat) (xs:List (List PV)) (σ:Sg):Sg→Prop
 | []=>True
 | (i,o')::r=>(∃ o,lk i σ=some o∧FzOb c sz st xs o o')∧FzS c sz st xs σ r
theorem zg6 {c sz st:Nat} {xs:List (List PV)} {σ:Sg}:∀ {σ':Sg},FzS c sz st xs σ σ'→∀ t v',lk t σ'=some v'→∃ v,lk t σ=some v∧FzOb c sz st xs v v'
 | [],_,t,v,h=>by cases h
 | (s,x)::r,hs,t,v,h=>by
  rw [zr] at h;by_cases e:s=t
  ·subst e;rw [if_pos rfl] at h;cases h;exact hs.1
  ·rw [if_neg e] at h;exact zg6 hs.2 t v h
theorem zgy {c sz st:Nat} {xs:List (List PV)}:∀ {cs cs':List SV},zjP c sz st xs cs cs'→cs.length=cs'.length∧∀ (i:Nat) (s':SV),cs'[i]?=some s'→∃ s,cs[i]?=some s∧FzSV c sz st xs s s'
 | [],[],_=>⟨rfl,fun i s h=>by simp at h⟩
 | s::r,s'::r',h=>by
  obtain⟨h1,h2⟩:=zgy h.2;refine⟨by simp [h1],fun i x hx=>?_⟩
  cases i with
  | zero=>cases hx;exact⟨s,rfl,h.1⟩
  | succ i=>exact h2 i x hx
 | [],_::_,h=>h.elim
 | _::_,[],h=>h.elim
section
variable {P:Program} {Γ:Cx} {fr fr':Fr} {σ σ':Sg} {g:Gh} {a:Act} {w:World} {Q:Exit→Fr→Sg→Prop}
theorem Imp.freezeB {fr':Fr} {σ':Sg} (c:Nat) {ce sz st:Nat} {xs:List (List PV)} (hc:lk c σ=some (.chain ce sz st xs)) (hf:FzF c sz st xs fr fr') (hs:FzS c sz st xs σ σ') (hn:lk c σ'=none)
  (hr:(rsFr σ' fr' && rsSg σ' σ')=true) (hB:zbC Γ.ids σ'=true:=by rfl) (hD:ziL Γ.dfs σ σ'=true:=by rfl):Imp Γ fr σ fr' σ':=by
 intro g a w hrel;simp only [Bool.and_eq_true] at hr;let K':Nat→Nat→Prop:=fun b o=>g.K b o∨(blk (g.μ c)=some b∧b < w.heap.size)
 let g':Gh:=⟨K',g.μ⟩
 have hext:Ext g.K w K' w:=⟨fun _ _ h=>.inl h,fun _ _ _=>rfl⟩;have hbox:∀ i cs,lk i σ=some (.box cs)→(lk i σ').isSome→∃ cs',lk i σ'=some (.box cs'):=by
  intro i cs hi hi';obtain⟨o',ho'⟩:=Option.isSome_iff_exists.1 hi';obtain⟨o,ho,hnl⟩:=zg6 hs i o' ho';rw [hi] at ho;cases ho;rcases hnl with rfl|⟨cs1,cs',h1,h2,_⟩
  ·exact⟨cs,ho'⟩
  ·simp_all
 have hch:∀ i e0 sz0 st xs,lk i σ=some (.chain e0 sz0 st xs)→(lk i σ').isSome→lk i σ'=some (.chain e0 sz0 st xs):=by
  intro i e0 sz0 st xs hi hi';obtain⟨o',ho'⟩:=Option.isSome_iff_exists.1 hi';obtain⟨o,ho,hnl⟩:=zg6 hs i o' ho';rw [hi] at ho;cases ho;rcases hnl with rfl|⟨cs1,cs',h1,_⟩
  ·exact ho'
  ·cases h1
 have hoth:∀ i o,lk i σ=some (.x o)→(lk i σ').isSome→lk i σ'=some (.x o):=by
  intro i o hi hi';obtain⟨o',ho'⟩:=Option.isSome_iff_exists.1 hi';obtain⟨o1,ho,hnl⟩:=zg6 hs i o' ho';rw [hi] at ho;cases ho;rcases hnl with rfl|⟨cs1,cs',h1,_⟩
  ·exact ho'
  ·cases h1
 have sr1:∀ s v,rs1 σ' s=true→SR σ g w s v→SR σ' g' w s v:=by
  intro s v hrs hv;have up:∀ i,(lk i σ).isSome→(lk i σ').isSome=true→(lk i σ').isSome∧g'.μ i=g.μ i:=fun i hi hi'=>by
   exact⟨hi',rfl⟩
  cases hv with
  | d x v h=>exact .d x v (h.mono hext)
  | old c0 st n e0 sz0 st' xs v hl hlt h1=>
   have hs0:(lk c0 σ).isSome:=by rw [hl];rfl
   obtain⟨h2,h3⟩:=up c0 hs0 hrs;exact .old c0 st n e0 sz0 st' xs v (hch _ _ _ _ _ hl h2) hlt h1
  | o c0 st n e0 sz0 xs a cap hl hn hμ=>
   have hs0:(lk c0 σ).isSome:=by rw [hl];rfl
   obtain⟨h2,h3⟩:=up c0 hs0 hrs;exact .o c0 st n e0 sz0 xs a cap (hch _ _ _ _ _ hl h2) hn (by rw [h3,hμ])
  | b id off cs k hl hμ=>
   have hs0:(lk id σ).isSome:=by rw [hl];rfl
   obtain⟨h2,h3⟩:=up id hs0 hrs;obtain⟨cs',hcs'⟩:=hbox _ _ hl h2;exact .b id off cs' k (hcs') (by rw [h3,hμ])
  | se e off k l vs h1 h2 h3=>exact .se e off k l vs (fun j hj=>.inl (h1 j hj)) h2 (fun j x hj=>(h3 j x hj).mono hext)
  | oeold c0 st i off e0 sz0 st' xs v hl hlt h1=>
   have hs0:(lk c0 σ).isSome:=by rw [hl];rfl
   obtain⟨h2,h3⟩:=up c0 hs0 hrs;exact .oeold c0 st i off e0 sz0 st' xs v (hch _ _ _ _ _ hl h2) hlt h1
  | osold c0 st i off e0 sz0 st' xs v hl hlt h1=>
   have hs0:(lk c0 σ).isSome:=by rw [hl];rfl
   obtain⟨h2,h3⟩:=up c0 hs0 hrs;exact .osold c0 st i off e0 sz0 st' xs v (hch _ _ _ _ _ hl h2) hlt h1
  | oe c0 st i off e0 sz0 xs k cap hl hμ=>
   have hs0:(lk c0 σ).isSome:=by rw [hl];rfl
   obtain⟨h2,h3⟩:=up c0 hs0 hrs;exact .oe c0 st i off e0 sz0 xs k cap (hch _ _ _ _ _ hl h2) (by rw [h3,hμ])
  | os c0 st i off e0 sz0 xs k cap hl hμ hn=>
   have hs0:(lk c0 σ).isSome:=by rw [hl];rfl
   obtain⟨h2,h3⟩:=up c0 hs0 hrs;exact .os c0 st i off e0 sz0 xs k cap (hch _ _ _ _ _ hl h2) (by rw [h3,hμ]) hn
  | f=>cases hrs
  | j v h1=>exact .j v h1
  | h id o k hl hμ=>
   have hs0:(lk id σ).isSome:=by rw [hl];rfl
   obtain⟨h2,h3⟩:=up id hs0 hrs;exact .h id o k (hoth _ _ hl h2) (by rw [h3,hμ])
  | sb id off n cap cs k hl hμ hn hcc=>
   have hs0:(lk id σ).isSome:=by rw [hl];rfl
   obtain⟨h2,h3⟩:=up id hs0 hrs;obtain⟨cs',hcs'⟩:=hbox _ _ hl h2;exact .sb id off n cap cs' k (hcs') (by rw [h3,hμ]) hn hcc
 have sr:∀ s v,rsSV σ' s=true→SR σ g w s v→SR σ' g' w s v:=by
  intro s v hrs hv;cases s with
  | f fn a b=>
   simp only [rsSV,Bool.and_eq_true,List.all_eq_true] at hrs;cases hv with
   | f _ _ _ v1 v2 h1 h2 r1 r2=>
    exact .f fn a b v1 v2 h1 h2 (fun i s v hi hv=>sr1 _ _ (hrs.1 s (List.mem_of_getElem? hi)) (r1 i s v hi hv)) (fun i s v hi hv=>sr1 _ _ (hrs.2 s (List.mem_of_getElem? hi)) (r2 i s v hi hv))
  | d x=>exact sr1 _ _ hrs hv
  | o c st n=>exact sr1 _ _ hrs hv
  | b id off=>exact sr1 _ _ hrs hv
  | se e off=>exact sr1 _ _ hrs hv
  | oe c st i off=>exact sr1 _ _ hrs hv
  | os c st i off=>exact sr1 _ _ hrs hv
  | j=>exact sr1 _ _ hrs hv
  | h id=>exact sr1 _ _ hrs hv
  | sb id off n cap=>exact sr1 _ _ hrs hv
 have srfz:∀ n v,n≤xs.length→SR σ g w (.o c st n) v→SR σ' g' w (.d (.s sz (xs.take n))) v:=fun n v hn hv=>
  Imp.freeze.freeze_one (a:={ a with tmps:=#[v] }) (t:=0) (σ':=σ') hrel.hp hc hn hv
 have vr1:∀ x v,zec σ' x=true→VR1 σ g w x v→VR1 σ' g' w x v:=by
  intro x v hrs hv;cases x with
  | x s=>exact sr _ _ hrs hv
  | a cs=>
   obtain⟨vs,rfl,hl,hr⟩:=hv;simp only [zec,List.all_eq_true] at hrs;exact⟨vs,rfl,hl,fun i s u hi hu=>sr _ _ (hrs s (List.mem_of_getElem? hi)) (hr i s u hi hu)⟩
  | _=>exact hv.elim
 have vr2:∀ x v,zeR σ' x=true→VR2 σ g w x v→VR2 σ' g' w x v:=by
  intro x v hrs hv;cases x with
  | t xs=>
   obtain⟨vs,rfl,hl,hr⟩:=hv;simp only [zeR,List.all_eq_true] at hrs;exact⟨vs,rfl,hl,fun i s u hi hu=>vr1 _ _ (hrs s (List.mem_of_getElem? hi)) (hr i s u hi hu)⟩
  | x s=>exact vr1 (.x s) _ hrs hv
  | a cs=>exact vr1 (.a cs) _ hrs hv
  | g _ _=>exact hv.elim
 have vr:∀ x v,rsAV σ' x=true→VR σ g w x v→VR σ' g' w x v:=by
  intro x v hrs hv;cases x with
  | g c0 y=>exact⟨fun hc0=>vr2 _ _ hrs (hv.1 hc0),hv.2⟩
  | x s=>exact vr2 (.x s) _ hrs hv
  | a cs=>exact vr2 (.a cs) _ hrs hv
  | t xs=>exact vr2 (.t xs) _ hrs hv
 have upI:∀ i,(lk i σ).isSome→i ∈ Γ.ids→(lk i σ').isSome∧g'.μ i=g.μ i:=fun i hi hi'=>⟨zbJ hB hi',rfl⟩
 have srI:∀ s v,SR σ g w s v→InI Γ.ids s→SR σ' g' w s v:=by
  intro s v hv;induction hv with
  | d x v h=>exact fun _=>.d x v (h.mono hext)
  | old c0 st n e0 sz0 st' xs v hl hlt h1=>
   intro h;cases h with
   | o _ _ _ h=>
    have hs0:(lk c0 σ).isSome:=by rw [hl];rfl
    obtain⟨h2,h3⟩:=upI c0 hs0 h;exact .old c0 st n e0 sz0 st' xs v (hch _ _ _ _ _ hl h2) hlt h1
  | o c0 st n e0 sz0 xs a cap hl hn hμ=>
   intro h;cases h with
   | o _ _ _ h=>
    have hs0:(lk c0 σ).isSome:=by rw [hl];rfl
    obtain⟨h2,h3⟩:=upI c0 hs0 h;exact .o c0 st n e0 sz0 xs a cap (hch _ _ _ _ _ hl h2) hn (by rw [h3,hμ])
  | b id off cs k hl hμ=>
   intro h;cases h with
   | b _ _ h=>
    have hs0:(lk id σ).isSome:=by rw [hl];rfl
    obtain⟨h2,h3⟩:=upI id hs0 h;obtain⟨cs',hcs'⟩:=hbox _ _ hl h2;exact .b id off cs' k (hcs') (by rw [h3,hμ])
  | se e off k l vs h1 h2 h3=>exact fun _=>.se e off k l vs (fun j hj=>.inl (h1 j hj)) h2 (fun j x hj=>(h3 j x hj).mono hext)
  | oeold c0 st i off e0 sz0 st' xs v hl hlt h1=>
   intro h;cases h with
   | oe _ _ _ _ h=>
    have hs0:(lk c0 σ).isSome:=by rw [hl];rfl
    obtain⟨h2,h3⟩:=upI c0 hs0 h;exact .oeold c0 st i off e0 sz0 st' xs v (hch _ _ _ _ _ hl h2) hlt h1
  | osold c0 st i off e0 sz0 st' xs v hl hlt h1=>
   intro h;cases h with
   | os _ _ _ _ h=>
    have hs0:(lk c0 σ).isSome:=by rw [hl];rfl
    obtain⟨h2,h3⟩:=upI c0 hs0 h;exact .osold c0 st i off e0 sz0 st' xs v (hch _ _ _ _ _ hl h2) hlt h1
  | oe c0 st i off e0 sz0 xs k cap hl hμ=>
   intro h;cases h with
   | oe _ _ _ _ h=>
    have hs0:(lk c0 σ).isSome:=by rw [hl];rfl
    obtain⟨h2,h3⟩:=upI c0 hs0 h;exact .oe c0 st i off e0 sz0 xs k cap (hch _ _ _ _ _ hl h2) (by rw [h3,hμ])
  | os c0 st i off e0 sz0 xs k cap hl hμ hn=>
   intro h;cases h with
   | os _ _ _ _ h=>
    have hs0:(lk c0 σ).isSome:=by rw [hl];rfl
    obtain⟨h2,h3⟩:=upI c0 hs0 h;exact .os c0 st i off e0 sz0 xs k cap (hch _ _ _ _ _ hl h2) (by rw [h3,hμ]) hn
  | f fn a b v1 v2 h1 h2 _ _ ih1 ih2=>
   intro h;cases h with
   | f _ _ _ k1 k2=>exact .f fn a b v1 v2 h1 h2 (fun i s v hi hv=>ih1 i s v hi hv (k1 s (List.mem_of_getElem? hi))) (fun i s v hi hv=>ih2 i s v hi hv (k2 s (List.mem_of_getElem? hi)))
  | j v h1=>exact fun _=>.j v h1
  | h id o k hl hμ=>
   intro h;cases h with
   | h _ h=>
    have hs0:(lk id σ).isSome:=by rw [hl];rfl
    obtain⟨h2,h3⟩:=upI id hs0 h;exact .h id o k (hoth _ _ hl h2) (by rw [h3,hμ])
  | sb id off n cap cs k hl hμ hn hcc=>
   intro h;cases h with
   | sb _ _ _ _ h=>
    have hs0:(lk id σ).isSome:=by rw [hl];rfl
    obtain⟨h2,h3⟩:=upI id hs0 h;obtain⟨cs',hcs'⟩:=hbox _ _ hl h2;exact .sb id off n cap cs' k (hcs') (by rw [h3,hμ]) hn hcc
 have ins:∀ i,(lk i σ').isSome→(lk i σ).isSome:=fun i hi=>by
  obtain⟨o',ho'⟩:=Option.isSome_iff_exists.1 hi;obtain⟨o,ho,_⟩:=zg6 hs i o' ho';rw [ho];rfl
 have hap:∀ i,(lk i σ').isSome→∀ b,blk (g.μ i)=some b→blk (g.μ c)≠some b:=by
  intro i hi b hb hb';have:=hrel.hp.inj i c b (ins i hi) (by rw [hc];rfl) hb hb';simp_all
 have hK:∀ id ob b,lk id σ'=some ob→blk (g.μ id)=some b→(∀ o,¬ g.K b o)→∀ o,¬ K' b o:=
  fun id ob b hid hb hk o h=>h.elim (hk o) (fun h=>hap id (by rw [hid];rfl) b hb h.1)
 refine⟨g',⟨⟨hrel.hp.kept,hrel.hp.flt,hrel.hp.ext.trans hext,?_,?_,?_,fun i b hi hb=>hrel.hp.own i b (ins i hi) hb,fun i j b hi hj=>hrel.hp.inj i j b (ins i hi) (ins j hj)⟩,?_,hrel.size,
  hrel.defers.map (fun i d hi hl hμ=>⟨hoth _ _ hl (zfE hD hi hl ▸ rfl),hμ⟩),fun s v hb=>⟨srI _ _ (hrel.base s v hb).1 (hrel.base s v hb).2,(hrel.base s v hb).2⟩⟩⟩
 ·intro b o hb hk;rcases hk with hk|⟨hk,_⟩
  ·exact hrel.hp.old b o hb hk
  ·exact absurd hb (hrel.hp.own c b (by rw [hc];rfl) hk)
 ·intro b o hk;rcases hk with hk|⟨_,hk⟩
  ·exact hrel.hp.val b o hk
  ·exact hk
 ·intro id ob hid;obtain⟨o,ho,hnl⟩:=zg6 hs id ob hid;have hO:=hrel.hp.obs id o ho;cases ob with
  | x o1=>
   have:o=.x o1:=by
    rcases hnl with h|⟨cs1,cs',_,h2,_⟩
    ·exact h
    ·cases h2
   subst this;have hrb:=za2 hr.2 _ _ hid;obtain⟨b,k1,k2,k3,k4⟩:=hO;refine⟨b,k1,k2,?_,hK _ _ b hid (by rw [k1];rfl) k4⟩
   cases o1 with
   | map kt kvs=>obtain⟨es,h1,h2,h3,h4⟩:=k3;exact⟨es,h1,h2,fun i k x hi=>let ⟨e,a,c,d,f⟩:=h3 i k x hi;⟨e,a,c,d,vr1 _ _ (zeb (h4.2.2 i k x hi)) f⟩,h4⟩
   | mapIter m since seen last=>
    cases m with
    | some m=>obtain⟨mb,h1,h2⟩:=k3;exact⟨mb,h1,sr1 (.h m) _ hrb h2⟩
    | none=>exact k3
   | strIter s pos=>exact k3
   | loop st pend params assign body nt fr dfr=>
    simp only [rsOb,rsO2,Bool.and_eq_true] at hrb;obtain⟨f,tmps,d,h1,h2,h3,h4⟩:=k3;exact⟨f,tmps,d,h1,h2,fun t v ht=>⟨(h3 t v ht).1,vr _ _ (zaO hrb.1 t v ht) (h3 t v ht).2⟩,sr1 (.h dfr) _ hrb.2 h4⟩
   | dfr=>exact k3
  | chain e0 sz0 st0 xs0=>
   have:o=.chain e0 sz0 st0 xs0:=by
    rcases hnl with h|⟨cs1,cs',_,h2,_⟩
    ·exact h
    ·cases h2
   subst this;obtain⟨vs,h1,h2,h3,h4,h5⟩:=hO;exact⟨vs,h1,h2,h3,fun i x hi j p hp=>let ⟨v,q,r⟩:=h4 i x hi j p hp;⟨v,q,r.mono hext⟩,fun b hb=>hK _ _ b hid hb (h5 b hb)⟩
  | box cs'=>
   have hrb:=za2 hr.2 _ _ hid;simp only [rsOb,List.all_eq_true] at hrb;rcases hnl with h|⟨cs,cs1,h1,h2,h3⟩
   ·subst h;obtain⟨b,vs,T,k1,k2,k3,k4,k5,k6⟩:=hO;exact⟨b,vs,T,k1,k2,k3,k4,fun i s hi=>let ⟨v,p,q⟩:=k5 i s hi;⟨v,p,sr _ _ (hrb s (List.mem_of_getElem? hi)) q⟩,hK _ _ b hid (by rw [k1];rfl) k6⟩
   ·subst h1;cases h2;obtain⟨b,vs,T,k1,k2,k3,k4,k5,k6⟩:=hO;obtain⟨hl,hg⟩:=zgy h3;refine⟨b,vs,T,k1,k2,k3,by rw [k4,hl],fun i s hi=>?_,hK _ _ b hid (by rw [k1];rfl) k6⟩
    obtain⟨s0,hs0,hnl0⟩:=hg i s hi;obtain⟨v,p,q⟩:=k5 i s0 hs0;refine⟨v,p,?_⟩
    rcases hnl0 with rfl|⟨n,rfl,hn1,rfl⟩
    ·grind
    ·exact srfz _ _ hn1 q
 ·intro t v' ht;obtain⟨v,hv,hnl⟩:=zm7 hf t v' ht;obtain⟨hlt,hvr⟩:=hrel.fr t v hv;refine⟨hlt,?_⟩
  rcases hnl with rfl|⟨n,rfl,hn1,rfl⟩
  ·exact vr _ _ (zaO hr.1 t v ht) hvr
  ·exact srfz _ _ hn1 hvr
end
end Go.QL
namespace Go.Proofs.YtidkoikjdghlmaaGreatDoor
open Go Go.QL FoT
set_option maxHeartbeats 3200000
set_option maxRecDepth 20000
attribute [local irreducible] ACall FnC YC fine ten
abbrev nilPV:PV:=.v (.slice none 0 0)
abbrev mO (s:OrS) (pr:SV) (rest:Sg):Sg:=
 (35,.box [.o 900 1 128,.d (zR s.tape),iC s.taken,pr,iC s.time,iC s.at_,iC s.done,iC s.why,iC 0,iC 0,iC 0,iC 0])::(900,.chain 3 1 1 (s.store.map iPV))::rest
theorem open_fn (s:OrS) (hs:GoodS s) (most:Int) (hm:0≤most∧most≤5000) :
  ACall Tryz.prog 155 [stAV s,iv .i64 most] [] (fun r σ'=>r=.t [.x (.b 35 0),iv .i64 0]∧((s.printed=[]∧σ'=mO s (.d nilPV) [])∨σ'=mO s (.o 901 1 s.printed.length) [(901,.chain 3 1 1 (s.printed.map iPV))])):=by
 have ck:=ocheck_fn s hs;have o1:=oout1_ok hm;have c1:ACall Tryz.prog 179 [sl s.store] [] (fun r σ'=>r=.x (.o 5 1 128)∧σ'=[(5,.chain 3 1 1 (s.store.map iPV))]):=by
  refine (clone_own s.store (by rw [hs.len];decide)).mono ?_
  rintro r σ' (⟨h,_⟩|⟨h1,h2⟩)
  ·have:=hs.len;rw [h] at this;cases this
  ·rw [hs.len] at h1;exact⟨h1,h2⟩
 have c2:=clone_data s.tape (by have:=hs.tape;omega);have c3:=clone_own s.printed (by have:=hs.pr;omega);clear hs;obtain⟨st,tp,tk,pr,tm,at',dn,wy⟩:=s;dsimp only at *;refine hdD Tryz.func155 Tryz.ntmps155 (res:=[.tmp 4,.tmp 5]) fun w0 K0 B=>?_
 repeat' first|((first|refine zkA hTt hMix (id:=6) 10 [0,1,3,4,6,7] [⟨2,false,false,[3,4,6,7],[9]⟩,⟨5,false,false,[6,7,9],[]⟩,⟨8,false,false,[9],[]⟩] [0,1,3,0,8,31,0,64,255,223,1023,2047,4095,8191,16383] (by kernel_rfl) rfl (by kernel_rfl) (by kernel_rfl) (by kernel_rfl) ?_|refine LateGo.mk ⟨_,rfl,?_⟩|fail);conv=>whnf)|refine zd ?_|((first|refine zf ?_|refine zi ?_|refine regA ?_|refine zsn (ck) ?_|refine zsn (o1) ?_|refine frA (c1) [(5,900)] ?_|refine zsn (c2) ?_|fail);conv=>whnf)|((refine⟨_,c3.frame (asc [(5,901)]) trivial rfl (by rintro _ _ (⟨_,rfl,rfl⟩|⟨rfl,rfl⟩) <;> rfl),?_⟩);(rintro _ _ ⟨_,_,(⟨hx,rfl,rfl⟩|⟨rfl,rfl⟩),rfl,rfl⟩) <;> conv=>whnf)|(refine zss rfl ?_)|((refine andA ?_);conv=>whnf)|fail
 all_goals first
  | exact⟨_,mO ⟨st,tp,tk,pr,tm,at',dn,wy⟩ (.d nilPV) [],⟨rfl,rfl,trivial⟩,rfl,rfl,rfl,.inl ⟨hx,rfl⟩⟩
  | exact⟨_,mO ⟨st,tp,tk,pr,tm,at',dn,wy⟩ (.o 901 1 pr.length) [(901,.chain 3 1 1 (pr.map iPV))],⟨rfl,rfl,rfl,trivial⟩,rfl,rfl,rfl,.inr rfl⟩
theorem Stp.at4 {P:Program} {Γ:Cx} {y:Code} {ops:Array Oper} {b:Bool} {Q:Exit→Fr→Sg→Prop} {fr:Fr} {σ:Sg} (h:Stp P Γ (.seq (.region 4 ops b) y) Q fr σ):AW P Γ (.seq (.region 4 ops b) y) Q fr σ:=by unfold Stp at h;exact h
theorem Stp.at5 {P:Program} {Γ:Cx} {y:Code} {ops:Array Oper} {b:Bool} {Q:Exit→Fr→Sg→Prop} {fr:Fr} {σ:Sg} (h:Stp P Γ (.seq (.region 5 ops b) y) Q fr σ):AW P Γ (.seq (.region 5 ops b) y) Q fr σ:=by unfold Stp at h;exact h
theorem run_end {Γ:Cx} {c:Code} {Q:Exit→Fr→Sg→Prop} {fr:Fr} {σ:Sg} {S:OrS} {xo:OrO} {xp:Nat} (hg:GoodS S) (hi:Γ.ids=[]) (hd:Γ.dfs=[])
  (h:Imp Γ fr σ [(6,.x (.b 26 0)),(4,.x (.b 4 0))] (mS S xo xp ++ [(4,.box [.d nilPV,.d nilPV,iC 0,.d nilPV,iC 0,iC 0,iC 0,iC 0])]))
  (hk:AW Tryz.prog Γ c Q [(6,.x (.b 26 0)),(4,.x (.b 4 0))] [(26,.box [.d (zR S.store),.d (zR S.tape),iC S.taken,.d (zR S.printed),iC S.time,iC S.at_,iC S.done,iC S.why,iC xo.op,iC xo.a,iC xo.b,iC xo.n]),(4,.box [.d nilPV,.d nilPV,iC 0,.d nilPV,iC 0,iC 0,iC 0,iC 0])]):AW Tryz.prog Γ c Q fr σ:=by
 refine zaq h ?_
 have m1:128≤(S.store.map iPV).length:=by rw [List.length_map,hg.len];exact Nat.le_refl _
 have m2:S.printed.length≤(S.printed.map iPV).length:=by rw [List.length_map];exact Nat.le_refl _
 have a1:zR S.store=.s 1 ((S.store.map iPV).take 128):=by rw [List.take_of_length_le (by rw [List.length_map,hg.len];exact Nat.le_refl _)];rfl
 have a2:zR S.printed=.s 1 ((S.printed.map iPV).take S.printed.length):=by rw [List.take_of_length_le (by rw [List.length_map];exact Nat.le_refl _)];rfl
 refine zaq (Imp.freezeB 900 (fr':=[(6,.x (.b 26 0)),(4,.x (.b 4 0))]) (σ':=[(26,.box [.d (zR S.store),.d (zR S.tape),iC S.taken,.o 901 xp S.printed.length,iC S.time,iC S.at_,iC S.done,iC S.why,iC xo.op,iC xo.a,iC xo.b,iC xo.n]),(901,.chain 3 1 xp (S.printed.map iPV)),(4,.box [.d nilPV,.d nilPV,iC 0,.d nilPV,iC 0,iC 0,iC 0,iC 0])]) rfl
  ⟨⟨_,rfl,.inl rfl⟩,⟨_,rfl,.inl rfl⟩,trivial⟩ ⟨⟨_,rfl,.inr ⟨_,_,rfl,rfl,⟨.inr ⟨_,rfl,m1,congrArg SV.d a1⟩,.inl rfl,.inl rfl,.inl rfl,.inl rfl,.inl rfl,.inl rfl,.inl rfl,.inl rfl,.inl rfl,.inl rfl,.inl rfl,trivial⟩⟩⟩,⟨_,rfl,.inl rfl⟩,⟨_,rfl,.inl rfl⟩,trivial⟩ rfl rfl (by rw [hi];rfl) (by rw [hd];rfl)) ?_
 refine zaq (Imp.freezeB 901 (fr':=[(6,.x (.b 26 0)),(4,.x (.b 4 0))]) (σ':=[(26,.box [.d (zR S.store),.d (zR S.tape),iC S.taken,.d (zR S.printed),iC S.time,iC S.at_,iC S.done,iC S.why,iC xo.op,iC xo.a,iC xo.b,iC xo.n]),(4,.box [.d nilPV,.d nilPV,iC 0,.d nilPV,iC 0,iC 0,iC 0,iC 0])]) rfl
  ⟨⟨_,rfl,.inl rfl⟩,⟨_,rfl,.inl rfl⟩,trivial⟩ ⟨⟨_,rfl,.inr ⟨_,_,rfl,rfl,⟨.inl rfl,.inl rfl,.inl rfl,.inr ⟨_,rfl,m2,congrArg SV.d a2⟩,.inl rfl,.inl rfl,.inl rfl,.inl rfl,.inl rfl,.inl rfl,.inl rfl,.inl rfl,trivial⟩⟩⟩,⟨_,rfl,.inl rfl⟩,trivial⟩ rfl rfl (by rw [hi];rfl) (by rw [hd];rfl)) ?_
 exact hk
theorem orun_fn (s:OrS) (hs:GoodS s) (most:Nat) (hm:most≤5000):FnC Tryz.prog 105 [stAV s,iv .i64 most] (.t [stAV (runO most s),iv .i64 0]):=by
 have hop:=open_fn s hs most (by omega);have hr:=mrun_fn s ⟨0,0,0,0⟩ 0 hs most hm;have hr1:=mrun_fn s ⟨0,0,0,0⟩ 1 hs most hm;have hg:=hs.run most;generalize runO most s=S at *;clear hs;obtain⟨st,tp,tk,pr,tm,at',dn,wy⟩:=s;dsimp only at hop;refine FnC.of_ACall ?_ rfl
 refine hdD Tryz.func105 Tryz.ntmps105 (res:=[.cell 4 202,.tmp 5]) fun w0 K0 B=>?_
 repeat' first|(with_reducible refine Stp.at4 ?_)|refine zd ?_|((first|refine zf ?_|refine regA ?_|fail);conv=>whnf)|((refine⟨_,hop.frame (asc [(35,26)]) trivial rfl (by rintro _ _ ⟨rfl,(⟨_,rfl⟩|rfl)⟩ <;> rfl),?_⟩);(rintro _ _ ⟨_,_,⟨rfl,(⟨hx,rfl⟩|rfl)⟩,rfl,rfl⟩) <;> conv=>whnf)|(refine zss rfl ?_)|fail
 case' inl=>
  subst hx;unfold Stp;refine zaq (fr':=[(6,.x (.b 26 0)),(1,iv .i64 most),(4,.x (.b 4 0))]) (σ':=[(26,.box [.o 900 1 128,.d (zR tp),iC tk,.d nilPV,iC tm,iC at',iC dn,iC wy,iC 0,iC 0,iC 0,iC 0]),(900,.chain 3 1 1 (st.map iPV)),(4,.box [.d nilPV,.d nilPV,iC 0,.d nilPV,iC 0,iC 0,iC 0,iC 0])]) impA ?_
  refine zaq (Imp.nil 901 3 1 (fr':=[(6,.x (.b 26 0)),(1,iv .i64 most),(4,.x (.b 4 0))]) (σ':=[(26,.box [.o 900 1 128,.d (zR tp),iC tk,.o 901 0 0,iC tm,iC at',iC dn,iC wy,iC 0,iC 0,iC 0,iC 0]),(900,.chain 3 1 1 (st.map iPV)),(4,.box [.d nilPV,.d nilPV,iC 0,.d nilPV,iC 0,iC 0,iC 0,iC 0])]) rfl ?_ ?_ rfl rfl) ?_
  ·exact⟨⟨_,rfl,.inl rfl⟩,⟨_,rfl,.inl rfl⟩,⟨_,rfl,.inl rfl⟩,trivial⟩
  ·exact⟨⟨_,rfl,.inr ⟨_,_,rfl,rfl,.inl rfl,.inl rfl,.inl rfl,.inr ⟨rfl,rfl⟩,.inl rfl,.inl rfl,.inl rfl,.inl rfl,.inl rfl,.inl rfl,.inl rfl,.inl rfl,trivial⟩⟩,⟨_,rfl,.inl rfl⟩,⟨_,rfl,.inl rfl⟩,trivial⟩
  clear hr1
 case' inr=>
  unfold Stp;clear hr;have hr:=hr1;clear hr1
 all_goals
  repeat' first|(with_reducible refine Stp.at5 ?_)|refine zd ?_|((first|refine regA ?_|((refine⟨_,hr.frame (asc []) (by repeat (first|exact trivial|refine⟨rfl,?_⟩)) rfl (by rintro _ _ ⟨_,rfl,rfl⟩;rfl),?_⟩);(rintro _ _ ⟨_,_,⟨⟨xo,xp⟩,rfl,rfl⟩,rfl,rfl⟩))|fail);conv=>whnf)|fail
  unfold Stp;refine run_end hg rfl rfl impA ?_
  repeat' first|refine zd ?_|((first|refine zi ?_|refine regA ?_|refine andA ?_|fail);conv=>whnf)|fail
  exact⟨_,[],trivial,rfl,rfl,rfl,rfl⟩
end Go.Proofs.YtidkoikjdghlmaaGreatDoor
namespace Go.QL
open Go Go.RowKit
section
variable {P:Program} {Γ:Cx} {fr:Fr} {σ:Sg} {Q:Exit→Fr→Sg→Prop}
def Rnd (P:Program) (Γ:Cx) (c:Code) (Q:Exit→Fr→Sg→Prop):Nat→Fr→Sg→Prop
 | 0,_,_=>False
 | m+1,fr,σ=>AW P Γ c (Exit.thn (Rnd P Γ c Q m) Q) fr σ
theorem Rnd.mk {c:Code} {m:Nat} (h:AW P Γ c (Exit.thn (Rnd P Γ c Q m) Q) fr σ):Rnd P Γ c Q (m+1) fr σ:=h
theorem AW_rounds {c:Code} (m:Nat) (h:Rnd P Γ c Q m fr σ):AW P Γ (.loop c) Q fr σ:=by
 refine AW.mk fun hL g a w hr=>wpIn_loop_rounds m ?_
 induction m generalizing fr σ g a w with
 | zero=>exact h.elim
 | succ m ih=>
  refine wpIn_mono (AW.use h hL hr) ?_
  rintro e a' w' ⟨fr1,σ1,g1,r1,hq⟩;cases e with
  | normal=>exact ih hq g1 a' w' r1
  | _=>exact⟨fr1,σ1,g1,r1,hq⟩
end
attribute [irreducible] Rnd
end Go.QL
end
