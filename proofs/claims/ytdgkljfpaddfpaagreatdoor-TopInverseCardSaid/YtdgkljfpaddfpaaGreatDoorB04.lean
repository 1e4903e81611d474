/- The logic of walks, and what the functions of the program return: part 4. No condition. -/
import Derived.Test.YtdgkljfpaddfpaaGreatDoorB03
import Derived.LoopNIn
set_option linter.all false
namespace Go.Proofs.YtdgkljfpaddfpaaGreatDoor
open Go Go.QL FoT
set_option maxHeartbeats 3200000
attribute [local irreducible] ACall FnC fine ten zav zD encW
abbrev gwS (h m c:Int):Sg:=[(11,.box [.d (.v (.int .i64 h))]),(13,.box [.d (.v (.int .i64 m))]),(10,.box [.d (.v (.int .i64 c))])]
theorem zq7 (h m c:Int) (h0:0≤h∧h≤1000) (hc:0≤c∧c≤1000):ACall Tryz.prog 77 ([].map AV.x ++ [] ++ [.b 11 0,.b 13 0,.b 10 0].map .x) (gwS h m c) (fun r σ'=>r=iv .i64 (c+h)∧σ'=gwS (h+1) (max m (h+1)) c):=by
 show ACall Tryz.prog 77 [.x (.b 11 0),.x (.b 13 0),.x (.b 10 0)] _ _
 have hw:IntKind.i64.wrap (c+(h+1) - 1)=c+h:=by rw [zg (by omega)];omega
 have em:(if h+1 > m then h+1 else m)=max m (h+1):=by split <;> omega
 rw [← em];refine hdD Tryz.func77 Tryz.ntmps77 (res:=[.tmp 3]) fun w0 K0 B=>?_
 repeat' first|refine zd ?_|((first|refine zi ?_|refine regA ?_|refine⟨_,hw,?_⟩|refine zsq ?_|fail);conv=>whnf)|fail
 exact⟨_,gwS (h+1) (if h+1 > m then h+1 else m) c,⟨rfl,rfl,rfl,trivial⟩,rfl,rfl,rfl,rfl⟩
theorem zgp:∀ (l:List FNode) (n:FNode),zal (l ++ [n])=zal l ++ (if n.kind=2 then [zbo n] else [])
 | [],n=>by by_cases h:n.kind=2 <;> simp [zal,h]
 | x::r,n=>by
  rw [List.cons_append,zal,zal,zgp r n];split <;> rfl
theorem ze4:∀ (l:List FNode),(zal l).length≤l.length
 | []=>Nat.le_refl _
 | x::r=>by
  have:=ze4 r;rw [zal];split
  ·simp only [List.length_cons];try omega
  ·simp only [List.length_cons];try omega
theorem zkJ (v:Int) (i:Nat):zaT v (i+1)=zaT v i ++ [encW 6 0 (v+i) (i+1)]:=by
 unfold zaT;rw [List.range_succ,List.map_append];rfl
theorem zcs (v:Int) (i:Nat):(zaT v i).length=i:=by unfold zaT;simp
theorem bx3E {a b:PV} {c st n m:Nat} (h:n=m):some (Ob.box [.d a,.d b,.o c st n])=some (Ob.box [.d a,.d b,.o c st m]):=by rw [h]
theorem bxE {a b:Int} (h:a=b):some (Ob.box [.d (.v (.int .i64 a))])=some (Ob.box [.d (.v (.int .i64 b))]):=by rw [h]
theorem bx2E {p q:PV} {a b:Int} (h:a=b):some (Ob.box [.d p,.d q,.d (.v (.int .i64 a))])=some (Ob.box [.d p,.d q,.d (.v (.int .i64 b))]):=by rw [h]
theorem zqj {v p pos:Int} {n:FNode} {r:List FNode} {s:ES} (h:n.kind=1):zbM v p (n::r) pos s=(encW 1 (v+n.var) (p+s.h) (pos+1)::(zbM v p r (pos+1) ⟨s.next,s.h+1,max s.most (s.h+1)⟩).1,(zbM v p r (pos+1) ⟨s.next,s.h+1,max s.most (s.h+1)⟩).2):=by
 rw [zbM,if_pos h]
theorem zqi {v p pos:Int} {n:FNode} {r:List FNode} {s:ES} (h:n.kind=2):zbM v p (n::r) pos s=(encW 1 s.next (p+s.h) (pos+1)::(zbM v p r (pos+1) ⟨s.next+1,s.h+1,max s.most (s.h+1)⟩).1,(zbM v p r (pos+1) ⟨s.next+1,s.h+1,max s.most (s.h+1)⟩).2):=by
 rw [zbM,if_neg (by omega),if_pos h]
theorem zqh {v p pos:Int} {n:FNode} {r:List FNode} {s:ES} (h:3≤n.kind):zbM v p (n::r) pos s=(encW (n.kind - 1) (p+s.h - 1) (p+s.h - 2) (pos+1)::(zbM v p r (pos+1) ⟨s.next,s.h - 1,s.most⟩).1,(zbM v p r (pos+1) ⟨s.next,s.h - 1,s.most⟩).2):=by
 rw [zbM,if_neg (by omega),if_neg (by omega)]
abbrev cpS (f:FormT) (A C:List Int) (sa:Nat) (h m c o:Int):Sg:=(26,.box [.d (zac f.vars),.d (zS f.code),.o 900 sa A.length])::(900,.chain 3 1 sa (A.map iPV))::(5,.chain 3 1 C.length (C.map iPV)) ::
 (2,.box [.d (.v (.slice none 0 0)),.d (.v (.int .i64 0)),.d (.v (.int .i64 o))])::gwS h m c
def Stp (P:Program) (Γ:Cx) (c:Code) (Q:Exit→Fr→Sg→Prop) (fr:Fr) (σ:Sg):Prop:=AW P Γ c Q fr σ
theorem Stp.at35 {P:Program} {Γ:Cx} {y:Code} {ops:Array Oper} {b:Bool} {Q:Exit→Fr→Sg→Prop} {fr:Fr} {σ:Sg} (h:Stp P Γ (.seq (.region 35 ops b) y) Q fr σ):AW P Γ (.seq (.region 35 ops b) y) Q fr σ:=h
attribute [irreducible] Stp
theorem zhu (f:FormT):ACall Tryz.prog 29 [zaB f] [] (fun r σ'=>LeW r (.t [zoV (zbN f).1,iv .i64 (zbN f).2])∧σ'=[]):=by
 have hlv:(f.vars.map zaa).length=f.vars.length:=List.length_map _;have hlc:(f.code.map ndPV).length=f.code.length:=List.length_map _;have ck:=ziO f;by_cases h0:zD f=0
 ·rw [h0] at ck;obtain⟨hv8,hc1,hc40⟩:=zbD h0;have hst:=zdt h0;refine hdD Tryz.func29 Tryz.ntmps29 (res:=[.cell 2 75,.tmp 3]) fun w0 K0 B=>?_
  repeat' first|refine zd ?_|refine zc ?_|((first|refine zf ?_|refine regA ?_|refine zsn (ck) ?_|fail);conv=>whnf)|(refine zss rfl ?_)|((refine andA ?_);conv=>whnf)|(refine lnA fun hln=>?_;conv=>whnf)|fail
  refine zaq (Imp.nil 5 3 1 (fr':=[(30,iv .i64 0),(29,iv .i64 f.code.length),(28,.x (.d (zS f.code))),(5,.x (.o 5 0 0)),(4,.x (.b 26 0)),(2,.x (.b 2 0))])
   (σ':=[(26,.box [.d (zac f.vars),.d (zS f.code),.d (.v (.slice none 0 0))]),(2,.box [.d (.v (.slice none 0 0)),.d (.v (.int .i64 0)),.d (.v (.int .i64 0))])]) rfl ?_ ?_ rfl rfl) ?_
  ·exact⟨⟨_,rfl,.inl rfl⟩,⟨_,congrArg (fun k:Nat=>some (iv .i64 k)) hlc,.inl rfl⟩,⟨_,rfl,.inl rfl⟩,⟨_,rfl,.inr ⟨rfl,rfl⟩⟩,⟨_,rfl,.inl rfl⟩,⟨_,rfl,.inl rfl⟩,trivial⟩
  ·exact⟨⟨_,rfl,.inl rfl⟩,⟨_,rfl,.inl rfl⟩,trivial⟩
  refine zaq (Imp.nil 900 3 1 (fr':=[(30,iv .i64 0),(29,iv .i64 f.code.length),(28,.x (.d (zS f.code))),(5,.x (.o 5 0 0)),(4,.x (.b 26 0)),(2,.x (.b 2 0))])
   (σ':=[(5,.chain 3 1 0 []),(26,.box [.d (zac f.vars),.d (zS f.code),.o 900 0 0]),(2,.box [.d (.v (.slice none 0 0)),.d (.v (.int .i64 0)),.d (.v (.int .i64 0))])]) rfl ?_ ?_ rfl rfl) ?_
  ·exact⟨⟨_,rfl,.inl rfl⟩,⟨_,rfl,.inl rfl⟩,⟨_,rfl,.inl rfl⟩,⟨_,rfl,.inl rfl⟩,⟨_,rfl,.inl rfl⟩,⟨_,rfl,.inl rfl⟩,trivial⟩
  ·exact⟨⟨_,rfl,.inl rfl⟩,⟨_,rfl,.inr ⟨_,_,rfl,rfl,.inl rfl,.inl rfl,.inr ⟨rfl,rfl⟩,trivial⟩⟩,⟨_,rfl,.inl rfl⟩,trivial⟩
  refine zJ (fun i:Nat=>[(30,iv .i64 i),(29,iv .i64 f.code.length),(28,.x (.d (zS f.code))),(5,.x (.o 5 (zal (f.code.take i)).length (zal (f.code.take i)).length)),(4,.x (.b 26 0)),(2,.x (.b 2 0))])
   (fun i=>[(900,.chain 3 1 0 []),(5,.chain 3 1 (zal (f.code.take i)).length ((zal (f.code.take i)).map iPV)),(26,.box [.d (zac f.vars),.d (zS f.code),.o 900 0 0]),(2,.box [.d (.v (.slice none 0 0)),.d (.v (.int .i64 0)),.d (.v (.int .i64 0))])])
   (fun i=>i≤f.code.length∧∃ p,Ht f i p) (fun i=>f.code.length - i) 0 ⟨Nat.zero_le _,0,hst⟩ impA ?_
  rintro i ⟨hi,p,hh⟩;rcases Nat.lt_or_ge i f.code.length with hil|hil
  ·obtain⟨hk,hf,hlf,hop⟩:=zdR hil hh;have hnx:∃ p,Ht f (i+1) p:=by
    by_cases k3:f.code[i].kind < 3
    ·exact⟨_,hlf k3⟩
    ·obtain⟨q,_,h⟩:=hop (by omega);exact⟨_,h⟩
   have hcl:=ze4 (f.code.take i);rw [List.length_take] at hcl;have hsn:=zgp (f.code.take i) f.code[i];rw [show f.code.take i ++ [f.code[i]]=f.code.take (i+1) by rw [List.take_add_one,List.getElem?_eq_getElem hil];rfl] at hsn;generalize hC:zal (f.code.take i)=C at *;have hCl:(C.map iPV).length=C.length:=List.length_map _;by_cases k2:f.code[i].kind=2
   ·obtain⟨f1,f2,f3,f4⟩:=(zgA k2).1 hf;have hw:=zi1 _ f2 f3;rw [if_pos k2] at hsn;have e1:C.length+1=(zal (f.code.take (i+1))).length:=by rw [hsn];simp
    have e2:(C.map iPV).take C.length ++ [iPV (zbo f.code[i])]=(zal (f.code.take (i+1))).map iPV:=by
     rw [hsn,List.map_append,List.take_of_length_le (by omega)];rfl
    repeat' first|refine zd ?_|refine zc ?_|((first|refine zf ?_|refine zk ?_|refine regA ?_|refine drA (id:=13) 12 false [0,1,3,7,15,31,0,64,192,448,960,1984,4095,8191,16383,32767] ?_|fail);conv=>whnf)|exact abA hb|((refine zsn (hw) ?_);conv=>whnf)|(refine zso rfl (fun hb=>?_) (fun hb=>?_))|((first|refine zsq ?_|refine andA ?_|with_reducible refine exA fun _=>?_|fail);conv=>whnf)|((refine And.intro (by refine⟨?_,?_,?_⟩ <;> simp [zO,maxLen] <;> omega) ?_);conv=>whnf)|fail
    exact⟨i+1,⟨by omega,hnx⟩,by omega,by rw [← e1,← e2];exact impA⟩
   ·rw [if_neg k2,List.append_nil] at hsn;repeat' first|refine zd ?_|refine zc ?_|((first|refine zf ?_|refine zk ?_|refine regA ?_|refine drA (id:=13) 12 false [0,1,3,7,15,31,0,64,192,448,960,1984,4095,8191,16383,32767] ?_|fail);conv=>whnf)|exact abA hb|(refine zso rfl (fun hb=>?_) (fun hb=>?_))|((first|refine zsq ?_|refine andA ?_|with_reducible refine exA fun _=>?_|fail);conv=>whnf)|fail
    exact⟨i+1,⟨by omega,hnx⟩,by omega,by rw [hsn];exact impA⟩
  ·have hie:i=f.code.length:=by omega
   subst hie;rw [List.take_length];have hcl:=ze4 f.code;have hr:zbN f=(⟨zaT (f.vars.length+f.code.length+2:Int) f.vars.length ++ (zbM (f.vars.length+f.code.length+2) ((f.vars.length+f.code.length+2:Int)+f.vars.length+(zal f.code).length) f.code f.vars.length ⟨(f.vars.length+f.code.length+2:Int)+f.vars.length,0,0⟩).1 ++ [encW 7 ((f.vars.length+f.code.length+2:Int)+f.vars.length+(zal f.code).length) 0 ((f.vars.length+f.code.length+2:Int) - 1)] ++ List.replicate (1+f.vars.length) 0 ++ zal f.code ++ List.replicate (zbM (f.vars.length+f.code.length+2) ((f.vars.length+f.code.length+2:Int)+f.vars.length+(zal f.code).length) f.code f.vars.length ⟨(f.vars.length+f.code.length+2:Int)+f.vars.length,0,0⟩).2.most.toNat 0,0,(f.vars.length+f.code.length+2:Int)⟩,0):=by
    unfold zbN;rw [if_neg (by omega)]
   rw [hr];clear hr;generalize zal f.code=C at *;have hCl:(C.map iPV).length=C.length:=List.length_map _;obtain⟨o,ho⟩:∃ o:Int,o=(f.vars.length+f.code.length+2:Int):=⟨_,rfl⟩;obtain⟨pl,hpl⟩:∃ pl:Int,pl=o+f.vars.length+C.length:=⟨_,rfl⟩;rw [← ho,← hpl];generalize hT:zbM o pl f.code f.vars.length ⟨o+f.vars.length,0,0⟩=T;have ew:IntKind.i64.wrap (((f.vars.map zaa).length:Int)+((f.code.map ndPV).length:Int))=((f.vars.map zaa).length:Int)+((f.code.map ndPV).length:Int):=zg (by omega);repeat' first|refine zd ?_|refine zc ?_|((first|refine zf ?_|refine zk ?_|refine regA ?_|refine drA (id:=13) 12 false [0,1,3,7,15,31,0,64,192,448,960,1984,4095,8191,16383,32767] ?_|refine drA (id:=14) 13 true [0,1,0,4,12,28,60,124,255,0,512,2047,0,8191] ?_|refine drM (id:=15) 11 [0,1,2,3,4,5,6,7,8] true [0,1,0,4,12,28,60,124,255,0,0,1536,4095,8191] ?_|refine LateGo.mk ⟨.x .j,rfl,?_⟩|fail);conv=>whnf)|exact abA hb|(refine zso rfl (fun hb=>?_) (fun hb=>?_))|((first|refine zsq ?_|refine andA ?_|fail);conv=>whnf)|(refine lnA fun hln=>?_;conv=>whnf)|fail
   refine zJ (fun i:Nat=>[(90,iv .i64 i),(89,iv .i64 f.vars.length),(4,.x (.b 26 0)),(2,.x (.b 2 0)),(12,iv .i64 (o+f.vars.length)),(14,.x (.f (.func 77) [] [.b 11 0,.b 13 0,.b 10 0])),(5,.x (.o 5 C.length C.length)),(10,.x (.b 10 0)),(11,.x (.b 11 0)),(13,.x (.b 13 0))])
    (fun i=>cpS f (zaT o i) C i 0 0 pl o) (fun i=>i≤f.vars.length) (fun i=>f.vars.length - i) 0 (Nat.zero_le _) (impX (by repeat' (first|exact trivial|refine And.intro ?_ ?_|exact ivE (by omega)|exact bx3E (by omega)|exact bx2E (by omega)|exact bxE (by omega)|exact zsw))) ?_
   intro i hi;have hrl:=zcs o i;have hrm:((zaT o i).map iPV).length=i:=by rw [List.length_map,hrl]
   rcases Nat.lt_or_ge i f.vars.length with hil|hil
   ·have em:=zgo f 6 0 (o+i) i (zaT o i).length ((zaT o i).map iPV) (by omega) (by omega) (by omega) (by omega) (by omega);have e2:((zaT o i).map iPV).take (zaT o i).length ++ [iPV (encW 6 0 (o+i) ((zaT o i).length+1))]=(zaT o (i+1)).map iPV:=by
     rw [zkJ,List.map_append,List.take_of_length_le (by omega),hrl];rfl
    have e3:(zaT o (i+1)).length=(zaT o i).length+1:=by rw [zcs,zcs]
    rw [e2] at em;repeat' first|refine zd ?_|refine zc ?_|((first|refine zf ?_|refine zk ?_|refine regA ?_|fail);conv=>whnf)|exact abA hb|((refine frA (em) [(60,26),(61,900)] ?_);conv=>whnf)|(refine zso rfl (fun hb=>?_) (fun hb=>?_))|((first|refine zsq ?_|refine andA ?_|fail);conv=>whnf)|fail
    exact⟨i+1,by omega,by omega,(impX (by repeat' (first|exact trivial|refine And.intro ?_ ?_|exact ivE (by omega)|exact bx3E (by omega)|exact bx2E (by omega)|exact bxE (by omega)|exact zsw)))⟩
   ·have hie:i=f.vars.length:=by omega
    subst hie;repeat' first|refine zd ?_|refine zc ?_|((first|refine zf ?_|refine zk ?_|refine regA ?_|fail);conv=>whnf)|exact abA hb|(refine zso rfl (fun hb=>?_) (fun hb=>?_))|((refine andA ?_);conv=>whnf)|(refine lnA fun hln=>?_;conv=>whnf)|fail
    refine zJ (fun x:Nat × List Int × ES=>[(108,iv .i64 x.1),(107,iv .i64 f.code.length),(106,.x (.d (zS f.code))),(4,.x (.b 26 0)),(2,.x (.b 2 0)),(12,iv .i64 x.2.2.next),(14,.x (.f (.func 77) [] [.b 11 0,.b 13 0,.b 10 0])),(5,.x (.o 5 C.length C.length)),(10,.x (.b 10 0)),(11,.x (.b 11 0)),(13,.x (.b 13 0))])
     (fun x=>cpS f x.2.1 C (f.vars.length+x.1) x.2.2.h x.2.2.most pl o)
     (fun x=>x.1≤f.code.length∧x.2.1.length=f.vars.length+x.1∧(∃ p:Nat,x.2.2.h=p∧Ht f x.1 p)∧(0≤x.2.2.most∧x.2.2.most≤12)∧(o+f.vars.length≤x.2.2.next∧x.2.2.next≤o+f.vars.length+x.1) ∧
      x.2.1 ++ (zbM o pl (f.code.drop x.1) (f.vars.length+x.1) x.2.2).1=zaT o f.vars.length ++ T.1∧(zbM o pl (f.code.drop x.1) (f.vars.length+x.1) x.2.2).2=T.2)
     (fun x=>f.code.length - x.1) (0,zaT o f.vars.length,⟨o+f.vars.length,0,0⟩) ⟨Nat.zero_le _,by rw [zcs];rfl,⟨0,rfl,hst⟩,⟨Int.le_refl _,(show (0:Int)≤12 by decide)⟩,⟨Int.le_refl _,by show o+(f.vars.length:Int)≤o+f.vars.length+((0:Nat):Int);omega⟩,by
      show zaT o f.vars.length ++ (zbM o pl f.code (f.vars.length+((0:Nat):Int)) ⟨o+f.vars.length,0,0⟩).1=_
      rw [show (f.vars.length:Int)+((0:Nat):Int)=f.vars.length by omega,hT],by
      show (zbM o pl f.code (f.vars.length+((0:Nat):Int)) ⟨o+f.vars.length,0,0⟩).2=_
      rw [show (f.vars.length:Int)+((0:Nat):Int)=f.vars.length by omega,hT]⟩ (impX (by repeat' (first|exact trivial|refine And.intro ?_ ?_|exact ivE (by omega)|exact bx3E (by omega)|exact bx2E (by omega)|exact bxE (by omega)|exact chE rfl|(rw [zcs])|exact zsw))) ?_
    rintro⟨i,A,s⟩ ⟨hi2,hA,⟨p,hp,hh⟩,hm,hnx,hT1,hT2⟩;dsimp only at hi2 hA hp hh hm hnx hT1 hT2 ⊢;obtain⟨sn,sh,sm⟩:=s;dsimp only at hp hm hnx hT1 hT2 ⊢;have hAm:(A.map iPV).length=A.length:=List.length_map _;have hp12:p≤12:=by obtain⟨_,_,_,h,_⟩:=hh;exact h
    rcases Nat.lt_or_ge i f.code.length with hil2|hil2
    ·obtain⟨hk,hf,hlf,hop⟩:=zdR hil2 hh;rw [List.drop_eq_getElem_cons hil2] at hT1 hT2;have hpos:(f.vars.length:Int)+(i:Int)+1=f.vars.length+((i+1:Nat):Int):=by push_cast;omega
     have hA1:((A.length:Nat):Int)+1=(f.vars.length:Int)+(i:Int)+1:=by omega
     have e3:∀ E:Int,A.length+1=(A ++ [E]).length:=fun E=>by rw [List.length_append];rfl
     have e3:=fun {E:Int}=>e3 E
     by_cases k1:f.code[i].kind=1
     ·have hf1:=hf;unfold fine at hf1;rw [if_pos k1] at hf1;have hh':=hlf (by omega);have hp12':p+1≤12:=by obtain⟨_,_,_,h,_⟩:=hh';exact h
      rw [zqj k1] at hT1 hT2;have gw:=zq7 sh sm pl (by omega) (by omega);have em:=zgo f (1) (o+f.code[i].var) (pl+sh) (f.vars.length+i) A.length (A.map iPV) (by omega) (by omega) (by omega) (by omega) (by omega);rw [hA1] at em;generalize hE:encW (1) (o+f.code[i].var) (pl+sh) ((f.vars.length:Int)+(i:Int)+1)=E at *;have e2:(A.map iPV).take A.length ++ [iPV E]=(A ++ [E]).map iPV:=by rw [List.map_append,List.take_of_length_le (by omega)];rfl
      rw [e2] at em;repeat' first|((first|refine zkA hTt hMix (id:=29) 10 [0,1,2,3,4,5,6] [⟨7,false,false,[0,1,2,3,4,5],[8,9]⟩] [0,0,2,0,8,30,0,64,254,510,1023] (by kernel_rfl) rfl (by kernel_rfl) (by kernel_rfl) (by kernel_rfl) ?_|refine LateGo.mk ⟨_,rfl,?_⟩|fail);conv=>whnf)|refine zd ?_|refine zc ?_|((first|refine zf ?_|refine zk ?_|refine regA ?_|fail);conv=>whnf)|exact abA hb|((first|refine frA (em) [(60,26),(61,900)] ?_|((refine⟨_,gw.frame (asc []) (by repeat (first|exact trivial|refine⟨rfl,?_⟩)) rfl (by rintro _ _ ⟨rfl,rfl⟩;rfl),?_⟩);(rintro _ _ ⟨_,_,⟨rfl,rfl⟩,rfl,rfl⟩))|fail);conv=>whnf)|(refine zso rfl (fun hb=>?_) (fun hb=>?_))|((first|refine zsq ?_|refine andA ?_|with_reducible refine exA fun _=>?_|fail);conv=>whnf)|fail
      exact⟨(i+1,A ++ [E],⟨sn,sh+1,max sm (sh+1)⟩),⟨by show i+1≤_;omega,by show (A ++ [E]).length=_;rw [List.length_append,hA];rfl,⟨p+1,by show sh+1=_;push_cast;omega,hh'⟩,⟨by show 0≤max sm (sh+1);omega,by show max sm (sh+1)≤12;omega⟩,⟨hnx.1,by show sn≤_;push_cast;omega⟩,by rw [← hpos];show (A ++ [E]) ++ _=_;rw [List.append_assoc];exact hT1,by rw [← hpos];exact hT2⟩,by show f.code.length - (i+1) < f.code.length - i;omega,(impX (by repeat' (first|exact trivial|refine And.intro ?_ ?_|exact ivE (by omega)|exact bx3E (by omega)|exact bx2E (by omega)|exact bxE (by omega)|exact chE e2|exact bx3E e3|exact zsw)))⟩
     ·by_cases k2:f.code[i].kind=2
      ·obtain⟨f1,f2,f3,f4⟩:=(zgA k2).1 hf;have hh':=hlf (by omega);have hp12':p+1≤12:=by obtain⟨_,_,_,h,_⟩:=hh';exact h
       rw [zqi k2] at hT1 hT2;have gw:=zq7 sh sm pl (by omega) (by omega);have em:=zgo f (1) (sn) (pl+sh) (f.vars.length+i) A.length (A.map iPV) (by omega) (by omega) (by omega) (by omega) (by omega);rw [hA1] at em;generalize hE:encW (1) (sn) (pl+sh) ((f.vars.length:Int)+(i:Int)+1)=E at *;have e2:(A.map iPV).take A.length ++ [iPV E]=(A ++ [E]).map iPV:=by rw [List.map_append,List.take_of_length_le (by omega)];rfl
       rw [e2] at em;repeat' first|refine zd ?_|refine zc ?_|((first|refine zf ?_|refine zk ?_|refine regA ?_|refine drA (id:=29) 10 true [0,0,2,0,8,30,0,64,254,510,1023] ?_|fail);conv=>whnf)|exact abA hb|((first|refine frA (em) [(60,26),(61,900)] ?_|((refine⟨_,gw.frame (asc []) (by repeat (first|exact trivial|refine⟨rfl,?_⟩)) rfl (by rintro _ _ ⟨rfl,rfl⟩;rfl),?_⟩);(rintro _ _ ⟨_,_,⟨rfl,rfl⟩,rfl,rfl⟩))|fail);conv=>whnf)|(refine zso rfl (fun hb=>?_) (fun hb=>?_))|((first|refine zsq ?_|refine andA ?_|with_reducible refine exA fun _=>?_|fail);conv=>whnf)|fail
       exact⟨(i+1,A ++ [E],⟨sn+1,sh+1,max sm (sh+1)⟩),⟨by show i+1≤_;omega,by show (A ++ [E]).length=_;rw [List.length_append,hA];rfl,⟨p+1,by show sh+1=_;push_cast;omega,hh'⟩,⟨by show 0≤max sm (sh+1);omega,by show max sm (sh+1)≤12;omega⟩,⟨by show _≤sn+1;omega,by show sn+1≤_;push_cast;omega⟩,by rw [← hpos];show (A ++ [E]) ++ _=_;rw [List.append_assoc];exact hT1,by rw [← hpos];exact hT2⟩,by show f.code.length - (i+1) < f.code.length - i;omega,(impX (by repeat' (first|exact trivial|refine And.intro ?_ ?_|exact ivE (by omega)|exact bx3E (by omega)|exact bx2E (by omega)|exact bxE (by omega)|exact chE e2|exact bx3E e3|exact zsw)))⟩
      ·obtain⟨q,hq,hh'⟩:=hop (by omega);rw [zqh (by omega)] at hT1 hT2;have w27:IntKind.i64.wrap (2+f.code[i].kind - 3)=f.code[i].kind - 1:=by rw [zg (by omega)];omega
       have w28:IntKind.i64.wrap (pl+(sh - 1))=pl+sh - 1:=by rw [zg (by omega)];omega
       have w29:IntKind.i64.wrap (pl+sh - 1 - 1)=pl+sh - 2:=by rw [zg (by omega)];omega
       have em:=zgo f (f.code[i].kind - 1) (pl+sh - 1) (pl+sh - 2) (f.vars.length+i) A.length (A.map iPV) (by omega) (by omega) (by omega) (by omega) (by omega);rw [hA1] at em;generalize hE:encW (f.code[i].kind - 1) (pl+sh - 1) (pl+sh - 2) ((f.vars.length:Int)+(i:Int)+1)=E at *;have e2:(A.map iPV).take A.length ++ [iPV E]=(A ++ [E]).map iPV:=by rw [List.map_append,List.take_of_length_le (by omega)];rfl
       rw [e2] at em;repeat' first|refine zd ?_|refine zc ?_|((first|refine zf ?_|refine zk ?_|refine regA ?_|refine drA (id:=29) 10 true [0,0,2,0,8,30,0,64,254,510,1023] ?_|fail);conv=>whnf)|exact abA hb|((first|refine frA (em) [(60,26),(61,900)] ?_|refine⟨_,w27,?_⟩|refine⟨_,w28,?_⟩|refine⟨_,w29,?_⟩|fail);conv=>whnf)|(refine zso rfl (fun hb=>?_) (fun hb=>?_))|((first|refine zsq ?_|refine andA ?_|with_reducible refine exA fun _=>?_|fail);conv=>whnf)|fail
       exact⟨(i+1,A ++ [E],⟨sn,sh - 1,sm⟩),⟨by show i+1≤_;omega,by show (A ++ [E]).length=_;rw [List.length_append,hA];rfl,⟨q+1,by show sh - 1=_;push_cast;omega,hh'⟩,hm,⟨hnx.1,by show sn≤_;push_cast;omega⟩,by rw [← hpos];show (A ++ [E]) ++ _=_;rw [List.append_assoc];exact hT1,by rw [← hpos];exact hT2⟩,by show f.code.length - (i+1) < f.code.length - i;omega,(impX (by repeat' (first|exact trivial|refine And.intro ?_ ?_|exact ivE (by omega)|exact bx3E (by omega)|exact bx2E (by omega)|exact bxE (by omega)|exact chE e2|exact bx3E e3|exact zsw)))⟩
    ·have hie2:i=f.code.length:=by omega
     subst hie2;rw [List.drop_eq_nil_of_le (Nat.le_refl _),zbM] at hT1 hT2;rw [List.append_nil] at hT1;dsimp only at hT2;have em:=zgo f 7 pl 0 (f.vars.length+f.code.length) A.length (A.map iPV) (by omega) (by omega) (by omega) (by omega) (by omega);have hA1:((A.length:Nat):Int)+1=o - 1:=by omega
     rw [hA1] at em;generalize encW 7 pl 0 (o - 1)=E at *;have e2:(A.map iPV).take A.length ++ [iPV E]=(A ++ [E]).map iPV:=by rw [List.map_append,List.take_of_length_le (by omega)];rfl
     have e3:A.length+1=(A ++ [E]).length:=by rw [List.length_append];rfl
     rw [e2] at em;rw [← hT1,← hT2];dsimp only;repeat' first|(with_reducible refine Stp.at35 ?_)|refine zd ?_|refine zc ?_|((first|refine zf ?_|refine zk ?_|refine regA ?_|fail);conv=>whnf)|exact abA hb|((refine frA (em) [(60,26),(61,900)] ?_);conv=>whnf)|(refine zso rfl (fun hb=>?_) (fun hb=>?_))|fail
     unfold Stp;have hle:A.length+1≤((A ++ [E]).map iPV).length:=by rw [List.length_map,List.length_append];exact Nat.le_refl _
     have hal:zR (A ++ [E])=.s 1 (((A ++ [E]).map iPV).take (A.length+1)):=by rw [List.take_of_length_le (by rw [List.length_map,List.length_append];exact Nat.le_refl _)];rfl
     have hle5:C.length≤(C.map iPV).length:=by rw [hCl];exact Nat.le_refl _
     have hfz5:AV.x (.d (zR C))=.x (.d (.s 1 ((C.map iPV).take C.length))):=by rw [List.take_of_length_le (by omega)];rfl
     refine zaq (Imp.freezeB 900 (fr':=[(4,.x (.b 26 0)),(2,.x (.b 2 0)),(5,.x (.o 5 C.length C.length)),(13,.x (.b 13 0))])
      (σ':=[(26,.box [.d (zac f.vars),.d (zS f.code),.d (zR (A ++ [E]))]),(5,.chain 3 1 C.length (C.map iPV)),(2,.box [.d (.v (.slice none 0 0)),.d (.v (.int .i64 0)),.d (.v (.int .i64 o))]),(13,.box [.d (.v (.int .i64 sm))])]) rfl
      ⟨⟨_,rfl,.inl rfl⟩,⟨_,rfl,.inl rfl⟩,⟨_,rfl,.inl rfl⟩,⟨_,rfl,.inl rfl⟩,trivial⟩ ⟨⟨_,rfl,.inr ⟨_,_,rfl,rfl,⟨.inl rfl,.inl rfl,.inr ⟨_,rfl,hle,congrArg SV.d hal⟩,trivial⟩⟩⟩,⟨_,rfl,.inl rfl⟩,⟨_,rfl,.inl rfl⟩,⟨_,rfl,.inl rfl⟩,trivial⟩ rfl rfl) ?_
     refine zaq (Imp.freeze 5 (fr':=[(4,.x (.b 26 0)),(2,.x (.b 2 0)),(5,.x (.d (zR C))),(13,.x (.b 13 0))])
      (σ':=[(26,.box [.d (zac f.vars),.d (zS f.code),.d (zR (A ++ [E]))]),(2,.box [.d (.v (.slice none 0 0)),.d (.v (.int .i64 0)),.d (.v (.int .i64 o))]),(13,.box [.d (.v (.int .i64 sm))])]) rfl
      ⟨⟨_,rfl,.inl rfl⟩,⟨_,rfl,.inl rfl⟩,⟨_,rfl,.inr ⟨_,rfl,hle5,hfz5⟩⟩,⟨_,rfl,.inl rfl⟩,trivial⟩ ⟨rfl,rfl,rfl,trivial⟩ rfl rfl) ?_
     repeat' first|((refine zoM hTt hMix (id:=35) 15 true [0,1,3,7,0,16,48,112,240,496,1008,2032,0,0,8192,32767,65535,131071,262143] (by kernel_rfl) rfl rfl (by kernel_rfl) ?_);conv=>whnf)|refine zd ?_|((first|refine zsq ?_|refine andA ?_|with_reducible refine And.intro (And.intro (by omega) (And.intro (by first|omega|(simp only [List.length_map];omega)) (by first|omega|(simp only [List.length_map,List.length_set];omega)))) ?_|fail);conv=>whnf)|fail
     have hn1:(1+((f.vars.map zaa).length:Int)).toNat=1+f.vars.length:=by rw [hlv];omega
     have hz1:(1+((f.vars.map zaa).length:Int)).toNat≤(List.replicate (1+((f.vars.map zaa).length:Int)).toNat [PV.v (.int .i64 0)]).length:=by rw [List.length_replicate];exact Nat.le_refl _
     have hq1:AV.x (.d (zR (List.replicate (1+f.vars.length) 0)))=.x (.d (.s 1 ((List.replicate (1+((f.vars.map zaa).length:Int)).toNat [PV.v (.int .i64 0)]).take (1+((f.vars.map zaa).length:Int)).toNat))):=by
      rw [List.take_of_length_le (by rw [List.length_replicate];exact Nat.le_refl _),hn1];unfold zR;rw [List.map_replicate]
     have hz2:sm.toNat≤(List.replicate sm.toNat [PV.v (.int .i64 0)]).length:=by rw [List.length_replicate];exact Nat.le_refl _
     have hq2:AV.x (.d (zR (List.replicate sm.toNat 0)))=.x (.d (.s 1 ((List.replicate sm.toNat [PV.v (.int .i64 0)]).take sm.toNat))):=by
      rw [List.take_of_length_le (by rw [List.length_replicate];exact Nat.le_refl _)];unfold zR;rw [List.map_replicate]
     have hcc:=zmV (A ++ [E]) (List.replicate (1+f.vars.length) 0) C (List.replicate sm.toNat 0) (by rw [List.length_append];simp) (by rw [List.length_append];simp only [List.length_cons,List.length_nil];omega) (by rw [List.length_replicate];omega) (by omega) (by rw [List.length_replicate];omega);refine⟨[(2,.x (.b 2 0)),(164,.x (.d (zR (A ++ [E])))),(172,.x (.d (zR (List.replicate (1+f.vars.length) 0)))),(173,.x (.d (zR C))),(175,.x (.d (zR (List.replicate sm.toNat 0))))],
      [(26,.box [.d (zac f.vars),.d (zS f.code),.d (zR (A ++ [E]))]),(2,.box [.d (.v (.slice none 0 0)),.d (.v (.int .i64 0)),.d (.v (.int .i64 o))]),(13,.box [.d (.v (.int .i64 sm))])],
      Imp.trans (Imp.freeze 172 (fr':=[(2,.x (.b 2 0)),(164,.x (.d (zR (A ++ [E])))),(172,.x (.d (zR (List.replicate (1+f.vars.length) 0)))),(173,.x (.d (zR C))),(175,.x (.o 175 0 sm.toNat))])
        (σ':=[(175,.chain 3 1 0 (List.replicate sm.toNat [PV.v (.int .i64 0)])),(26,.box [.d (zac f.vars),.d (zS f.code),.d (zR (A ++ [E]))]),(2,.box [.d (.v (.slice none 0 0)),.d (.v (.int .i64 0)),.d (.v (.int .i64 o))]),(13,.box [.d (.v (.int .i64 sm))])])
        rfl ⟨⟨_,rfl,.inl rfl⟩,⟨_,rfl,.inl rfl⟩,⟨_,rfl,.inr ⟨_,rfl,hz1,hq1⟩⟩,⟨_,rfl,.inl rfl⟩,⟨_,rfl,.inl rfl⟩,trivial⟩ ⟨rfl,rfl,rfl,rfl,trivial⟩ rfl rfl)
       (Imp.freeze 175 rfl ⟨⟨_,rfl,.inl rfl⟩,⟨_,rfl,.inl rfl⟩,⟨_,rfl,.inl rfl⟩,⟨_,rfl,.inl rfl⟩,⟨_,rfl,.inr ⟨_,rfl,hz2,hq2⟩⟩,trivial⟩ ⟨rfl,rfl,rfl,trivial⟩ rfl rfl),?_⟩
     conv=>whnf
     repeat' first|refine zd ?_|((first|refine zi ?_|refine regA ?_|refine zsn (hcc) ?_|refine andA ?_|fail);conv=>whnf)|fail
     exact⟨_,[],trivial,rfl,rfl,⟨⟨.inl rfl,.inl rfl,.inl rfl,trivial⟩,.inl rfl,trivial⟩,rfl⟩
 ·have hr:zbN f=(⟨[],0,0⟩,zD f):=by unfold zbN;rw [if_pos h0]
  rw [hr];refine hdD Tryz.func29 Tryz.ntmps29 (res:=[.cell 2 75,.tmp 3]) fun w0 K0 B=>?_
  repeat' first|refine zd ?_|((first|refine zf ?_|refine zi ?_|refine regA ?_|refine zsn (ck) ?_|fail);conv=>whnf)|(exact absurd hb h0)|(refine zso rfl (fun hb=>?_) (fun hb=>?_))|fail
  exact⟨_,[],trivial,rfl,rfl,⟨⟨.inr ⟨rfl,_,rfl⟩,.inl rfl,.inl rfl,trivial⟩,.inl rfl,trivial⟩,rfl⟩
theorem zg0 (f:FormT):FnC Tryz.prog 29 [zaB f] (.t [zoV (zbN f).1,iv .i64 (zbN f).2]):=
 zfd ((zhu f).leW fun _ _ h=>⟨_,h.1,rfl,h.2⟩)
end Go.Proofs.YtdgkljfpaddfpaaGreatDoor
namespace Go.Proofs.YtdgkljfpaddfpaaGreatDoor
open Go Go.QL FoT
set_option maxHeartbeats 3200000
attribute [local irreducible] ACall FnC fine ten zav
abbrev cmS (f:FormT) (st k:Nat) (xs:List (List PV)) (σ:Sg):Sg:=(900,.chain 3 1 st xs)::(7,.box [.o 900 st k])::(3,.box (zb5 f)) :: σ
theorem obE {c st n m:Nat} (h:n=m):some (Ob.box [.o c st n])=some (Ob.box [.o c st m]):=by rw [h]
theorem zox (f:FormT) (hc:zD f=0) (words:List Int) (J:Nat→List Int→Prop) (h0:J 0 [])
  (hl:∀ i st (hi:i < f.code.length),(f.code[i].kind=1∨f.code[i].kind=2)→fine f.vars.length f.code[i]→J i st→∃ x,J (i+1) (st ++ [x]) ∧
   ACall Tryz.prog 18 ([].map AV.x ++ [iv .i64 i,ndAV f.code[i]] ++ [.b 100 0].map .x) (evS words) (fun r σ'=>r=iv .i64 x∧σ'=evS words))
  (hj:∀ i st a b (hi:i < f.code.length),(f.code[i].kind=3∨f.code[i].kind=4∨f.code[i].kind=5)→J i (st ++ [a,b])→∃ x,J (i+1) (st ++ [x]) ∧
   ACall Tryz.prog 20 ([].map AV.x ++ [iv .i64 i,ndAV f.code[i],iv .i64 a,iv .i64 b] ++ [.b 101 0].map .x) (evS words) (fun r σ'=>r=iv .i64 x∧σ'=evS words)) :
  ACall Tryz.prog 17 [zaB f,.x (.f (.func 18) [] [.b 100 0]),.x (.f (.func 20) [] [.b 101 0])] (evS words)
   (fun r σ'=>(∃ x,J f.code.length [x]∧r=iv .i64 x)∧σ'=evS words):=by
 obtain⟨hv8,hc1,hc40⟩:=zbD hc;have hst:=zdt hc;refine hdD Tryz.func17 Tryz.ntmps17 (res:=[.tmp 6]) fun w0 K0 B=>?_
 repeat' first|refine zd ?_|refine zc ?_|((first|refine regA ?_|refine andA ?_|fail);conv=>whnf)|(refine lnA fun hln=>?_;conv=>whnf)|fail
 refine zaq (Imp.nil 900 3 1 (fr':=[(15,iv .i64 0),(14,iv .i64 f.code.length),(13,.x (.d (zS f.code))),(7,.x (.b 7 0)),(1,.x (.f (.func 18) [] [.b 100 0])),(2,.x (.f (.func 20) [] [.b 101 0]))])
  (σ':=(7,.box [.o 900 0 0])::(3,.box (zb5 f))::evS words) rfl ?_ ?_ rfl rfl) ?_
 ·exact⟨⟨_,rfl,.inl rfl⟩,⟨_,congrArg (fun k:Nat=>some (iv .i64 k)) (List.length_map _),.inl rfl⟩,⟨_,rfl,.inl rfl⟩,⟨_,rfl,.inl rfl⟩,⟨_,rfl,.inl rfl⟩,⟨_,rfl,.inl rfl⟩,trivial⟩
 ·exact⟨⟨_,rfl,.inr ⟨_,_,rfl,rfl,.inr ⟨rfl,rfl⟩,trivial⟩⟩,⟨_,rfl,.inl rfl⟩,⟨_,rfl,.inl rfl⟩,⟨_,rfl,.inl rfl⟩,⟨_,rfl,.inl rfl⟩,trivial⟩
 refine zJ (fun x:Nat × List Int × List (List PV) × Nat=>[(15,iv .i64 x.1),(14,iv .i64 f.code.length),(13,.x (.d (zS f.code))),(7,.x (.b 7 0)),(1,.x (.f (.func 18) [] [.b 100 0])),(2,.x (.f (.func 20) [] [.b 101 0]))])
  (fun x=>cmS f x.2.2.2 x.2.1.length x.2.2.1 (evS words))
  (fun x=>x.1≤f.code.length∧Ht f x.1 x.2.1.length∧J x.1 x.2.1∧x.2.2.1.take x.2.1.length=x.2.1.map iPV) (fun x=>f.code.length - x.1) (0,[],[],0) ⟨Nat.zero_le _,hst,h0,rfl⟩ impA ?_
 rintro⟨i,st,xs,sm⟩ ⟨hi,hh,hJ,hx⟩;dsimp only at hi hh hJ hx ⊢;have hxl:st.length≤xs.length:=by
  have:=congrArg List.length hx;rw [List.length_take,List.length_map] at this;omega
 rcases Nat.lt_or_ge i f.code.length with hil|hil
 ·obtain⟨hk,hf,hlf,hop⟩:=zdR hil hh;have hp12:st.length≤12:=by obtain⟨_,_,_,h,_⟩:=hh;exact h
  by_cases k3:f.code[i].kind < 3
  ·obtain⟨v,hJ',hcl⟩:=hl i st hil (by omega) hf hJ;have hput:=zlH v sm st.length xs hxl (by omega);repeat' first|refine zd ?_|refine zc ?_|((first|refine zf ?_|refine zk ?_|refine regA ?_|fail);conv=>whnf)|exact abA hb|((first|refine frA (hcl) [] ?_|refine frA (hput) [(50,7),(51,900)] ?_|fail);conv=>whnf)|(refine zso rfl (fun hb=>?_) (fun hb=>?_))|((first|refine zsq ?_|refine andA ?_|with_reducible refine exA fun _=>?_|fail);conv=>whnf)|fail
   exact⟨(i+1,st ++ [v],xs.take st.length ++ [iPV v],sm+1),⟨by show i+1≤_;omega,by show Ht f (i+1) (st ++ [v]).length;rw [List.length_append];exact hlf k3,hJ',by show List.take (st ++ [v]).length _=_;rw [List.length_append];exact zaG rfl hx v⟩,by show f.code.length - (i+1) < f.code.length - i;omega,(impX (by repeat' (first|exact trivial|refine And.intro ?_ ?_|exact obE (by simp)|exact zsw)))⟩
  ·obtain⟨q,hq,hh'⟩:=hop (by omega);obtain⟨r,a,b,rfl,hr⟩:=zfT hq;obtain⟨v,hJ',hcl⟩:=hj i r a b hil (by omega) hJ;rw [hq] at hx;obtain⟨t1,t2,t3,t4⟩:=zi7 hr hx;have htwo:=zpm a b sm q xs t1 (by omega) t2 t3;have hput:=zlH v sm q xs (by omega) (by omega);simp only [hq];repeat' first|refine zd ?_|refine zc ?_|((first|refine zf ?_|refine zk ?_|refine regA ?_|fail);conv=>whnf)|exact abA hb|((first|refine frA (hcl) [] ?_|refine frA (hput) [(50,7),(51,900)] ?_|refine frA (htwo) [(50,7),(51,900)] ?_|fail);conv=>whnf)|(refine zso rfl (fun hb=>?_) (fun hb=>?_))|((first|refine zsq ?_|refine andA ?_|with_reducible refine exA fun _=>?_|fail);conv=>whnf)|fail
   exact⟨(i+1,r ++ [v],xs.take q ++ [iPV v],sm+1),⟨by show i+1≤_;omega,by show Ht f (i+1) (r ++ [v]).length;rw [List.length_append,hr];exact hh',hJ',by show List.take (r ++ [v]).length _=_;rw [List.length_append,hr];exact zaG hr t4 v⟩,by show f.code.length - (i+1) < f.code.length - i;omega,(impX (by repeat' (first|exact trivial|refine And.intro ?_ ?_|exact obE (by simp [hr])|exact zsw)))⟩
 ·have h1:=ziw hil hh;obtain⟨v,rfl⟩:∃ v,st=[v]:=List.length_eq_one_iff.1 h1;have hi2:i=f.code.length:=by omega
  subst hi2;have g0:xs[0]?=some (iPV v):=by
   have:=congrArg (fun l:List (List PV)=>l[0]?) hx;simpa using this
  repeat' first|refine zd ?_|refine zc ?_|((first|refine zf ?_|refine zk ?_|refine zi ?_|refine regA ?_|fail);conv=>whnf)|exact abA hb|((refine⟨_,ze g0,⟨Nat.le_of_ble_eq_true rfl,rfl⟩,?_⟩);conv=>whnf)|(refine zso rfl (fun hb=>?_) (fun hb=>?_))|((refine andA ?_);conv=>whnf)|fail
  exact⟨_,evS words,⟨rfl,rfl,rfl,trivial⟩,rfl,rfl,⟨⟨v,hJ,rfl⟩,rfl⟩⟩
end Go.Proofs.YtdgkljfpaddfpaaGreatDoor
namespace Go.Proofs.YtdgkljfpaddfpaaGreatDoor
open Go Go.QL FoT
set_option maxHeartbeats 3200000
attribute [local irreducible] ACall FnC fine ten zav
def ptAV (p:Part):AV:=.a [.d (.v (.string (bs p.1))),.d (.v (.int .i64 p.2))]
def ptPV (p:Part):List PV:=[.v (.string (bs p.1)),.v (.int .i64 p.2)]
abbrev plP (st k:Nat) (xs:List (List PV)):Sg:=[(50,.box [.o 51 st k]),(51,.chain 132 2 st xs)]
theorem zlF (v:Part) (st k:Nat) (xs:List (List PV)) (hk:k≤xs.length) (hl:k≤100) :
  ACall Tryz.prog 109 [.x (.b 50 0),ptAV v] (plP st k xs) (fun r σ'=>r=.t []∧σ'=plP (st+1) (k+1) (xs.take k ++ [ptPV v])):=by
 have g1:k + [ptPV v].length≤maxLen:=by show k+1≤_;unfold maxLen;omega
 have g2:(k + [ptPV v].length) * 24≤140737488355328:=by show (k+1) * 24≤_;omega
 refine hdD Tryz.func109 Tryz.ntmps109 (res:=[]) fun w0 K0 B=>?_
 repeat' first|refine zd ?_|((first|refine regA ?_|refine drM (id:=1) 7 [0] true [0,0,2,6,14,0,32,126,255,511,1023] ?_|refine LateGo.mk ⟨_,rfl,?_⟩|refine And.intro ⟨hk,g1,g2⟩ ?_|refine andA ?_|fail);conv=>whnf)|fail
 exact⟨_,plP (st+1) (k+1) (xs.take k ++ [ptPV v]),⟨rfl,rfl,trivial⟩,rfl,rfl,rfl,rfl⟩
theorem zpl (a b:Part) (st k:Nat) (xs:List (List PV)) (hk:k+2≤xs.length) (hl:k≤100) (ha:xs[k]?=some (ptPV a)) (hb':xs[k+1]?=some (ptPV b)) :
  ACall Tryz.prog 110 [.x (.b 50 0)] (plP st (k+2) xs) (fun r σ'=>r=.t [ptAV a,ptAV b]∧σ'=plP st k xs):=by
 have ha':xs[(((k+2:Nat):Int) - 2).toNat]?=some (ptPV a):=by rw [show (((k+2:Nat):Int) - 2).toNat=k by omega];exact ha
 have hb2:xs[(((k+2:Nat):Int) - 1).toNat]?=some (ptPV b):=by rw [show (((k+2:Nat):Int) - 1).toNat=k+1 by omega];exact hb'
 have he:(((k+2:Nat):Int) - 2).toNat=k:=by omega
 refine hdD Tryz.func110 Tryz.ntmps110 (res:=[.cell 2 132,.cell 3 132]) fun w0 K0 B=>?_
 repeat' first|refine zd ?_|((first|refine zi ?_|refine regA ?_|refine drM (id:=2) 16 [8,9,10,11,12,13,14,15] false [0,1,3,7,0,16,63,127,0,256,768,1792,0,4096,16128,32512,255,131071] ?_|refine drM (id:=4) 2 [1] false [0,0,1,7] ?_|refine LateGo.mk ⟨.x .j,rfl,?_⟩|refine⟨_,ze ha',⟨Nat.le_of_ble_eq_true rfl,rfl⟩,?_⟩|refine⟨_,ze hb2,⟨Nat.le_of_ble_eq_true rfl,rfl⟩,?_⟩|refine zsq ?_|refine andA ?_|fail);conv=>whnf)|(refine lnA fun hln=>?_;conv=>whnf)|fail
 exact⟨_,plP st k xs,⟨congrArg (fun n:Nat=>some (Ob.box [.o 51 st n])) he,rfl,trivial⟩,rfl,rfl,rfl,rfl⟩
abbrev wrS (f:FormT):Sg:=[(100,.box (zb5 f))]
abbrev zpC:List SV:=[.d (.v (.string (bs []))),.d (.v (.int .i64 0))]
abbrev cmP (f:FormT) (st k:Nat) (xs:List (List PV)) (σ:Sg):Sg:=(900,.chain 132 2 st xs)::(7,.box [.o 900 st k])::(6,.box zpC)::(3,.box (zb5 f)) :: σ
theorem zow (f:FormT) (hc:zD f=0) (J:Nat→List Part→Prop) (h0:J 0 [])
  (hl:∀ i st (hi:i < f.code.length),(f.code[i].kind=1∨f.code[i].kind=2)→fine f.vars.length f.code[i]→J i st→∃ x,J (i+1) (st ++ [x]) ∧
   ACall Tryz.prog 65 ([].map AV.x ++ [iv .i64 i,ndAV f.code[i]] ++ [.b 100 0].map .x) (wrS f) (fun r σ'=>r=ptAV x∧σ'=wrS f))
  (hj:∀ i st a b (hi:i < f.code.length),(f.code[i].kind=3∨f.code[i].kind=4∨f.code[i].kind=5)→J i (st ++ [a,b])→∃ x,J (i+1) (st ++ [x]) ∧
   ACall Tryz.prog 68 ([].map AV.x ++ [iv .i64 i,ndAV f.code[i],ptAV a,ptAV b] ++ [].map .x) (wrS f) (fun r σ'=>r=ptAV x∧σ'=wrS f)) :
  ACall Tryz.prog 64 [zaB f,.x (.f (.func 65) [] [.b 100 0]),.x (.f (.func 68) [] [])] (wrS f)
   (fun r σ'=>(∃ x,J f.code.length [x]∧r=ptAV x)∧σ'=wrS f):=by
 obtain⟨hv8,hc1,hc40⟩:=zbD hc;have hst:=zdt hc;refine hdD Tryz.func64 Tryz.ntmps64 (res:=[.cell 6 132]) fun w0 K0 B=>?_
 repeat' first|refine zd ?_|refine zc ?_|((first|refine regA ?_|refine andA ?_|fail);conv=>whnf)|(refine lnA fun hln=>?_;conv=>whnf)|fail
 refine zaq (Imp.nil 900 132 2 (fr':=[(15,iv .i64 0),(14,iv .i64 f.code.length),(13,.x (.d (zS f.code))),(7,.x (.b 7 0)),(6,.x (.b 6 0)),(1,.x (.f (.func 65) [] [.b 100 0])),(2,.x (.f (.func 68) [] []))])
  (σ':=(7,.box [.o 900 0 0])::(6,.box zpC)::(3,.box (zb5 f))::wrS f) rfl ?_ ?_ rfl rfl) ?_
 ·exact⟨⟨_,rfl,.inl rfl⟩,⟨_,congrArg (fun k:Nat=>some (iv .i64 k)) (List.length_map _),.inl rfl⟩,⟨_,rfl,.inl rfl⟩,⟨_,rfl,.inl rfl⟩,⟨_,rfl,.inl rfl⟩,⟨_,rfl,.inl rfl⟩,⟨_,rfl,.inl rfl⟩,trivial⟩
 ·exact⟨⟨_,rfl,.inr ⟨_,_,rfl,rfl,.inr ⟨rfl,rfl⟩,trivial⟩⟩,⟨_,rfl,.inl rfl⟩,⟨_,rfl,.inl rfl⟩,⟨_,rfl,.inl rfl⟩,trivial⟩
 refine zJ (fun x:Nat × List Part × List (List PV) × Nat=>[(15,iv .i64 x.1),(14,iv .i64 f.code.length),(13,.x (.d (zS f.code))),(7,.x (.b 7 0)),(6,.x (.b 6 0)),(1,.x (.f (.func 65) [] [.b 100 0])),(2,.x (.f (.func 68) [] []))])
  (fun x=>cmP f x.2.2.2 x.2.1.length x.2.2.1 (wrS f))
  (fun x=>x.1≤f.code.length∧Ht f x.1 x.2.1.length∧J x.1 x.2.1∧x.2.2.1.take x.2.1.length=x.2.1.map ptPV) (fun x=>f.code.length - x.1) (0,[],[],0) ⟨Nat.zero_le _,hst,h0,rfl⟩ impA ?_
 rintro⟨i,st,xs,sm⟩ ⟨hi,hh,hJ,hx⟩;dsimp only at hi hh hJ hx ⊢;have hxl:st.length≤xs.length:=by
  have:=congrArg List.length hx;rw [List.length_take,List.length_map] at this;omega
 rcases Nat.lt_or_ge i f.code.length with hil|hil
 ·obtain⟨hk,hf,hlf,hop⟩:=zdR hil hh;have hp12:st.length≤12:=by obtain⟨_,_,_,h,_⟩:=hh;exact h
  by_cases k3:f.code[i].kind < 3
  ·obtain⟨v,hJ',hcl⟩:=hl i st hil (by omega) hf hJ;have hput:=zlF v sm st.length xs hxl (by omega);repeat' first|refine zd ?_|refine zc ?_|((first|refine zf ?_|refine zk ?_|refine regA ?_|fail);conv=>whnf)|exact abA hb|((first|refine frA (hcl) [] ?_|refine frA (hput) [(50,7),(51,900)] ?_|fail);conv=>whnf)|(refine zso rfl (fun hb=>?_) (fun hb=>?_))|((first|refine zsq ?_|refine andA ?_|with_reducible refine exA fun _=>?_|fail);conv=>whnf)|fail
   exact⟨(i+1,st ++ [v],xs.take st.length ++ [ptPV v],sm+1),⟨by show i+1≤_;omega,by show Ht f (i+1) (st ++ [v]).length;rw [List.length_append];exact hlf k3,hJ',by show List.take (st ++ [v]).length _=_;rw [List.length_append];exact zaG rfl hx v⟩,by show f.code.length - (i+1) < f.code.length - i;omega,(impX (by repeat' (first|exact trivial|refine And.intro ?_ ?_|exact obE (by simp)|exact zsw)))⟩
  ·obtain⟨q,hq,hh'⟩:=hop (by omega);obtain⟨r,a,b,rfl,hr⟩:=zfT hq;obtain⟨v,hJ',hcl⟩:=hj i r a b hil (by omega) hJ;rw [hq] at hx;obtain⟨t1,t2,t3,t4⟩:=zi7 hr hx;have htwo:=zpl a b sm q xs t1 (by omega) t2 t3;have hput:=zlF v sm q xs (by omega) (by omega);simp only [hq];repeat' first|refine zd ?_|refine zc ?_|((first|refine zf ?_|refine zk ?_|refine regA ?_|fail);conv=>whnf)|exact abA hb|((first|refine frA (hcl) [] ?_|refine frA (hput) [(50,7),(51,900)] ?_|refine frA (htwo) [(50,7),(51,900)] ?_|fail);conv=>whnf)|(refine zso rfl (fun hb=>?_) (fun hb=>?_))|((first|refine zsq ?_|refine andA ?_|with_reducible refine exA fun _=>?_|fail);conv=>whnf)|fail
   exact⟨(i+1,r ++ [v],xs.take q ++ [ptPV v],sm+1),⟨by show i+1≤_;omega,by show Ht f (i+1) (r ++ [v]).length;rw [List.length_append,hr];exact hh',hJ',by show List.take (r ++ [v]).length _=_;rw [List.length_append,hr];exact zaG hr t4 v⟩,by show f.code.length - (i+1) < f.code.length - i;omega,(impX (by repeat' (first|exact trivial|refine And.intro ?_ ?_|exact obE (by simp [hr])|exact zsw)))⟩
 ·have h1:=ziw hil hh;obtain⟨v,rfl⟩:∃ v,st=[v]:=List.length_eq_one_iff.1 h1;have hi2:i=f.code.length:=by omega
  subst hi2;have g0:xs[0]?=some (ptPV v):=by
   have:=congrArg (fun l:List (List PV)=>l[0]?) hx;simpa using this
  repeat' first|refine zd ?_|refine zc ?_|((first|refine zf ?_|refine zk ?_|refine zi ?_|refine regA ?_|fail);conv=>whnf)|exact abA hb|((refine⟨_,ze g0,⟨Nat.le_of_ble_eq_true rfl,rfl⟩,?_⟩);conv=>whnf)|(refine zso rfl (fun hb=>?_) (fun hb=>?_))|((refine andA ?_);conv=>whnf)|fail
  exact⟨_,wrS f,⟨rfl,trivial⟩,rfl,rfl,⟨⟨v,hJ,rfl⟩,rfl⟩⟩
end Go.Proofs.YtdgkljfpaddfpaaGreatDoor
namespace Go.Proofs.YtdgkljfpaddfpaaGreatDoor
open Go Go.QL FoT
set_option maxHeartbeats 3200000
attribute [local irreducible] ACall FnC fine ten zav zD
theorem zcB {a b:Bs8} (h:a.length+b.length≤100000):(bs a).size+(bs b).size≤maxLen:=by
 rw [zbj,zbj];unfold maxLen;omega
theorem zcp (p:Part) (w:Nat) (h:p.1.length≤10000):FnC Tryz.prog 69 [ptAV p,iv .i64 w] (sv (bs (zae p w))):=by
 unfold zae;by_cases hw:w≤p.2
 ·rw [if_pos hw];refine hdC Tryz.func69 Tryz.ntmps69 (res:=[.tmp 4]) fun w0 K0=>?_
  repeat' first|refine zd ?_|((first|refine zf ?_|refine zi ?_|refine regA ?_|fail);conv=>whnf)|exact abA hb|(refine zso rfl (fun hb=>?_) (fun hb=>?_))|((refine andA ?_);conv=>whnf)|fail
  rfl
 ·rw [if_neg hw];have g1:(bs [40]).size+(bs p.1).size≤maxLen:=zcB (by show 1+_≤_;omega);have g2:(bs [40] ++ bs p.1).size+(bs [41]).size≤maxLen:=by rw [za7];exact zcB (by simp;omega)
  have e:bs [40] ++ bs p.1 ++ bs [41]=bs ([40] ++ p.1 ++ [41]):=by rw [za7,za7]
  rw [← e];refine hdC Tryz.func69 Tryz.ntmps69 (res:=[.tmp 4]) fun w0 K0=>?_
  repeat' first|refine zd ?_|((first|refine zf ?_|refine zi ?_|refine regA ?_|fail);conv=>whnf)|exact abA hb|((first|refine And.intro (zay g1) ?_|refine And.intro (zay g2) ?_|fail);conv=>whnf)|(refine zso rfl (fun hb=>?_) (fun hb=>?_))|((refine andA ?_);conv=>whnf)|fail
  rfl
theorem zqx (f:FormT) (i:Int) (n:FNode) (hk:n.kind=1∨n.kind=2) (hf:fine f.vars.length n) :
  ACall Tryz.prog 65 ([].map AV.x ++ [iv .i64 i,ndAV n] ++ [.b 100 0].map .x) (wrS f) (fun r σ'=>r=ptAV (zdy f.vars 0 n)∧σ'=wrS f):=by
 show ACall Tryz.prog 65 [iv .i64 i,ndAV n,.x (.b 100 0)] _ _
 unfold zdy txV;by_cases k1:n.kind=1
 ·rw [if_pos k1];unfold fine at hf;rw [if_pos k1] at hf;have hlt:n.var.toNat < f.vars.length:=by omega
  have hg:f.vars[n.var.toNat]?=some (f.vars.getD n.var.toNat []):=by
   rw [List.getD_eq_getElem?_getD,List.getElem?_eq_getElem hlt];rfl
  generalize f.vars.getD n.var.toNat []=v at hg;refine hdD Tryz.func65 Tryz.ntmps65 (res:=[.cell 5 132]) fun w0 K0 B=>?_
  repeat' first|refine zd ?_|((first|refine zf ?_|refine zi ?_|refine regA ?_|fail);conv=>whnf)|exact abA hb|((with_reducible refine Exists.intro _ (And.intro (ze (And.intro (by omega) (zgb hg))) ?_));conv=>whnf)|(refine zso rfl (fun hb=>?_) (fun hb=>?_))|((refine andA ?_);conv=>whnf)|fail
  exact⟨_,wrS f,⟨rfl,trivial⟩,rfl,rfl,rfl,rfl⟩
 ·rw [if_neg k1];have k2:n.kind=2:=by omega
  obtain⟨f1,f2,f3,f4⟩:=(zgA k2).1 hf;obtain⟨u,hu⟩:∃ u:Nat,n.num=u:=⟨n.num.toNat,by omega⟩;obtain⟨k,hkk⟩:∃ k:Nat,n.places=k:=⟨n.places.toNat,by omega⟩;have hten:(u:Int) < 10 ^ k:=by
   have:ten n=10 ^ k:=by unfold ten;rw [hkk,Int.toNat_natCast]
   omega
  have hten':u < 10 ^ k:=by
   have e:(10:Int) ^ k=((10 ^ k:Nat):Int):=by push_cast;rfl
   omega
  obtain⟨p1,p2⟩:=zlP k u (by omega) hten';have it:=zod n.num (by omega) (by
   have:=(zdk f2).2.2;omega)
  have hit:Lib.itoa n.num=Lib.decDigits u:=by rw [hu];unfold Lib.itoa;simp
  rw [hit] at it;have hz:((⟨(Lib.decDigits u).toArray⟩:ByteArray).size:Int)=(Lib.decDigits u).length:=by
   show (((Lib.decDigits u).toArray.size:Nat):Int)=_
   rw [List.size_toArray]
  have rp:=zlA ⟨#[48]⟩ (k - (Lib.decDigits u).length) (by omega) (by decide);have hrp:Lib.repeatL (⟨#[48]⟩:ByteArray).data.toList (k - (Lib.decDigits u).length)=List.replicate (k - (Lib.decDigits u).length) 48:=zqM _;rw [hrp] at rp;have hw:IntKind.i64.wrap (n.places - ((⟨(Lib.decDigits u).toArray⟩:ByteArray).size:Int))=((k - (Lib.decDigits u).length:Nat):Int):=by
   rw [hz,hkk,zg (by omega)];omega
  have g1:(bs [48,46]).size+(⟨(List.replicate (k - (Lib.decDigits u).length) 48).toArray⟩:ByteArray).size≤maxLen:=zcB (b:=List.replicate (k - (Lib.decDigits u).length) 48) (by simp;omega);have g2:(bs [48,46] ++ (⟨(List.replicate (k - (Lib.decDigits u).length) 48).toArray⟩:ByteArray)).size+(⟨(Lib.decDigits u).toArray⟩:ByteArray).size≤maxLen:=by
   show (bs [48,46] ++ bs _).size+(bs _).size≤_
   rw [za7];exact zcB (by simp;omega)
  have e:bs [48,46] ++ (⟨(List.replicate (k - (Lib.decDigits u).length) 48).toArray⟩:ByteArray) ++ (⟨(Lib.decDigits u).toArray⟩:ByteArray)=bs ([48,46] ++ padD n.places.toNat n.num.toNat):=by
   show bs [48,46] ++ bs _ ++ bs _=_
   rw [za7,za7,hkk,hu,Int.toNat_natCast,Int.toNat_natCast,← p2,List.append_assoc]
  unfold ptAV;dsimp only;rw [← e];refine hdD Tryz.func65 Tryz.ntmps65 (res:=[.cell 5 132]) fun w0 K0 B=>?_
  repeat' first|refine zd ?_|((first|refine zf ?_|refine zi ?_|refine regA ?_|fail);conv=>whnf)|exact abA hb|((first|refine zsn (it) ?_|refine⟨_,hw,?_⟩|refine zsn (rp) ?_|refine And.intro (zay g1) ?_|refine And.intro (zay g2) ?_|fail);conv=>whnf)|(refine zso rfl (fun hb=>?_) (fun hb=>?_))|((refine andA ?_);conv=>whnf)|fail
  exact⟨_,wrS f,⟨rfl,trivial⟩,rfl,rfl,rfl,rfl⟩
theorem zqw (f:FormT) (i:Int) (n:FNode) (a b:Part) (hk:n.kind=3∨n.kind=4∨n.kind=5) (ha:a.1.length≤5000) (hb':b.1.length≤5000) :
  ACall Tryz.prog 68 ([].map AV.x ++ [iv .i64 i,ndAV n,ptAV a,ptAV b] ++ [].map .x) (wrS f) (fun r σ'=>r=ptAV (zcT 0 n a b)∧σ'=wrS f):=by
 show ACall Tryz.prog 68 [iv .i64 i,ndAV n,ptAV a,ptAV b] _ _
 have wl:∀ (p:Part) (w:Nat),p.1.length≤5000→(zae p w).length≤5002:=fun p w h=>by
  unfold zae;split
  ·omega
  ·simp;omega
 obtain⟨k,v,m,q⟩:=n;dsimp only at hk;rcases hk with rfl|rfl|rfl
 ·have w1:=zcp a 1 (by omega);have w2:=zcp b 2 (by omega);have l1:=wl a 1 ha;have l2:=wl b 2 hb';rw [show zcT 0 ⟨3,v,m,q⟩ a b=(zae a 1 ++ [43] ++ zae b 2,1) from rfl];generalize zae a 1=x at *;generalize zae b 2=y at *;have g1:(bs x).size+(bs [43]).size≤maxLen:=zcB (by simp;omega);have g2:(bs x ++ bs [43]).size+(bs y).size≤maxLen:=by rw [za7];exact zcB (by simp;omega)
  have e:bs x ++ bs [43] ++ bs y=bs (x ++ [43] ++ y):=by rw [za7,za7]
  unfold ptAV;dsimp only;rw [← e];refine hdD Tryz.func68 Tryz.ntmps68 (res:=[.cell 8 132]) fun w0 K0 B=>?_
  repeat' first|refine zd ?_|((first|refine zf ?_|refine zi ?_|refine regA ?_|refine drA (id:=5) 14 false [0,0,3,0,8,24,56,127,0,0,512,1799,4095,0,16383,32767] ?_|refine zsp (w1) ?_|refine zsp (w2) ?_|refine And.intro (zay g1) ?_|refine And.intro (zay g2) ?_|fail);conv=>whnf)|(refine zss rfl ?_)|((first|refine zsq ?_|refine andA ?_|fail);conv=>whnf)|fail
  exact⟨_,wrS f,⟨rfl,trivial⟩,rfl,rfl,rfl,rfl⟩
 ·have w1:=zcp a 1 (by omega);have w2:=zcp b 2 (by omega);have l1:=wl a 1 ha;have l2:=wl b 2 hb';rw [show zcT 0 ⟨4,v,m,q⟩ a b=(zae a 1 ++ [45] ++ zae b 2,1) from rfl];generalize zae a 1=x at *;generalize zae b 2=y at *;have g1:(bs x).size+(bs [45]).size≤maxLen:=zcB (by simp;omega);have g2:(bs x ++ bs [45]).size+(bs y).size≤maxLen:=by rw [za7];exact zcB (by simp;omega)
  have e:bs x ++ bs [45] ++ bs y=bs (x ++ [45] ++ y):=by rw [za7,za7]
  unfold ptAV;dsimp only;rw [← e];refine hdD Tryz.func68 Tryz.ntmps68 (res:=[.cell 8 132]) fun w0 K0 B=>?_
  repeat' first|refine zd ?_|((first|refine zf ?_|refine zi ?_|refine regA ?_|refine drA (id:=5) 14 false [0,0,3,0,8,24,56,127,0,0,512,1799,4095,0,16383,32767] ?_|refine zsp (w1) ?_|refine zsp (w2) ?_|refine And.intro (zay g1) ?_|refine And.intro (zay g2) ?_|fail);conv=>whnf)|(refine zss rfl ?_)|((first|refine zsq ?_|refine andA ?_|fail);conv=>whnf)|fail
  exact⟨_,wrS f,⟨rfl,trivial⟩,rfl,rfl,rfl,rfl⟩
 ·have w1:=zcp a 2 (by omega);have w2:=zcp b 3 (by omega);have l1:=wl a 2 ha;have l2:=wl b 3 hb';rw [show zcT 0 ⟨5,v,m,q⟩ a b=(zae a 2 ++ [42] ++ zae b 3,2) from rfl];generalize zae a 2=x at *;generalize zae b 3=y at *;have g1:(bs x).size+(bs [42]).size≤maxLen:=zcB (by simp;omega);have g2:(bs x ++ bs [42]).size+(bs y).size≤maxLen:=by rw [za7];exact zcB (by simp;omega)
  have e:bs x ++ bs [42] ++ bs y=bs (x ++ [42] ++ y):=by rw [za7,za7]
  unfold ptAV;dsimp only;rw [← e];refine hdD Tryz.func68 Tryz.ntmps68 (res:=[.cell 8 132]) fun w0 K0 B=>?_
  repeat' first|refine zd ?_|((first|refine zi ?_|refine regA ?_|refine drA (id:=5) 14 false [0,0,3,0,8,24,56,127,0,0,512,1799,4095,0,16383,32767] ?_|refine zsp (w1) ?_|refine zsp (w2) ?_|refine And.intro (zay g1) ?_|refine And.intro (zay g2) ?_|fail);conv=>whnf)|(refine zst rfl ?_)|((first|refine zsq ?_|refine andA ?_|fail);conv=>whnf)|fail
  exact⟨_,wrS f,⟨rfl,trivial⟩,rfl,rfl,rfl,rfl⟩
def lenS (l:List Part):Nat:=(l.map fun p=>p.1.length+5).sum
theorem zdq (a b:List Part):lenS (a ++ b)=lenS a+lenS b:=by unfold lenS;rw [List.map_append,List.sum_append]
theorem zem (p:Part):lenS [p]=p.1.length+5:=by simp [lenS]
theorem zmb {V:List Bs8} (hV:∀ s ∈ V,s.length≤20) {n:FNode} (hk:n.kind=1∨n.kind=2) (hf:fine V.length n):(zdy V 0 n).1.length≤20:=by
 unfold zdy txV;by_cases k1:n.kind=1
 ·rw [if_pos k1];unfold fine at hf;rw [if_pos k1] at hf;dsimp only;rw [List.getD_eq_getElem?_getD,List.getElem?_eq_getElem (by omega)];exact hV _ (List.getElem_mem (by omega))
 ·rw [if_neg k1];obtain⟨f1,f2,f3,f4⟩:=(zgA (by omega)).1 hf;simp only [List.length_append,zdp];simp;omega
theorem zgD (p:Part) (w:Nat):(zae p w).length≤p.1.length+2:=by
 unfold zae;split
 ·omega
 ·simp;try omega
theorem zmz (n:FNode) (a b:Part):(zcT 0 n a b).1.length≤a.1.length+b.1.length+5:=by
 unfold zcT zca;dsimp only;simp only [List.length_append];have h1:=zgD a (if n.kind=5 then 2 else 1);have h2:=zgD b ((if n.kind=5 then 2 else 1)+1);have h3:(if n.kind=5 then ([42]:Bs8) else if n.kind=4 then [45] else [43]).length=1:=by
  by_cases h5:n.kind=5
  ·rw [if_pos h5];rfl
  ·rw [if_neg h5];split <;> rfl
 omega
theorem zl1 {f:FormT} (hc:zD f=0):∀ s ∈ f.vars,s.length≤20:=by
 unfold zD at hc;split at hc
 ·cases hc
 ·split at hc
  ·rename_i e he;rcases zhc (V:=f.vars) f.vars [] with h1|h1|h1 <;> rw [h1] at he <;> cases he <;> cases hc
  ·rename_i he;intro s hs;have:=(zeK he).1 s hs;unfold zbb at this;simp at this;try omega
theorem zrm (f:FormT) (hc:zD f=0) :
  ACall Tryz.prog 64 [zaB f,.x (.f (.func 65) [] [.b 100 0]),.x (.f (.func 68) [] [])] (wrS f)
   (fun r σ'=>r=ptAV ((zaN (([],0):Part) (zdy f.vars) zcT 0 f.code []).getD 0 ([],0))∧σ'=wrS f):=by
 obtain⟨_,_,hc40⟩:=zbD hc;have hV:=zl1 hc;have small:∀ (st:List Part) (i:Nat),i≤40→lenS st≤25 * i→∀ p ∈ st,p.1.length≤5000:=by
  intro st i hi h p hp;obtain⟨x,y,rfl⟩:=List.append_of_mem hp;rw [zdq,show p::y=[p] ++ y from rfl,zdq,zem] at h;omega
 refine (zow f hc (fun i st=>lenS st≤25 * i∧zaN (([],0):Part) (zdy f.vars) zcT 0 f.code []=zaN (([],0):Part) (zdy f.vars) zcT i (f.code.drop i) st) ⟨by simp [lenS],rfl⟩ ?_ ?_).mono ?_
 ·rintro i st hi hk hf ⟨h1,h2⟩;have hl:=zmb hV hk hf;refine⟨zdy f.vars 0 f.code[i],⟨by rw [zdq,zem];omega,?_⟩,zqx f i _ hk hf⟩
  rw [h2,List.drop_eq_getElem_cons hi,zaN,if_pos (by omega)];rfl
 ·rintro i st a b hi hk ⟨h1,h2⟩;have hs:=small _ i (by omega) h1;have hj:=zmz f.code[i] a b;refine⟨zcT 0 f.code[i] a b,⟨?_,?_⟩,zqw f i _ a b hk (hs a (by simp)) (hs b (by simp))⟩
  ·rw [zdq,zem];rw [zdq,show ([a,b]:List Part)=[a] ++ [b] from rfl,zdq,zem,zem] at h1;omega
  ·rw [h2,List.drop_eq_getElem_cons hi,zaN,if_neg (by omega)];simp only [List.length_append,List.length_cons,List.length_nil];rw [List.take_left' (by omega)];congr 2
   try simp [zcT,List.getD_eq_getElem?_getD]
 ·rintro r σ' ⟨⟨x,⟨_,hx⟩,rfl⟩,rfl⟩;refine⟨?_,rfl⟩
  rw [List.drop_eq_nil_of_le (Nat.le_refl _)] at hx;rw [hx];rfl
def zd0 (f:FormT):Bs8 × Int:=if zD f≠0 then ([],zD f) else (zeL f,0)
theorem zcX (f:FormT):FnC Tryz.prog 25 [zaB f] (.t [sv (bs (zd0 f).1),iv .i64 (zd0 f).2]):=by
 have ck:=ziO f;unfold zd0;by_cases h0:zD f=0
 ·rw [if_neg (by omega)];rw [h0] at ck;have cp:=zrm f h0;unfold zeL;generalize (zaN (([],0):Part) (zdy f.vars) zcT 0 f.code []).getD 0 ([],0)=R at *;refine hdC Tryz.func25 Tryz.ntmps25 (res:=[.tmp 2,.tmp 3]) fun w0 K0=>?_
  repeat' first|refine zd ?_|((first|refine zf ?_|refine zi ?_|refine regA ?_|refine zsn (ck) ?_|refine frA (cp) [(100,1)] ?_|fail);conv=>whnf)|(refine zss rfl ?_)|fail
  rfl
 ·rw [if_pos h0];refine hdC Tryz.func25 Tryz.ntmps25 (res:=[.tmp 2,.tmp 3]) fun w0 K0=>?_
  repeat' first|refine zd ?_|((first|refine zf ?_|refine zi ?_|refine regA ?_|refine zsn (ck) ?_|fail);conv=>whnf)|(exact absurd hb h0)|(refine zso rfl (fun hb=>?_) (fun hb=>?_))|fail
  rfl
end Go.Proofs.YtdgkljfpaddfpaaGreatDoor
namespace Go.Proofs.YtdgkljfpaddfpaaGreatDoor
open Go Go.QL FoT
set_option maxHeartbeats 1600000
attribute [local irreducible] ACall FnC fine ten
abbrev plR (st k:Nat) (xs:List (List PV)):Sg:=[(50,.box [.o 51 st k]),(51,.chain 69 3 st xs)]
theorem zlE (v:RangeT) (st k:Nat) (xs:List (List PV)) (hk:k≤xs.length) (hl:k≤100) :
  ACall Tryz.prog 118 [.x (.b 50 0),rgAV v] (plR st k xs) (fun r σ'=>r=.t []∧σ'=plR (st+1) (k+1) (xs.take k ++ [rgPV v])):=by
 have g1:k + [rgPV v].length≤maxLen:=by show k+1≤_;unfold maxLen;omega
 have g2:(k + [rgPV v].length) * 24≤140737488355328:=by show (k+1) * 24≤_;omega
 refine hdD Tryz.func118 Tryz.ntmps118 (res:=[]) fun w0 K0 B=>?_
 repeat' first|refine zd ?_|((first|refine regA ?_|refine drM (id:=1) 7 [0] true [0,0,2,6,14,0,32,126,255,511,1023] ?_|refine LateGo.mk ⟨_,rfl,?_⟩|refine And.intro ⟨hk,g1,g2⟩ ?_|refine andA ?_|fail);conv=>whnf)|fail
 exact⟨_,plR (st+1) (k+1) (xs.take k ++ [rgPV v]),⟨rfl,rfl,trivial⟩,rfl,rfl,rfl,rfl⟩
theorem zpk (a b:RangeT) (st k:Nat) (xs:List (List PV)) (hk:k+2≤xs.length) (hl:k≤100) (ha:xs[k]?=some (rgPV a)) (hb':xs[k+1]?=some (rgPV b)) :
  ACall Tryz.prog 119 [.x (.b 50 0)] (plR st (k+2) xs) (fun r σ'=>r=.t [rgAV a,rgAV b]∧σ'=plR st k xs):=by
 have ha':xs[(((k+2:Nat):Int) - 2).toNat]?=some (rgPV a):=by rw [show (((k+2:Nat):Int) - 2).toNat=k by omega];exact ha
 have hb2:xs[(((k+2:Nat):Int) - 1).toNat]?=some (rgPV b):=by rw [show (((k+2:Nat):Int) - 1).toNat=k+1 by omega];exact hb'
 have he:(((k+2:Nat):Int) - 2).toNat=k:=by omega
 refine hdD Tryz.func119 Tryz.ntmps119 (res:=[.cell 2 69,.cell 3 69]) fun w0 K0 B=>?_
 repeat' first|refine zd ?_|((first|refine zi ?_|refine regA ?_|refine drM (id:=2) 16 [8,9,10,11,12,13,14,15] false [0,1,3,7,0,16,63,127,0,256,768,1792,0,4096,16128,32512,255,131071] ?_|refine drM (id:=4) 2 [1] false [0,0,1,7] ?_|refine LateGo.mk ⟨.x .j,rfl,?_⟩|refine⟨_,ze ha',⟨Nat.le_of_ble_eq_true rfl,rfl⟩,?_⟩|refine⟨_,ze hb2,⟨Nat.le_of_ble_eq_true rfl,rfl⟩,?_⟩|refine zsq ?_|refine andA ?_|fail);conv=>whnf)|(refine lnA fun hln=>?_;conv=>whnf)|fail
 exact⟨_,plR st k xs,⟨congrArg (fun n:Nat=>some (Ob.box [.o 51 st n])) he,rfl,trivial⟩,rfl,rfl,rfl,rfl⟩
end Go.Proofs.YtdgkljfpaddfpaaGreatDoor
namespace Go.Proofs.YtdgkljfpaddfpaaGreatDoor
open Go Go.QL FoT
set_option maxHeartbeats 3200000
attribute [local irreducible] ACall FnC fine ten zav
abbrev rgS (spans:List SpanT) (t:Int):Sg:=[(100,.box [.d (zcS spans)]),(103,.box [.d (.v (.int .i64 t))]),(101,.box [.h 102]),mpS]
abbrev zrC:List SV:=[.d (.v (.int .i64 0)),.d (.v (.int .i64 0)),.d (.v (.int .i64 0))]
abbrev cmR (f:FormT) (st k:Nat) (xs:List (List PV)) (σ:Sg):Sg:=(900,.chain 69 3 st xs)::(7,.box [.o 900 st k])::(6,.box zrC)::(3,.box (zb5 f)) :: σ
theorem zov (f:FormT) (hc:zD f=0) (spans:List SpanT) (J:Nat→Int→List RangeT→Prop) (h0:J 0 (-1) [])
  (hl:∀ i t st (hi:i < f.code.length),(f.code[i].kind=1∨f.code[i].kind=2)→fine f.vars.length f.code[i]→J i t st→∃ x,J (i+1) t (st ++ [x]) ∧
   ACall Tryz.prog 72 ([].map AV.x ++ [iv .i64 i,ndAV f.code[i]] ++ [.b 100 0].map .x) (rgS spans t) (fun r σ'=>r=rgAV x∧σ'=rgS spans t))
  (hj:∀ i t st a b (hi:i < f.code.length),(f.code[i].kind=3∨f.code[i].kind=4∨f.code[i].kind=5)→J i t (st ++ [a,b])→∃ x t',J (i+1) t' (st ++ [x]) ∧
   ACall Tryz.prog 73 ([].map AV.x ++ [iv .i64 i,ndAV f.code[i],rgAV a,rgAV b] ++ [.b 103 0,.b 101 0].map .x) (rgS spans t) (fun r σ'=>r=rgAV x∧σ'=rgS spans t')) :
  ACall Tryz.prog 71 [zaB f,.x (.f (.func 72) [] [.b 100 0]),.x (.f (.func 73) [] [.b 103 0,.b 101 0])] (rgS spans (-1))
   (fun r σ'=>∃ x t,J f.code.length t [x]∧r=rgAV x∧σ'=rgS spans t):=by
 obtain⟨hv8,hc1,hc40⟩:=zbD hc;have hst:=zdt hc;refine hdD Tryz.func71 Tryz.ntmps71 (res:=[.cell 6 69]) fun w0 K0 B=>?_
 repeat' first|refine zd ?_|refine zc ?_|((first|refine regA ?_|refine andA ?_|fail);conv=>whnf)|(refine lnA fun hln=>?_;conv=>whnf)|fail
 refine zaq (Imp.nil 900 69 3 (fr':=[(15,iv .i64 0),(14,iv .i64 f.code.length),(13,.x (.d (zS f.code))),(7,.x (.b 7 0)),(6,.x (.b 6 0)),(1,.x (.f (.func 72) [] [.b 100 0])),(2,.x (.f (.func 73) [] [.b 103 0,.b 101 0]))])
  (σ':=(7,.box [.o 900 0 0])::(6,.box zrC)::(3,.box (zb5 f))::rgS spans (-1)) rfl ?_ ?_ rfl rfl) ?_
 ·exact⟨⟨_,rfl,.inl rfl⟩,⟨_,congrArg (fun k:Nat=>some (iv .i64 k)) (List.length_map _),.inl rfl⟩,⟨_,rfl,.inl rfl⟩,⟨_,rfl,.inl rfl⟩,⟨_,rfl,.inl rfl⟩,⟨_,rfl,.inl rfl⟩,⟨_,rfl,.inl rfl⟩,trivial⟩
 ·exact⟨⟨_,rfl,.inr ⟨_,_,rfl,rfl,.inr ⟨rfl,rfl⟩,trivial⟩⟩,⟨_,rfl,.inl rfl⟩,⟨_,rfl,.inl rfl⟩,⟨_,rfl,.inl rfl⟩,⟨_,rfl,.inl rfl⟩,⟨_,rfl,.inl rfl⟩,⟨_,rfl,.inl rfl⟩,trivial⟩
 refine zJ (fun x:Nat × List RangeT × List (List PV) × Nat × Int=>[(15,iv .i64 x.1),(14,iv .i64 f.code.length),(13,.x (.d (zS f.code))),(7,.x (.b 7 0)),(6,.x (.b 6 0)),(1,.x (.f (.func 72) [] [.b 100 0])),(2,.x (.f (.func 73) [] [.b 103 0,.b 101 0]))])
  (fun x=>cmR f x.2.2.2.1 x.2.1.length x.2.2.1 (rgS spans x.2.2.2.2))
  (fun x=>x.1≤f.code.length∧Ht f x.1 x.2.1.length∧J x.1 x.2.2.2.2 x.2.1∧x.2.2.1.take x.2.1.length=x.2.1.map rgPV) (fun x=>f.code.length - x.1) (0,[],[],0,-1) ⟨Nat.zero_le _,hst,h0,rfl⟩ impA ?_
 rintro⟨i,st,xs,sm,t⟩ ⟨hi,hh,hJ,hx⟩;dsimp only at hi hh hJ hx ⊢;have hxl:st.length≤xs.length:=by
  have:=congrArg List.length hx;rw [List.length_take,List.length_map] at this;omega
 rcases Nat.lt_or_ge i f.code.length with hil|hil
 ·obtain⟨hk,hf,hlf,hop⟩:=zdR hil hh;have hp12:st.length≤12:=by obtain⟨_,_,_,h,_⟩:=hh;exact h
  by_cases k3:f.code[i].kind < 3
  ·obtain⟨v,hJ',hcl⟩:=hl i t st hil (by omega) hf hJ;have hput:=zlE v sm st.length xs hxl (by omega);repeat' first|refine zd ?_|refine zc ?_|((first|refine zf ?_|refine zk ?_|refine regA ?_|fail);conv=>whnf)|exact abA hb|((first|refine frA (hcl) [] ?_|refine frA (hput) [(50,7),(51,900)] ?_|fail);conv=>whnf)|(refine zso rfl (fun hb=>?_) (fun hb=>?_))|((first|refine zsq ?_|refine andA ?_|with_reducible refine exA fun _=>?_|fail);conv=>whnf)|fail
   exact⟨(i+1,st ++ [v],xs.take st.length ++ [rgPV v],sm+1,t),⟨by show i+1≤_;omega,by show Ht f (i+1) (st ++ [v]).length;rw [List.length_append];exact hlf k3,hJ',by show List.take (st ++ [v]).length _=_;rw [List.length_append];exact zaG rfl hx v⟩,by show f.code.length - (i+1) < f.code.length - i;omega,(impX (by repeat' (first|exact trivial|refine And.intro ?_ ?_|exact obE (by simp)|exact zsw)))⟩
  ·obtain⟨q,hq,hh'⟩:=hop (by omega);obtain⟨r,a,b,rfl,hr⟩:=zfT hq;obtain⟨v,t',hJ',hcl⟩:=hj i t r a b hil (by omega) hJ;rw [hq] at hx;obtain⟨p1,p2,p3,p4⟩:=zi7 hr hx;have htwo:=zpk a b sm q xs p1 (by omega) p2 p3;have hput:=zlE v sm q xs (by omega) (by omega);simp only [hq];repeat' first|refine zd ?_|refine zc ?_|((first|refine zf ?_|refine zk ?_|refine regA ?_|fail);conv=>whnf)|exact abA hb|((first|refine frA (hcl) [] ?_|refine frA (hput) [(50,7),(51,900)] ?_|refine frA (htwo) [(50,7),(51,900)] ?_|fail);conv=>whnf)|(refine zso rfl (fun hb=>?_) (fun hb=>?_))|((first|refine zsq ?_|refine andA ?_|with_reducible refine exA fun _=>?_|fail);conv=>whnf)|fail
   exact⟨(i+1,r ++ [v],xs.take q ++ [rgPV v],sm+1,t'),⟨by show i+1≤_;omega,by show Ht f (i+1) (r ++ [v]).length;rw [List.length_append,hr];exact hh',hJ',by show List.take (r ++ [v]).length _=_;rw [List.length_append,hr];exact zaG hr p4 v⟩,by show f.code.length - (i+1) < f.code.length - i;omega,(impX (by repeat' (first|exact trivial|refine And.intro ?_ ?_|exact obE (by simp [hr])|exact zsw)))⟩
 ·have h1:=ziw hil hh;obtain⟨v,rfl⟩:∃ v,st=[v]:=List.length_eq_one_iff.1 h1;have hi2:i=f.code.length:=by omega
  subst hi2;have g0:xs[0]?=some (rgPV v):=by
   have:=congrArg (fun l:List (List PV)=>l[0]?) hx;simpa using this
  repeat' first|refine zd ?_|refine zc ?_|((first|refine zf ?_|refine zk ?_|refine zi ?_|refine regA ?_|fail);conv=>whnf)|exact abA hb|((refine⟨_,ze g0,⟨Nat.le_of_ble_eq_true rfl,rfl⟩,?_⟩);conv=>whnf)|(refine zso rfl (fun hb=>?_) (fun hb=>?_))|((refine andA ?_);conv=>whnf)|fail
  exact⟨_,rgS spans t,⟨rfl,rfl,rfl,rfl,trivial⟩,rfl,rfl,⟨v,t,hJ,rfl,rfl⟩⟩
end Go.Proofs.YtdgkljfpaddfpaaGreatDoor
namespace Go.Proofs.YtdgkljfpaddfpaaGreatDoor
open Go Go.QL FoT
set_option maxHeartbeats 3200000
attribute [local irreducible] ACall FnC fine ten zav
theorem zfB (n:Int):FnC Tryz.prog 70 [iv .i64 n] (bv (zC n)):=by
 have o:=zaL n (-8388608) 8388607;have e:outB n (-8388608) 8388607=zC n:=by
  unfold outB zC;cases decide (n < -8388608) <;> rfl
 rw [e] at o;generalize zC n=b at *;refine hdC Tryz.func70 Tryz.ntmps70 (res:=[.tmp 2]) fun w0 K0=>?_
 repeat' first|refine zd ?_|((first|refine zi ?_|refine regA ?_|refine zsn (o) ?_|fail);conv=>whnf)|fail
 rfl
theorem zer {a b:Int}:(if b > a then b else a)=max a b:=by split <;> omega
theorem zfi {a b:Int}:(if b < a then b else a)=min a b:=by split <;> omega
theorem zq0 (a b c d:Int):FnC Tryz.prog 75 [sl [a,b,c,d]] (iv .i64 (min4 a b c d)):=by
 refine hdC Tryz.func75 Tryz.ntmps75 (res:=[.tmp 2]) fun w0 K0=>?_
 repeat' first|refine zd ?_|refine zc ?_|((first|refine zf ?_|refine regA ?_|refine⟨[.v (.int .i64 a)],ze ⟨by omega,rfl⟩,?_⟩|fail);conv=>whnf)|(refine zss rfl ?_)|((refine andA ?_);conv=>whnf)|(refine lnA fun hln=>?_;conv=>whnf)|fail
 refine zJ (fun x:Nat × Int=>[(4,iv .i64 x.1),(3,iv .i64 x.2),(0,sl [a,b,c,d])]) (fun _=>[]) (fun x=>(x.1=1∧x.2=a)∨(x.1=2∧x.2=min a b)∨(x.1=3∧x.2=min (min a b) c)∨(x.1=4∧x.2=min4 a b c d)) (fun x=>4 - x.1) (1,a) (.inl ⟨rfl,rfl⟩) impA ?_
 rintro⟨i,m⟩ h;dsimp only at h ⊢;rcases h with ⟨rfl,rfl⟩|⟨rfl,rfl⟩|⟨rfl,rfl⟩|⟨rfl,rfl⟩
 ·repeat' first|refine zd ?_|refine zc ?_|((first|refine zf ?_|refine regA ?_|refine⟨[.v (.int .i64 b)],ze ⟨by omega,rfl⟩,?_⟩|fail);conv=>whnf)|(refine zst rfl ?_)|((first|refine zsq ?_|refine andA ?_|fail);conv=>whnf)|(refine lnA fun hln=>?_;conv=>whnf)|fail
  exact⟨(2,min m b),.inr (.inl ⟨rfl,rfl⟩),by show 4 - 2 < 4 - 1;decide,(impX (by repeat' (first|exact trivial|refine And.intro ?_ ?_|exact ivE (show ((1:Nat):Int)+1=((2:Nat):Int) from rfl)|exact ivE (show ((2:Nat):Int)+1=((3:Nat):Int) from rfl)|exact ivE (show ((3:Nat):Int)+1=((4:Nat):Int) from rfl)|exact ivE (by simp only [cond_false,cond_true,zfi,zer])|exact zsw)))⟩
 ·repeat' first|refine zd ?_|refine zc ?_|((first|refine zf ?_|refine regA ?_|refine⟨[.v (.int .i64 c)],ze ⟨by omega,rfl⟩,?_⟩|fail);conv=>whnf)|(refine zst rfl ?_)|((first|refine zsq ?_|refine andA ?_|fail);conv=>whnf)|(refine lnA fun hln=>?_;conv=>whnf)|fail
  exact⟨(3,min (min a b) c),.inr (.inr (.inl ⟨rfl,rfl⟩)),by show 4 - 3 < 4 - 2;decide,(impX (by repeat' (first|exact trivial|refine And.intro ?_ ?_|exact ivE (show ((1:Nat):Int)+1=((2:Nat):Int) from rfl)|exact ivE (show ((2:Nat):Int)+1=((3:Nat):Int) from rfl)|exact ivE (show ((3:Nat):Int)+1=((4:Nat):Int) from rfl)|exact ivE (by simp only [cond_false,cond_true,zfi,zer])|exact zsw)))⟩
 ·repeat' first|refine zd ?_|refine zc ?_|((first|refine zf ?_|refine regA ?_|refine⟨[.v (.int .i64 d)],ze ⟨by omega,rfl⟩,?_⟩|fail);conv=>whnf)|(refine zst rfl ?_)|((first|refine zsq ?_|refine andA ?_|fail);conv=>whnf)|(refine lnA fun hln=>?_;conv=>whnf)|fail
  exact⟨(4,min4 a b c d),.inr (.inr (.inr ⟨rfl,rfl⟩)),by show 4 - 4 < 4 - 3;decide,(impX (by repeat' (first|exact trivial|refine And.intro ?_ ?_|exact ivE (show ((1:Nat):Int)+1=((2:Nat):Int) from rfl)|exact ivE (show ((2:Nat):Int)+1=((3:Nat):Int) from rfl)|exact ivE (show ((3:Nat):Int)+1=((4:Nat):Int) from rfl)|exact ivE (by simp only [cond_false,cond_true,zfi,zer];unfold min4;omega)|exact zsw)))⟩
 ·repeat' first|refine zd ?_|((first|refine zk ?_|refine zi ?_|refine regA ?_|fail);conv=>whnf)|(refine zss rfl ?_)|(refine lnA fun hln=>?_;conv=>whnf)|fail
  rfl
theorem zq1 (a b c d:Int):FnC Tryz.prog 76 [sl [a,b,c,d]] (iv .i64 (max4 a b c d)):=by
 refine hdC Tryz.func76 Tryz.ntmps76 (res:=[.tmp 2]) fun w0 K0=>?_
 repeat' first|refine zd ?_|refine zc ?_|((first|refine zf ?_|refine regA ?_|refine⟨[.v (.int .i64 a)],ze ⟨by omega,rfl⟩,?_⟩|fail);conv=>whnf)|(refine zss rfl ?_)|((refine andA ?_);conv=>whnf)|(refine lnA fun hln=>?_;conv=>whnf)|fail
 refine zJ (fun x:Nat × Int=>[(4,iv .i64 x.1),(3,iv .i64 x.2),(0,sl [a,b,c,d])]) (fun _=>[]) (fun x=>(x.1=1∧x.2=a)∨(x.1=2∧x.2=max a b)∨(x.1=3∧x.2=max (max a b) c)∨(x.1=4∧x.2=max4 a b c d)) (fun x=>4 - x.1) (1,a) (.inl ⟨rfl,rfl⟩) impA ?_
 rintro⟨i,m⟩ h;dsimp only at h ⊢;rcases h with ⟨rfl,rfl⟩|⟨rfl,rfl⟩|⟨rfl,rfl⟩|⟨rfl,rfl⟩
 ·repeat' first|refine zd ?_|refine zc ?_|((first|refine zf ?_|refine regA ?_|refine⟨[.v (.int .i64 b)],ze ⟨by omega,rfl⟩,?_⟩|fail);conv=>whnf)|(refine zst rfl ?_)|((first|refine zsq ?_|refine andA ?_|fail);conv=>whnf)|(refine lnA fun hln=>?_;conv=>whnf)|fail
  exact⟨(2,max m b),.inr (.inl ⟨rfl,rfl⟩),by show 4 - 2 < 4 - 1;decide,(impX (by repeat' (first|exact trivial|refine And.intro ?_ ?_|exact ivE (show ((1:Nat):Int)+1=((2:Nat):Int) from rfl)|exact ivE (show ((2:Nat):Int)+1=((3:Nat):Int) from rfl)|exact ivE (show ((3:Nat):Int)+1=((4:Nat):Int) from rfl)|exact ivE (by simp only [cond_false,cond_true,zfi,zer])|exact zsw)))⟩
 ·repeat' first|refine zd ?_|refine zc ?_|((first|refine zf ?_|refine regA ?_|refine⟨[.v (.int .i64 c)],ze ⟨by omega,rfl⟩,?_⟩|fail);conv=>whnf)|(refine zst rfl ?_)|((first|refine zsq ?_|refine andA ?_|fail);conv=>whnf)|(refine lnA fun hln=>?_;conv=>whnf)|fail
  exact⟨(3,max (max a b) c),.inr (.inr (.inl ⟨rfl,rfl⟩)),by show 4 - 3 < 4 - 2;decide,(impX (by repeat' (first|exact trivial|refine And.intro ?_ ?_|exact ivE (show ((1:Nat):Int)+1=((2:Nat):Int) from rfl)|exact ivE (show ((2:Nat):Int)+1=((3:Nat):Int) from rfl)|exact ivE (show ((3:Nat):Int)+1=((4:Nat):Int) from rfl)|exact ivE (by simp only [cond_false,cond_true,zfi,zer])|exact zsw)))⟩
 ·repeat' first|refine zd ?_|refine zc ?_|((first|refine zf ?_|refine regA ?_|refine⟨[.v (.int .i64 d)],ze ⟨by omega,rfl⟩,?_⟩|fail);conv=>whnf)|(refine zst rfl ?_)|((first|refine zsq ?_|refine andA ?_|fail);conv=>whnf)|(refine lnA fun hln=>?_;conv=>whnf)|fail
  exact⟨(4,max4 a b c d),.inr (.inr (.inr ⟨rfl,rfl⟩)),by show 4 - 4 < 4 - 3;decide,(impX (by repeat' (first|exact trivial|refine And.intro ?_ ?_|exact ivE (show ((1:Nat):Int)+1=((2:Nat):Int) from rfl)|exact ivE (show ((2:Nat):Int)+1=((3:Nat):Int) from rfl)|exact ivE (show ((3:Nat):Int)+1=((4:Nat):Int) from rfl)|exact ivE (by simp only [cond_false,cond_true,zfi,zer];unfold max4;omega)|exact zsw)))⟩
 ·repeat' first|refine zd ?_|((first|refine zk ?_|refine zi ?_|refine regA ?_|fail);conv=>whnf)|(refine zss rfl ?_)|(refine lnA fun hln=>?_;conv=>whnf)|fail
  rfl
theorem zo5 (lo hi err:Int) (h1 : -8388608≤lo∧lo≤8388607) (h2 : -8388608≤hi∧hi≤8388607):FnC Tryz.prog 74 [.a [.d (.v (.int .i64 lo)),.d (.v (.int .i64 hi))]] (iv .i64 (farR ⟨lo,hi,err⟩)):=by
 have hw1:IntKind.i64.wrap (0 - lo) = -lo:=by rw [Int.zero_sub];exact zg (by omega)
 have hw2:IntKind.i64.wrap (0 - hi) = -hi:=by rw [Int.zero_sub];exact zg (by omega)
 refine hdC Tryz.func74 Tryz.ntmps74 (res:=[.tmp 2]) fun w0 K0=>?_
 repeat' first|refine zd ?_|((first|refine zi ?_|refine regA ?_|refine⟨_,hw1,?_⟩|refine⟨_,hw2,?_⟩|refine andA ?_|fail);conv=>whnf)|fail
 refine congrArg (fun x:Int=>some (iv .i64 x)) ?_
 unfold farR;dsimp only;show (bif _ then _ else _:Int)=_
 simp only [cond_true,zer];omega
theorem zqL (spans:List SpanT) (t i:Int) (n:FNode) (hk:n.kind=1∨n.kind=2) (hf:fine spans.length n) :
  ACall Tryz.prog 72 ([].map AV.x ++ [iv .i64 i,ndAV n] ++ [.b 100 0].map .x) (rgS spans t) (fun r σ'=>r=rgAV (zbB spans n)∧σ'=rgS spans t):=by
 show ACall Tryz.prog 72 [iv .i64 i,ndAV n,.x (.b 100 0)] _ _
 unfold zbB;by_cases k1:n.kind=1
 ·rw [if_pos k1];unfold fine at hf;rw [if_pos k1] at hf;have hlt:n.var.toNat < spans.length:=by omega
  have hg:spans[n.var.toNat]?=some (spans.getD n.var.toNat ⟨0,0⟩):=by
   rw [List.getD_eq_getElem?_getD,List.getElem?_eq_getElem hlt];rfl
  generalize spans.getD n.var.toNat ⟨0,0⟩=v at hg;refine hdD Tryz.func72 Tryz.ntmps72 (res:=[.cell 5 69]) fun w0 K0 B=>?_
  repeat' first|refine zd ?_|((first|refine zf ?_|refine zi ?_|refine regA ?_|fail);conv=>whnf)|exact abA hb|((with_reducible refine Exists.intro _ (And.intro (ze (And.intro (by omega) (zgb hg))) ?_));conv=>whnf)|(refine zso rfl (fun hb=>?_) (fun hb=>?_))|((refine andA ?_);conv=>whnf)|fail
  exact⟨_,rgS spans t,⟨rfl,rfl,rfl,rfl,trivial⟩,rfl,rfl,rfl,rfl⟩
 ·rw [if_neg k1];have k2:n.kind=2:=by omega
  obtain⟨f1,f2,f3,f4⟩:=(zgA k2).1 hf;have hw:=zi1 n f2 f3;refine hdD Tryz.func72 Tryz.ntmps72 (res:=[.cell 5 69]) fun w0 K0 B=>?_
  repeat' first|refine zd ?_|((first|refine zf ?_|refine zi ?_|refine regA ?_|fail);conv=>whnf)|exact abA hb|((refine zsn (hw) ?_);conv=>whnf)|(refine zso rfl (fun hb=>?_) (fun hb=>?_))|((refine andA ?_);conv=>whnf)|fail
  exact⟨_,rgS spans t,⟨rfl,rfl,rfl,rfl,trivial⟩,rfl,rfl,rfl,rfl⟩
def okR (x:RangeT):Prop:=(-8388608≤x.lo∧x.lo≤8388607)∧(-8388608≤x.hi∧x.hi≤8388607)∧0≤x.err∧x.err≤1000
theorem zpz (spans:List SpanT) (t i:Int) (n:FNode) (a b:RangeT) (ht:0≤t) :
  ACall Tryz.prog 73 ([].map AV.x ++ [iv .i64 i,ndAV n,rgAV a,rgAV b] ++ [.b 103 0,.b 101 0].map .x) (rgS spans t) (fun r σ'=>r=rgAV zaI∧σ'=rgS spans t):=by
 show ACall Tryz.prog 73 [iv .i64 i,ndAV n,rgAV a,rgAV b,.x (.b 103 0),.x (.b 101 0)] _ _
 refine hdD Tryz.func73 Tryz.ntmps73 (res:=[.cell 10 69]) fun w0 K0 B=>?_
 repeat' first|refine zd ?_|((first|refine zf ?_|refine zi ?_|refine regA ?_|fail);conv=>whnf)|exact abA hb|(refine zso rfl (fun hb=>?_) (fun hb=>?_))|fail
 exact⟨_,rgS spans t,⟨rfl,rfl,rfl,rfl,trivial⟩,rfl,rfl,rfl,rfl⟩
end Go.Proofs.YtdgkljfpaddfpaaGreatDoor
namespace Go.Proofs.YtdgkljfpaddfpaaGreatDoor
open Go Go.QL FoT
set_option maxHeartbeats 3200000
attribute [local irreducible] ACall FnC fine ten zav opV
def gthR (k:Int) (a b:RangeT):List Int:=[opV k a.lo b.lo,opV k a.lo b.hi,opV k a.hi b.lo,opV k a.hi b.hi]
abbrev rgC (x:RangeT):List SV:=[.d (.v (.int .i64 x.lo)),.d (.v (.int .i64 x.hi)),.d (.v (.int .i64 x.err))]
abbrev sgL (a b:RangeT) (n:FNode) (spans:List SpanT) (st:Nat) (l:List Int):Sg:=(11,.chain 3 1 st (l.map iPV))::(10,.box zrC)::(9,.box (rgC b))::(8,.box (rgC a))::(7,.box (ndC n))::rgS spans (-1)
theorem zqP (k:Int) (hk:k=3∨k=4∨k=5):∃ fid:FuncId,(∀ z,ziY z opsM (.int .i64 k) (opF fid) true)∧∀ x y,(-8388608≤x∧x≤8388607)→(-8388608≤y∧y≤8388607)→FnC Tryz.prog fid [.a [],iv .i64 x,iv .i64 y] (iv .i64 (opV k x y)):=by
 rcases hk with rfl|rfl|rfl
 ·refine⟨55,fun z=>.inl ⟨rfl,0,rfl⟩,fun x y hx hy=>?_⟩
  rw [show opV 3 x y=x+y by unfold opV;rw [if_pos rfl]];exact zpa x y (by omega)
 ·refine⟨56,fun z=>.inl ⟨rfl,1,rfl⟩,fun x y hx hy=>?_⟩
  rw [show opV 4 x y=x - y by unfold opV;rw [if_neg (by omega),if_pos rfl]];exact zoQ x y (by omega)
 ·refine⟨57,fun z=>.inl ⟨rfl,2,rfl⟩,fun x y hx hy=>?_⟩
  rw [show opV 5 x y=x * y / 8388608 by unfold opV;rw [if_neg (by omega),if_neg (by omega)]];have:=zhv hx hy;exact zo1 x y (by omega)
theorem zpA (spans:List SpanT) (i:Int) (n:FNode) (a b:RangeT) (hk:n.kind=3∨n.kind=4∨n.kind=5) (ha:okR a) (hb':okR b) :
  ACall Tryz.prog 73 ([].map AV.x ++ [iv .i64 i,ndAV n,rgAV a,rgAV b] ++ [.b 103 0,.b 101 0].map .x) (rgS spans (-1)) (fun r σ'=>r=rgAV (zT n.kind a b)∧σ'=rgS spans (if zC (zT n.kind a b).lo=true∨zC (zT n.kind a b).hi=true then i else -1)):=by
 show ACall Tryz.prog 73 [iv .i64 i,ndAV n,rgAV a,rgAV b,.x (.b 103 0),.x (.b 101 0)] _ _
 obtain⟨al,ah,ae0,ae1⟩:=ha;obtain⟨bl,bh,be0,be1⟩:=hb';obtain⟨fid,hlk,hop⟩:=zqP n.kind hk;refine hdD Tryz.func73 Tryz.ntmps73 (res:=[.cell 10 69]) fun w0 K0 B=>?_
 repeat' first|refine zd ?_|refine zc ?_|((first|refine zf ?_|refine regA ?_|fail);conv=>whnf)|(refine zss rfl ?_)|((refine andA ?_);conv=>whnf)|(refine lnA fun hln=>?_;conv=>whnf)|fail
 refine zaq (Imp.nil 11 3 1 (fr':=[(28,iv .i64 0),(27,iv .i64 2),(26,sl [a.lo,a.hi]),(11,.x (.o 11 0 0)),(7,.x (.b 7 0)),(8,.x (.b 8 0)),(9,.x (.b 9 0)),(10,.x (.b 10 0)),(12,.x (.f (.func 74) [] [])),(4,.x (.b 103 0)),(5,.x (.b 101 0)),(0,iv .i64 i)])
  (σ':=(10,.box zrC)::(9,.box (rgC b))::(8,.box (rgC a))::(7,.box (ndC n))::rgS spans (-1)) rfl ?_ ?_ rfl rfl) ?_
 ·exact⟨⟨_,rfl,.inl rfl⟩,⟨_,rfl,.inl rfl⟩,⟨_,rfl,.inl rfl⟩,⟨_,rfl,.inr ⟨rfl,rfl⟩⟩,⟨_,rfl,.inl rfl⟩,⟨_,rfl,.inl rfl⟩,⟨_,rfl,.inl rfl⟩,⟨_,rfl,.inl rfl⟩,⟨_,rfl,.inl rfl⟩,⟨_,rfl,.inl rfl⟩,⟨_,rfl,.inl rfl⟩,⟨_,rfl,.inl rfl⟩,trivial⟩
 ·exact⟨⟨_,rfl,.inl rfl⟩,⟨_,rfl,.inl rfl⟩,⟨_,rfl,.inl rfl⟩,⟨_,rfl,.inl rfl⟩,⟨_,rfl,.inl rfl⟩,⟨_,rfl,.inl rfl⟩,⟨_,rfl,.inl rfl⟩,⟨_,rfl,.inl rfl⟩,trivial⟩
 refine zJ (fun q:Nat=>[(28,iv .i64 q),(27,iv .i64 2),(26,sl [a.lo,a.hi]),(11,.x (.o 11 (2 * q) (2 * q))),(7,.x (.b 7 0)),(8,.x (.b 8 0)),(9,.x (.b 9 0)),(10,.x (.b 10 0)),(12,.x (.f (.func 74) [] [])),(4,.x (.b 103 0)),(5,.x (.b 101 0)),(0,iv .i64 i)])
  (fun q=>sgL a b n spans (2 * q) ((gthR n.kind a b).take (2 * q))) (fun q=>q≤2) (fun q=>2 - q) 0 (Nat.zero_le _) impA ?_
 intro q hq;have hq':q=0∨q=1∨q=2:=by omega
 rcases hq' with rfl|rfl|rfl
 ·repeat' first|refine zd ?_|refine zc ?_|((first|refine zf ?_|refine regA ?_|refine⟨[.v (.int .i64 a.lo)],ze ⟨by omega,rfl⟩,?_⟩|fail);conv=>whnf)|(refine zst rfl ?_)|((refine andA ?_);conv=>whnf)|(refine lnA fun hln=>?_;conv=>whnf)|fail
  refine zJ (fun j:Nat=>[(40,iv .i64 j),(39,iv .i64 2),(38,sl [b.lo,b.hi]),(14,iv .i64 a.lo),(11,.x (.o 11 (0+j) (0+j))),(28,iv .i64 0),(27,iv .i64 2),(26,sl [a.lo,a.hi]),(7,.x (.b 7 0)),(8,.x (.b 8 0)),(9,.x (.b 9 0)),(10,.x (.b 10 0)),(12,.x (.f (.func 74) [] [])),(4,.x (.b 103 0)),(5,.x (.b 101 0)),(0,iv .i64 i)])
   (fun j=>sgL a b n spans (0+j) ((gthR n.kind a b).take (0+j))) (fun j=>j≤2) (fun j=>2 - j) 0 (Nat.zero_le _) impA ?_
  intro j hj;have hj':j=0∨j=1∨j=2:=by omega
  rcases hj' with rfl|rfl|rfl
  ·have hc:=hop a.lo b.lo (by omega) (by omega);repeat' first|refine zd ?_|refine zc ?_|((first|refine zf ?_|refine regA ?_|refine⟨[.v (.int .i64 b.lo)],ze ⟨by omega,rfl⟩,?_⟩|refine⟨_,true,hlk _,rfl,?_⟩|refine zsn (hc) ?_|refine And.intro ⟨by show 0≤0;exact Nat.le_refl _,by show 0+1≤_;unfold maxLen;omega,by show (0+1) * 8≤_;omega⟩ ?_|fail);conv=>whnf)|(refine zst rfl ?_)|((first|refine zsq ?_|refine andA ?_|fail);conv=>whnf)|fail
   exact⟨1,by omega,by omega,impA⟩
  ·have hc:=hop a.lo b.hi (by omega) (by omega);repeat' first|refine zd ?_|refine zc ?_|((first|refine zf ?_|refine regA ?_|refine⟨[.v (.int .i64 b.hi)],ze ⟨by omega,rfl⟩,?_⟩|refine⟨_,true,hlk _,rfl,?_⟩|refine zsn (hc) ?_|refine And.intro ⟨by show 1≤1;exact Nat.le_refl _,by show 1+1≤_;unfold maxLen;omega,by show (1+1) * 8≤_;omega⟩ ?_|fail);conv=>whnf)|(refine zst rfl ?_)|((first|refine zsq ?_|refine andA ?_|fail);conv=>whnf)|fail
   exact⟨2,by omega,by omega,impA⟩
  ·repeat' first|refine zd ?_|((first|refine zk ?_|refine regA ?_|fail);conv=>whnf)|(refine zss rfl ?_)|((refine zsq ?_);conv=>whnf)|fail
   exact⟨1,by omega,by omega,impA⟩
 ·repeat' first|refine zd ?_|refine zc ?_|((first|refine zf ?_|refine regA ?_|refine⟨[.v (.int .i64 a.hi)],ze ⟨by omega,rfl⟩,?_⟩|fail);conv=>whnf)|(refine zst rfl ?_)|((refine andA ?_);conv=>whnf)|(refine lnA fun hln=>?_;conv=>whnf)|fail
  refine zJ (fun j:Nat=>[(40,iv .i64 j),(39,iv .i64 2),(38,sl [b.lo,b.hi]),(14,iv .i64 a.hi),(11,.x (.o 11 (2+j) (2+j))),(28,iv .i64 1),(27,iv .i64 2),(26,sl [a.lo,a.hi]),(7,.x (.b 7 0)),(8,.x (.b 8 0)),(9,.x (.b 9 0)),(10,.x (.b 10 0)),(12,.x (.f (.func 74) [] [])),(4,.x (.b 103 0)),(5,.x (.b 101 0)),(0,iv .i64 i)])
   (fun j=>sgL a b n spans (2+j) ((gthR n.kind a b).take (2+j))) (fun j=>j≤2) (fun j=>2 - j) 0 (Nat.zero_le _) impA ?_
  intro j hj;have hj':j=0∨j=1∨j=2:=by omega
  rcases hj' with rfl|rfl|rfl
  ·have hc:=hop a.hi b.lo (by omega) (by omega);repeat' first|refine zd ?_|refine zc ?_|((first|refine zf ?_|refine regA ?_|refine⟨[.v (.int .i64 b.lo)],ze ⟨by omega,rfl⟩,?_⟩|refine⟨_,true,hlk _,rfl,?_⟩|refine zsn (hc) ?_|refine And.intro ⟨by show 2≤2;exact Nat.le_refl _,by show 2+1≤_;unfold maxLen;omega,by show (2+1) * 8≤_;omega⟩ ?_|fail);conv=>whnf)|(refine zst rfl ?_)|((first|refine zsq ?_|refine andA ?_|fail);conv=>whnf)|fail
   exact⟨1,by omega,by omega,impA⟩
  ·have hc:=hop a.hi b.hi (by omega) (by omega);repeat' first|refine zd ?_|refine zc ?_|((first|refine zf ?_|refine regA ?_|refine⟨[.v (.int .i64 b.hi)],ze ⟨by omega,rfl⟩,?_⟩|refine⟨_,true,hlk _,rfl,?_⟩|refine zsn (hc) ?_|refine And.intro ⟨by show 3≤3;exact Nat.le_refl _,by show 3+1≤_;unfold maxLen;omega,by show (3+1) * 8≤_;omega⟩ ?_|fail);conv=>whnf)|(refine zst rfl ?_)|((first|refine zsq ?_|refine andA ?_|fail);conv=>whnf)|fail
   exact⟨2,by omega,by omega,impA⟩
  ·repeat' first|refine zd ?_|((first|refine zk ?_|refine regA ?_|fail);conv=>whnf)|(refine zss rfl ?_)|((refine zsq ?_);conv=>whnf)|fail
   exact⟨2,by omega,by omega,impA⟩
 have mn:=zq0 (opV n.kind a.lo b.lo) (opV n.kind a.lo b.hi) (opV n.kind a.hi b.lo) (opV n.kind a.hi b.hi);have mx:=zq1 (opV n.kind a.lo b.lo) (opV n.kind a.lo b.hi) (opV n.kind a.hi b.lo) (opV n.kind a.hi b.hi);have hle:2 * 2≤(((gthR n.kind a b).take (2 * 2)).map iPV).length:=Nat.le_refl _;have hfz:AV.x (.d (.s 1 (([opV n.kind a.lo b.lo,opV n.kind a.lo b.hi,opV n.kind a.hi b.lo,opV n.kind a.hi b.hi]:List Int).map fun v=>[.v (.int .i64 v)])))=.x (.d (.s 1 ((((gthR n.kind a b).take (2 * 2)).map iPV).take (2 * 2)))):=rfl;have jl:(zT n.kind a b).lo=min4 (opV n.kind a.lo b.lo) (opV n.kind a.lo b.hi) (opV n.kind a.hi b.lo) (opV n.kind a.hi b.hi):=rfl;have jh:(zT n.kind a b).hi=max4 (opV n.kind a.lo b.lo) (opV n.kind a.lo b.hi) (opV n.kind a.hi b.lo) (opV n.kind a.hi b.hi):=rfl;have je:(zT n.kind a b).err=if n.kind=5 then (2 * farR a * b.err+2 * farR b * a.err+a.err * b.err+16777215) / 16777216+2 else a.err+b.err:=rfl
 generalize min4 (opV n.kind a.lo b.lo) (opV n.kind a.lo b.hi) (opV n.kind a.hi b.lo) (opV n.kind a.hi b.hi)=mi at *;generalize max4 (opV n.kind a.lo b.lo) (opV n.kind a.lo b.hi) (opV n.kind a.hi b.lo) (opV n.kind a.hi b.hi)=ma at *;generalize zT n.kind a b=R at *;obtain⟨Rl,Rh,Re⟩:=R;dsimp only at jl jh je;subst jl jh;have g1:=zfB Rl;have g2:=zfB Rh;dsimp only;have hgr:(if zC Rl=true∨zC Rh=true then i else (-1:Int))=bif (bif zC Rl then true else zC Rh) then i else -1:=by
  cases zC Rl <;> cases zC Rh <;> rfl
 rw [hgr];generalize zC Rl=b1 at g1;generalize zC Rh=b2 at g2;clear hgr hlk hop;by_cases k5:n.kind=5
 ·rw [if_pos k5] at je;have fA:=zo5 a.lo a.hi a.err al ah;have fB:=zo5 b.lo b.hi b.err bl bh;have A0:0≤farR a∧farR a≤8388608:=by unfold farR;omega
  have B0:0≤farR b∧farR b≤8388608:=by unfold farR;omega
  have e1:farR ⟨a.lo,a.hi,a.err⟩=farR a:=rfl;have e2:farR ⟨b.lo,b.hi,b.err⟩=farR b:=rfl;rw [e1] at fA;rw [e2] at fB;clear e1 e2;generalize farR a=A at *;generalize farR b=B' at *;have p0:0≤2 * A * b.err∧2 * A * b.err≤16777216000:=⟨Int.mul_nonneg (by omega) be0,by have:=Int.mul_le_mul (show 2 * A≤16777216 by omega) be1 be0 (by omega);omega⟩;have q0:0≤2 * B' * a.err∧2 * B' * a.err≤16777216000:=⟨Int.mul_nonneg (by omega) ae0,by have:=Int.mul_le_mul (show 2 * B'≤16777216 by omega) ae1 ae0 (by omega);omega⟩;have r0:0≤a.err * b.err∧a.err * b.err≤1000000:=⟨Int.mul_nonneg ae0 be0,by have:=Int.mul_le_mul ae1 be1 be0 (by omega);omega⟩;have wp:IntKind.i64.wrap (2 * A * b.err)=2 * A * b.err:=zg (by omega);have wq:IntKind.i64.wrap (2 * B' * a.err)=2 * B' * a.err:=zg (by omega);have wr:IntKind.i64.wrap (a.err * b.err)=a.err * b.err:=zg (by omega);have hs:(2 * A * b.err+2 * B' * a.err+a.err * b.err+16777216 - 1).fdiv (2 ^ min (Int.toNat 24) IntKind.i64.bits)=(2 * A * b.err+2 * B' * a.err+a.err * b.err+16777215) / 16777216:=by
   rw [show 2 * A * b.err+2 * B' * a.err+a.err * b.err+16777216 - 1=2 * A * b.err+2 * B' * a.err+a.err * b.err+16777215 by omega];exact Int.fdiv_eq_ediv_of_nonneg _ (by decide)
  subst je;cases hbb:(bif b1 then true else b2) with
  | true=>
   repeat' first|((refine zaq (Imp.freeze 11 (fr':=[(11,sl [opV n.kind a.lo b.lo,opV n.kind a.lo b.hi,opV n.kind a.hi b.lo,opV n.kind a.hi b.hi]),(7,.x (.b 7 0)),(8,.x (.b 8 0)),(9,.x (.b 9 0)),(10,.x (.b 10 0)),(12,.x (.f (.func 74) [] [])),(4,.x (.b 103 0)),(5,.x (.b 101 0)),(0,iv .i64 i)]) (σ':=(10,.box zrC)::(9,.box (rgC b))::(8,.box (rgC a))::(7,.box (ndC n))::rgS spans (-1)) rfl ⟨⟨_,rfl,.inr ⟨_,rfl,hle,hfz⟩⟩,⟨_,rfl,.inl rfl⟩,⟨_,rfl,.inl rfl⟩,⟨_,rfl,.inl rfl⟩,⟨_,rfl,.inl rfl⟩,⟨_,rfl,.inl rfl⟩,⟨_,rfl,.inl rfl⟩,⟨_,rfl,.inl rfl⟩,⟨_,rfl,.inl rfl⟩,trivial⟩ ⟨rfl,rfl,rfl,rfl,rfl,rfl,rfl,rfl,trivial⟩ rfl rfl) (zb (id:=14) hTt ?_));conv=>whnf)|refine zd ?_|refine zc ?_|refine zA ?_|((first|refine zf ?_|refine zB ?_|refine zk ?_|refine zi ?_|refine regA ?_|refine drA (id:=17) 22 false [0,0,2,7,15,0,32,127,0,0,512,1807,3855,0,8192,32527,65535,0,131072,0,524288,1966080,4194303,8388607,16777215,33554431,67108863,134217727,268435455] ?_|refine LateGo.mk ⟨_,rfl,?_⟩|refine LateGo.mk ⟨.x .j,rfl,?_⟩|fail);conv=>whnf)|exact abA hb|(exact absurd k5 hb)|((first|refine zsn (mn) ?_|refine zsp (mn) ?_|refine zsr (mn) ?_|refine zsn (mx) ?_|refine zsp (mx) ?_|refine zsr (mx) ?_|refine zsn (g1) ?_|refine zsp (g1) ?_|refine zsr (g1) ?_|refine zsn (g2) ?_|refine zsp (g2) ?_|refine zsr (g2) ?_|fail);conv=>whnf)|(refine za rfl (fun _=>?_) (zaf hbb))|(refine za rfl (zM hbb) (fun _=>?_))|((first|refine zsn (fA) ?_|refine zsp (fA) ?_|refine zsr (fA) ?_|refine zsn (fB) ?_|refine zsp (fB) ?_|refine zsr (fB) ?_|refine⟨_,wp,?_⟩|refine⟨_,wq,?_⟩|refine⟨_,wr,?_⟩|refine⟨_,hs,?_⟩|fail);conv=>whnf)|(refine zst rfl ?_)|(refine zss rfl ?_)|(refine zsu rfl ?_)|(refine zsv rfl ?_)|(refine zso rfl (fun hb=>?_) (fun hb=>?_))|((first|refine zsq ?_|refine⟨IntKind.wrap _ _,rfl,?_⟩|refine andA ?_|with_reducible refine exA fun _=>?_|with_reducible refine And.intro (ze (And.intro (by omega) (And.intro (by first|omega|(simp only [List.length_map];omega)) (by first|omega|(simp only [List.length_map];omega)|(simp only [List.length_set,List.length_map];omega))))) ?_|with_reducible refine Exists.intro _ (And.intro (ze (zh (by omega) (by omega))) (And.intro (And.intro (Nat.le_of_ble_eq_true rfl) rfl) ?_))|with_reducible refine Exists.intro _ (And.intro (ze (And.intro (by omega) (zh (by omega) (by omega)))) ?_)|with_reducible refine And.intro (And.intro (by omega) (And.intro (by first|omega|(simp only [List.length_map];omega)) (by first|omega|(simp only [List.length_map,List.length_set];omega)))) ?_|with_reducible refine Exists.intro _ (And.intro (zh (by omega) (by omega)) (And.intro (Nat.le_of_ble_eq_true rfl) ?_))|fail);conv=>whnf)|((refine And.intro (by refine⟨?_,?_,?_⟩ <;> simp [zO,maxLen] <;> omega) ?_);conv=>whnf)|(refine lnA fun hln=>?_;conv=>whnf)|fail
   exact⟨_,rgS spans i,⟨rfl,rfl,rfl,rfl,trivial⟩,rfl,rfl,rfl,rfl⟩
  | false=>
   repeat' first|((refine zaq (Imp.freeze 11 (fr':=[(11,sl [opV n.kind a.lo b.lo,opV n.kind a.lo b.hi,opV n.kind a.hi b.lo,opV n.kind a.hi b.hi]),(7,.x (.b 7 0)),(8,.x (.b 8 0)),(9,.x (.b 9 0)),(10,.x (.b 10 0)),(12,.x (.f (.func 74) [] [])),(4,.x (.b 103 0)),(5,.x (.b 101 0)),(0,iv .i64 i)]) (σ':=(10,.box zrC)::(9,.box (rgC b))::(8,.box (rgC a))::(7,.box (ndC n))::rgS spans (-1)) rfl ⟨⟨_,rfl,.inr ⟨_,rfl,hle,hfz⟩⟩,⟨_,rfl,.inl rfl⟩,⟨_,rfl,.inl rfl⟩,⟨_,rfl,.inl rfl⟩,⟨_,rfl,.inl rfl⟩,⟨_,rfl,.inl rfl⟩,⟨_,rfl,.inl rfl⟩,⟨_,rfl,.inl rfl⟩,⟨_,rfl,.inl rfl⟩,trivial⟩ ⟨rfl,rfl,rfl,rfl,rfl,rfl,rfl,rfl,trivial⟩ rfl rfl) (zb (id:=14) hTt ?_));conv=>whnf)|refine zd ?_|refine zc ?_|refine zA ?_|((first|refine zf ?_|refine zB ?_|refine zk ?_|refine zi ?_|refine regA ?_|refine drA (id:=17) 22 false [0,0,2,7,15,0,32,127,0,0,512,1807,3855,0,8192,32527,65535,0,131072,0,524288,1966080,4194303,8388607,16777215,33554431,67108863,134217727,268435455] ?_|refine LateGo.mk ⟨_,rfl,?_⟩|refine LateGo.mk ⟨.x .j,rfl,?_⟩|fail);conv=>whnf)|exact abA hb|(exact absurd k5 hb)|((first|refine zsn (mn) ?_|refine zsp (mn) ?_|refine zsr (mn) ?_|refine zsn (mx) ?_|refine zsp (mx) ?_|refine zsr (mx) ?_|refine zsn (g1) ?_|refine zsp (g1) ?_|refine zsr (g1) ?_|refine zsn (g2) ?_|refine zsp (g2) ?_|refine zsr (g2) ?_|fail);conv=>whnf)|(refine za rfl (fun _=>?_) (zaf hbb))|(refine za rfl (zM hbb) (fun _=>?_))|((first|refine zsn (fA) ?_|refine zsp (fA) ?_|refine zsr (fA) ?_|refine zsn (fB) ?_|refine zsp (fB) ?_|refine zsr (fB) ?_|refine⟨_,wp,?_⟩|refine⟨_,wq,?_⟩|refine⟨_,wr,?_⟩|refine⟨_,hs,?_⟩|fail);conv=>whnf)|(refine zst rfl ?_)|(refine zss rfl ?_)|(refine zsu rfl ?_)|(refine zsv rfl ?_)|(refine zso rfl (fun hb=>?_) (fun hb=>?_))|((first|refine zsq ?_|refine⟨IntKind.wrap _ _,rfl,?_⟩|refine andA ?_|with_reducible refine exA fun _=>?_|with_reducible refine And.intro (ze (And.intro (by omega) (And.intro (by first|omega|(simp only [List.length_map];omega)) (by first|omega|(simp only [List.length_map];omega)|(simp only [List.length_set,List.length_map];omega))))) ?_|with_reducible refine Exists.intro _ (And.intro (ze (zh (by omega) (by omega))) (And.intro (And.intro (Nat.le_of_ble_eq_true rfl) rfl) ?_))|with_reducible refine Exists.intro _ (And.intro (ze (And.intro (by omega) (zh (by omega) (by omega)))) ?_)|with_reducible refine And.intro (And.intro (by omega) (And.intro (by first|omega|(simp only [List.length_map];omega)) (by first|omega|(simp only [List.length_map,List.length_set];omega)))) ?_|with_reducible refine Exists.intro _ (And.intro (zh (by omega) (by omega)) (And.intro (Nat.le_of_ble_eq_true rfl) ?_))|fail);conv=>whnf)|((refine And.intro (by refine⟨?_,?_,?_⟩ <;> simp [zO,maxLen] <;> omega) ?_);conv=>whnf)|(refine lnA fun hln=>?_;conv=>whnf)|fail
   exact⟨_,rgS spans (-1),⟨rfl,rfl,rfl,rfl,trivial⟩,rfl,rfl,rfl,rfl⟩
 ·rw [if_neg k5] at je;subst je;cases hbb:(bif b1 then true else b2) with
  | true=>
   repeat' first|((refine zaq (Imp.freeze 11 (fr':=[(11,sl [opV n.kind a.lo b.lo,opV n.kind a.lo b.hi,opV n.kind a.hi b.lo,opV n.kind a.hi b.hi]),(7,.x (.b 7 0)),(8,.x (.b 8 0)),(9,.x (.b 9 0)),(10,.x (.b 10 0)),(12,.x (.f (.func 74) [] [])),(4,.x (.b 103 0)),(5,.x (.b 101 0)),(0,iv .i64 i)]) (σ':=(10,.box zrC)::(9,.box (rgC b))::(8,.box (rgC a))::(7,.box (ndC n))::rgS spans (-1)) rfl ⟨⟨_,rfl,.inr ⟨_,rfl,hle,hfz⟩⟩,⟨_,rfl,.inl rfl⟩,⟨_,rfl,.inl rfl⟩,⟨_,rfl,.inl rfl⟩,⟨_,rfl,.inl rfl⟩,⟨_,rfl,.inl rfl⟩,⟨_,rfl,.inl rfl⟩,⟨_,rfl,.inl rfl⟩,⟨_,rfl,.inl rfl⟩,trivial⟩ ⟨rfl,rfl,rfl,rfl,rfl,rfl,rfl,rfl,trivial⟩ rfl rfl) (zb (id:=14) hTt ?_));conv=>whnf)|refine zd ?_|refine zc ?_|refine zA ?_|((first|refine zf ?_|refine zB ?_|refine zk ?_|refine zi ?_|refine regA ?_|refine drA (id:=17) 22 false [0,0,2,7,15,0,32,127,0,0,512,1807,3855,0,8192,32527,65535,0,131072,0,524288,1966080,4194303,8388607,16777215,33554431,67108863,134217727,268435455] ?_|refine LateGo.mk ⟨_,rfl,?_⟩|refine LateGo.mk ⟨.x .j,rfl,?_⟩|fail);conv=>whnf)|exact abA hb|(exact absurd hb k5)|((first|refine zsn (mn) ?_|refine zsp (mn) ?_|refine zsr (mn) ?_|refine zsn (mx) ?_|refine zsp (mx) ?_|refine zsr (mx) ?_|refine zsn (g1) ?_|refine zsp (g1) ?_|refine zsr (g1) ?_|refine zsn (g2) ?_|refine zsp (g2) ?_|refine zsr (g2) ?_|fail);conv=>whnf)|(refine za rfl (fun _=>?_) (zaf hbb))|(refine za rfl (zM hbb) (fun _=>?_))|(refine zst rfl ?_)|(refine zss rfl ?_)|(refine zsu rfl ?_)|(refine zsv rfl ?_)|(refine zso rfl (fun hb=>?_) (fun hb=>?_))|((first|refine zsq ?_|refine⟨IntKind.wrap _ _,rfl,?_⟩|refine andA ?_|with_reducible refine exA fun _=>?_|with_reducible refine And.intro (ze (And.intro (by omega) (And.intro (by first|omega|(simp only [List.length_map];omega)) (by first|omega|(simp only [List.length_map];omega)|(simp only [List.length_set,List.length_map];omega))))) ?_|with_reducible refine Exists.intro _ (And.intro (ze (zh (by omega) (by omega))) (And.intro (And.intro (Nat.le_of_ble_eq_true rfl) rfl) ?_))|with_reducible refine Exists.intro _ (And.intro (ze (And.intro (by omega) (zh (by omega) (by omega)))) ?_)|with_reducible refine And.intro (And.intro (by omega) (And.intro (by first|omega|(simp only [List.length_map];omega)) (by first|omega|(simp only [List.length_map,List.length_set];omega)))) ?_|with_reducible refine Exists.intro _ (And.intro (zh (by omega) (by omega)) (And.intro (Nat.le_of_ble_eq_true rfl) ?_))|fail);conv=>whnf)|((refine And.intro (by refine⟨?_,?_,?_⟩ <;> simp [zO,maxLen] <;> omega) ?_);conv=>whnf)|(refine lnA fun hln=>?_;conv=>whnf)|fail
   exact⟨_,rgS spans i,⟨rfl,rfl,rfl,rfl,trivial⟩,rfl,rfl,rfl,rfl⟩
  | false=>
   repeat' first|((refine zaq (Imp.freeze 11 (fr':=[(11,sl [opV n.kind a.lo b.lo,opV n.kind a.lo b.hi,opV n.kind a.hi b.lo,opV n.kind a.hi b.hi]),(7,.x (.b 7 0)),(8,.x (.b 8 0)),(9,.x (.b 9 0)),(10,.x (.b 10 0)),(12,.x (.f (.func 74) [] [])),(4,.x (.b 103 0)),(5,.x (.b 101 0)),(0,iv .i64 i)]) (σ':=(10,.box zrC)::(9,.box (rgC b))::(8,.box (rgC a))::(7,.box (ndC n))::rgS spans (-1)) rfl ⟨⟨_,rfl,.inr ⟨_,rfl,hle,hfz⟩⟩,⟨_,rfl,.inl rfl⟩,⟨_,rfl,.inl rfl⟩,⟨_,rfl,.inl rfl⟩,⟨_,rfl,.inl rfl⟩,⟨_,rfl,.inl rfl⟩,⟨_,rfl,.inl rfl⟩,⟨_,rfl,.inl rfl⟩,⟨_,rfl,.inl rfl⟩,trivial⟩ ⟨rfl,rfl,rfl,rfl,rfl,rfl,rfl,rfl,trivial⟩ rfl rfl) (zb (id:=14) hTt ?_));conv=>whnf)|refine zd ?_|refine zc ?_|refine zA ?_|((first|refine zf ?_|refine zB ?_|refine zk ?_|refine zi ?_|refine regA ?_|refine drA (id:=17) 22 false [0,0,2,7,15,0,32,127,0,0,512,1807,3855,0,8192,32527,65535,0,131072,0,524288,1966080,4194303,8388607,16777215,33554431,67108863,134217727,268435455] ?_|refine LateGo.mk ⟨_,rfl,?_⟩|refine LateGo.mk ⟨.x .j,rfl,?_⟩|fail);conv=>whnf)|exact abA hb|(exact absurd hb k5)|((first|refine zsn (mn) ?_|refine zsp (mn) ?_|refine zsr (mn) ?_|refine zsn (mx) ?_|refine zsp (mx) ?_|refine zsr (mx) ?_|refine zsn (g1) ?_|refine zsp (g1) ?_|refine zsr (g1) ?_|refine zsn (g2) ?_|refine zsp (g2) ?_|refine zsr (g2) ?_|fail);conv=>whnf)|(refine za rfl (fun _=>?_) (zaf hbb))|(refine za rfl (zM hbb) (fun _=>?_))|(refine zst rfl ?_)|(refine zss rfl ?_)|(refine zsu rfl ?_)|(refine zsv rfl ?_)|(refine zso rfl (fun hb=>?_) (fun hb=>?_))|((first|refine zsq ?_|refine⟨IntKind.wrap _ _,rfl,?_⟩|refine andA ?_|with_reducible refine exA fun _=>?_|with_reducible refine And.intro (ze (And.intro (by omega) (And.intro (by first|omega|(simp only [List.length_map];omega)) (by first|omega|(simp only [List.length_map];omega)|(simp only [List.length_set,List.length_map];omega))))) ?_|with_reducible refine Exists.intro _ (And.intro (ze (zh (by omega) (by omega))) (And.intro (And.intro (Nat.le_of_ble_eq_true rfl) rfl) ?_))|with_reducible refine Exists.intro _ (And.intro (ze (And.intro (by omega) (zh (by omega) (by omega)))) ?_)|with_reducible refine And.intro (And.intro (by omega) (And.intro (by first|omega|(simp only [List.length_map];omega)) (by first|omega|(simp only [List.length_map,List.length_set];omega)))) ?_|with_reducible refine Exists.intro _ (And.intro (zh (by omega) (by omega)) (And.intro (Nat.le_of_ble_eq_true rfl) ?_))|fail);conv=>whnf)|((refine And.intro (by refine⟨?_,?_,?_⟩ <;> simp [zO,maxLen] <;> omega) ?_);conv=>whnf)|(refine lnA fun hln=>?_;conv=>whnf)|fail
   exact⟨_,rgS spans (-1),⟨rfl,rfl,rfl,rfl,trivial⟩,rfl,rfl,rfl,rfl⟩
end Go.Proofs.YtdgkljfpaddfpaaGreatDoor
namespace Go.Proofs.YtdgkljfpaddfpaaGreatDoor
open Go Go.QL FoT
set_option maxHeartbeats 1600000
attribute [local irreducible] ACall FnC
theorem sgPN (n:Int):(0≤n∧sg n=1∧n=n.natAbs)∨(n < 0∧sg n = -1∧n = -n.natAbs):=by unfold sg;split <;> omega
theorem zlo (n:Int) (h:n.natAbs≤4611686018427387904):FnC Tryz.prog 122 [iv .i64 n] (iv .i64 (n.natAbs:Int)):=by
 have hw:IntKind.i64.wrap (0 - n) = -n:=by rw [Int.zero_sub];exact zg (by omega)
 refine hdC Tryz.func122 Tryz.ntmps122 (res:=[.tmp 2]) fun w0 K0=>?_
 repeat' first|refine zd ?_|((first|refine zi ?_|refine regA ?_|refine⟨_,hw,?_⟩|fail);conv=>whnf)|fail
 exact congrArg (fun x:Int=>some (iv .i64 x)) (show (if -n > n then -n else n)=_ by split <;> omega)
theorem zni (n:Int) (m:Nat):(sg n * (m:Int)).tdiv 2=sg n * ((m / 2:Nat):Int):=by
 unfold sg;split
 ·rw [show (-1 * (m:Int)) = -(m:Int) by omega,Int.neg_tdiv,Int.tdiv_eq_ediv_of_nonneg (by omega)];omega
 ·rw [Int.one_mul,Int.tdiv_eq_ediv_of_nonneg (by omega)];omega
theorem zq6 {k m:Nat} {e:Int} (h:8388608≤m) (hk:m < 8388608 * 2 ^ k):∃ j,k=j+1∧hlv k m e=hlv j (m / 2) (e+1)∧m / 2 < 8388608 * 2 ^ j:=by
 cases k with
 | zero=>simp at hk;omega
 | succ j=>
  refine⟨j,rfl,by rw [hlv,if_pos h],?_⟩
  rw [Nat.pow_succ] at hk;omega
theorem zrl {k m:Nat} {e:Int} (h0:m≠0) (h:m < 4194304) (hk:4194304≤m * 2 ^ k):∃ j,k=j+1∧dbl k m e=dbl j (m * 2) (e - 1)∧4194304≤m * 2 * 2 ^ j:=by
 cases k with
 | zero=>simp at hk;omega
 | succ j=>
  refine⟨j,rfl,by rw [dbl,if_pos ⟨h0,h⟩],?_⟩
  rw [Nat.mul_assoc,Nat.mul_comm 2,← Nat.pow_succ];exact hk
theorem zhw (n exp:Int) (hn:n.natAbs < 4611686018427387904) (he : -1000≤exp∧exp≤1000):FnC Tryz.prog 80 [iv .i64 n,iv .i64 exp] (.t [flAV (zaj n exp).1,iv .i64 (zaj n exp).2]):=by
 have hM:zaj n exp=fin (sg n) (dbl 23 (hlv 64 n.natAbs (exp+23)).1 (hlv 64 n.natAbs (exp+23)).2).1 (dbl 23 (hlv 64 n.natAbs (exp+23)).1 (hlv 64 n.natAbs (exp+23)).2).2:=rfl;generalize zaj n exp=R at hM ⊢;refine hdC Tryz.func80 Tryz.ntmps80 (res:=[.cell 4 79,.tmp 5]) fun w0 K0=>?_
 repeat' first|refine zd ?_|refine zc ?_|((first|refine regA ?_|refine zsq ?_|fail);conv=>whnf)|fail
 refine zJ (fun x:Nat × Nat=>[(0,iv .i64 (sg n * (x.2:Int))),(1,iv .i64 (exp+23+(64 - x.1))),(4,.x (.b 4 0))]) (fun _=>[(4,.box [.d (.v (.int .i64 0)),.d (.v (.int .i64 0))])])
  (fun x=>x.1≤64∧x.2 < 4611686018427387904∧x.2 < 8388608 * 2 ^ x.1∧hlv 64 n.natAbs (exp+23)=hlv x.1 x.2 (exp+23+(64 - x.1))) (fun x=>x.1) (64,n.natAbs) ⟨Nat.le_refl _,hn,by show n.natAbs < 8388608 * 2 ^ 64;omega,by simp⟩ (impX (by repeat' (first|exact trivial|refine And.intro ?_ ?_|exact ivE (zfZ n).symm|exact zsw))) ?_
 rintro⟨k,m⟩ ⟨hk,hm,hkm,hh⟩;dsimp only at hk hm hkm hh ⊢;have sz:=zlo (sg n * (m:Int)) (by rw [zbP];omega);rw [zbP] at sz;by_cases hb8:8388608≤m
 ·obtain⟨j,rfl,hj,hj2⟩:=zq6 (e:=exp+23+(64 - k)) hb8 hkm;have ht:=zni n m;have hw2:IntKind.i64.wrap (sg n * ((m / 2:Nat):Int))=sg n * ((m / 2:Nat):Int):=by
   refine zg ?_
   rcases sgPN n with ⟨_,h,_⟩|⟨_,h,_⟩ <;> rw [h] <;> omega
  rw [← ht] at hw2;repeat' first|refine zd ?_|refine zc ?_|((first|refine zf ?_|refine zk ?_|refine regA ?_|fail);conv=>whnf)|exact abA hb|((first|refine zsn (sz) ?_|refine⟨_,hw2,?_⟩|fail);conv=>whnf)|(refine zso rfl (fun hb=>?_) (fun hb=>?_))|((first|refine zsq ?_|refine andA ?_|fail);conv=>whnf)|fail
  exact⟨(j,m / 2),⟨by show j≤64;omega,by show m / 2 < _;omega,hj2,by show _=hlv j (m / 2) (exp+23+(64 - (j:Int)));rw [hh,hj];congr 1;omega⟩,by show j < j+1;omega,(impX (by repeat' (first|exact trivial|refine And.intro ?_ ?_|exact ivE ht|exact zsw)))⟩
 ·have hh2:hlv 64 n.natAbs (exp+23)=(m,exp+23+(64 - k)):=by rw [hh,zes (by omega)]
  rw [hh2] at hM;dsimp only at hM;repeat' first|refine zd ?_|refine zc ?_|((first|refine zf ?_|refine zk ?_|refine regA ?_|fail);conv=>whnf)|exact abA hb|((refine zsn (sz) ?_);conv=>whnf)|(refine zso rfl (fun hb=>?_) (fun hb=>?_))|fail
  have hm22:m=0∨4194304≤m * 2 ^ 23:=by omega
  have hm23:m < 8388608:=by omega
  have he1 : -2000≤exp+23+(64 - (k:Int))∧exp+23+(64 - (k:Int))≤2000:=by omega
  clear hh hkm sz hh2 hb hb8;generalize exp+23+(64 - (k:Int))=e1 at *;refine zJ (fun x:Nat × Nat=>[(0,iv .i64 (sg n * (x.2:Int))),(1,iv .i64 (e1 - (23 - x.1))),(4,.x (.b 4 0))]) (fun _=>[(4,.box [.d (.v (.int .i64 0)),.d (.v (.int .i64 0))])])
   (fun x=>x.1≤23∧x.2 < 8388608∧(x.2=0∨4194304≤x.2 * 2 ^ x.1)∧dbl 23 m e1=dbl x.1 x.2 (e1 - (23 - x.1))) (fun x=>x.1) (23,m) ⟨Nat.le_refl _,hm23,hm22,by simp⟩ impA ?_
  rintro⟨k2,m2⟩ ⟨hk2,hm2,hkm2,hh2⟩;dsimp only at hk2 hm2 hkm2 hh2 ⊢;have sz:=zlo (sg n * (m2:Int)) (by rw [zbP];omega);rw [zbP] at sz;have hz:(sg n * (m2:Int)=0)↔m2=0:=by rcases sgPN n with ⟨_,h,_⟩|⟨_,h,_⟩ <;> rw [h] <;> omega
  by_cases hb4:m2≠0∧m2 < 4194304
  ·obtain⟨j,rfl,hj,hj2⟩:=zrl (e:=e1 - (23 - k2)) hb4.1 hb4.2 (hkm2.resolve_left hb4.1);have hc:(bif !(sg n * (m2:Int) == 0) then decide ((m2:Int) < 4194304) else false)=true:=by
    rw [beq_eq_false_iff_ne.2 (fun h=>hb4.1 (hz.1 h)),decide_eq_true (by omega)];rfl
   have ht:sg n * (m2:Int) * 2=sg n * ((m2 * 2:Nat):Int):=by push_cast;rw [Int.mul_assoc]
   have hw2:IntKind.i64.wrap (sg n * (m2:Int) * 2)=sg n * (m2:Int) * 2:=by
    refine zg ?_
    rcases sgPN n with ⟨_,h,_⟩|⟨_,h,_⟩ <;> rw [h] <;> omega
   repeat' first|refine zd ?_|refine zc ?_|((first|refine zf ?_|refine regA ?_|refine zsp (sz) ?_|refine⟨_,hw2,?_⟩|fail);conv=>whnf)|(refine za rfl (fun _=>?_) (zaf hc))|((first|refine pkA ?_|refine zsq ?_|fail);conv=>whnf)|fail
   exact⟨(j,m2 * 2),⟨by show j≤23;omega,by show m2 * 2 < _;omega,.inr hj2,by show _=dbl j (m2 * 2) (e1 - (23 - (j:Int)));rw [hh2,hj];congr 1;omega⟩,by show j < j+1;omega,(impX (by repeat' (first|exact trivial|refine And.intro ?_ ?_|exact ivE ht|exact zsw)))⟩
  ·have hh3:dbl 23 m e1=(m2,e1 - (23 - k2)):=by rw [hh2,zeA (by omega)]
   rw [hh3] at hM;dsimp only at hM;have hc:(bif !(sg n * (m2:Int) == 0) then decide ((m2:Int) < 4194304) else false)=false:=by
    by_cases h0:m2=0
    ·rw [beq_iff_eq.2 (hz.2 h0)];rfl
    ·rw [decide_eq_false (by omega)];cases (!(sg n * (m2:Int) == 0)) <;> rfl
   have he2 : -3000≤e1 - (23 - (k2:Int))∧e1 - (23 - (k2:Int))≤3000:=by omega
   clear hh2 hh3 hkm2;unfold fin at hM;generalize e1 - (23 - (k2:Int))=e2 at *;by_cases hf:m2=0∨e2 < -64
   ·rw [if_pos hf] at hM;have hc2:(bif sg n * (m2:Int) == 0 then true else decide (e2 < -64))=true:=by
     rcases hf with h|h
     ·rw [beq_iff_eq.2 (hz.2 h)];rfl
     ·rw [decide_eq_true h];cases (sg n * (m2:Int) == 0) <;> rfl
    rw [hM];repeat' first|refine zd ?_|refine zc ?_|((first|refine zk ?_|refine zi ?_|refine regA ?_|refine zsp (sz) ?_|fail);conv=>whnf)|(refine za rfl (zM hc) (fun _=>?_))|((refine pkA ?_);conv=>whnf)|(refine za rfl (fun _=>?_) (zaf hc2))|fail
    rfl
   ·rw [if_neg hf] at hM;have hc2:(bif sg n * (m2:Int) == 0 then true else decide (e2 < -64))=false:=by
     rw [beq_eq_false_iff_ne.2 (fun h=>hf (.inl (hz.1 h))),decide_eq_false (by omega)];rfl
    by_cases h63:63 < e2
    ·rw [if_pos h63] at hM;rw [hM];repeat' first|refine zd ?_|refine zc ?_|((first|refine zf ?_|refine zk ?_|refine zi ?_|refine regA ?_|fail);conv=>whnf)|exact abA hb|((refine zsp (sz) ?_);conv=>whnf)|(refine za rfl (zM hc) (fun _=>?_))|((refine pkA ?_);conv=>whnf)|(refine za rfl (zM hc2) (fun _=>?_))|(refine zso rfl (fun hb=>?_) (fun hb=>?_))|fail
     rfl
    ·rw [if_neg h63] at hM;rw [hM];repeat' first|refine zd ?_|refine zc ?_|((first|refine zf ?_|refine zk ?_|refine zi ?_|refine regA ?_|fail);conv=>whnf)|exact abA hb|((refine zsp (sz) ?_);conv=>whnf)|(refine za rfl (zM hc) (fun _=>?_))|((refine pkA ?_);conv=>whnf)|(refine za rfl (zM hc2) (fun _=>?_))|(refine zso rfl (fun hb=>?_) (fun hb=>?_))|fail
     rfl
theorem zei (n exp:Int):FnC Tryz.prog 30 [iv .i64 n,iv .i64 exp]
  (if (n.natAbs≤70368744177664∧-200≤exp∧exp≤200) then .t [flAV (zaj n exp).1,iv .i64 (zaj n exp).2] else .t [flAV zeroFl,iv .i64 7]):=by
 have o1:=zaL n (-70368744177664) 70368744177664;have o2:=zaL exp (-200) 200;by_cases h:n.natAbs≤70368744177664∧-200≤exp∧exp≤200
 ·rw [if_pos h];rw [zQ.2 (by omega)] at o1;rw [zQ.2 (by omega)] at o2;have md:=zhw n exp (by omega) (by omega);generalize zaj n exp=R at md;refine hdC Tryz.func30 Tryz.ntmps30 (res:=[.cell 4 79,.tmp 5]) fun w0 K0=>?_
  repeat' first|refine zd ?_|((first|refine zf ?_|refine zi ?_|refine regA ?_|refine zsn (o1) ?_|refine zsp (o2) ?_|refine zsn (md) ?_|fail);conv=>whnf)|(refine zss rfl ?_)|((refine andA ?_);conv=>whnf)|fail
  rfl
 ·rw [if_neg h];have hc:(bif outB n (-70368744177664) 70368744177664 then true else outB exp (-200) 200)=true:=by
   cases h1:outB n (-70368744177664) 70368744177664 with
   | true=>rfl
   | false=>
    have:=zQ.1 h1;exact outB_true.2 (by omega)
  generalize outB n (-70368744177664) 70368744177664=b1 at *;generalize outB exp (-200) 200=b2 at *;refine hdC Tryz.func30 Tryz.ntmps30 (res:=[.cell 4 79,.tmp 5]) fun w0 K0=>?_
  repeat' first|refine zd ?_|((first|refine zi ?_|refine regA ?_|refine zsn (o1) ?_|refine zsp (o2) ?_|fail);conv=>whnf)|(refine za rfl (fun _=>?_) (zaf hc))|((refine andA ?_);conv=>whnf)|fail
  rfl
end Go.Proofs.YtdgkljfpaddfpaaGreatDoor
namespace Go.Proofs.YtdgkljfpaddfpaaGreatDoor
open Go Go.QL FoT
set_option maxHeartbeats 3200000
attribute [local irreducible] ACall FnC fine ten zav zD opV
def errS (l:List RangeT):Int:=(l.map fun x=>x.err+4).sum
theorem zbn (a b:List RangeT):errS (a ++ b)=errS a+errS b:=by unfold errS;rw [List.map_append,List.sum_append]
theorem zbL (x:RangeT):errS [x]=x.err+4:=by simp [errS]
theorem zdV:∀ {l:List RangeT},(∀ x ∈ l,0≤x.err)→0≤errS l
 | [],_=>Int.le_refl _
 | x::r,h=>by
  have h1:=h x (by simp);have h2:=zdV (l:=r) fun y hy=>h y (by simp [hy])
  have:errS (x::r)=x.err+4+errS r:=by simp [errS]
  omega
def lhR (x:RangeT):Prop:=(-8388608≤x.lo∧x.lo≤8388607)∧(-8388608≤x.hi∧x.hi≤8388607)∧0≤x.err
theorem zkc {spans:List SpanT} (hs:∀ s ∈ spans,zC s.lo=false∧zC s.hi=false∧s.lo≤s.hi) {n:FNode} (hk:n.kind=1∨n.kind=2) (hf:fine spans.length n):lhR (zbB spans n)∧(zbB spans n).err≤1:=by
 unfold zbB lhR;by_cases k1:n.kind=1
 ·rw [if_pos k1];unfold fine at hf;rw [if_pos k1] at hf;have hlt:n.var.toNat < spans.length:=by omega
  rw [List.getD_eq_getElem?_getD,List.getElem?_eq_getElem hlt];obtain⟨a,b,c⟩:=hs _ (List.getElem_mem hlt);unfold zC at a b;simp only [Bool.or_eq_false_iff,decide_eq_false_iff_not] at a b;exact⟨⟨by dsimp only [Option.getD_some];omega,by dsimp only [Option.getD_some];omega,Int.le_refl _⟩,by dsimp only;omega⟩
 ·rw [if_neg k1];obtain⟨a,b,_,_⟩:=zha (by omega) hf;have h0:=zdS n;have h1:zdz n≤1:=by unfold zdz;split <;> omega
  exact⟨⟨by dsimp only;omega,by dsimp only;omega,h0⟩,h1⟩
theorem zkj {k:Int} {a b:RangeT} (ha:okR a) (hb:okR b) (hg:¬ (zC (zT k a b).lo=true∨zC (zT k a b).hi=true)):lhR (zT k a b)∧(zT k a b).err+4≤(a.err+4)+(b.err+4):=by
 obtain⟨al,ah,ae0,ae1⟩:=ha;obtain⟨bl,bh,be0,be1⟩:=hb;have je:(zT k a b).err=if k=5 then (2 * farR a * b.err+2 * farR b * a.err+a.err * b.err+16777215) / 16777216+2 else a.err+b.err:=rfl
 have he:0≤(zT k a b).err∧(zT k a b).err+4≤(a.err+4)+(b.err+4):=by
  rw [je];split
  ·have A0:0≤farR a∧farR a≤8388608:=by unfold farR;omega
   have B0:0≤farR b∧farR b≤8388608:=by unfold farR;omega
   have p0:0≤2 * farR a * b.err∧2 * farR a * b.err≤16777216 * b.err:=⟨Int.mul_nonneg (by omega) be0,Int.mul_le_mul_of_nonneg_right (by omega) be0⟩;have q0:0≤2 * farR b * a.err∧2 * farR b * a.err≤16777216 * a.err:=⟨Int.mul_nonneg (by omega) ae0,Int.mul_le_mul_of_nonneg_right (by omega) ae0⟩;have r0:0≤a.err * b.err∧a.err * b.err≤1000000:=⟨Int.mul_nonneg ae0 be0,by have:=Int.mul_le_mul ae1 be1 be0 (by omega);omega⟩;omega
  ·omega
 unfold zC at hg;simp only [Bool.or_eq_true,decide_eq_true_eq] at hg;exact⟨⟨by omega,by omega,he.1⟩,he.2⟩
def JR (f:FormT) (spans:List SpanT) (i:Nat) (t:Int) (st:List RangeT):Prop:=
 (t = -1∧(∀ x ∈ st,lhR x)∧errS st≤8 * i∧rngS spans 0 f.code []=rngS spans i (f.code.drop i) st)∨(∃ k:Nat,t=k∧k≤40∧rngS spans 0 f.code []=.error k)
theorem zqT {f:FormT} {i:Nat} (hi:i≤40) {st:List RangeT} (h1:∀ x ∈ st,lhR x) (h2:errS st≤8 * i):∀ x ∈ st,okR x:=by
 intro x hx;obtain⟨p,q,rfl⟩:=List.append_of_mem hx;obtain⟨a,b,c⟩:=h1 x hx;have e:errS (p ++ x::q)=errS p+(x.err+4+errS q):=by
  rw [zbn,show x::q=[x] ++ q from rfl,zbn,zbL]
 have n1:=zdV (l:=p) fun y hy=>(h1 y (by simp [hy])).2.2
 have n2:=zdV (l:=q) fun y hy=>(h1 y (by simp [hy])).2.2
 exact⟨a,b,c,by omega⟩
abbrev cpR (f:FormT) (spans:List SpanT) (R:AV→Sg→Prop):Prop:=
 ACall Tryz.prog 71 [zaB f,.x (.f (.func 72) [] [.b 100 0]),.x (.f (.func 73) [] [.b 103 0,.b 101 0])] (rgS spans (-1)) R
theorem zo9 (f:FormT) (hc:zD f=0) (spans:List SpanT) (hn:spans.length=f.vars.length) (hs:∀ s ∈ spans,zC s.lo=false∧zC s.hi=false∧s.lo≤s.hi) :
  cpR f spans (fun r σ'=>∃ x t,JR f spans f.code.length t [x]∧r=rgAV x∧σ'=rgS spans t):=by
 obtain⟨_,_,hc40⟩:=zbD hc;refine zov f hc spans (JR f spans) (.inl ⟨rfl,by simp,by simp [errS],rfl⟩) ?_ ?_
 ·intro i t st hi hk hf hJ;rw [← hn] at hf;refine⟨zbB spans f.code[i],?_,zqL spans t i _ hk hf⟩
  rcases hJ with ⟨rfl,h1,h2,h3⟩|h
  ·obtain⟨l1,l2⟩:=zkc hs hk hf;refine .inl ⟨rfl,fun x hx=>?_,?_,?_⟩
   ·rcases List.mem_append.1 hx with hx|hx
    ·exact h1 x hx
    ·rw [List.mem_singleton.1 hx];exact l1
   ·rw [zbn,zbL];push_cast;omega
   ·rw [h3,List.drop_eq_getElem_cons hi,rngS,if_pos (by omega)]
  ·exact .inr h
 ·intro i t st a b hi hk hJ;rcases hJ with ⟨rfl,h1,h2,h3⟩|⟨k,rfl,hk40,h⟩
  ·have hok:=zqT (f:=f) (by omega) h1 h2;have ha:=hok a (by simp);have hb:=hok b (by simp);refine⟨zT f.code[i].kind a b,_,?_,zpA spans i _ a b hk ha hb⟩
   rw [List.drop_eq_getElem_cons hi,rngS,if_neg (by omega)] at h3;dsimp only at h3;have e1:(st ++ [a,b]).getD ((st ++ [a,b]).length - 2) zaI=a:=by simp [List.getD_eq_getElem?_getD]
   have e2:(st ++ [a,b]).getD ((st ++ [a,b]).length - 1) zaI=b:=by simp [List.getD_eq_getElem?_getD]
   have e3:(st ++ [a,b]).take ((st ++ [a,b]).length - 2)=st:=by simp
   rw [e1,e2,e3] at h3;by_cases hg:zC (zT f.code[i].kind a b).lo=true∨zC (zT f.code[i].kind a b).hi=true
   ·rw [if_pos hg] at h3 ⊢;exact .inr ⟨i,rfl,by omega,h3⟩
   ·rw [if_neg hg] at h3 ⊢;obtain⟨j1,j2⟩:=zkj ha hb hg;refine .inl ⟨rfl,fun x hx=>?_,?_,h3⟩
    ·rcases List.mem_append.1 hx with hx|hx
     ·exact h1 x (by simp [hx])
     ·rw [List.mem_singleton.1 hx];exact j1
    ·rw [zbn,zbL];rw [zbn,show ([a,b]:List RangeT)=[a] ++ [b] from rfl,zbn,zbL,zbL] at h2;push_cast;omega
  ·exact⟨zaI,(k:Int),.inr ⟨k,rfl,hk40,h⟩,zpz spans k i _ a b (by omega)⟩
theorem zqm {f:FormT} (hc:zD f=0) {spans:List SpanT} (hn:spans.length=f.vars.length) (hs:∀ s ∈ spans,zC s.lo=false∧zC s.hi=false∧s.lo≤s.hi) {k:Nat} (hr:rngS spans 0 f.code []=.error k) :
  cpR f spans (fun r σ'=>∃ x,r=rgAV x∧σ'=rgS spans k):=by
 refine (zo9 f hc spans hn hs).mono ?_
 rintro r σ' ⟨x,t,hJ,rfl,rfl⟩;rcases hJ with ⟨_,_,_,h⟩|⟨k',rfl,_,h⟩
 ·rw [hr,List.drop_eq_nil_of_le (Nat.le_refl _),rngS] at h;cases h
 ·rw [hr] at h;cases h;exact⟨x,rfl,rfl⟩
theorem zrn {f:FormT} (hc:zD f=0) {spans:List SpanT} (hn:spans.length=f.vars.length) (hs:∀ s ∈ spans,zC s.lo=false∧zC s.hi=false∧s.lo≤s.hi) {l:List RangeT} (hr:rngS spans 0 f.code []=.ok l) :
  cpR f spans (fun r σ'=>r=rgAV (l.getD 0 zaI)∧σ'=rgS spans (-1)):=by
 refine (zo9 f hc spans hn hs).mono ?_
 rintro r σ' ⟨x,t,hJ,rfl,rfl⟩;rcases hJ with ⟨rfl,_,_,h⟩|⟨k',rfl,_,h⟩
 ·rw [hr,List.drop_eq_nil_of_le (Nat.le_refl _),rngS] at h;cases h;exact⟨rfl,rfl⟩
 ·rw [hr] at h;cases h
theorem zdg:∀ (l:List SpanT) (i j:Nat),(∀ k (h:k < l.length),k < i→(zC l[k].lo=false∧zC l[k].hi=false∧l[k].lo≤l[k].hi))→i≤l.length→zaF l j=zaF (l.drop i) (j+i)
 | l,0,j,_,_=>rfl
 | [],i+1,j,_,h=>by simp at h
 | x::r,i+1,j,h,hl=>by
  have h0:zC x.lo=false∧zC x.hi=false∧x.lo≤x.hi:=h 0 (by simp) (by omega);rw [zaF,h0.1,h0.2.1,if_neg (by simp),if_neg (by omega),zdg r i (j+1) (fun k hk hki=>h (k+1) (by simpa using hk) (by omega)) (by simpa using hl),List.drop_succ_cons];congr 1
  omega
theorem zj6 {f:FormT} {spans:List SpanT} (h0:zD f=0) (h1:spans.length=f.vars.length) {i:Nat} {e:Int} (h2:zaF spans 0=some (i,e)):z8 f spans=(zaI,(i:Int),e):=by
 unfold z8;rw [if_neg (by omega),if_neg (by omega),h2]
theorem zoU {f:FormT} {spans:List SpanT} (h0:zD f=0) (h1:spans.length=f.vars.length) (h2:zaF spans 0=none) {k:Nat} (h3:rngS spans 0 f.code []=.error k):z8 f spans=(zaI,(k:Int),170):=by
 unfold z8;rw [if_neg (by omega),if_neg (by omega),h2];dsimp only;rw [h3]
theorem zoT {f:FormT} {spans:List SpanT} (h0:zD f=0) (h1:spans.length=f.vars.length) (h2:zaF spans 0=none) {l:List RangeT} (h3:rngS spans 0 f.code []=.ok l):z8 f spans=(l.getD 0 zaI,0,0):=by
 unfold z8;rw [if_neg (by omega),if_neg (by omega),h2];dsimp only;rw [h3]
abbrev rmAV (x:RangeT × Int × Int):AV:=.t [rgAV x.1,iv .i64 x.2.1,iv .i64 x.2.2]
theorem zeg (f:FormT) (spans:List SpanT):FnC Tryz.prog 27 [zaB f,.x (.d (zcS spans))] (rmAV (z8 f spans)):=by
 have hlv:(f.vars.map zaa).length=f.vars.length:=List.length_map _;have hls:(spans.map spPV).length=spans.length:=List.length_map _;have ck:=ziO f;by_cases h0:zD f=0
 ·rw [h0] at ck;obtain⟨hv8,_⟩:=zbD h0;by_cases h1:spans.length=f.vars.length
  ·refine hdC Tryz.func27 Tryz.ntmps27 (res:=[.cell 4 69,.cell 5 3,.tmp 6]) fun w0 K0=>?_
   repeat' first|refine zd ?_|refine zc ?_|((first|refine zf ?_|refine zi ?_|refine regA ?_|fail);conv=>whnf)|exact abA hb|((refine zsn (ck) ?_);conv=>whnf)|(refine zss rfl ?_)|(refine zso rfl (fun hb=>?_) (fun hb=>?_))|((refine andA ?_);conv=>whnf)|(refine lnA fun hln=>?_;conv=>whnf)|fail
   refine zJ (fun i:Nat=>[(25,iv .i64 i),(24,iv .i64 spans.length),(23,.x (.d (zcS spans))),(2,.x (.b 2 0)),(3,.x (.b 3 0)),(4,.x (.b 4 0)),(5,.x (.b 5 0))]) (fun _=>[(5,.box [.d (.v (.int .i64 0))]),(4,.box zrC),(3,.box [.d (zcS spans)]),(2,.box (zb5 f))])
    (fun i=>i≤spans.length∧∀ k (h:k < spans.length),k < i→(zC spans[k].lo=false∧zC spans[k].hi=false∧spans[k].lo≤spans[k].hi)) (fun i=>spans.length - i) 0 ⟨Nat.zero_le _,fun k _ h=>absurd h (Nat.not_lt_zero _)⟩ impA ?_
   rintro i ⟨hi,hok⟩;rcases Nat.lt_or_ge i spans.length with hil|hil
   ·have hbs:=zdg spans i 0 hok hi;rw [List.drop_eq_getElem_cons hil,zaF,Nat.zero_add] at hbs;have g1:=zfB spans[i].lo;have g2:=zfB spans[i].hi;by_cases hg:zC spans[i].lo=true∨zC spans[i].hi=true
    ·rw [if_pos hg] at hbs;rw [zj6 h0 h1 hbs];have hbb:(bif zC spans[i].lo then true else zC spans[i].hi)=true:=by
      cases hx:zC spans[i].lo with
      | true=>rfl
      | false=>rw [hx] at hg;simpa using hg
     generalize zC spans[i].lo=b1 at *;generalize zC spans[i].hi=b2 at *;repeat' first|refine zd ?_|refine zc ?_|((first|refine zf ?_|refine zk ?_|refine zi ?_|refine regA ?_|fail);conv=>whnf)|exact abA hb|((first|refine zsn (g1) ?_|refine zsp (g2) ?_|fail);conv=>whnf)|(refine za rfl (fun _=>?_) (zaf hbb))|(refine zso rfl (fun hb=>?_) (fun hb=>?_))|((first|refine andA ?_|with_reducible refine exA fun _=>?_|fail);conv=>whnf)|fail
     rfl
    ·rw [if_neg hg] at hbs;rw [not_or,Bool.not_eq_true,Bool.not_eq_true] at hg;rw [hg.1] at g1;rw [hg.2] at g2;by_cases hlt:spans[i].hi < spans[i].lo
     ·rw [if_pos hlt] at hbs;rw [zj6 h0 h1 hbs];repeat' first|refine zd ?_|refine zc ?_|((first|refine zf ?_|refine zk ?_|refine zi ?_|refine regA ?_|fail);conv=>whnf)|exact abA hb|((first|refine zsn (g1) ?_|refine zsp (g2) ?_|fail);conv=>whnf)|(refine zss rfl ?_)|(refine zso rfl (fun hb=>?_) (fun hb=>?_))|((first|refine andA ?_|with_reducible refine exA fun _=>?_|fail);conv=>whnf)|fail
      rfl
     ·repeat' first|refine zd ?_|refine zc ?_|((first|refine zf ?_|refine zk ?_|refine zi ?_|refine regA ?_|fail);conv=>whnf)|exact abA hb|((first|refine zsn (g1) ?_|refine zsp (g2) ?_|fail);conv=>whnf)|(refine zss rfl ?_)|(refine zso rfl (fun hb=>?_) (fun hb=>?_))|((first|refine zsq ?_|refine andA ?_|with_reducible refine exA fun _=>?_|fail);conv=>whnf)|fail
      exact⟨i+1,⟨by omega,fun k h hk=>by
       by_cases e:k=i
       ·subst e;exact⟨hg.1,hg.2,by omega⟩
       ·exact hok k h (by omega)⟩,by omega,impA⟩
   ·have hie:i=spans.length:=by omega
    subst hie;have hall:∀ s ∈ spans,zC s.lo=false∧zC s.hi=false∧s.lo≤s.hi:=fun s hs=>by
     obtain⟨k,hk,rfl⟩:=List.getElem_of_mem hs;exact hok k hk hk
    have hbs:=(zbv (i:=0)).2 hall;cases hr:rngS spans 0 f.code [] with
    | error k=>
     have cp:=zqm h0 h1 hall hr;rw [zoU h0 h1 hbs hr];repeat' first|refine zd ?_|refine zc ?_|((first|refine zf ?_|refine zk ?_|refine zi ?_|refine regA ?_|refine drM (id:=18) 2 [1] false [0,0,1,7,15] ?_|refine LateGo.mk ⟨.x .j,rfl,?_⟩|fail);conv=>whnf)|exact abA hb|((first|refine frA (zlR) [(2,102)] ?_|((refine⟨_,(cp).frame (asc [(100,3),(101,9),(103,5)]) (by repeat (first|exact trivial|refine⟨rfl,?_⟩)) rfl (by rintro _ _ ⟨_,rfl,rfl⟩;rfl),?_⟩);(rintro _ _ ⟨_,_,⟨_,rfl,rfl⟩,rfl,rfl⟩))|fail);conv=>whnf)|(refine zst rfl ?_)|(refine zso rfl (fun hb=>?_) (fun hb=>?_))|((refine andA ?_);conv=>whnf)|fail
     rfl
    | ok l=>
     have cp:=zrn h0 h1 hall hr;rw [zoT h0 h1 hbs hr];generalize l.getD 0 zaI=R at *;repeat' first|refine zd ?_|refine zc ?_|((first|refine zf ?_|refine zk ?_|refine zi ?_|refine regA ?_|fail);conv=>whnf)|exact abA hb|((first|refine frA (zlR) [(2,102)] ?_|refine frA (cp) [(100,3),(101,9),(103,5)] ?_|fail);conv=>whnf)|(refine zss rfl ?_)|(refine zso rfl (fun hb=>?_) (fun hb=>?_))|fail
     rfl
  ·have hr:z8 f spans=(zaI,0,2):=by unfold z8;rw [if_neg (by omega),if_pos h1]
   rw [hr];refine hdC Tryz.func27 Tryz.ntmps27 (res:=[.cell 4 69,.cell 5 3,.tmp 6]) fun w0 K0=>?_
   repeat' first|refine zd ?_|((first|refine zf ?_|refine zi ?_|refine regA ?_|fail);conv=>whnf)|exact abA hb|((refine zsn (ck) ?_);conv=>whnf)|(refine zss rfl ?_)|(refine zso rfl (fun hb=>?_) (fun hb=>?_))|((refine andA ?_);conv=>whnf)|(refine lnA fun hln=>?_;conv=>whnf)|fail
   rfl
 ·have hr:z8 f spans=(zaI,0,zD f):=by unfold z8;rw [if_pos h0]
  rw [hr];refine hdC Tryz.func27 Tryz.ntmps27 (res:=[.cell 4 69,.cell 5 3,.tmp 6]) fun w0 K0=>?_
  repeat' first|refine zd ?_|((first|refine zf ?_|refine zi ?_|refine regA ?_|refine zsn (ck) ?_|fail);conv=>whnf)|(exact absurd hb h0)|(refine zso rfl (fun hb=>?_) (fun hb=>?_))|fail
  rfl
end Go.Proofs.YtdgkljfpaddfpaaGreatDoor
namespace Go.Proofs.YtdgkljfpaddfpaaGreatDoor
open Go Go.QL FoT
set_option maxHeartbeats 1600000
attribute [local irreducible] ACall FnC zaj
def szW (n:Int):Int:=if n = -9223372036854775808 then n else n.natAbs
theorem znn (n:Int) (h:i64 n):FnC Tryz.prog 122 [iv .i64 n] (iv .i64 (szW n)):=by
 unfold i64 at h;unfold szW;by_cases h0:n = -9223372036854775808
 ·rw [if_pos h0];have hw:IntKind.i64.wrap (0 - n)=n:=by rw [h0];decide
  refine hdC Tryz.func122 Tryz.ntmps122 (res:=[.tmp 2]) fun w0 K0=>?_
  repeat' first|refine zd ?_|((first|refine zi ?_|refine regA ?_|refine⟨_,hw,?_⟩|fail);conv=>whnf)|fail
  exact congrArg (fun x:Int=>some (iv .i64 x)) (show (if n > n then n else n)=_ by split <;> rfl)
 ·rw [if_neg h0];have hw:IntKind.i64.wrap (0 - n) = -n:=by rw [Int.zero_sub];exact zg (by omega)
  refine hdC Tryz.func122 Tryz.ntmps122 (res:=[.tmp 2]) fun w0 K0=>?_
  repeat' first|refine zd ?_|((first|refine zi ?_|refine regA ?_|refine⟨_,hw,?_⟩|fail);conv=>whnf)|fail
  exact congrArg (fun x:Int=>some (iv .i64 x)) (show (if -n > n then -n else n)=_ by split <;> omega)
theorem zrh {a b c d:Int}:eqL [.int .i64 a,.int .i64 b] [.int .i64 c,.int .i64 d]=(decide (a=c) && decide (b=d)):=by
 rw [Bool.eq_iff_iff];simp [eqL,eqV]
theorem zmG (x:FloT):(bif eqL [.int .i64 x.mant,.int .i64 x.exp] [.int .i64 0,.int .i64 0] then true else bif !(outB (szW x.mant) 4194304 8388607) then !(outB x.exp (-64) 63) else false)=decide (zG x):=by
 rw [zrh,zcE,zcE,Bool.eq_iff_iff];unfold zG szW zeroFl;obtain⟨m,e⟩:=x;simp only [Bool.cond_eq_ite];simp;split <;> omega
theorem zjH (x:FloT) (h:i64 x.mant):FnC Tryz.prog 81 [flAV x] (bv (decide (zG x))):=by
 rw [← zmG];have sz:=znn x.mant h;have o1:=zaL (szW x.mant) 4194304 8388607;have o2:=zaL x.exp (-64) 63;generalize szW x.mant=z at *;generalize outB z 4194304 8388607=b1 at *;generalize outB x.exp (-64) 63=b2 at *;refine hdC Tryz.func81 Tryz.ntmps81 (res:=[.tmp 2]) fun w0 K0=>?_
 repeat' first|refine zd ?_|((first|refine zi ?_|refine regA ?_|refine zsp (sz) ?_|refine zsp (o1) ?_|refine zsp (o2) ?_|refine pkA ?_|fail);conv=>whnf)|fail
 rfl
theorem zpu {m:Int} (h:m.natAbs≤8388607):IntKind.i64.wrap (m * 2 ^ min (Int.toNat 30) IntKind.i64.bits)=m * 1073741824:=by
 show IntKind.i64.wrap (m * 1073741824)=_
 exact zg (by omega)
theorem zoW {k:Nat} (h:k < 60):(1:Int)≤2 ^ k∧(2:Int) ^ k≤576460752303423488:=by
 have h1:=Nat.two_pow_pos k;have h2:2 ^ k≤2 ^ 59:=Nat.pow_le_pow_right (by decide) (by omega);have e:(2:Int) ^ k=((2 ^ k:Nat):Int):=by push_cast;rfl
 rw [e];omega
theorem shl1 {d:Int} (h0:0≤d) (h:d < 60):IntKind.i64.wrap (1 * 2 ^ min d.toNat IntKind.i64.bits)=2 ^ d.toNat:=by
 have e:min d.toNat IntKind.i64.bits=d.toNat:=Nat.min_eq_left (by show d.toNat≤64;omega);rw [e,Int.one_mul];have:=zoW (k:=d.toNat) (by omega);exact zg (by omega)
theorem zlN (a b:FloT) (ha:zau a) (hb':zau b) (ea : -64≤a.exp∧a.exp≤63) (eb : -64≤b.exp∧b.exp≤63):FnC Tryz.prog 123 [flAV a,flAV b] (.t [flAV (zbz a b).1,iv .i64 (zbz a b).2]):=by
 have main:∀ a b:FloT,zau a→zau b→(-64≤a.exp∧a.exp≤63)→(-64≤b.exp∧b.exp≤63)→¬ a.exp < b.exp →
   FnC Tryz.prog 80 [iv .i64 (a.mant * 1073741824+zbd b.mant (a.exp - b.exp)),iv .i64 (a.exp - 53)] (.t [flAV (zfh a b).1,iv .i64 (zfh a b).2]) ∧
   (-9007198180999168≤zbd b.mant (a.exp - b.exp)∧zbd b.mant (a.exp - b.exp)≤9007198180999168) ∧
   (a.exp - b.exp < 60→IntKind.i64.wrap ((b.mant * 1073741824).tdiv (2 ^ (a.exp - b.exp).toNat))=zbd b.mant (a.exp - b.exp)∧(2:Int) ^ (a.exp - b.exp).toNat≠0)∧(¬ a.exp - b.exp < 60→zbd b.mant (a.exp - b.exp)=0):=by
  intro a b ha hb ea eb hab;have ol:=zj7 (d:=a.exp - b.exp) hb;refine⟨zhw _ _ (zfr ha hb) (by omega),by omega,fun h=>?_,fun h=>by unfold zbd;rw [if_neg h]⟩
  have hp:=zoW (k:=(a.exp - b.exp).toNat) (by omega);refine⟨?_,by omega⟩
  have e:zbd b.mant (a.exp - b.exp)=(b.mant * 1073741824).tdiv (2 ^ (a.exp - b.exp).toNat):=by unfold zbd;rw [if_pos h]
  rw [e] at ol ⊢;exact zg (by omega)
 unfold zau at ha hb';have sa:=zpu ha;have sb:=zpu hb';unfold zbz;by_cases a0:a.mant=0
 ·rw [if_pos a0];refine hdC Tryz.func123 Tryz.ntmps123 (res:=[.cell 4 79,.tmp 5]) fun w0 K0=>?_
  repeat' first|refine zd ?_|refine zc ?_|((first|refine zi ?_|refine regA ?_|fail);conv=>whnf)|(exact absurd a0 hb)|(refine zso rfl (fun hb=>?_) (fun hb=>?_))|((refine andA ?_);conv=>whnf)|fail
  rfl
 rw [if_neg a0];by_cases b0:b.mant=0
 ·rw [if_pos b0];refine hdC Tryz.func123 Tryz.ntmps123 (res:=[.cell 4 79,.tmp 5]) fun w0 K0=>?_
  repeat' first|refine zd ?_|refine zc ?_|((first|refine zi ?_|refine regA ?_|fail);conv=>whnf)|(exact absurd hb a0)|(exact absurd b0 hb)|(refine zso rfl (fun hb=>?_) (fun hb=>?_))|((refine andA ?_);conv=>whnf)|fail
  rfl
 rw [if_neg b0];by_cases hlt:a.exp < b.exp
 ·rw [if_pos hlt];obtain⟨md,o1,o2,o3⟩:=main b a hb' ha eb ea (by omega);generalize zfh b a=R at md ⊢;by_cases h60:b.exp - a.exp < 60
  ·obtain⟨q1,q2⟩:=o2 h60;have s1:=shl1 (d:=b.exp - a.exp) (by omega) h60;generalize zbd a.mant (b.exp - a.exp)=oo at *;refine hdC Tryz.func123 Tryz.ntmps123 (res:=[.cell 4 79,.tmp 5]) fun w0 K0=>?_
   repeat' first|refine zd ?_|refine zc ?_|((first|refine zf ?_|refine zi ?_|refine regA ?_|refine drA (id:=10) 5 false [0,1,3,0,8,31,63] ?_|fail);conv=>whnf)|(exact absurd hb a0)|(exact absurd hb b0)|exact abA hb|((first|refine⟨_,sa,?_⟩|refine⟨_,sb,?_⟩|refine⟨_,s1,?_⟩|refine And.intro (zay q2) ?_|refine⟨_,q1,?_⟩|refine zsn (md) ?_|fail);conv=>whnf)|(refine zso rfl (fun hb=>?_) (fun hb=>?_))|((first|refine zsq ?_|refine andA ?_|fail);conv=>whnf)|fail
   rfl
  ·have o4:=o3 h60;rw [o4] at md;refine hdC Tryz.func123 Tryz.ntmps123 (res:=[.cell 4 79,.tmp 5]) fun w0 K0=>?_
   repeat' first|refine zd ?_|refine zc ?_|((first|refine zf ?_|refine zi ?_|refine regA ?_|refine drA (id:=10) 5 false [0,1,3,0,8,31,63] ?_|fail);conv=>whnf)|(exact absurd hb a0)|(exact absurd hb b0)|exact abA hb|((first|refine⟨_,sb,?_⟩|refine zsn (md) ?_|fail);conv=>whnf)|(refine zso rfl (fun hb=>?_) (fun hb=>?_))|((first|refine zsq ?_|refine andA ?_|fail);conv=>whnf)|fail
   rfl
 ·rw [if_neg hlt];obtain⟨md,o1,o2,o3⟩:=main a b ha hb' ea eb (by omega);generalize zfh a b=R at md ⊢;by_cases h60:a.exp - b.exp < 60
  ·obtain⟨q1,q2⟩:=o2 h60;have s1:=shl1 (d:=a.exp - b.exp) (by omega) h60;generalize zbd b.mant (a.exp - b.exp)=oo at *;refine hdC Tryz.func123 Tryz.ntmps123 (res:=[.cell 4 79,.tmp 5]) fun w0 K0=>?_
   repeat' first|refine zd ?_|refine zc ?_|((first|refine zf ?_|refine zi ?_|refine regA ?_|refine drA (id:=10) 5 false [0,1,3,0,8,31,63] ?_|fail);conv=>whnf)|(exact absurd hb a0)|(exact absurd hb b0)|exact abA hb|((first|refine⟨_,sa,?_⟩|refine⟨_,sb,?_⟩|refine⟨_,s1,?_⟩|refine And.intro (zay q2) ?_|refine⟨_,q1,?_⟩|refine zsn (md) ?_|fail);conv=>whnf)|(refine zso rfl (fun hb=>?_) (fun hb=>?_))|((first|refine zsq ?_|refine andA ?_|fail);conv=>whnf)|fail
   rfl
  ·have o4:=o3 h60;rw [o4] at md;refine hdC Tryz.func123 Tryz.ntmps123 (res:=[.cell 4 79,.tmp 5]) fun w0 K0=>?_
   repeat' first|refine zd ?_|refine zc ?_|((first|refine zf ?_|refine zi ?_|refine regA ?_|refine drA (id:=10) 5 false [0,1,3,0,8,31,63] ?_|fail);conv=>whnf)|(exact absurd hb a0)|(exact absurd hb b0)|exact abA hb|((first|refine⟨_,sa,?_⟩|refine zsn (md) ?_|fail);conv=>whnf)|(refine zso rfl (fun hb=>?_) (fun hb=>?_))|((first|refine zsq ?_|refine andA ?_|fail);conv=>whnf)|fail
   rfl
theorem zoo (a b:FloT) (ha:zau a) (hb':zau b) (ea : -64≤a.exp∧a.exp≤63) (eb : -64≤b.exp∧b.exp≤63):FnC Tryz.prog 124 [flAV a,flAV b] (.t [flAV (stepM 4 a b).1,iv .i64 (stepM 4 a b).2]):=by
 have hp:=zlN a ⟨-b.mant,b.exp⟩ ha (by unfold zau at *;dsimp only;omega) ea eb;rw [show stepM 4 a b=zbz a ⟨-b.mant,b.exp⟩ from rfl];generalize zbz a ⟨-b.mant,b.exp⟩=R at *;unfold zau at hb';have hw:IntKind.i64.wrap (0 - b.mant) = -b.mant:=by rw [Int.zero_sub];exact zg (by omega)
 refine hdC Tryz.func124 Tryz.ntmps124 (res:=[.cell 4 79,.tmp 5]) fun w0 K0=>?_
 repeat' first|refine zd ?_|((first|refine zi ?_|refine regA ?_|refine⟨_,hw,?_⟩|refine zsn (hp) ?_|refine andA ?_|fail);conv=>whnf)|fail
 rfl
theorem zon (a b:FloT) (ha:zau a) (hb':zau b) (ea : -64≤a.exp∧a.exp≤63) (eb : -64≤b.exp∧b.exp≤63):FnC Tryz.prog 125 [flAV a,flAV b] (.t [flAV (stepM 5 a b).1,iv .i64 (stepM 5 a b).2]):=by
 have hl:=zik ha hb';have hp:=zhw (a.mant * b.mant) (a.exp+b.exp - 46) hl (by omega);rw [show stepM 5 a b=zaj (a.mant * b.mant) (a.exp+b.exp - 46) from rfl];generalize zaj (a.mant * b.mant) (a.exp+b.exp - 46)=R at *;have hw:IntKind.i64.wrap (a.mant * b.mant)=a.mant * b.mant:=zg (by omega);refine hdC Tryz.func125 Tryz.ntmps125 (res:=[.cell 4 79,.tmp 5]) fun w0 K0=>?_
 repeat' first|refine zd ?_|((first|refine zi ?_|refine regA ?_|refine⟨_,hw,?_⟩|refine zsn (hp) ?_|refine zsq ?_|refine andA ?_|fail);conv=>whnf)|fail
 rfl
theorem zom (a b:FloT) (ha:zau a) (hb':zau b) (ea : -64≤a.exp∧a.exp≤63) (eb : -64≤b.exp∧b.exp≤63):FnC Tryz.prog 126 [flAV a,flAV b] (.t [flAV (stepM 6 a b).1,iv .i64 (stepM 6 a b).2]):=by
 have hl:=zkq (b:=b) ha;have hp:=zhw ((a.mant * 1073741824).tdiv b.mant) (a.exp - b.exp - 30) hl (by omega);rw [show stepM 6 a b=if b.mant=0 then (zeroFl,8) else zaj ((a.mant * 1073741824).tdiv b.mant) (a.exp - b.exp - 30) from rfl];unfold zau at ha;have sa:=zpu ha;by_cases b0:b.mant=0
 ·rw [if_pos b0];refine hdC Tryz.func126 Tryz.ntmps126 (res:=[.cell 4 79,.tmp 5]) fun w0 K0=>?_
  repeat' first|refine zd ?_|((first|refine zf ?_|refine zi ?_|refine regA ?_|refine drA (id:=3) 15 false [0,1,3,0,8,31,0,64,0,256,960,1984,4095,8191,8191,32767,65535] ?_|fail);conv=>whnf)|(exact absurd b0 hb)|(refine zso rfl (fun hb=>?_) (fun hb=>?_))|((refine andA ?_);conv=>whnf)|fail
  rfl
 ·rw [if_neg b0];have hw:IntKind.i64.wrap ((a.mant * 1073741824).tdiv b.mant)=(a.mant * 1073741824).tdiv b.mant:=zg (by omega);generalize zaj ((a.mant * 1073741824).tdiv b.mant) (a.exp - b.exp - 30)=R at *;refine hdC Tryz.func126 Tryz.ntmps126 (res:=[.cell 4 79,.tmp 5]) fun w0 K0=>?_
  repeat' first|refine zd ?_|((first|refine zf ?_|refine zi ?_|refine regA ?_|refine drA (id:=3) 15 false [0,1,3,0,8,31,0,64,0,256,960,1984,4095,8191,8191,32767,65535] ?_|fail);conv=>whnf)|(exact absurd hb b0)|((first|refine⟨_,sa,?_⟩|refine And.intro (zay b0) ?_|refine⟨_,hw,?_⟩|refine zsp (hp) ?_|fail);conv=>whnf)|(refine zso rfl (fun hb=>?_) (fun hb=>?_))|((first|refine zsq ?_|refine andA ?_|fail);conv=>whnf)|fail
  rfl
def zbc (op:Int):AV:=if op=3 then .x (.f (.func 123) [] []) else if op=4 then .x (.f (.func 124) [] []) else if op=5 then .x (.f (.func 125) [] []) else if op=6 then .x (.f (.func 126) [] []) else .x (.d (.v .nilFunc))
theorem zmP (op:Int) (σ:Sg):ACall Tryz.prog 82 [iv .i64 op] σ (fun r σ'=>r=zbc op∧σ'=σ):=by
 unfold zbc;refine zcN hTt Tryz.func82 rfl (by kernel_rfl) (res:=[.tmp 2]) rfl Tryz.ntmps82 (by simp) fun w0 K0 B=>?_
 dsimp only [entry];by_cases h3:op=3
 ·rw [if_pos h3];repeat' first|refine zd ?_|refine zc ?_|((first|refine zi ?_|refine regA ?_|fail);conv=>whnf)|exact abA hb|(refine zso rfl (fun hb=>?_) (fun hb=>?_))|fail
  exact⟨_,rfl,rfl,rfl⟩
 rw [if_neg h3];by_cases h4:op=4
 ·rw [if_pos h4];repeat' first|refine zd ?_|refine zc ?_|((first|refine zi ?_|refine regA ?_|fail);conv=>whnf)|exact abA hb|(refine zso rfl (fun hb=>?_) (fun hb=>?_))|fail
  exact⟨_,rfl,rfl,rfl⟩
 rw [if_neg h4];by_cases h5:op=5
 ·rw [if_pos h5];repeat' first|refine zd ?_|refine zc ?_|((first|refine zi ?_|refine regA ?_|fail);conv=>whnf)|exact abA hb|(refine zso rfl (fun hb=>?_) (fun hb=>?_))|fail
  exact⟨_,rfl,rfl,rfl⟩
 rw [if_neg h5];by_cases h6:op=6
 ·rw [if_pos h6];repeat' first|refine zd ?_|refine zc ?_|((first|refine zf ?_|refine zi ?_|refine regA ?_|fail);conv=>whnf)|exact abA hb|(refine zso rfl (fun hb=>?_) (fun hb=>?_))|fail
  exact⟨_,rfl,rfl,rfl⟩
 rw [if_neg h6];repeat' first|refine zd ?_|refine zc ?_|((first|refine zf ?_|refine zi ?_|refine regA ?_|fail);conv=>whnf)|exact abA hb|(refine zso rfl (fun hb=>?_) (fun hb=>?_))|fail
 exact⟨_,rfl,rfl,rfl⟩
end Go.Proofs.YtdgkljfpaddfpaaGreatDoor
namespace Go.Proofs.YtdgkljfpaddfpaaGreatDoor
open Go Go.QL FoT
set_option maxHeartbeats 3200000
attribute [local irreducible] ACall FnC zaj FoT.stepM zG
abbrev cAV (x:List FloT × Int × Int):AV:=.t [zdT x.1,iv .i64 x.2.1,iv .i64 x.2.2]
theorem leN3 {sz:Nat} {x y:AV}:LeAV (.t [.x (.d (.v (.slice none 0 0))),x,y]) (.t [.x (.d (.s sz [])),x,y]):=⟨_,rfl,LeAV1.nil _,LeAV1.refl _,LeAV1.refl _,trivial⟩
theorem zgv:∀ (l:List FloT) (i j:Nat),(∀ k (h:k < l.length),k < i→zG l[k])→i≤l.length→za8 l j=za8 (l.drop i) (j+i)
 | l,0,j,_,_=>rfl
 | [],i+1,j,_,h=>by simp at h
 | x::r,i+1,j,h,hl=>by
  have h0:zG x:=h 0 (by simp) (by omega);rw [za8,if_pos h0,zgv r i (j+1) (fun k hk hki=>h (k+1) (by simpa using hk) (by omega)) (by simpa using hl),List.drop_succ_cons];congr 1
  omega
theorem zeD:∀ (n:Int) (l:List StepT) (i j:Nat),(∀ k (h:k < l.length),k < i→zaA n l[k]=0)→i≤l.length→zag n l j=zag n (l.drop i) (j+i)
 | n,l,0,j,_,_=>rfl
 | n,[],i+1,j,_,h=>by simp at h
 | n,x::r,i+1,j,h,hl=>by
  have h0:zaA n x=0:=h 0 (by simp) (by omega);rw [zag,if_pos h0,zeD n r i (j+1) (fun k hk hki=>h (k+1) (by simpa using hk) (by omega)) (by simpa using hl),List.drop_succ_cons];congr 1
  omega
abbrev zoC (regs:List FloT) (steps:List StepT):Prop:=¬ (¬ (1≤regs.length∧regs.length≤8)∨40 < steps.length)
theorem zpr {n:Int} {s:StepT} (h:zaA n s=0):(s.op=3∨s.op=4∨s.op=5∨s.op=6)∧0≤s.a∧s.a < n∧0≤s.b∧s.b < n∧0≤s.to∧s.to < n:=by
 unfold zaA at h;by_cases h1:s.op < 3∨6 < s.op
 ·rw [if_pos h1] at h;cases h
 rw [if_neg h1] at h;by_cases h2:0≤s.a∧s.a < n∧0≤s.b∧s.b < n∧0≤s.to∧s.to < n
 ·exact⟨by omega,h2⟩
 ·rw [if_neg h2] at h;cases h
theorem zjX {op:Int} {f:FuncId} (h:(op=3∧f=123)∨(op=4∧f=124)∨(op=5∧f=125)∨(op=6∧f=126)) {a b:FloT} (ha:zG a) (hb:zG b) :
  FnC Tryz.prog f [flAV a,flAV b] (.t [flAV (FoT.stepM op a b).1,iv .i64 (FoT.stepM op a b).2]):=by
 have a1:=zI ha;have b1:=zI hb;have a2:=zb6 ha;have b2:=zb6 hb;rcases h with ⟨rfl,rfl⟩|⟨rfl,rfl⟩|⟨rfl,rfl⟩|⟨rfl,rfl⟩
 ·have:=zlN a b a1 b1 a2 b2;rw [show zbz a b=FoT.stepM 3 a b by unfold FoT.stepM;rw [if_pos rfl]] at this;exact this
 ·exact zoo a b a1 b1 a2 b2
 ·exact zon a b a1 b1 a2 b2
 ·exact zom a b a1 b1 a2 b2
theorem zr0 {tt:TT} {a b e:Tmp} {fr:Fr} {σ:Sg} {c st n:Nat} {ty:TypeId} {sz:Nat} {xs:List (List PV)} {p q:PV} (h1:lk a fr=some (.x (.o c st n))) (h2:lk b fr=some (.x (.d p))) (h2':lk e fr=some (.x (.d q))) (h3:lk c σ=some (.chain ty sz st xs)) (h4:n≤xs.length) :
  za6 tt [.tmp a,.tmp b,.tmp e] fr σ=some (.t [.x (.d (.s sz (xs.take n))),.x (.d p),.x (.d q)]):=by
 simp [za6,zbY,zhp,h1,h2,h2',zd1,zbV,zbW,zbq,h3,h4]
theorem lcE {sz:Nat} {xs ys:List (List PV)} {x y:AV} (h:xs=ys):LeAV (.t [.x (.d (.s sz xs)),x,y]) (.t [.x (.d (.s sz ys)),x,y]):=by rw [h];exact LeAV.refl _
theorem zsb {regs:List FloT} {steps:List StepT} (h0:zoC regs steps) {i:Nat} (h:za8 regs 0=some i):zaC regs steps=([],(i:Int),7):=by
 unfold zaC;rw [if_neg h0,h]
theorem zsa {regs:List FloT} {steps:List StepT} (h0:zoC regs steps) (h:za8 regs 0=none) {i:Nat} {e:Int} (h2:zag regs.length steps 0=some (i,e)):zaC regs steps=([],(i:Int),e):=by
 unfold zaC;rw [if_neg h0,h];dsimp only;rw [h2]
theorem zoB {regs:List FloT} {steps:List StepT} (h0:zoC regs steps) (h:za8 regs 0=none) (h2:zag regs.length steps 0=none) {i:Nat} {e:Int} (h3:runS steps 0 regs=.error (i,e)):zaC regs steps=([],(i:Int),e):=by
 unfold zaC;rw [if_neg h0,h];dsimp only;rw [h2];dsimp only;rw [h3]
theorem zr9 {regs:List FloT} {steps:List StepT} (h0:zoC regs steps) (h:za8 regs 0=none) (h2:zag regs.length steps 0=none) {l:List FloT} (h3:runS steps 0 regs=.ok l):zaC regs steps=(l,0,0):=by
 unfold zaC;rw [if_neg h0,h];dsimp only;rw [h2];dsimp only;rw [h3]
theorem za5 (regs:List FloT) (steps:List StepT) (hr64:∀ x ∈ regs,i64 x.mant):FnC Tryz.prog 31 [zdT regs,zhW steps] (cAV (zaC regs steps)):=by
 have hlr:(regs.map flPV).length=regs.length:=List.length_map _;have hls:(steps.map stPV).length=steps.length:=List.length_map _;have o1:=zaL ((regs.map flPV).length:Int) 1 8;by_cases h0:¬ (1≤regs.length∧regs.length≤8)∨40 < steps.length
 ·rw [show zaC regs steps=([],0,3) by unfold zaC;rw [if_pos h0]];have hc:(bif outB ((regs.map flPV).length:Int) 1 8 then true else decide (((steps.map stPV).length:Int) > 40))=true:=by
   cases ho:outB ((regs.map flPV).length:Int) 1 8 with
   | true=>rfl
   | false=>
    have:=zQ.1 ho;exact decide_eq_true (by omega)
  generalize outB ((regs.map flPV).length:Int) 1 8=b1 at *;refine zg7 hTt Tryz.func31 rfl (by kernel_rfl) (res:=[.tmp 4,.tmp 5,.tmp 6]) rfl Tryz.ntmps31 (by simp) fun w0 K0=>?_
  dsimp only [entry];repeat' first|refine zd ?_|((first|refine zi ?_|refine regA ?_|refine zsn (o1) ?_|fail);conv=>whnf)|(refine za rfl (fun _=>?_) (zaf hc))|((refine andA ?_);conv=>whnf)|(refine lnA fun hln=>?_;conv=>whnf)|fail
  exact⟨_,rfl,leN3⟩
 ·have hn:(1≤regs.length∧regs.length≤8)∧steps.length≤40:=by rw [not_or,Classical.not_not] at h0;exact⟨h0.1,by omega⟩
  rw [zQ.2 (by omega)] at o1;have hc:(bif false then true else decide (((steps.map stPV).length:Int) > 40))=false:=decide_eq_false (by omega);refine zg7 hTt Tryz.func31 rfl (by kernel_rfl) (res:=[.tmp 4,.tmp 5,.tmp 6]) rfl Tryz.ntmps31 (by simp) fun w0 K0=>?_
  dsimp only [entry];repeat' first|refine zd ?_|refine zc ?_|((first|refine zf ?_|refine regA ?_|refine zsn (o1) ?_|fail);conv=>whnf)|(refine za rfl (zM hc) (fun _=>?_))|((refine andA ?_);conv=>whnf)|(refine lnA fun hln=>?_;conv=>whnf)|fail
  refine zaq (Imp.nil 4 79 2 (fr':=[(4,.x (.o 4 0 0)),(26,iv .i64 0),(25,iv .i64 regs.length),(24,zdT regs),(0,zdT regs),(1,zhW steps)]) (σ':=[]) rfl ?_ ?_ rfl rfl) ?_
  ·exact⟨⟨_,rfl,.inr ⟨rfl,rfl⟩⟩,⟨_,rfl,.inl rfl⟩,⟨_,congrArg (fun k:Nat=>some (iv .i64 k)) hlr,.inl rfl⟩,⟨_,rfl,.inl rfl⟩,⟨_,rfl,.inl rfl⟩,⟨_,rfl,.inl rfl⟩,trivial⟩
  ·exact trivial
  clear hc;refine zJ (fun i:Nat=>[(4,.x (.o 4 i i)),(26,iv .i64 i),(25,iv .i64 regs.length),(24,zdT regs),(0,zdT regs),(1,zhW steps)])
   (fun i=>[(4,.chain 79 2 i ((regs.take i).map flPV))]) (fun i=>i≤regs.length∧∀ k (h:k < regs.length),k < i→zG regs[k]) (fun i=>regs.length - i) 0 ⟨Nat.zero_le _,fun k _ h=>absurd h (Nat.not_lt_zero _)⟩ impA ?_
  rintro i ⟨hi,hfl⟩;have hil0:((regs.take i).map flPV).length=i:=by rw [List.length_map,List.length_take,Nat.min_eq_left hi]
  rcases Nat.lt_or_ge i regs.length with hil|hil
  ·have ff:=zjH regs[i] (hr64 _ (List.getElem_mem hil));by_cases hfi:zG regs[i]
   ·rw [decide_eq_true hfi] at ff;have e:((regs.take i).map flPV).take i ++ [flPV regs[i]]=(regs.take (i+1)).map flPV:=by
     rw [List.take_of_length_le (by omega),List.take_add_one,List.getElem?_eq_getElem hil,List.map_append];rfl
    repeat' first|refine zd ?_|refine zc ?_|((first|refine zf ?_|refine zk ?_|refine regA ?_|fail);conv=>whnf)|exact abA hb|((refine zsn (ff) ?_);conv=>whnf)|(refine zss rfl ?_)|(refine zso rfl (fun hb=>?_) (fun hb=>?_))|((first|refine zsq ?_|refine andA ?_|with_reducible refine exA fun _=>?_|fail);conv=>whnf)|((refine And.intro (by refine⟨?_,?_,?_⟩ <;> simp [zO,maxLen] <;> omega) ?_);conv=>whnf)|fail
    exact⟨i+1,⟨by omega,fun k h hk=>by
     by_cases e:k=i
     ·subst e;exact hfi
     ·exact hfl k h (by omega)⟩,by omega,impA⟩
   ·rw [decide_eq_false hfi] at ff;have hb7:za8 regs 0=some i:=by
     rw [zgv regs i 0 hfl hi,List.drop_eq_getElem_cons hil,za8,if_neg hfi,Nat.zero_add]
    rw [zsb h0 hb7];repeat' first|refine zd ?_|refine zc ?_|((first|refine zf ?_|refine zk ?_|refine zi ?_|refine regA ?_|fail);conv=>whnf)|exact abA hb|((refine zsn (ff) ?_);conv=>whnf)|(refine zst rfl ?_)|(refine zso rfl (fun hb=>?_) (fun hb=>?_))|((first|refine andA ?_|with_reducible refine exA fun _=>?_|fail);conv=>whnf)|fail
    exact⟨_,rfl,leN3⟩
  ·have hie:i=regs.length:=by omega
   subst hie;have hall:∀ x ∈ regs,zG x:=fun x hx=>by
    obtain⟨k,hk,rfl⟩:=List.getElem_of_mem hx;exact hfl k hk hk
   have hbr:za8 regs 0=none:=zbk.2 hall;rw [List.take_length] at hil0;repeat' first|refine zd ?_|refine zc ?_|((first|refine zf ?_|refine zk ?_|refine regA ?_|fail);conv=>whnf)|exact abA hb|(refine zso rfl (fun hb=>?_) (fun hb=>?_))|(refine lnA fun hln=>?_;conv=>whnf)|fail
   refine zJ (fun i:Nat=>[(4,.x (.o 4 regs.length regs.length)),(42,iv .i64 i),(41,iv .i64 steps.length),(40,zhW steps),(0,zdT regs),(1,zhW steps)])
    (fun i=>[(4,.chain 79 2 regs.length (regs.map flPV))]) (fun i=>i≤steps.length∧∀ k (h:k < steps.length),k < i→zaA regs.length steps[k]=0) (fun i=>steps.length - i) 0 ⟨Nat.zero_le _,fun k _ h=>absurd h (Nat.not_lt_zero _)⟩ (impX (by repeat' (first|exact trivial|refine And.intro ?_ ?_|exact chE (by rw [List.take_length])|exact zsw))) ?_
   rintro i ⟨hi,hok⟩;rcases Nat.lt_or_ge i steps.length with hil|hil
   ·have hbs:=zeD regs.length steps i 0 hok hi;rw [List.drop_eq_getElem_cons hil,zag,Nat.zero_add] at hbs;have hd:=zmP steps[i].op;have oa:=zaL steps[i].a 0 (((regs.map flPV).length:Int) - 1);have ob:=zaL steps[i].b 0 (((regs.map flPV).length:Int) - 1);have ot:=zaL steps[i].to 0 (((regs.map flPV).length:Int) - 1);by_cases hz:zaA regs.length steps[i]=0
    ·have hz':=hz;unfold zaA at hz';have hop:¬ (steps[i].op < 3∨6 < steps[i].op):=fun h=>by rw [if_pos h] at hz';cases hz'
     rw [if_neg hop] at hz';have hab:0≤steps[i].a∧steps[i].a < (regs.length:Int)∧0≤steps[i].b∧steps[i].b < (regs.length:Int)∧0≤steps[i].to∧steps[i].to < (regs.length:Int):=by
      by_cases h:0≤steps[i].a∧steps[i].a < (regs.length:Int)∧0≤steps[i].b∧steps[i].b < (regs.length:Int)∧0≤steps[i].to∧steps[i].to < (regs.length:Int)
      ·exact h
      ·rw [if_neg h] at hz';cases hz'
     rw [zQ.2 (by omega)] at oa ob ot;clear hbs hz';have hkk:steps[i].op=3∨steps[i].op=4∨steps[i].op=5∨steps[i].op=6:=by omega
     have nxt:∀ k (h:k < steps.length),k < i+1→zaA regs.length steps[k]=0:=fun k h hk=>by
      by_cases e:k=i
      ·subst e;exact hz
      ·exact hok k h (by omega)
     rcases hkk with hkk|hkk|hkk|hkk
     ·rw [show zbc steps[i].op=.x (.f (.func 123) [] []) by unfold zbc;rw [if_pos hkk]] at hd;repeat' first|((with_reducible refine zH hTt (id:=14) ?_);conv=>whnf)|refine zd ?_|refine zc ?_|refine zA ?_|((first|refine zf ?_|refine zB ?_|refine zk ?_|refine zi ?_|refine regA ?_|refine drM (id:=22) 18 [16] true [0,1,3,0,0,16,56,120,0,0,512,1792,3840,8191,16383,32767,32767,0,196607,524287] ?_|refine LateGo.mk ⟨_,rfl,?_⟩|refine LateGo.mk ⟨.x .j,rfl,?_⟩|fail);conv=>whnf)|exact abA hb|((refine⟨_,_,(hd _).toP,?_,?_⟩) <;> first|(rintro _ _ ⟨rfl,rfl⟩;conv=>whnf)|(exact fun _ _ h=>h.elim))|(refine And.intro ⟨_,_,_,Tryz.underlying154⟩ ?_;conv=>whnf)|((first|refine zsn (oa) ?_|refine zsp (oa) ?_|refine zsr (oa) ?_|refine zsn (ob) ?_|refine zsp (ob) ?_|refine zsr (ob) ?_|refine zsn (ot) ?_|refine zsp (ot) ?_|refine zsr (ot) ?_|fail);conv=>whnf)|(refine zst rfl ?_)|(refine zss rfl ?_)|(refine zsu rfl ?_)|(refine zsv rfl ?_)|(refine zso rfl (fun hb=>?_) (fun hb=>?_))|((first|refine zsq ?_|refine⟨IntKind.wrap _ _,rfl,?_⟩|refine andA ?_|with_reducible refine exA fun _=>?_|with_reducible refine And.intro (ze (And.intro (by omega) (And.intro (by first|omega|(simp only [List.length_map];omega)) (by first|omega|(simp only [List.length_map];omega)|(simp only [List.length_set,List.length_map];omega))))) ?_|with_reducible refine Exists.intro _ (And.intro (ze (zh (by omega) (by omega))) (And.intro (And.intro (Nat.le_of_ble_eq_true rfl) rfl) ?_))|with_reducible refine Exists.intro _ (And.intro (ze (And.intro (by omega) (zh (by omega) (by omega)))) ?_)|with_reducible refine And.intro (And.intro (by omega) (And.intro (by first|omega|(simp only [List.length_map];omega)) (by first|omega|(simp only [List.length_map,List.length_set];omega)))) ?_|with_reducible refine Exists.intro _ (And.intro (zh (by omega) (by omega)) (And.intro (Nat.le_of_ble_eq_true rfl) ?_))|fail);conv=>whnf)|((refine And.intro (by refine⟨?_,?_,?_⟩ <;> simp [zO,maxLen] <;> omega) ?_);conv=>whnf)|(refine lnA fun hln=>?_;conv=>whnf)|fail
      exact⟨i+1,⟨by omega,nxt⟩,by omega,impA⟩
     ·rw [show zbc steps[i].op=.x (.f (.func 124) [] []) by unfold zbc;rw [if_neg (by omega),if_pos hkk]] at hd;repeat' first|((with_reducible refine zH hTt (id:=14) ?_);conv=>whnf)|refine zd ?_|refine zc ?_|refine zA ?_|((first|refine zf ?_|refine zB ?_|refine zk ?_|refine zi ?_|refine regA ?_|refine drM (id:=22) 18 [16] true [0,1,3,0,0,16,56,120,0,0,512,1792,3840,8191,16383,32767,32767,0,196607,524287] ?_|refine LateGo.mk ⟨_,rfl,?_⟩|refine LateGo.mk ⟨.x .j,rfl,?_⟩|fail);conv=>whnf)|exact abA hb|((refine⟨_,_,(hd _).toP,?_,?_⟩) <;> first|(rintro _ _ ⟨rfl,rfl⟩;conv=>whnf)|(exact fun _ _ h=>h.elim))|(refine And.intro ⟨_,_,_,Tryz.underlying154⟩ ?_;conv=>whnf)|((first|refine zsn (oa) ?_|refine zsp (oa) ?_|refine zsr (oa) ?_|refine zsn (ob) ?_|refine zsp (ob) ?_|refine zsr (ob) ?_|refine zsn (ot) ?_|refine zsp (ot) ?_|refine zsr (ot) ?_|fail);conv=>whnf)|(refine zst rfl ?_)|(refine zss rfl ?_)|(refine zsu rfl ?_)|(refine zsv rfl ?_)|(refine zso rfl (fun hb=>?_) (fun hb=>?_))|((first|refine zsq ?_|refine⟨IntKind.wrap _ _,rfl,?_⟩|refine andA ?_|with_reducible refine exA fun _=>?_|with_reducible refine And.intro (ze (And.intro (by omega) (And.intro (by first|omega|(simp only [List.length_map];omega)) (by first|omega|(simp only [List.length_map];omega)|(simp only [List.length_set,List.length_map];omega))))) ?_|with_reducible refine Exists.intro _ (And.intro (ze (zh (by omega) (by omega))) (And.intro (And.intro (Nat.le_of_ble_eq_true rfl) rfl) ?_))|with_reducible refine Exists.intro _ (And.intro (ze (And.intro (by omega) (zh (by omega) (by omega)))) ?_)|with_reducible refine And.intro (And.intro (by omega) (And.intro (by first|omega|(simp only [List.length_map];omega)) (by first|omega|(simp only [List.length_map,List.length_set];omega)))) ?_|with_reducible refine Exists.intro _ (And.intro (zh (by omega) (by omega)) (And.intro (Nat.le_of_ble_eq_true rfl) ?_))|fail);conv=>whnf)|((refine And.intro (by refine⟨?_,?_,?_⟩ <;> simp [zO,maxLen] <;> omega) ?_);conv=>whnf)|(refine lnA fun hln=>?_;conv=>whnf)|fail
      exact⟨i+1,⟨by omega,nxt⟩,by omega,impA⟩
     ·rw [show zbc steps[i].op=.x (.f (.func 125) [] []) by unfold zbc;rw [if_neg (by omega),if_neg (by omega),if_pos hkk]] at hd;repeat' first|((with_reducible refine zH hTt (id:=14) ?_);conv=>whnf)|refine zd ?_|refine zc ?_|refine zA ?_|((first|refine zf ?_|refine zB ?_|refine zk ?_|refine zi ?_|refine regA ?_|refine drM (id:=22) 18 [16] true [0,1,3,0,0,16,56,120,0,0,512,1792,3840,8191,16383,32767,32767,0,196607,524287] ?_|refine LateGo.mk ⟨_,rfl,?_⟩|refine LateGo.mk ⟨.x .j,rfl,?_⟩|fail);conv=>whnf)|exact abA hb|((refine⟨_,_,(hd _).toP,?_,?_⟩) <;> first|(rintro _ _ ⟨rfl,rfl⟩;conv=>whnf)|(exact fun _ _ h=>h.elim))|(refine And.intro ⟨_,_,_,Tryz.underlying154⟩ ?_;conv=>whnf)|((first|refine zsn (oa) ?_|refine zsp (oa) ?_|refine zsr (oa) ?_|refine zsn (ob) ?_|refine zsp (ob) ?_|refine zsr (ob) ?_|refine zsn (ot) ?_|refine zsp (ot) ?_|refine zsr (ot) ?_|fail);conv=>whnf)|(refine zst rfl ?_)|(refine zss rfl ?_)|(refine zsu rfl ?_)|(refine zsv rfl ?_)|(refine zso rfl (fun hb=>?_) (fun hb=>?_))|((first|refine zsq ?_|refine⟨IntKind.wrap _ _,rfl,?_⟩|refine andA ?_|with_reducible refine exA fun _=>?_|with_reducible refine And.intro (ze (And.intro (by omega) (And.intro (by first|omega|(simp only [List.length_map];omega)) (by first|omega|(simp only [List.length_map];omega)|(simp only [List.length_set,List.length_map];omega))))) ?_|with_reducible refine Exists.intro _ (And.intro (ze (zh (by omega) (by omega))) (And.intro (And.intro (Nat.le_of_ble_eq_true rfl) rfl) ?_))|with_reducible refine Exists.intro _ (And.intro (ze (And.intro (by omega) (zh (by omega) (by omega)))) ?_)|with_reducible refine And.intro (And.intro (by omega) (And.intro (by first|omega|(simp only [List.length_map];omega)) (by first|omega|(simp only [List.length_map,List.length_set];omega)))) ?_|with_reducible refine Exists.intro _ (And.intro (zh (by omega) (by omega)) (And.intro (Nat.le_of_ble_eq_true rfl) ?_))|fail);conv=>whnf)|((refine And.intro (by refine⟨?_,?_,?_⟩ <;> simp [zO,maxLen] <;> omega) ?_);conv=>whnf)|(refine lnA fun hln=>?_;conv=>whnf)|fail
      exact⟨i+1,⟨by omega,nxt⟩,by omega,impA⟩
     ·rw [show zbc steps[i].op=.x (.f (.func 126) [] []) by unfold zbc;rw [if_neg (by omega),if_neg (by omega),if_neg (by omega),if_pos hkk]] at hd;repeat' first|((with_reducible refine zH hTt (id:=14) ?_);conv=>whnf)|refine zd ?_|refine zc ?_|refine zA ?_|((first|refine zf ?_|refine zB ?_|refine zk ?_|refine zi ?_|refine regA ?_|refine drM (id:=22) 18 [16] true [0,1,3,0,0,16,56,120,0,0,512,1792,3840,8191,16383,32767,32767,0,196607,524287] ?_|refine LateGo.mk ⟨_,rfl,?_⟩|refine LateGo.mk ⟨.x .j,rfl,?_⟩|fail);conv=>whnf)|exact abA hb|((refine⟨_,_,(hd _).toP,?_,?_⟩) <;> first|(rintro _ _ ⟨rfl,rfl⟩;conv=>whnf)|(exact fun _ _ h=>h.elim))|(refine And.intro ⟨_,_,_,Tryz.underlying154⟩ ?_;conv=>whnf)|((first|refine zsn (oa) ?_|refine zsp (oa) ?_|refine zsr (oa) ?_|refine zsn (ob) ?_|refine zsp (ob) ?_|refine zsr (ob) ?_|refine zsn (ot) ?_|refine zsp (ot) ?_|refine zsr (ot) ?_|fail);conv=>whnf)|(refine zst rfl ?_)|(refine zss rfl ?_)|(refine zsu rfl ?_)|(refine zsv rfl ?_)|(refine zso rfl (fun hb=>?_) (fun hb=>?_))|((first|refine zsq ?_|refine⟨IntKind.wrap _ _,rfl,?_⟩|refine andA ?_|with_reducible refine exA fun _=>?_|with_reducible refine And.intro (ze (And.intro (by omega) (And.intro (by first|omega|(simp only [List.length_map];omega)) (by first|omega|(simp only [List.length_map];omega)|(simp only [List.length_set,List.length_map];omega))))) ?_|with_reducible refine Exists.intro _ (And.intro (ze (zh (by omega) (by omega))) (And.intro (And.intro (Nat.le_of_ble_eq_true rfl) rfl) ?_))|with_reducible refine Exists.intro _ (And.intro (ze (And.intro (by omega) (zh (by omega) (by omega)))) ?_)|with_reducible refine And.intro (And.intro (by omega) (And.intro (by first|omega|(simp only [List.length_map];omega)) (by first|omega|(simp only [List.length_map,List.length_set];omega)))) ?_|with_reducible refine Exists.intro _ (And.intro (zh (by omega) (by omega)) (And.intro (Nat.le_of_ble_eq_true rfl) ?_))|fail);conv=>whnf)|((refine And.intro (by refine⟨?_,?_,?_⟩ <;> simp [zO,maxLen] <;> omega) ?_);conv=>whnf)|(refine lnA fun hln=>?_;conv=>whnf)|fail
      exact⟨i+1,⟨by omega,nxt⟩,by omega,impA⟩
    ·rw [if_neg hz] at hbs;rw [zsa h0 hbr hbs];by_cases hop:steps[i].op < 3∨6 < steps[i].op
     ·rw [show zaA regs.length steps[i]=2 by unfold zaA;rw [if_pos hop]];rw [show zbc steps[i].op=.x (.d (.v .nilFunc)) by unfold zbc;rw [if_neg (by omega),if_neg (by omega),if_neg (by omega),if_neg (by omega)]] at hd;repeat' first|((with_reducible refine zH hTt (id:=14) ?_);conv=>whnf)|refine zd ?_|refine zc ?_|refine zA ?_|((first|refine zf ?_|refine zB ?_|refine zk ?_|refine zi ?_|refine regA ?_|refine drM (id:=22) 18 [16] true [0,1,3,0,0,16,56,120,0,0,512,1792,3840,8191,16383,32767,32767,0,196607,524287] ?_|refine LateGo.mk ⟨_,rfl,?_⟩|refine LateGo.mk ⟨.x .j,rfl,?_⟩|fail);conv=>whnf)|exact abA hb|((refine⟨_,_,(hd _).toP,?_,?_⟩) <;> first|(rintro _ _ ⟨rfl,rfl⟩;conv=>whnf)|(exact fun _ _ h=>h.elim))|(refine And.intro ⟨_,_,_,Tryz.underlying154⟩ ?_;conv=>whnf)|(refine zst rfl ?_)|(refine zss rfl ?_)|(refine zsu rfl ?_)|(refine zsv rfl ?_)|(refine zso rfl (fun hb=>?_) (fun hb=>?_))|((first|refine zsq ?_|refine⟨IntKind.wrap _ _,rfl,?_⟩|refine andA ?_|with_reducible refine exA fun _=>?_|with_reducible refine And.intro (ze (And.intro (by omega) (And.intro (by first|omega|(simp only [List.length_map];omega)) (by first|omega|(simp only [List.length_map];omega)|(simp only [List.length_set,List.length_map];omega))))) ?_|with_reducible refine Exists.intro _ (And.intro (ze (zh (by omega) (by omega))) (And.intro (And.intro (Nat.le_of_ble_eq_true rfl) rfl) ?_))|with_reducible refine Exists.intro _ (And.intro (ze (And.intro (by omega) (zh (by omega) (by omega)))) ?_)|with_reducible refine And.intro (And.intro (by omega) (And.intro (by first|omega|(simp only [List.length_map];omega)) (by first|omega|(simp only [List.length_map,List.length_set];omega)))) ?_|with_reducible refine Exists.intro _ (And.intro (zh (by omega) (by omega)) (And.intro (Nat.le_of_ble_eq_true rfl) ?_))|fail);conv=>whnf)|((refine And.intro (by refine⟨?_,?_,?_⟩ <;> simp [zO,maxLen] <;> omega) ?_);conv=>whnf)|(refine lnA fun hln=>?_;conv=>whnf)|fail
      exact⟨_,rfl,leN3⟩
     ·have hab:¬ (0≤steps[i].a∧steps[i].a < (regs.length:Int)∧0≤steps[i].b∧steps[i].b < (regs.length:Int)∧0≤steps[i].to∧steps[i].to < (regs.length:Int)):=fun h=>hz (by unfold zaA;rw [if_neg hop,if_pos h])
      rw [show zaA regs.length steps[i]=4 by unfold zaA;rw [if_neg hop,if_neg hab]];have hc:(bif (bif outB steps[i].a 0 (((regs.map flPV).length:Int) - 1) then true else outB steps[i].b 0 (((regs.map flPV).length:Int) - 1)) then true else outB steps[i].to 0 (((regs.map flPV).length:Int) - 1))=true:=by
       rw [zcE,zcE,zcE];simp only [Bool.cond_eq_ite];simp;omega
      generalize outB steps[i].a 0 (((regs.map flPV).length:Int) - 1)=ba at oa hc;generalize outB steps[i].b 0 (((regs.map flPV).length:Int) - 1)=bb at ob hc;generalize outB steps[i].to 0 (((regs.map flPV).length:Int) - 1)=bt at ot hc;clear hz hbs;have hkk:steps[i].op=3∨steps[i].op=4∨steps[i].op=5∨steps[i].op=6:=by omega
      rcases hkk with hkk|hkk|hkk|hkk
      ·rw [show zbc steps[i].op=.x (.f (.func 123) [] []) by unfold zbc;rw [if_pos hkk]] at hd;repeat' first|((with_reducible refine zH hTt (id:=14) ?_);conv=>whnf)|refine zd ?_|refine zc ?_|refine zA ?_|((first|refine zf ?_|refine zB ?_|refine zk ?_|refine zi ?_|refine regA ?_|refine drM (id:=22) 18 [16] true [0,1,3,0,0,16,56,120,0,0,512,1792,3840,8191,16383,32767,32767,0,196607,524287] ?_|refine LateGo.mk ⟨_,rfl,?_⟩|refine LateGo.mk ⟨.x .j,rfl,?_⟩|fail);conv=>whnf)|exact abA hb|((refine⟨_,_,(hd _).toP,?_,?_⟩) <;> first|(rintro _ _ ⟨rfl,rfl⟩;conv=>whnf)|(exact fun _ _ h=>h.elim))|(refine And.intro ⟨_,_,_,Tryz.underlying154⟩ ?_;conv=>whnf)|((first|refine zsn (oa) ?_|refine zsp (oa) ?_|refine zsr (oa) ?_|refine zsn (ob) ?_|refine zsp (ob) ?_|refine zsr (ob) ?_|refine zsn (ot) ?_|refine zsp (ot) ?_|refine zsr (ot) ?_|fail);conv=>whnf)|(refine za rfl (fun _=>?_) (zaf hc))|(refine za rfl (zM hc) (fun _=>?_))|(refine zst rfl ?_)|(refine zss rfl ?_)|(refine zsu rfl ?_)|(refine zsv rfl ?_)|(refine zso rfl (fun hb=>?_) (fun hb=>?_))|((first|refine zsq ?_|refine⟨IntKind.wrap _ _,rfl,?_⟩|refine andA ?_|with_reducible refine exA fun _=>?_|with_reducible refine And.intro (ze (And.intro (by omega) (And.intro (by first|omega|(simp only [List.length_map];omega)) (by first|omega|(simp only [List.length_map];omega)|(simp only [List.length_set,List.length_map];omega))))) ?_|with_reducible refine Exists.intro _ (And.intro (ze (zh (by omega) (by omega))) (And.intro (And.intro (Nat.le_of_ble_eq_true rfl) rfl) ?_))|with_reducible refine Exists.intro _ (And.intro (ze (And.intro (by omega) (zh (by omega) (by omega)))) ?_)|with_reducible refine And.intro (And.intro (by omega) (And.intro (by first|omega|(simp only [List.length_map];omega)) (by first|omega|(simp only [List.length_map,List.length_set];omega)))) ?_|with_reducible refine Exists.intro _ (And.intro (zh (by omega) (by omega)) (And.intro (Nat.le_of_ble_eq_true rfl) ?_))|fail);conv=>whnf)|((refine And.intro (by refine⟨?_,?_,?_⟩ <;> simp [zO,maxLen] <;> omega) ?_);conv=>whnf)|(refine lnA fun hln=>?_;conv=>whnf)|fail
       exact⟨_,rfl,leN3⟩
      ·rw [show zbc steps[i].op=.x (.f (.func 124) [] []) by unfold zbc;rw [if_neg (by omega),if_pos hkk]] at hd;repeat' first|((with_reducible refine zH hTt (id:=14) ?_);conv=>whnf)|refine zd ?_|refine zc ?_|refine zA ?_|((first|refine zf ?_|refine zB ?_|refine zk ?_|refine zi ?_|refine regA ?_|refine drM (id:=22) 18 [16] true [0,1,3,0,0,16,56,120,0,0,512,1792,3840,8191,16383,32767,32767,0,196607,524287] ?_|refine LateGo.mk ⟨_,rfl,?_⟩|refine LateGo.mk ⟨.x .j,rfl,?_⟩|fail);conv=>whnf)|exact abA hb|((refine⟨_,_,(hd _).toP,?_,?_⟩) <;> first|(rintro _ _ ⟨rfl,rfl⟩;conv=>whnf)|(exact fun _ _ h=>h.elim))|(refine And.intro ⟨_,_,_,Tryz.underlying154⟩ ?_;conv=>whnf)|((first|refine zsn (oa) ?_|refine zsp (oa) ?_|refine zsr (oa) ?_|refine zsn (ob) ?_|refine zsp (ob) ?_|refine zsr (ob) ?_|refine zsn (ot) ?_|refine zsp (ot) ?_|refine zsr (ot) ?_|fail);conv=>whnf)|(refine za rfl (fun _=>?_) (zaf hc))|(refine za rfl (zM hc) (fun _=>?_))|(refine zst rfl ?_)|(refine zss rfl ?_)|(refine zsu rfl ?_)|(refine zsv rfl ?_)|(refine zso rfl (fun hb=>?_) (fun hb=>?_))|((first|refine zsq ?_|refine⟨IntKind.wrap _ _,rfl,?_⟩|refine andA ?_|with_reducible refine exA fun _=>?_|with_reducible refine And.intro (ze (And.intro (by omega) (And.intro (by first|omega|(simp only [List.length_map];omega)) (by first|omega|(simp only [List.length_map];omega)|(simp only [List.length_set,List.length_map];omega))))) ?_|with_reducible refine Exists.intro _ (And.intro (ze (zh (by omega) (by omega))) (And.intro (And.intro (Nat.le_of_ble_eq_true rfl) rfl) ?_))|with_reducible refine Exists.intro _ (And.intro (ze (And.intro (by omega) (zh (by omega) (by omega)))) ?_)|with_reducible refine And.intro (And.intro (by omega) (And.intro (by first|omega|(simp only [List.length_map];omega)) (by first|omega|(simp only [List.length_map,List.length_set];omega)))) ?_|with_reducible refine Exists.intro _ (And.intro (zh (by omega) (by omega)) (And.intro (Nat.le_of_ble_eq_true rfl) ?_))|fail);conv=>whnf)|((refine And.intro (by refine⟨?_,?_,?_⟩ <;> simp [zO,maxLen] <;> omega) ?_);conv=>whnf)|(refine lnA fun hln=>?_;conv=>whnf)|fail
       exact⟨_,rfl,leN3⟩
      ·rw [show zbc steps[i].op=.x (.f (.func 125) [] []) by unfold zbc;rw [if_neg (by omega),if_neg (by omega),if_pos hkk]] at hd;repeat' first|((with_reducible refine zH hTt (id:=14) ?_);conv=>whnf)|refine zd ?_|refine zc ?_|refine zA ?_|((first|refine zf ?_|refine zB ?_|refine zk ?_|refine zi ?_|refine regA ?_|refine drM (id:=22) 18 [16] true [0,1,3,0,0,16,56,120,0,0,512,1792,3840,8191,16383,32767,32767,0,196607,524287] ?_|refine LateGo.mk ⟨_,rfl,?_⟩|refine LateGo.mk ⟨.x .j,rfl,?_⟩|fail);conv=>whnf)|exact abA hb|((refine⟨_,_,(hd _).toP,?_,?_⟩) <;> first|(rintro _ _ ⟨rfl,rfl⟩;conv=>whnf)|(exact fun _ _ h=>h.elim))|(refine And.intro ⟨_,_,_,Tryz.underlying154⟩ ?_;conv=>whnf)|((first|refine zsn (oa) ?_|refine zsp (oa) ?_|refine zsr (oa) ?_|refine zsn (ob) ?_|refine zsp (ob) ?_|refine zsr (ob) ?_|refine zsn (ot) ?_|refine zsp (ot) ?_|refine zsr (ot) ?_|fail);conv=>whnf)|(refine za rfl (fun _=>?_) (zaf hc))|(refine za rfl (zM hc) (fun _=>?_))|(refine zst rfl ?_)|(refine zss rfl ?_)|(refine zsu rfl ?_)|(refine zsv rfl ?_)|(refine zso rfl (fun hb=>?_) (fun hb=>?_))|((first|refine zsq ?_|refine⟨IntKind.wrap _ _,rfl,?_⟩|refine andA ?_|with_reducible refine exA fun _=>?_|with_reducible refine And.intro (ze (And.intro (by omega) (And.intro (by first|omega|(simp only [List.length_map];omega)) (by first|omega|(simp only [List.length_map];omega)|(simp only [List.length_set,List.length_map];omega))))) ?_|with_reducible refine Exists.intro _ (And.intro (ze (zh (by omega) (by omega))) (And.intro (And.intro (Nat.le_of_ble_eq_true rfl) rfl) ?_))|with_reducible refine Exists.intro _ (And.intro (ze (And.intro (by omega) (zh (by omega) (by omega)))) ?_)|with_reducible refine And.intro (And.intro (by omega) (And.intro (by first|omega|(simp only [List.length_map];omega)) (by first|omega|(simp only [List.length_map,List.length_set];omega)))) ?_|with_reducible refine Exists.intro _ (And.intro (zh (by omega) (by omega)) (And.intro (Nat.le_of_ble_eq_true rfl) ?_))|fail);conv=>whnf)|((refine And.intro (by refine⟨?_,?_,?_⟩ <;> simp [zO,maxLen] <;> omega) ?_);conv=>whnf)|(refine lnA fun hln=>?_;conv=>whnf)|fail
       exact⟨_,rfl,leN3⟩
      ·rw [show zbc steps[i].op=.x (.f (.func 126) [] []) by unfold zbc;rw [if_neg (by omega),if_neg (by omega),if_neg (by omega),if_pos hkk]] at hd;repeat' first|((with_reducible refine zH hTt (id:=14) ?_);conv=>whnf)|refine zd ?_|refine zc ?_|refine zA ?_|((first|refine zf ?_|refine zB ?_|refine zk ?_|refine zi ?_|refine regA ?_|refine drM (id:=22) 18 [16] true [0,1,3,0,0,16,56,120,0,0,512,1792,3840,8191,16383,32767,32767,0,196607,524287] ?_|refine LateGo.mk ⟨_,rfl,?_⟩|refine LateGo.mk ⟨.x .j,rfl,?_⟩|fail);conv=>whnf)|exact abA hb|((refine⟨_,_,(hd _).toP,?_,?_⟩) <;> first|(rintro _ _ ⟨rfl,rfl⟩;conv=>whnf)|(exact fun _ _ h=>h.elim))|(refine And.intro ⟨_,_,_,Tryz.underlying154⟩ ?_;conv=>whnf)|((first|refine zsn (oa) ?_|refine zsp (oa) ?_|refine zsr (oa) ?_|refine zsn (ob) ?_|refine zsp (ob) ?_|refine zsr (ob) ?_|refine zsn (ot) ?_|refine zsp (ot) ?_|refine zsr (ot) ?_|fail);conv=>whnf)|(refine za rfl (fun _=>?_) (zaf hc))|(refine za rfl (zM hc) (fun _=>?_))|(refine zst rfl ?_)|(refine zss rfl ?_)|(refine zsu rfl ?_)|(refine zsv rfl ?_)|(refine zso rfl (fun hb=>?_) (fun hb=>?_))|((first|refine zsq ?_|refine⟨IntKind.wrap _ _,rfl,?_⟩|refine andA ?_|with_reducible refine exA fun _=>?_|with_reducible refine And.intro (ze (And.intro (by omega) (And.intro (by first|omega|(simp only [List.length_map];omega)) (by first|omega|(simp only [List.length_map];omega)|(simp only [List.length_set,List.length_map];omega))))) ?_|with_reducible refine Exists.intro _ (And.intro (ze (zh (by omega) (by omega))) (And.intro (And.intro (Nat.le_of_ble_eq_true rfl) rfl) ?_))|with_reducible refine Exists.intro _ (And.intro (ze (And.intro (by omega) (zh (by omega) (by omega)))) ?_)|with_reducible refine And.intro (And.intro (by omega) (And.intro (by first|omega|(simp only [List.length_map];omega)) (by first|omega|(simp only [List.length_map,List.length_set];omega)))) ?_|with_reducible refine Exists.intro _ (And.intro (zh (by omega) (by omega)) (And.intro (Nat.le_of_ble_eq_true rfl) ?_))|fail);conv=>whnf)|((refine And.intro (by refine⟨?_,?_,?_⟩ <;> simp [zO,maxLen] <;> omega) ?_);conv=>whnf)|(refine lnA fun hln=>?_;conv=>whnf)|fail
       exact⟨_,rfl,leN3⟩
   ·have hie:i=steps.length:=by omega
    subst hie;have hall2:∀ x ∈ steps,zaA regs.length x=0:=fun x hx=>by
     obtain⟨k,hk,rfl⟩:=List.getElem_of_mem hx;exact hok k hk hk
    have hbs:zag regs.length steps 0=none:=zaz.2 hall2;repeat' first|refine zd ?_|refine zc ?_|((first|refine zf ?_|refine zk ?_|refine regA ?_|fail);conv=>whnf)|exact abA hb|(refine zso rfl (fun hb=>?_) (fun hb=>?_))|(refine lnA fun hln=>?_;conv=>whnf)|fail
    refine zJ (fun x:Nat × List FloT × Nat=>[(4,.x (.o 4 x.2.2 regs.length)),(77,iv .i64 x.1),(76,iv .i64 steps.length),(75,zhW steps)])
     (fun x=>[(4,.chain 79 2 x.2.2 (x.2.1.map flPV))]) (fun x=>x.1≤steps.length∧runS steps 0 regs=runS (steps.drop x.1) x.1 x.2.1∧x.2.1.length=regs.length∧∀ y ∈ x.2.1,zG y) (fun x=>steps.length - x.1) (0,regs,regs.length) ⟨Nat.zero_le _,rfl,rfl,hall⟩ impA ?_
    rintro⟨i,l,sm⟩ ⟨hi,hrun,hll,hlf⟩;dsimp only at hi hrun hll hlf ⊢;have hlm:(l.map flPV).length=regs.length:=by rw [List.length_map,hll]
    rcases Nat.lt_or_ge i steps.length with hil|hil
    ·obtain⟨hop,a0,a1,b0,b1,t0,t1⟩:=zpr (hall2 steps[i] (List.getElem_mem hil));have la:steps[i].a.toNat < l.length:=by omega
     have lb:steps[i].b.toNat < l.length:=by omega
     have lt:steps[i].to.toNat < l.length:=by omega
     have ga:l.getD steps[i].a.toNat zeroFl=l[steps[i].a.toNat]:=by rw [List.getD_eq_getElem?_getD,List.getElem?_eq_getElem la];rfl
     have gb:l.getD steps[i].b.toNat zeroFl=l[steps[i].b.toNat]:=by rw [List.getD_eq_getElem?_getD,List.getElem?_eq_getElem lb];rfl
     have fa:=hlf _ (List.getElem_mem la);have fb:=hlf _ (List.getElem_mem lb);have hd:=zmP steps[i].op;rw [List.drop_eq_getElem_cons hil,runS,ga,gb] at hrun;have hfs:=zeN (op:=steps[i].op) fa fb;rcases hop with hop|hop|hop|hop
     ·rw [show zbc steps[i].op=.x (.f (.func 123) [] []) by unfold zbc;rw [if_pos hop]] at hd;have sp:=zjX (f:=123) (.inl ⟨hop,rfl⟩) fa fb;generalize FoT.stepM steps[i].op l[steps[i].a.toNat] l[steps[i].b.toNat]=X at sp hrun hfs;by_cases hX:X.2=0
      ·rw [if_pos hX] at hrun;repeat' first|refine zd ?_|refine zc ?_|((first|refine zf ?_|refine zk ?_|refine zi ?_|refine regA ?_|refine drM (id:=22) 18 [16] true [0,1,3,0,0,16,56,120,0,0,512,1792,3840,8191,16383,32767,32767,0,196607,524287] ?_|refine LateGo.mk ⟨.x .j,rfl,?_⟩|fail);conv=>whnf)|exact abA hb|((first|refine⟨_,fun _=>hd _,?_⟩|refine zsp (sp) ?_|fail);conv=>whnf)|(refine zso rfl (fun hb=>?_) (fun hb=>?_))|((first|refine zsq ?_|refine andA ?_|with_reducible refine exA fun _=>?_|with_reducible refine Exists.intro _ (And.intro (ze (zh (by omega) (by omega))) (And.intro (And.intro (Nat.le_of_ble_eq_true rfl) rfl) ?_))|with_reducible refine Exists.intro _ (And.intro (zh (by omega) (by omega)) (And.intro (Nat.le_of_ble_eq_true rfl) ?_))|fail);conv=>whnf)|fail
       have e:(l.map flPV).set steps[i].to.toNat (flPV X.1)=(l.set steps[i].to.toNat X.1).map flPV:=by rw [List.map_set]
       exact⟨(i+1,l.set steps[i].to.toNat X.1,sm),⟨by show i+1≤_;omega,hrun,by show (l.set _ _).length=_;rw [List.length_set,hll],fun y hy=>by
        rcases List.mem_or_eq_of_mem_set hy with hy|rfl
        ·exact hlf y hy
        ·exact hfs⟩,by show steps.length - (i+1) < steps.length - i;omega,impA⟩
      ·rw [if_neg hX] at hrun;rw [zoB h0 hbr hbs hrun];repeat' first|refine zd ?_|refine zc ?_|((first|refine zf ?_|refine zk ?_|refine zi ?_|refine regA ?_|refine drM (id:=22) 18 [16] true [0,1,3,0,0,16,56,120,0,0,512,1792,3840,8191,16383,32767,32767,0,196607,524287] ?_|refine LateGo.mk ⟨.x .j,rfl,?_⟩|fail);conv=>whnf)|exact abA hb|((first|refine⟨_,fun _=>hd _,?_⟩|refine zsp (sp) ?_|fail);conv=>whnf)|(refine zso rfl (fun hb=>?_) (fun hb=>?_))|((first|refine andA ?_|with_reducible refine exA fun _=>?_|with_reducible refine Exists.intro _ (And.intro (ze (zh (by omega) (by omega))) (And.intro (And.intro (Nat.le_of_ble_eq_true rfl) rfl) ?_))|fail);conv=>whnf)|fail
       exact⟨_,rfl,leN3⟩
     ·rw [show zbc steps[i].op=.x (.f (.func 124) [] []) by unfold zbc;rw [if_neg (by omega),if_pos hop]] at hd;have sp:=zjX (f:=124) (.inr (.inl ⟨hop,rfl⟩)) fa fb;generalize FoT.stepM steps[i].op l[steps[i].a.toNat] l[steps[i].b.toNat]=X at sp hrun hfs;by_cases hX:X.2=0
      ·rw [if_pos hX] at hrun;repeat' first|refine zd ?_|refine zc ?_|((first|refine zf ?_|refine zk ?_|refine zi ?_|refine regA ?_|refine drM (id:=22) 18 [16] true [0,1,3,0,0,16,56,120,0,0,512,1792,3840,8191,16383,32767,32767,0,196607,524287] ?_|refine LateGo.mk ⟨.x .j,rfl,?_⟩|fail);conv=>whnf)|exact abA hb|((first|refine⟨_,fun _=>hd _,?_⟩|refine zsp (sp) ?_|fail);conv=>whnf)|(refine zso rfl (fun hb=>?_) (fun hb=>?_))|((first|refine zsq ?_|refine andA ?_|with_reducible refine exA fun _=>?_|with_reducible refine Exists.intro _ (And.intro (ze (zh (by omega) (by omega))) (And.intro (And.intro (Nat.le_of_ble_eq_true rfl) rfl) ?_))|with_reducible refine Exists.intro _ (And.intro (zh (by omega) (by omega)) (And.intro (Nat.le_of_ble_eq_true rfl) ?_))|fail);conv=>whnf)|fail
       have e:(l.map flPV).set steps[i].to.toNat (flPV X.1)=(l.set steps[i].to.toNat X.1).map flPV:=by rw [List.map_set]
       exact⟨(i+1,l.set steps[i].to.toNat X.1,sm),⟨by show i+1≤_;omega,hrun,by show (l.set _ _).length=_;rw [List.length_set,hll],fun y hy=>by
        rcases List.mem_or_eq_of_mem_set hy with hy|rfl
        ·exact hlf y hy
        ·exact hfs⟩,by show steps.length - (i+1) < steps.length - i;omega,impA⟩
      ·rw [if_neg hX] at hrun;rw [zoB h0 hbr hbs hrun];repeat' first|refine zd ?_|refine zc ?_|((first|refine zf ?_|refine zk ?_|refine zi ?_|refine regA ?_|refine drM (id:=22) 18 [16] true [0,1,3,0,0,16,56,120,0,0,512,1792,3840,8191,16383,32767,32767,0,196607,524287] ?_|refine LateGo.mk ⟨.x .j,rfl,?_⟩|fail);conv=>whnf)|exact abA hb|((first|refine⟨_,fun _=>hd _,?_⟩|refine zsp (sp) ?_|fail);conv=>whnf)|(refine zso rfl (fun hb=>?_) (fun hb=>?_))|((first|refine andA ?_|with_reducible refine exA fun _=>?_|with_reducible refine Exists.intro _ (And.intro (ze (zh (by omega) (by omega))) (And.intro (And.intro (Nat.le_of_ble_eq_true rfl) rfl) ?_))|fail);conv=>whnf)|fail
       exact⟨_,rfl,leN3⟩
     ·rw [show zbc steps[i].op=.x (.f (.func 125) [] []) by unfold zbc;rw [if_neg (by omega),if_neg (by omega),if_pos hop]] at hd;have sp:=zjX (f:=125) (.inr (.inr (.inl ⟨hop,rfl⟩))) fa fb;generalize FoT.stepM steps[i].op l[steps[i].a.toNat] l[steps[i].b.toNat]=X at sp hrun hfs;by_cases hX:X.2=0
      ·rw [if_pos hX] at hrun;repeat' first|refine zd ?_|refine zc ?_|((first|refine zf ?_|refine zk ?_|refine zi ?_|refine regA ?_|refine drM (id:=22) 18 [16] true [0,1,3,0,0,16,56,120,0,0,512,1792,3840,8191,16383,32767,32767,0,196607,524287] ?_|refine LateGo.mk ⟨.x .j,rfl,?_⟩|fail);conv=>whnf)|exact abA hb|((first|refine⟨_,fun _=>hd _,?_⟩|refine zsp (sp) ?_|fail);conv=>whnf)|(refine zso rfl (fun hb=>?_) (fun hb=>?_))|((first|refine zsq ?_|refine andA ?_|with_reducible refine exA fun _=>?_|with_reducible refine Exists.intro _ (And.intro (ze (zh (by omega) (by omega))) (And.intro (And.intro (Nat.le_of_ble_eq_true rfl) rfl) ?_))|with_reducible refine Exists.intro _ (And.intro (zh (by omega) (by omega)) (And.intro (Nat.le_of_ble_eq_true rfl) ?_))|fail);conv=>whnf)|fail
       have e:(l.map flPV).set steps[i].to.toNat (flPV X.1)=(l.set steps[i].to.toNat X.1).map flPV:=by rw [List.map_set]
       exact⟨(i+1,l.set steps[i].to.toNat X.1,sm),⟨by show i+1≤_;omega,hrun,by show (l.set _ _).length=_;rw [List.length_set,hll],fun y hy=>by
        rcases List.mem_or_eq_of_mem_set hy with hy|rfl
        ·exact hlf y hy
        ·exact hfs⟩,by show steps.length - (i+1) < steps.length - i;omega,impA⟩
      ·rw [if_neg hX] at hrun;rw [zoB h0 hbr hbs hrun];repeat' first|refine zd ?_|refine zc ?_|((first|refine zf ?_|refine zk ?_|refine zi ?_|refine regA ?_|refine drM (id:=22) 18 [16] true [0,1,3,0,0,16,56,120,0,0,512,1792,3840,8191,16383,32767,32767,0,196607,524287] ?_|refine LateGo.mk ⟨.x .j,rfl,?_⟩|fail);conv=>whnf)|exact abA hb|((first|refine⟨_,fun _=>hd _,?_⟩|refine zsp (sp) ?_|fail);conv=>whnf)|(refine zso rfl (fun hb=>?_) (fun hb=>?_))|((first|refine andA ?_|with_reducible refine exA fun _=>?_|with_reducible refine Exists.intro _ (And.intro (ze (zh (by omega) (by omega))) (And.intro (And.intro (Nat.le_of_ble_eq_true rfl) rfl) ?_))|fail);conv=>whnf)|fail
       exact⟨_,rfl,leN3⟩
     ·rw [show zbc steps[i].op=.x (.f (.func 126) [] []) by unfold zbc;rw [if_neg (by omega),if_neg (by omega),if_neg (by omega),if_pos hop]] at hd;have sp:=zjX (f:=126) (.inr (.inr (.inr ⟨hop,rfl⟩))) fa fb;generalize FoT.stepM steps[i].op l[steps[i].a.toNat] l[steps[i].b.toNat]=X at sp hrun hfs;by_cases hX:X.2=0
      ·rw [if_pos hX] at hrun;repeat' first|refine zd ?_|refine zc ?_|((first|refine zf ?_|refine zk ?_|refine zi ?_|refine regA ?_|refine drM (id:=22) 18 [16] true [0,1,3,0,0,16,56,120,0,0,512,1792,3840,8191,16383,32767,32767,0,196607,524287] ?_|refine LateGo.mk ⟨.x .j,rfl,?_⟩|fail);conv=>whnf)|exact abA hb|((first|refine⟨_,fun _=>hd _,?_⟩|refine zsp (sp) ?_|fail);conv=>whnf)|(refine zso rfl (fun hb=>?_) (fun hb=>?_))|((first|refine zsq ?_|refine andA ?_|with_reducible refine exA fun _=>?_|with_reducible refine Exists.intro _ (And.intro (ze (zh (by omega) (by omega))) (And.intro (And.intro (Nat.le_of_ble_eq_true rfl) rfl) ?_))|with_reducible refine Exists.intro _ (And.intro (zh (by omega) (by omega)) (And.intro (Nat.le_of_ble_eq_true rfl) ?_))|fail);conv=>whnf)|fail
       have e:(l.map flPV).set steps[i].to.toNat (flPV X.1)=(l.set steps[i].to.toNat X.1).map flPV:=by rw [List.map_set]
       exact⟨(i+1,l.set steps[i].to.toNat X.1,sm),⟨by show i+1≤_;omega,hrun,by show (l.set _ _).length=_;rw [List.length_set,hll],fun y hy=>by
        rcases List.mem_or_eq_of_mem_set hy with hy|rfl
        ·exact hlf y hy
        ·exact hfs⟩,by show steps.length - (i+1) < steps.length - i;omega,impA⟩
      ·rw [if_neg hX] at hrun;rw [zoB h0 hbr hbs hrun];repeat' first|refine zd ?_|refine zc ?_|((first|refine zf ?_|refine zk ?_|refine zi ?_|refine regA ?_|refine drM (id:=22) 18 [16] true [0,1,3,0,0,16,56,120,0,0,512,1792,3840,8191,16383,32767,32767,0,196607,524287] ?_|refine LateGo.mk ⟨.x .j,rfl,?_⟩|fail);conv=>whnf)|exact abA hb|((first|refine⟨_,fun _=>hd _,?_⟩|refine zsp (sp) ?_|fail);conv=>whnf)|(refine zso rfl (fun hb=>?_) (fun hb=>?_))|((first|refine andA ?_|with_reducible refine exA fun _=>?_|with_reducible refine Exists.intro _ (And.intro (ze (zh (by omega) (by omega))) (And.intro (And.intro (Nat.le_of_ble_eq_true rfl) rfl) ?_))|fail);conv=>whnf)|fail
       exact⟨_,rfl,leN3⟩
    ·have hie:i=steps.length:=by omega
     subst hie;rw [List.drop_eq_nil_of_le (Nat.le_refl _),runS] at hrun;rw [zr9 h0 hbr hbs hrun];repeat' first|refine zd ?_|refine zc ?_|((first|refine zf ?_|refine zk ?_|refine zi ?_|refine regA ?_|fail);conv=>whnf)|exact abA hb|(refine zso rfl (fun hb=>?_) (fun hb=>?_))|fail
     exact⟨_,zr0 rfl rfl rfl rfl (by omega),lcE (by rw [List.take_of_length_le (by omega)])⟩
end Go.Proofs.YtdgkljfpaddfpaaGreatDoor
namespace Go.Proofs.YtdgkljfpaddfpaaGreatDoor
open Go Go.QL FoT
set_option maxHeartbeats 3200000
attribute [local irreducible] ACall FnC fine ten zav zD
theorem znK {k a b:Int}:zP (opV k a b % 16777216):=by unfold zP;omega
theorem zkN {words:List Int} {n:FNode} (hw:∀ v ∈ words,zP v) (hk:n.kind=1∨n.kind=2) (hf:fine words.length n):zP (zcw words 0 n):=by
 unfold zcw;by_cases k1:n.kind=1
 ·rw [if_pos k1];unfold fine at hf;rw [if_pos k1] at hf;rw [List.getD_eq_getElem?_getD,List.getElem?_eq_getElem (by omega)];exact hw _ (List.getElem_mem (by omega))
 ·rw [if_neg k1];obtain⟨a,b,_,_⟩:=zha (by omega) hf;exact⟨a,by omega⟩
theorem zro (f:FormT) (hc:zD f=0) (words:List Int) (hn:words.length=f.vars.length) (hw:∀ v ∈ words,zP v) :
  ACall Tryz.prog 17 [zaB f,.x (.f (.func 18) [] [.b 100 0]),.x (.f (.func 20) [] [.b 101 0])] (evS words)
   (fun r σ'=>r=iv .i64 (valF f words)∧σ'=evS words):=by
 refine (zox f hc words (fun i st=>(∀ v ∈ st,zP v)∧zaN 0 (zcw words) zdQ 0 f.code []=zaN 0 (zcw words) zdQ i (f.code.drop i) st) ⟨by simp,rfl⟩ ?_ ?_).mono ?_
 ·rintro i st hi hk hf ⟨h1,h2⟩;rw [← hn] at hf;refine⟨zcw words 0 f.code[i],⟨fun v hv=>?_,?_⟩,zrf words i _ hk hf⟩
  ·rcases List.mem_append.1 hv with hv|hv
   ·exact h1 v hv
   ·rw [List.mem_singleton.1 hv];exact zkN hw hk hf
  ·rw [h2,List.drop_eq_getElem_cons hi,zaN,if_pos (by omega)];rfl
 ·rintro i st a b hi hk ⟨h1,h2⟩;refine⟨zdQ 0 f.code[i] a b,⟨fun v hv=>?_,?_⟩,zre words i _ a b hk (h1 a (by simp)) (h1 b (by simp))⟩
  ·rcases List.mem_append.1 hv with hv|hv
   ·exact h1 v (by simp [hv])
   ·rw [List.mem_singleton.1 hv];exact znK
  ·rw [h2,List.drop_eq_getElem_cons hi,zaN,if_neg (by omega)];simp only [List.length_append,List.length_cons,List.length_nil];rw [List.take_left' (by omega)];congr 2
   simp [zdQ,List.getD_eq_getElem?_getD]
 ·rintro r σ' ⟨⟨x,⟨_,hx⟩,rfl⟩,rfl⟩;refine⟨?_,rfl⟩
  rw [List.drop_eq_nil_of_le (Nat.le_refl _)] at hx;unfold valF;rw [hx];rfl
theorem zkz (words:List Int):(words.any fun x=>outB x 0 16777215) = !(words.all fun v=>decide (zP v)):=by
 induction words with
 | nil=>rfl
 | cons v r ih=>
  rw [List.any_cons,List.all_cons,ih,zcE,Bool.not_and];rw [decide_not];rfl
theorem znJ (f:FormT) (words:List Int):FnC Tryz.prog 5 [zaB f,sl words] (.t [iv .i64 (zdU f words).1,iv .i64 (zdU f words).2]):=by
 have hlv:(f.vars.map zaa).length=f.vars.length:=List.length_map _;have hlw:(words.map fun n:Int=>[PV.v (.int .i64 n)]).length=words.length:=List.length_map _;have ck:=ziO f;unfold zdU;by_cases h0:zD f=0
 ·rw [if_neg (by omega)];rw [h0] at ck;obtain⟨hv8,_⟩:=zbD h0;by_cases h1:words.length=f.vars.length
  ·rw [if_neg (by omega)];have hcf:=zdc 14 [] (fun x=>outB x 0 16777215) words [] (fun x _=>zo8 x);rw [zkz] at hcf;have hcf':=fun {σ:Sg}=>zdc 14 [] (fun x=>outB x 0 16777215) words σ (fun x _=>zo8 x)
   rw [zkz] at hcf';by_cases h2:(words.all fun w=>decide (zP w))=false
   ·rw [if_pos h2];rw [h2] at hcf';refine hdC Tryz.func5 Tryz.ntmps5 (res:=[.tmp 4,.tmp 5]) fun w0 K0=>?_
    repeat' first|refine zd ?_|refine zc ?_|((first|refine zf ?_|refine zi ?_|refine regA ?_|fail);conv=>whnf)|exact abA hb|((first|refine zsn (ck) ?_|((refine⟨_,hcf',?_⟩);(rintro _ _ ⟨rfl,rfl⟩))|fail);conv=>whnf)|(refine zst rfl ?_)|(refine zss rfl ?_)|(refine zso rfl (fun hb=>?_) (fun hb=>?_))|((refine andA ?_);conv=>whnf)|(refine lnA fun hln=>?_;conv=>whnf)|fail
    rfl
   ·rw [if_neg h2];rw [Bool.not_eq_false] at h2;rw [h2] at hcf';have cp:=zro f h0 words h1 (by simpa using h2);refine hdC Tryz.func5 Tryz.ntmps5 (res:=[.tmp 4,.tmp 5]) fun w0 K0=>?_
    repeat' first|refine zd ?_|refine zc ?_|((first|refine zf ?_|refine zi ?_|refine regA ?_|fail);conv=>whnf)|exact abA hb|((first|refine zsn (ck) ?_|((refine⟨_,hcf',?_⟩);(rintro _ _ ⟨rfl,rfl⟩))|refine frA (zlR) [(2,102)] ?_|refine frA (cp) [(100,3),(101,7)] ?_|fail);conv=>whnf)|(refine zss rfl ?_)|(refine zso rfl (fun hb=>?_) (fun hb=>?_))|((refine andA ?_);conv=>whnf)|(refine lnA fun hln=>?_;conv=>whnf)|fail
    rfl
  ·rw [if_pos h1];refine hdC Tryz.func5 Tryz.ntmps5 (res:=[.tmp 4,.tmp 5]) fun w0 K0=>?_
   repeat' first|refine zd ?_|refine zc ?_|((first|refine zf ?_|refine zi ?_|refine regA ?_|fail);conv=>whnf)|exact abA hb|((refine zsn (ck) ?_);conv=>whnf)|(refine zss rfl ?_)|(refine zso rfl (fun hb=>?_) (fun hb=>?_))|((refine andA ?_);conv=>whnf)|(refine lnA fun hln=>?_;conv=>whnf)|fail
   rfl
 ·rw [if_pos h0];refine hdC Tryz.func5 Tryz.ntmps5 (res:=[.tmp 4,.tmp 5]) fun w0 K0=>?_
  repeat' first|refine zd ?_|refine zc ?_|((first|refine zf ?_|refine zi ?_|refine regA ?_|refine zsn (ck) ?_|fail);conv=>whnf)|(exact absurd hb h0)|(refine zso rfl (fun hb=>?_) (fun hb=>?_))|fail
  rfl
end Go.Proofs.YtdgkljfpaddfpaaGreatDoor
namespace Go.Proofs.YtdgkljfpaddfpaaGreatDoor
open Go Go.QL FoT
set_option maxHeartbeats 3200000
attribute [local irreducible] ACall FnC
def exF:FormT:=⟨[[97],[98]],[⟨1,0,0,0⟩,⟨1,1,0,0⟩,⟨2,0,25,2⟩,⟨4,0,0,0⟩,⟨5,0,0,0⟩,⟨1,1,0,0⟩,⟨3,0,0,0⟩]⟩
theorem zo7:FnC Tryz.prog 26 [] (zaB exF):=by
 refine hdC Tryz.func26 Tryz.ntmps26 (res:=[.cell 0 26]) fun w0 K0=>?_
 repeat' first|refine zd ?_|((first|refine zi ?_|refine regA ?_|fail);conv=>whnf)|fail
 rfl
theorem zln (a b:Int):FnC Tryz.prog 28 [iv .i64 a,iv .i64 b] (.a [.d (.v (.int .i64 a)),.d (.v (.int .i64 b))]):=by
 refine hdC Tryz.func28 Tryz.ntmps28 (res:=[.cell 4 67]) fun w0 K0=>?_
 repeat' first|refine zd ?_|((first|refine zi ?_|refine regA ?_|fail);conv=>whnf)|fail
 rfl
def exR:List FloT:=[⟨4194304,1⟩,⟨-6291456,6⟩]
def exS:List StepT:=[⟨3,0,1,0⟩,⟨5,0,1,1⟩]
theorem zo6:FnC Tryz.prog 32 [] (zdT exR):=by
 refine hdC Tryz.func32 Tryz.ntmps32 (res:=[.tmp 0]) fun w0 K0=>?_
 repeat' first|refine zd ?_|((first|refine zi ?_|refine regA ?_|fail);conv=>whnf)|fail
 rfl
theorem zrd:FnC Tryz.prog 33 [] (zhW exS):=by
 refine hdC Tryz.func33 Tryz.ntmps33 (res:=[.tmp 0]) fun w0 K0=>?_
 repeat' first|refine zd ?_|((first|refine zi ?_|refine regA ?_|fail);conv=>whnf)|fail
 rfl
theorem zmL (x:Int):eqV (Value.int .i64 x) (Value.int .i64 x)=true:=by simp [eqV]
theorem znO {a b c d:Int} {P:Prop} (h:eqL [Value.int .i64 a,Value.int .i64 b,Value.int .i64 c,Value.int .i64 d] [Value.int .i64 a,Value.int .i64 b,Value.int .i64 c,Value.int .i64 d]=false):P:=by
 simp [eqL,zmL] at h
theorem zq8 {a b:Int} {P:Prop} (h:eqL [Value.int .i64 a,Value.int .i64 b] [Value.int .i64 a,Value.int .i64 b]=false):P:=by
 simp [eqL,zmL] at h
theorem zdu (a:FormT):FnC Tryz.prog 34 [zaB a,zaB a] (bv true):=by
 have hlv:(a.vars.map zaa).length=a.vars.length:=List.length_map _;have hlc:(a.code.map ndPV).length=a.code.length:=List.length_map _;refine hdC Tryz.func34 Tryz.ntmps34 (res:=[.tmp 4]) fun w0 K0=>?_
 repeat' first|refine zd ?_|refine zc ?_|((first|refine zf ?_|refine regA ?_|refine pkA ?_|fail);conv=>whnf)|(refine za rfl (zM (by simp)) (fun _=>?_))|(refine lnA fun hln=>?_;conv=>whnf)|fail
 refine zJ (fun i:Nat=>[(5,iv .i64 i),(4,bv false),(3,.x (.b 3 0)),(2,.x (.b 2 0))]) (fun _=>[(3,.box [.d (zac a.vars),.d (zS a.code)]),(2,.box [.d (zac a.vars),.d (zS a.code)])]) (fun i=>i≤a.vars.length) (fun i=>a.vars.length - i) 0 (Nat.zero_le _) impA ?_
 intro i hi;rcases Nat.lt_or_ge i a.vars.length with hil|hil
 ·repeat' first|refine zd ?_|refine zc ?_|((first|refine zf ?_|refine zk ?_|refine zi ?_|refine regA ?_|refine drA (id:=6) 10 false [0,1,0,7,15,0,32,0,224,480,1023] ?_|fail);conv=>whnf)|exact abA hb|(exact (hb trivial).elim)|(refine zso rfl (fun hb=>?_) (fun hb=>?_))|((first|refine zsq ?_|refine andA ?_|with_reducible refine exA fun _=>?_|fail);conv=>whnf)|(refine lnA fun hln=>?_;conv=>whnf)|fail
  exact⟨i+1,by omega,by omega,impA⟩
 ·repeat' first|refine zd ?_|refine zc ?_|((first|refine zf ?_|refine zk ?_|refine regA ?_|refine drA (id:=6) 10 false [0,1,0,7,15,0,32,0,224,480,1023] ?_|fail);conv=>whnf)|exact abA hb|(refine zso rfl (fun hb=>?_) (fun hb=>?_))|((refine andA ?_);conv=>whnf)|(refine lnA fun hln=>?_;conv=>whnf)|fail
  refine zJ (fun i:Nat=>[(6,iv .i64 i),(4,bv false),(3,.x (.b 3 0)),(2,.x (.b 2 0))]) (fun _=>[(3,.box [.d (zac a.vars),.d (zS a.code)]),(2,.box [.d (zac a.vars),.d (zS a.code)])]) (fun i=>i≤a.code.length) (fun i=>a.code.length - i) 0 (Nat.zero_le _) impA ?_
  intro j hj;rcases Nat.lt_or_ge j a.code.length with hjl|hjl
  ·repeat' first|refine zd ?_|refine zc ?_|((first|refine zf ?_|refine zk ?_|refine zi ?_|refine regA ?_|refine drA (id:=11) 10 false [0,1,0,7,15,0,32,0,224,480,1023] ?_|fail);conv=>whnf)|exact abA hb|(exact znO hb)|(refine zso rfl (fun hb=>?_) (fun hb=>?_))|((first|refine zsq ?_|refine andA ?_|with_reducible refine exA fun _=>?_|fail);conv=>whnf)|(refine lnA fun hln=>?_;conv=>whnf)|fail
   exact⟨j+1,by omega,by omega,impA⟩
  ·repeat' first|refine zd ?_|refine zc ?_|((first|refine zf ?_|refine zk ?_|refine zi ?_|refine regA ?_|refine drA (id:=11) 10 false [0,1,0,7,15,0,32,0,224,480,1023] ?_|fail);conv=>whnf)|exact abA hb|(refine zso rfl (fun hb=>?_) (fun hb=>?_))|((refine andA ?_);conv=>whnf)|(refine lnA fun hln=>?_;conv=>whnf)|fail
   rfl
theorem zfC (a:List FloT):FnC Tryz.prog 35 [zdT a,zdT a] (bv true):=by
 have hl:(a.map flPV).length=a.length:=List.length_map _;refine hdC Tryz.func35 Tryz.ntmps35 (res:=[.tmp 4]) fun w0 K0=>?_
 repeat' first|refine zd ?_|refine zc ?_|((first|refine zf ?_|refine regA ?_|fail);conv=>whnf)|(refine za rfl (zM (by simp)) (fun _=>?_))|(refine lnA fun hln=>?_;conv=>whnf)|fail
 refine zJ (fun i:Nat=>[(5,iv .i64 i),(4,bv false),(1,zdT a),(0,zdT a)]) (fun _=>[]) (fun i=>i≤a.length) (fun i=>a.length - i) 0 (Nat.zero_le _) impA ?_
 intro j hj;rcases Nat.lt_or_ge j a.length with hjl|hjl
 ·repeat' first|refine zd ?_|refine zc ?_|((first|refine zf ?_|refine zk ?_|refine zi ?_|refine regA ?_|refine drA (id:=6) 8 false [0,0,3,7,0,0,48,112,255] ?_|fail);conv=>whnf)|exact abA hb|(exact zq8 hb)|(refine zso rfl (fun hb=>?_) (fun hb=>?_))|((first|refine zsq ?_|refine andA ?_|with_reducible refine exA fun _=>?_|fail);conv=>whnf)|(refine lnA fun hln=>?_;conv=>whnf)|fail
  exact⟨j+1,by omega,by omega,impA⟩
 ·repeat' first|refine zd ?_|refine zc ?_|((first|refine zf ?_|refine zk ?_|refine zi ?_|refine regA ?_|refine drA (id:=6) 8 false [0,0,3,7,0,0,48,112,255] ?_|fail);conv=>whnf)|exact abA hb|(refine zso rfl (fun hb=>?_) (fun hb=>?_))|(refine lnA fun hln=>?_;conv=>whnf)|fail
  rfl
end Go.Proofs.YtdgkljfpaddfpaaGreatDoor
namespace Go.Proofs.YtdgkljfpaddfpaaGreatDoor
open Go Go.QL FoT
set_option maxHeartbeats 12800000
set_option maxRecDepth 100000
theorem zqp:zbH [97,42,40,98,45,48,46,50,53,41,43,98]=(exF,0,0):=by decide +kernel
theorem zrt:zbH [97,42,40,98,45,48,46,50,53,48,41,43,98]=(zdw,5,6):=by decide +kernel
theorem zoD:zd0 exF=([97,42,40,98,45,48,46,50,53,41,43,98],0):=by decide +kernel
theorem zqq:zdU exF [4194304,4194304]=(5242880,0):=by decide +kernel
theorem zoE:z8 exF [⟨0,4194304⟩,⟨2097152,4194304⟩]=(⟨2097152,5242880,2⟩,0,0):=by decide +kernel
theorem zm4:zbN exF=(⟨[12584321,12584450,2279171,2295684,2312197,6555526,8636167,2295688,4441865,14909450,0,0,0,2097152,0,0,0],0,11⟩,0):=by decide +kernel
theorem zoF:zaj (-3) 4=(⟨-6291456,6⟩,0):=by decide +kernel
theorem zqr:zaC exR exS=([⟨-6160384,6⟩,⟨4620288,12⟩],0,0):=by decide +kernel
attribute [local irreducible] ACall FnC
theorem zcK:FnC Tryz.prog 7 [] (bv true):=by
 have r1:=zbK [97,42,40,98,45,48,46,50,53,41,43,98];rw [zqp] at r1;have r2:=zbK [97,42,40,98,45,48,46,50,53,48,41,43,98];rw [zrt] at r2;have w1:=zcX exF;rw [zoD] at w1;have e1:=znJ exF [4194304,4194304];rw [zqq] at e1;have g1:=zeg exF [⟨0,4194304⟩,⟨2097152,4194304⟩];rw [zoE] at g1;have c1:=zg0 exF;rw [zm4] at c1;have f1:=zei (-3) 4;rw [if_pos (by decide),zoF] at f1;have k1:=za5 exR exS (by
  intro x hx;simp [exR] at hx;rcases hx with rfl|rfl <;> (unfold i64;decide))
 rw [zqr] at k1;have fx:=zo7;have fr:=zo6;have fs:=zrd;have sp:=zln;have ff:=zdu exF;have fl:=zfC [⟨-6160384,6⟩,⟨4620288,12⟩];dsimp only at r1 r2 w1 e1 g1 c1 f1 k1;refine hdC Tryz.func7 Tryz.ntmps7 (res:=[.tmp 0]) fun w0 K0=>?_
 repeat' first|refine zd ?_|((first|refine zi ?_|refine regA ?_|refine drA (id:=9) 80 true [0,1,3,7,15,31,63,127,255,511,1023,2047,4095,8191,16383,32767,65535,131071,262143,524287,1048575,2097151,4194303,8388607,16777215,33554431,67108863,134217727,268435455,536870911,1073741823,2147483647,4294967295,8589934591,17179869183,34359738367,68719476735,137438953471,274877906943,549755813887,549755813887,2199023255551,4398046511103,8796093022207,17592186044415,35184372088831,70368744177663,140737488355327,281474976710655,562949953421311,1125899906842623,2251799813685247,4503599627370495,4503599627370495,13510798882111487,36028797018963967,72057594037927935,144115188075855871,288230376151711743,576460752303423487,1152921504606846975,2305843009213693951,4611686018427387903,9223372036854775807,18446744073709551615,36893488147419103231,73786976294838206463,147573952589676412927,295147905179352825855,590295810358705651711,590295810358705651711,1770887431076116955135,4132070672510939561983,9444732965739290427391,18889465931478580854783,37778931862957161709567,75557863725914323419135,75557863725914323419135,75557863725914323419135,528905046081400263933951,1208925819614629174706175,2417851639229258349412351,4835703278458516698824703] ?_|refine zsn (fx) ?_|refine zsr (fx) ?_|refine zsn ((sp _ _)) ?_|refine zsr ((sp _ _)) ?_|refine zsn (fr) ?_|refine zsr (fr) ?_|refine zsn (fs) ?_|refine zsn (r1) ?_|refine zsn (w1) ?_|refine zsn (e1) ?_|refine zsn (g1) ?_|refine zsn (c1) ?_|refine zsn (f1) ?_|refine zsn (k1) ?_|refine zsn (r2) ?_|refine zsr (ff) ?_|refine zsp (fl) ?_|refine pkA ?_|refine⟨_,ze ⟨by decide,rfl⟩,?_⟩|refine andA ?_|fail);conv=>whnf)|fail
 have hq:((bs [97,42,40,98,45,48,46,50,53,41,43,98]).toList == (ByteArray.mk #[97,42,40,98,45,48,46,50,53,41,43,98]).toList)=true:=(zdf [97,42,40,98,45,48,46,50,53,41,43,98] [97,42,40,98,45,48,46,50,53,41,43,98]).trans (by decide);refine congrArg some (congrArg bv (?_:(_:Bool)=true))
 rw [hq];rfl
end Go.Proofs.YtdgkljfpaddfpaaGreatDoor
namespace Go.Proofs.YtdgkljfpaddfpaaGreatDoor
open Go Go.QL FoT
abbrev zkE (l:List UInt32):PV:=.s 1 (l.map fun w=>[PV.v (.int .u32 w.toNat)])
abbrev zsd (spans:List SpanT) (words:List UInt32):AV:=.a [.d (zcS spans),.d (zkE words)]
def a2AV (a b:Int):AV:=.a [.d (.v (.int .i64 a)),.d (.v (.int .i64 b))]
abbrev ztq (l:List SpanT):AV:=.x (.d (zcS l))
end Go.Proofs.YtdgkljfpaddfpaaGreatDoor
namespace Go.QL
open Go Go.RowKit
section
variable {P:Program} {Γ:Cx} {fr:Fr} {σ:Sg} {Q:Exit→Fr→Sg→Prop}
def Rnd (P:Program) (Γ:Cx) (c:Code) (Q:Exit→Fr→Sg→Prop):Nat→Fr→Sg→Prop
 | 0,_,_=>False
 | m+1,fr,σ=>AW P Γ c (Exit.thn (Rnd P Γ c Q m) Q) fr σ
theorem Rnd.mk {c:Code} {m:Nat} (h:AW P Γ c (Exit.thn (Rnd P Γ c Q m) Q) fr σ):Rnd P Γ c Q (m+1) fr σ:=h
theorem AW_rounds {c:Code} (m:Nat) (h:Rnd P Γ c Q m fr σ):AW P Γ (.loop c) Q fr σ:=by
 refine AW.mk fun hL g a w hr=>wpIn_loop_rounds m ?_
 induction m generalizing fr σ g a w with
 | zero=>exact h.elim
 | succ m ih=>
  refine wpIn_mono (AW.use h hL hr) ?_
  rintro e a' w' ⟨fr1,σ1,g1,r1,hq⟩;cases e with
  | normal=>exact ih hq g1 a' w' r1
  | _=>exact⟨fr1,σ1,g1,r1,hq⟩
end
attribute [irreducible] Rnd
end Go.QL
namespace Go.QL
open Go Go.RowKit
def gB (gd:Option Bool) (b:Bool):Bool:=match gd with|some false=>true|_=>b
theorem gB_ok {gd:Option Bool} {p:Prop} [Decidable p] (h:gB gd (decide p)=true):Gd gd p:=by
 match gd,h with
 | none,h=>exact (of_decide_eq_true h:p)
 | some true,h=>exact fun _=>(of_decide_eq_true h:p)
 | some false,_=>exact fun e=>by cases e
theorem gB_ok' {gd:Option Bool} {p:Prop} {b:Bool} (h:gB gd b=true) (hb:b=true→p):Gd gd p:=by
 match gd,h with
 | none,h=>exact hb h
 | some true,h=>exact fun _=>hb h
 | some false,_=>exact fun e=>by cases e
def bInt (gd:Option Bool) (op:BinOp) (k1 k2:IntKind) (a b:Int) (k:AV→Bool):Bool:=
 match op with
 | .shl=>gB gd (decide (0≤b)) && k (iv k1 (k1.wrap (a * 2 ^ (min b.toNat k1.bits))))
 | .shr=>gB gd (decide (0≤b)) && k (iv k1 (a.fdiv (2 ^ (min b.toNat k1.bits))))
 | .add=>decide (k1=k2) && k (iv k1 (k1.wrap (a+b)))
 | .sub=>decide (k1=k2) && k (iv k1 (k1.wrap (a - b)))
 | .mul=>decide (k1=k2) && k (iv k1 (k1.wrap (a * b)))
 | .quo=>decide (k1=k2) && (gB gd (decide (b≠0)) && k (iv k1 (k1.wrap (a.tdiv b))))
 | .rem=>decide (k1=k2) && (gB gd (decide (b≠0)) && k (iv k1 (a.tmod b)))
 | .and|.or|.xor|.andNot=>decide (k1=k2) && k (iv k1 (ze6 op k1 a b))
 | .eql=>decide (k1=k2) && k (bv (a == b))
 | .neq=>decide (k1=k2) && k (bv (a != b))
 | .lss=>decide (k1=k2) && k (bv (decide (a < b)))
 | .leq=>decide (k1=k2) && k (bv (decide (a≤b)))
 | .gtr=>decide (k1=k2) && k (bv (decide (b < a)))
 | .geq=>decide (k1=k2) && k (bv (decide (b≤a)))
section
variable {tt:TT} {gd:Option Bool} {σ:Sg} {kb:AV→Bool} {k:AV→Prop} {kb2:AV→Sg→Bool} {k2:AV→Sg→Prop} {kb3:Sg→Bool} {k3:Sg→Prop}
theorem bInt_ok {op:BinOp} {i1 i2:IntKind} {a b:Int} (hk:∀ v,kb v=true→k v) (h:bInt gd op i1 i2 a b kb=true):kInt op i1 i2 a b (Gd gd) k:=by
 unfold bInt at h;unfold kInt;cases op <;> simp only [Bool.and_eq_true,decide_eq_true_eq] at h ⊢;all_goals first
  | (rw [if_pos h.1];exact hk _ h.2)
  | (rw [if_pos h.1];exact⟨_,rfl,hk _ h.2⟩)
  | (rw [if_pos h.1];exact⟨gB_ok h.2.1,_,rfl,hk _ h.2.2⟩)
  | exact⟨gB_ok h.1,_,rfl,hk _ h.2⟩
def baEq (a b:ByteArray):Bool:=a.data.toList == b.data.toList
theorem baEq_is (a b:ByteArray):(a.toList == b.toList)=baEq a b:=by
 unfold baEq;rw [ByteArray.toList_eq,ByteArray.toList_eq]
def bStr (gd:Option Bool) (op:BinOp) (a b:ByteArray) (k:AV→Bool):Bool:=
 match op with
 | .add=>gB gd (decide (a.size+b.size≤maxLen)) && k (sv (a ++ b))
 | .eql=>k (bv (baEq a b))
 | .neq=>k (bv (!(baEq a b)))
 | .lss=>k (bv (Op.bytesLess a.data.toList b.data.toList))
 | _=>false
theorem bStr_ok {op:BinOp} {a b:ByteArray} (hk:∀ v,kb v=true→k v) (h:bStr gd op a b kb=true):kStr op a b (Gd gd) k:=by
 unfold bStr at h;unfold kStr;cases op <;> simp only [Bool.and_eq_true,baEq_is,ByteArray.toList_eq] at h ⊢;all_goals first
  | exact⟨gB_ok h.1,hk _ h.2⟩
  | exact hk _ h
  | (exact absurd h (by decide))
def eqVb:Value→Value→Bool
 | .int _ a,.int _ b=>a == b
 | .bool a,.bool b=>a == b
 | .string a,.string b=>baEq a b
 | _,_=>false
theorem eqV_b (a b:Value):eqV a b=eqVb a b:=by
 cases a <;> cases b <;> simp only [eqV,eqVb,baEq_is]
def eqLb:List Value→List Value→Bool
 | [],[]=>true
 | a::r,b::s=>eqVb a b && eqLb r s
 | _,_=>false
theorem eqL_b:∀ (a b:List Value),eqL a b=eqLb a b
 | [],[]=>rfl
 | a::r,b::s=>by rw [eqL,eqLb,eqV_b,eqL_b r s]
 | [],_::_=>rfl
 | _::_,[]=>rfl
def eqKb:Value→Value→Bool
 | .agg xs,.agg ys=>eqLb xs.toList ys.toList
 | a,b=>eqVb a b
theorem eqK_b (a b:Value):zhG a b=eqKb a b:=by
 cases a <;> cases b <;> simp only [zhG,eqKb,eqV_b,eqL_b]
def bBin (tt:TT) (gd:Option Bool) (op:BinOp) (xT:TypeId) (x y:AV) (k:AV→Bool):Bool:=
 match x,y with
 | .x (.d (.v (.int k1 a))),.x (.d (.v (.int k2 b)))=>bInt gd op k1 k2 a b k
 | .x (.d (.v (.string a))),.x (.d (.v (.string b)))=>bStr gd op a b k
 | .x (.d (.v (.bool a))),.x (.d (.v (.bool b)))=>
  match tt xT with
  | some ⟨.bool,_,_,_⟩=>(match op with|.eql=>k (bv (a == b))|.neq=>k (bv (!(a == b)))|_=>false)
  | _=>false
 | .a xs,.a ys=>
  match tt xT,ze9 xs,ze9 ys with
  | some ⟨.st _ (k1::ks),_,_,_⟩,some us,some vs=>(zaR (k1::ks) us && zaR (k1::ks) vs) && (match op with|.eql=>k (bv (eqLb us vs))|.neq=>k (bv (!(eqLb us vs)))|_=>false)
  | some ⟨.ar n e,_,_,_⟩,some us,some vs=>
   (match tt e with
   | some ⟨.int kk,1,_,_⟩=>(zaR (List.replicate n (.int kk)) us && zaR (List.replicate n (.int kk)) vs) && (match op with|.eql=>k (bv (eqLb us vs))|.neq=>k (bv (!(eqLb us vs)))|_=>false)
   | _=>false)
  | _,_,_=>false
 | _,_=>false
theorem bBin_ok {op:BinOp} {xT:TypeId} {x y:AV} (hk:∀ v,kb v=true→k v) (h:bBin tt gd op xT x y kb=true):kBin tt op xT x y (Gd gd) k:=by
 unfold bBin at h;unfold kBin;split at h
 ·exact bInt_ok hk h
 ·exact bStr_ok hk h
 ·split at h
  ·rename_i heq;simp only [heq];cases op <;> simp only at h ⊢ <;> first|exact hk _ h|cases h
  ·cases h
 ·split at h
  ·rename_i h1 h2 h3;simp only [h1,h2,h3,Bool.and_eq_true,eqL_b] at h ⊢;rw [if_pos h.1];have h:=h.2;cases op <;> simp only at h ⊢ <;> first|exact hk _ h|cases h
  ·rename_i h1 h2 h3;simp only [h1,h2,h3,eqL_b] at h ⊢;split at h
   ·rename_i h4;simp only [h4,Bool.and_eq_true] at h ⊢;rw [if_pos h.1];have h:=h.2;cases op <;> simp only at h ⊢ <;> first|exact hk _ h|cases h
   ·cases h
  ·cases h
 ·cases h
def bUn (op:UnOp) (x:AV) (k:AV→Bool):Bool:=
 match op,x with
 | .neg,.x (.d (.v (.int k1 a)))=>k (iv k1 (k1.wrap (0 - a)))
 | .not,.x (.d (.v (.bool b)))=>k (bv (!b))
 | .xor,.x (.d (.v (.int k1 a)))=>k (iv k1 (ze6 .xor k1 (if k1.signed then -1 else k1.max) a))
 | _,_=>false
theorem bUn_ok {op:UnOp} {x:AV} (hk:∀ v,kb v=true→k v) (h:bUn op x kb=true):kUn op x k:=by
 unfold bUn at h;unfold kUn;split at h
 ·exact⟨_,rfl,hk _ h⟩
 ·exact hk _ h
 ·exact⟨_,rfl,hk _ h⟩
 ·cases h
def bConv (tt:TT) (dst:TypeId) (x:AV) (k:AV→Bool):Bool:=
 match x with
 | .x (.d (.v (.int _ a)))=>
  match tt dst with
  | some ⟨.int k2,_,_,_⟩=>k (iv k2 (k2.wrap a))
  | _=>false
 | .x (.d (.v (.string a)))=>
  match tt dst with
  | some ⟨.str,_,_,_⟩=>k (sv a)
  | _=>false
 | _=>false
theorem bConv_ok {dst:TypeId} {x:AV} (hk:∀ v,kb v=true→k v) (h:bConv tt dst x kb=true):zn8 tt dst x k:=by
 unfold bConv at h;unfold zn8;split at h
 ·split at h
  ·rename_i heq;simp only [heq];exact⟨_,rfl,hk _ h⟩
  ·cases h
 ·split at h
  ·rename_i heq;simp only [heq];exact hk _ h
  ·cases h
 ·cases h
def bLoad (tt:TT) (σ:Sg) (T:TypeId) (x:AV) (k:AV→Bool):Bool:=
 match x,tt T with
 | .x s,some ti=>
  match zdd σ s ti.size with
  | some cs=>bif ti.d.agg then k (.a cs) else (match cs with|[c]=>k (.x c)|_=>false)
  | none=>false
 | _,_=>false
theorem bLoad_ok {T:TypeId} {x:AV} (hk:∀ v,kb v=true→k v) (h:bLoad tt σ T x kb=true):zmj tt σ T x k:=by
 unfold bLoad at h;unfold zmj;split at h
 ·rename_i ti heq;simp only [heq];split at h
  ·rename_i cs hc;simp only [hc];cases hb:ti.d.agg with
   | true=>rw [hb] at h;exact hk _ h
   | false=>
    rw [hb] at h;simp only [cond_false] at h ⊢;split at h
    ·exact hk _ h
    ·cases h
  ·cases h
 ·cases h
def bFieldAddr (tt:TT) (T:TypeId) (x:AV) (f:Nat) (k:AV→Bool):Bool:=
 match tt T with
 | some ⟨.st fs _,_,_,_⟩=>
  match fs[f]? with
  | some (o,ft)=>
   match tt ft with
   | some fi=>!(Nat.beq fi.size 0) &&
    (match x with
    | .x (.b id off)=>k (.x (.b id (off+o)))
    | .x (.se e off)=>k (.x (.se e (off+o)))
    | .x (.oe c st i off)=>k (.x (.oe c st i (off+o)))
    | _=>false)
   | none=>false
  | none=>false
 | _=>false
theorem bFieldAddr_ok {T:TypeId} {x:AV} {f:Nat} (hk:∀ v,kb v=true→k v) (h:bFieldAddr tt T x f kb=true):zeY tt T x f k:=by
 unfold bFieldAddr at h;unfold zeY;split at h
 ·rename_i h1;simp only [h1];split at h
  ·rename_i h2;simp only [h2];split at h
   ·rename_i fi h3;simp only [h3];rw [Bool.and_eq_true] at h;rw [if_neg (by intro e;rw [e] at h;exact absurd h.1 (by decide))];have h:=h.2;split at h
    ·exact hk _ h
    ·exact hk _ h
    ·exact hk _ h
    ·cases h
   ·cases h
  ·cases h
 ·cases h
def bIndexAddr (tt:TT) (σ:Sg) (gd:Option Bool) (T:TypeId) (x i:AV) (k:AV→Bool):Bool:=
 match tt T,x,i with
 | some ⟨.sl e,_,_,_⟩,.x (.d (.s sz xs)),.x (.d (.v (.int _ n)))=>
  match tt e with
  | some ei=>Nat.beq ei.size sz && (match xs[n.toNat]? with
   | some el=>gB gd (decide (0≤n)) && k (.x (.se el 0))
   | none=>false)
  | none=>false
 | some ⟨.sl e,_,_,_⟩,.x (.o c st m),.x (.d (.v (.int _ n)))=>
  match tt e,lk c σ with
  | some ei,some (.chain _ sz st' xs)=>(Nat.beq ei.size sz && Nat.beq st' st) && (gB gd (decide (0≤n∧n < m∧m≤xs.length)) && k (.x (.oe c st n.toNat 0)))
  | _,_=>false
 | some ⟨.ar len e,_,_,_⟩,.x (.b id off),.x (.d (.v (.int _ n)))=>
  match tt e with
  | some ei=>gB gd (decide (0≤n∧n < len)) && k (.x (.b id (off+n.toNat * ei.size)))
  | none=>false
 | some ⟨.ar len e,_,_,_⟩,.x (.se el off),.x (.d (.v (.int _ n)))=>
  match tt e with
  | some ei=>gB gd (decide (0≤n∧n < len)) && k (.x (.se el (off+n.toNat * ei.size)))
  | none=>false
 | some ⟨.ar len e,_,_,_⟩,.x (.oe c st j off),.x (.d (.v (.int _ n)))=>
  match tt e,lk c σ with
  | some ei,some (.chain _ _ st' _)=>Nat.beq st' st && (gB gd (decide (0≤n∧n < len)) && k (.x (.oe c st j (off+n.toNat * ei.size))))
  | _,_=>false
 | some ⟨.sl e,_,_,_⟩,.x (.sb id off m _),.x (.d (.v (.int _ n)))=>
  match tt e with
  | some ei=>gB gd (decide (0≤n∧n < m)) && k (.x (.b id (off+n.toNat * ei.size)))
  | none=>false
 | _,_,_=>false
theorem bIndexAddr_ok {T:TypeId} {x i:AV} (hk:∀ v,kb v=true→k v) (h:bIndexAddr tt σ gd T x i kb=true):zeX tt σ T x i (Gd gd) k:=by
 unfold bIndexAddr at h;unfold zeX;split at h
 ·rename_i h1;simp only [h1];split at h
  ·rename_i h2;simp only [h2,Bool.and_eq_true] at h ⊢;refine⟨Nat.eq_of_beq_eq_true h.1,?_⟩
   have h:=h.2;split at h
   ·rename_i el h3;rw [Bool.and_eq_true] at h;exact⟨el,gB_ok' h.1 (fun q=>⟨of_decide_eq_true q,h3⟩),hk _ h.2⟩
   ·cases h
  ·cases h
 ·rename_i h1;simp only [h1];split at h
  ·rename_i h2 h3;simp only [h2,h3,Bool.and_eq_true] at h ⊢;exact⟨⟨Nat.eq_of_beq_eq_true h.1.1,Nat.eq_of_beq_eq_true h.1.2⟩,gB_ok h.2.1,hk _ h.2.2⟩
  ·cases h
 ·rename_i h1;simp only [h1];split at h
  ·rename_i h2;simp only [h2,Bool.and_eq_true] at h ⊢;exact⟨gB_ok h.1,hk _ h.2⟩
  ·cases h
 ·rename_i h1;simp only [h1];split at h
  ·rename_i h2;simp only [h2,Bool.and_eq_true] at h ⊢;exact⟨gB_ok h.1,hk _ h.2⟩
  ·cases h
 ·rename_i h1;simp only [h1];split at h
  ·rename_i h2 h3;simp only [h2,h3,Bool.and_eq_true] at h ⊢;exact⟨Nat.eq_of_beq_eq_true h.1,gB_ok h.2.1,hk _ h.2.2⟩
  ·cases h
 ·rename_i h1;simp only [h1];split at h
  ·rename_i h2;simp only [h2,Bool.and_eq_true] at h ⊢;exact⟨gB_ok h.1,hk _ h.2⟩
  ·cases h
 ·cases h
def bLoadOe (tt:TT) (σ:Sg) (gd:Option Bool) (T:TypeId) (c st i off:Nat) (k:AV→Bool):Bool:=
 match tt T,lk c σ with
 | some ti,some (.chain _ sz st' xs)=>
  Nat.beq st' st && (match xs[i]? with
  | some el=>(Nat.ble (off+ti.size) el.length && Nat.beq el.length sz) &&
   (bif ti.d.agg then k (.a (((el.drop off).take ti.size).map .d)) else (match (el.drop off).take ti.size with|[p]=>k (.x (.d p))|_=>false))
  | none=>false)
 | _,_=>false
theorem bLoadOe_ok {T:TypeId} {c st i off:Nat} (hk:∀ v,kb v=true→k v) (h:bLoadOe tt σ gd T c st i off kb=true):zjB tt σ T c st i off (Gd gd) k:=by
 unfold bLoadOe at h;unfold zjB;split at h
 ·rename_i ti _ sz st' xs h1 h2;simp only [h1,h2,Bool.and_eq_true] at h ⊢;refine⟨Nat.eq_of_beq_eq_true h.1,?_⟩
  have h:=h.2;split at h
  ·rename_i el h3;simp only [Bool.and_eq_true] at h;refine⟨el,gB_ok' (b:=true) (by unfold gB;split <;> rfl) (fun _=>h3),⟨Nat.le_of_ble_eq_true h.1.1,Nat.eq_of_beq_eq_true h.1.2⟩,?_⟩
   have h:=h.2;cases hb:ti.d.agg with
   | true=>rw [hb] at h;exact hk _ h
   | false=>
    rw [hb] at h;simp only [cond_false] at h ⊢;split at h
    ·rename_i h4;simp only [h4];exact hk _ h
    ·cases h
  ·cases h
 ·cases h
def bLen (tt:TT) (σ:Sg) (T:TypeId) (x:AV) (k:AV→Bool):Bool:=
 match tt T,x with
 | some ⟨.sl _,_,_,_⟩,.x (.d (.s _ xs))=>k (iv .i64 xs.length)
 | some ⟨.sl _,_,_,_⟩,.x (.d (.v (.slice none 0 0)))=>k (iv .i64 0)
 | some ⟨.sl _,_,_,_⟩,.x (.o c st n)=>(match lk c σ with|some (.chain _ _ st' xs)=>Nat.beq st' st && k (iv .i64 n)|_=>false)
 | some ⟨.sl _,_,_,_⟩,.x (.sb _ _ n _)=>k (iv .i64 n)
 | some ⟨.str,_,_,_⟩,.x (.d (.v (.string s)))=>k (iv .i64 s.size)
 | some ⟨.ar n _,_,_,_⟩,_=>k (iv .i64 n)
 | some ⟨.mp _ _,_,_,_⟩,.x (.h id)=>(match lk id σ with|some (.x (.map _ kvs))=>k (iv .i64 kvs.length)|_=>false)
 | _,_=>false
theorem bLen_ok {T:TypeId} {x:AV} {u:Bool} (hk:∀ v,kb v=true→k v) (h:bLen tt σ T x kb=true):kLen tt σ T x u k:=by
 unfold bLen at h;unfold kLen;split at h
 ·rename_i h1;simp only [h1];cases u <;> simp only [cond_true,cond_false] <;> first|exact hk _ h|exact fun _=>hk _ h
 ·rename_i h1;simp only [h1];exact hk _ h
 ·rename_i h1;simp only [h1];split at h
  ·rename_i h2;simp only [h2,Bool.and_eq_true] at h ⊢;refine⟨Nat.eq_of_beq_eq_true h.1,?_⟩
   cases u <;> simp only [cond_true,cond_false] <;> first|exact hk _ h.2|exact fun _=>hk _ h.2
  ·cases h
 ·rename_i h1;simp only [h1];exact hk _ h
 ·rename_i h1;simp only [h1];exact hk _ h
 ·rename_i h1;simp only [h1];exact hk _ h
 ·rename_i h1;simp only [h1];split at h
  ·rename_i h2;simp only [h2];exact hk _ h
  ·cases h
 ·cases h
def bIndex (tt:TT) (gd:Option Bool) (T:TypeId) (x i:AV) (k:AV→Bool):Bool:=
 match tt T,x,i with
 | some ⟨.str,_,_,_⟩,.x (.d (.v (.string s))),.x (.d (.v (.int _ n)))=>(match s.data.toList[n.toNat]? with
  | some b=>gB gd (decide (0≤n)) && k (iv .u8 b.toNat)
  | none=>false)
 | some ⟨.ar len e,_,_,_⟩,.a cs,.x (.d (.v (.int _ n)))=>
  match tt e with
  | some ei=>(!ei.d.agg && Nat.beq ei.size 1 && Nat.beq cs.length len) && (match cs[n.toNat]? with|some s=>gB gd (decide (0≤n)) && k (.x s)|none=>false)
  | none=>false
 | _,_,_=>false
theorem bIndex_ok {T:TypeId} {x i:AV} (hk:∀ v,kb v=true→k v) (h:bIndex tt gd T x i kb=true):zmn tt T x i (Gd gd) k:=by
 unfold bIndex at h;unfold zmn;split at h
 ·rename_i h1;simp only [h1];split at h
  ·rename_i b h2;rw [Bool.and_eq_true] at h;exact⟨b,gB_ok' h.1 (fun q=>⟨of_decide_eq_true q,h2⟩),hk _ h.2⟩
  ·cases h
 ·rename_i h1;simp only [h1];split at h
  ·rename_i h2;simp only [h2,Bool.and_eq_true,Bool.not_eq_true'] at h ⊢;refine⟨⟨h.1.1.1,Nat.eq_of_beq_eq_true h.1.1.2,Nat.eq_of_beq_eq_true h.1.2⟩,?_⟩
   have h:=h.2;split at h
   ·rename_i s h3;rw [Bool.and_eq_true] at h;exact⟨s,gB_ok' h.1 (fun q=>⟨of_decide_eq_true q,h3⟩),hk _ h.2⟩
   ·cases h
  ·cases h
 ·cases h
def bExtract (x:AV) (n:Nat) (k:AV→Bool):Bool:=
 match x with
 | .t xs=>(match xs[n]? with|some (.x s)=>k (.x s)|some (.a cs)=>k (.a cs)|_=>false)
 | _=>false
theorem bExtract_ok {x:AV} {n:Nat} (hk:∀ v,kb v=true→k v) (h:bExtract x n kb=true):zhC x n k:=by
 unfold bExtract at h;unfold zhC;split at h
 ·split at h
  ·rename_i h1;simp only [h1];exact hk _ h
  ·rename_i h1;simp only [h1];exact hk _ h
  ·cases h
 ·cases h
def bField (tt:TT) (T:TypeId) (x:AV) (f:Nat) (k:AV→Bool):Bool:=
 match tt T,x with
 | some ⟨.st fs _,_,_,_⟩,.a cs=>
  match fs[f]? with
  | some (o,ft)=>
   match tt ft with
   | some fi=>bif fi.d.agg then (Nat.ble (o+fi.size) cs.length && k (.a ((cs.drop o).take fi.size))) else (match cs[o]? with|some s=>k (.x s)|none=>false)
   | none=>false
  | none=>false
 | _,_=>false
theorem bField_ok {T:TypeId} {x:AV} {f:Nat} (hk:∀ v,kb v=true→k v) (h:bField tt T x f kb=true):zmp tt T x f k:=by
 unfold bField at h;unfold zmp;split at h
 ·rename_i h1;simp only [h1];split at h
  ·rename_i h2;simp only [h2];split at h
   ·rename_i fi h3;simp only [h3];cases hb:fi.d.agg with
    | true=>
     rw [hb] at h;simp only [cond_true,Bool.and_eq_true] at h ⊢;exact⟨Nat.le_of_ble_eq_true h.1,hk _ h.2⟩
    | false=>
     rw [hb] at h;simp only [cond_false] at h ⊢;split at h
     ·rename_i h4;simp only [h4];exact hk _ h
     ·cases h
   ·cases h
  ·cases h
 ·cases h
def bSlice (tt:TT) (σ:Sg) (gd:Option Bool) (T:TypeId) (x:AV) (lo hi:Option AV) (k:AV→Bool):Bool:=
 match tt T,x with
 | some ⟨.sl e,_,_,_⟩,.x (.d (.s sz xs))=>
  (match tt e,zfj lo 0,zfj hi xs.length with
  | some ei,some l,some h=>Nat.beq ei.size sz && (gB gd (decide (0≤l∧l≤h∧h≤xs.length)) && k (.x (.d (.s sz ((xs.take h.toNat).drop l.toNat)))))
  | _,_,_=>false)
 | some ⟨.sl e,_,_,_⟩,.x (.o c st n)=>
  (match tt e,lk c σ,zfj lo 0,zfj hi n with
  | some _,some (.chain _ _ st' _),some 0,some h=>Nat.beq st' st && (gB gd (decide (0≤h∧h≤n)) && k (.x (.o c st h.toNat)))
  | _,_,_,_=>false)
 | some ⟨.ar n e,_,_,_⟩,.x (.b id off)=>
  (match tt e,zfj lo 0,zfj hi n with
  | some ei,some l,some h=>Nat.ble n 1000000 && (gB gd (decide (0≤l∧l < n∧l≤h∧h≤n)) && k (.x (.sb id (off+l.toNat * ei.size) (h.toNat - l.toNat) (n - l.toNat))))
  | _,_,_=>false)
 | some ⟨.str,_,_,_⟩,.x (.d (.v (.string s)))=>
  (match zfj lo 0,zfj hi s.size with
  | some l,some h=>gB gd (decide (0≤l∧l≤h∧h≤s.size)) && k (sv (s.extract l.toNat h.toNat))
  | _,_=>false)
 | _,_=>false
theorem bSlice_ok {T:TypeId} {x:AV} {lo hi:Option AV} (hk:∀ v,kb v=true→k v) (h:bSlice tt σ gd T x lo hi kb=true):zme tt σ T x lo hi (Gd gd) k:=by
 unfold bSlice at h;unfold zme;split at h
 ·rename_i h1;simp only [h1];split at h
  ·rename_i h2 h3 h4;simp only [h2,h3,h4,Bool.and_eq_true] at h ⊢;exact⟨Nat.eq_of_beq_eq_true h.1,gB_ok h.2.1,hk _ h.2.2⟩
  ·cases h
 ·rename_i h1;simp only [h1];split at h
  ·rename_i h2 h3 h4 h5;simp only [h2,h3,h4,h5,Bool.and_eq_true] at h ⊢;exact⟨Nat.eq_of_beq_eq_true h.1,gB_ok h.2.1,hk _ h.2.2⟩
  ·cases h
 ·rename_i h1;simp only [h1];split at h
  ·rename_i h2 h3 h4;simp only [h2,h3,h4,Bool.and_eq_true] at h ⊢;rw [h.1];exact⟨gB_ok h.2.1,hk _ h.2.2⟩
  ·cases h
 ·rename_i h1;simp only [h1];split at h
  ·rename_i h2 h3;simp only [h2,h3,Bool.and_eq_true] at h ⊢;exact⟨gB_ok h.1,hk _ h.2⟩
  ·cases h
 ·cases h
def bSlice3 (tt:TT) (gd:Option Bool) (T:TypeId) (x:AV) (lo hi mx:Option AV) (k:AV→Bool):Bool:=
 match tt T,x with
 | some ⟨.sl e,_,_,_⟩,.x (.d (.s sz xs))=>
  (match tt e,lo,hi,mx with
  | some ei,none,some (.x (.d (.v (.int _ h)))),some (.x (.d (.v (.int _ m))))=>(Nat.beq ei.size sz && decide (m=h)) && (gB gd (decide (0≤h∧h≤xs.length)) && k (.x (.d (.c sz (xs.take h.toNat)))))
  | _,_,_,_=>false)
 | _,_=>false
theorem bSlice3_ok {T:TypeId} {x:AV} {lo hi mx:Option AV} (hk:∀ v,kb v=true→k v) (h:bSlice3 tt gd T x lo hi mx kb=true):zjw tt T x lo hi mx (Gd gd) k:=by
 unfold bSlice3 at h;unfold zjw;split at h
 ·rename_i h1;simp only [h1];split at h
  ·rename_i h2;simp only [h2,Bool.and_eq_true,decide_eq_true_eq] at h ⊢;exact⟨⟨Nat.eq_of_beq_eq_true h.1.1,h.1.2⟩,gB_ok h.2.1,hk _ h.2.2⟩
  ·cases h
 ·cases h
def bBuild (tt:TT) (T:TypeId) (parts:List (Nat × AV)) (k:AV→Bool):Bool:=
 match tt T,zbZ parts with
 | some ti,some ps=>
  (match ti.d with
  | .st fs _=>
   (match zb8 tt fs with
   | some pl=>(match zgB (fun i=>pl[i]?) (zbS ti) ps with|some cs=>k (.a cs)|none=>false)
   | none=>false)
  | .ar _ e=>
   (match tt e with
   | some ei=>(match zgB (fun i=>some (i * ei.size,ei.size)) (zbS ti) ps with|some cs=>k (.a cs)|none=>false)
   | none=>false)
  | _=>false)
 | _,_=>false
theorem bBuild_ok {T:TypeId} {parts:List (Nat × AV)} (hk:∀ v,kb v=true→k v) (h:bBuild tt T parts kb=true):zmw tt T parts k:=by
 unfold bBuild at h;unfold zmw;split at h
 ·rename_i h1 h2;simp only [h1,h2];split at h
  ·rename_i h3;simp only [h3];split at h
   ·rename_i h4;simp only [h4];split at h
    ·rename_i h5;simp only [h5];exact hk _ h
    ·cases h
   ·cases h
  ·rename_i h3;simp only [h3];split at h
   ·rename_i h4;simp only [h4];split at h
    ·rename_i h5;simp only [h5];exact hk _ h
    ·cases h
   ·cases h
  ·cases h
 ·cases h
end
end Go.QL
namespace Go.QL
open Go Go.RowKit
section
variable {tt:TT} {gd:Option Bool} {fr:Fr} {σ:Sg} {kb:AV→Bool} {k:AV→Prop} {kb2:AV→Sg→Bool} {k2:AV→Sg→Prop} {kb3:Sg→Bool} {k3:Sg→Prop}
def bMM (mx:Bool) (vs:List AV) (k:AV→Bool):Bool:=
 match vs with
 | .x (.d (.v (.int k1 a)))::r=>(match mmL mx a r with|some m=>k (iv k1 m)|none=>false)
 | _=>false
theorem bMM_ok {mx:Bool} {vs:List AV} (hk:∀ v,kb v=true→k v) (h:bMM mx vs kb=true):kMM mx vs k:=by
 unfold bMM at h;unfold kMM;split at h
 ·split at h
  ·rename_i h1;simp only [h1];exact hk _ h
  ·cases h
 ·cases h
def bytesOf:List (List PV)→Option (List UInt8)
 | []=>some []
 | [.v (.int .u8 n)]::r=>if 0≤n∧n≤255 then (match bytesOf r with|some l=>some (UInt8.ofNat n.toNat::l)|none=>none) else none
 | _::_=>none
theorem bytesOf_ok:∀ {xs:List (List PV)} {l:List UInt8},bytesOf xs=some l→xs=l.map fun c=>[.v (.int .u8 c.toNat)]
 | [],l,h=>by cases h;rfl
 | [.v (.int .u8 n)]::r,l,h=>by
  unfold bytesOf at h;split at h
  ·rename_i hn;split at h
   ·rename_i q hq;cases h;rw [List.map_cons,← bytesOf_ok hq];have:((UInt8.ofNat n.toNat).toNat:Int)=n:=by rw [UInt8.toNat_ofNat'];omega
    rw [this]
   ·cases h
  ·cases h
def bConvB (x:AV) (k:AV→Bool):Bool:=
 match x with
 | .x (.d (.c 1 xs))=>(match bytesOf xs with|some (c::l)=>k (sv ⟨(c::l).toArray⟩)|_=>false)
 | .x (.d (.s 1 xs))=>(match bytesOf xs with|some (c::l)=>k (sv ⟨(c::l).toArray⟩)|_=>false)
 | _=>false
theorem bConvB_ok {x:AV} (hk:∀ v,kb v=true→k v) (h:bConvB x kb=true):zo3 x k:=by
 unfold bConvB at h;split at h
 ·split at h
  ·rename_i c l h1;exact⟨c::l,by simp,.inl (by rw [bytesOf_ok h1]),hk _ h⟩
  ·cases h
 ·split at h
  ·rename_i c l h1;exact⟨c::l,by simp,.inr (by rw [bytesOf_ok h1]),hk _ h⟩
  ·cases h
 ·cases h
def bnq (op:BinOp) (p:Bool) (k:AV→Bool):Bool:=
 match op with
 | .eql=>k (bv false) && (!p || k (bv true))
 | .neq=>k (bv true) && (!p || k (bv false))
 | _=>false
theorem bnq_ok {op:BinOp} {p:Prop} {b:Bool} (hb:p→b=true) (hk:∀ v,kb v=true→k v) (h:bnq op b kb=true):nq op p k:=by
 unfold bnq at h;unfold nq;split at h
 ·intro c hc;simp only [Bool.and_eq_true,Bool.or_eq_true,Bool.not_eq_true'] at h;cases c with
  | false=>exact hk _ h.1
  | true=>exact hk _ (h.2.resolve_left (by rw [hb (hc rfl)];decide))
 ·intro c hc;simp only [Bool.and_eq_true,Bool.or_eq_true,Bool.not_eq_true'] at h;cases c with
  | true=>exact hk _ h.1
  | false=>exact hk _ (h.2.resolve_left (by rw [hb (hc rfl)];decide))
 ·cases h
def bNilq (tt:TT) (σ:Sg) (op:BinOp) (T:TypeId) (x:AV) (k:AV→Bool):Bool:=
  match tt T with
  | some ⟨.sl _,_,_,_⟩=>
   (match x with
   | .x (.d (.s _ xs))=>bnq op xs.isEmpty k
   | .x (.o c st n)=>(match lk c σ with
    | some (.chain _ _ st' _)=>Nat.beq st' st && bnq op (Nat.beq n 0) k
    | _=>false)
   | .x (.d (.v (.slice none 0 0)))=>bnq op true k
   | _=>false)
  | _=>false
theorem bNilq_ok {op:BinOp} {T:TypeId} {x:AV} (hk:∀ v,kb v=true→k v) (h:bNilq tt σ op T x kb=true):zp1 tt σ op T x true k:=by
 unfold bNilq at h;unfold zp1;simp only;split at h
 ·rename_i h1;simp only [h1];split at h
  ·exact bnq_ok (fun e=>by rw [e];rfl) hk h
  ·split at h
   ·rename_i h2;simp only [h2,Bool.and_eq_true] at h ⊢;exact⟨Nat.eq_of_beq_eq_true h.1,bnq_ok (fun e=>by rw [e];rfl) hk h.2⟩
   ·cases h
  ·exact bnq_ok (fun _=>rfl) hk h
  ·cases h
 ·cases h
def bNilI (op:BinOp) (u:AV) (k:AV→Bool):Bool:=
 match op,u with
 | .eql,.x (.d (.v (.iface _ _)))=>k (bv false)
 | .neq,.x (.d (.v (.iface _ _)))=>k (bv true)
 | .eql,.x (.d (.v .nilIface))=>k (bv true)
 | .neq,.x (.d (.v .nilIface))=>k (bv false)
 | _,_=>false
theorem bNilI_ok {op:BinOp} {u:AV} (hk:∀ v,kb v=true→k v) (h:bNilI op u kb=true):zgg op u k:=by
 unfold bNilI at h;unfold zgg;split at h <;> first|exact hk _ h|cases h
def bPick (fr:Fr) (gd:Option Bool) (c a b:Operand) (k:AV→Bool):Bool:=
 match ev fr c,ev fr a,ev fr b with
 | some (cc,.x (.d (.v (.bool x)))),some (ca,.x (.d (.v (.bool y)))),some (cb,.x (.d (.v (.bool z))))=>
  ((match cc with|none=>true|some c'=>gB gd c') &&
  (match ca with|none=>true|some c'=>gB gd (!x || c'))) &&
  ((match cb with|none=>true|some c'=>gB gd (x || c')) &&
  k (bv (bif x then y else z)))
 | _,_,_=>false
theorem bPick_ok {c a b:Operand} (hk:∀ v,kb v=true→k v) (h:bPick fr gd c a b kb=true):zp0 fr gd c a b k:=by
 unfold bPick at h;unfold zp0;split at h
 ·rename_i cc x ca y cb z h1 h2 h3;simp only [h1,h2,h3,Bool.and_eq_true] at h ⊢;refine⟨?_,?_,?_,hk _ h.2.2⟩
  ·cases cc with
   | none=>trivial
   | some c'=>exact gB_ok' h.1.1 id
  ·cases ca with
   | none=>trivial
   | some c'=>exact gB_ok' h.1.2 (fun q e=>by rw [e] at q;simpa using q)
  ·cases cb with
   | none=>trivial
   | some c'=>exact gB_ok' h.2.1 (fun q e=>by rw [e] at q;simpa using q)
 ·cases h
def findK (key:Value):List (Value × AV)→Option AV
 | []=>none
 | (u,x)::r=>bif eqKb u key then some x else findK key r
theorem findK_some {kt:KT} {key:Value} (hk:kt.fits key=true):∀ {kvs:List (Value × AV)} {x:AV},kvs.all (fun p=>kt.fits p.1)=true→findK key kvs=some x→∃ i:Nat,kvs[i]?=some (key,x)
 | [],x,_,h=>by cases h
 | (u,y)::r,x,ha,h=>by
  simp only [List.all_cons,Bool.and_eq_true] at ha;unfold findK at h;cases hb:eqKb u key with
  | true=>
   rw [hb] at h;cases h;rw [← eqK_b,zey ha.1 hk] at hb;subst hb;exact⟨0,rfl⟩
  | false=>
   rw [hb] at h;obtain⟨i,hi⟩:=findK_some hk ha.2 h;exact⟨i+1,by simpa using hi⟩
theorem findK_none {kt:KT} {key:Value} (hk:kt.fits key=true):∀ {kvs:List (Value × AV)},kvs.all (fun p=>kt.fits p.1)=true→findK key kvs=none→∀ (i:Nat) (y:AV),kvs[i]?≠some (key,y)
 | [],_,_,i,y,h=>by simp at h
 | (u,z)::r,ha,h,i,y,hi=>by
  simp only [List.all_cons,Bool.and_eq_true] at ha;unfold findK at h;cases hb:eqKb u key with
  | true=>rw [hb] at h;cases h
  | false=>
   rw [hb] at h;cases i with
   | zero=>
    simp at hi;rw [hi.1,← eqK_b,(zey hk hk).2 rfl] at hb;cases hb
   | succ i=>exact findK_none hk ha.2 h i y (by simpa using hi)
deriving instance DecidableEq for LK
instance:DecidableEq KT:=fun a b=>match a,b with
 | .one x,.one y=>if h:x=y then isTrue (by rw [h]) else isFalse (fun e=>h (by cases e;rfl))
 | .st x,.st y=>if h:x=y then isTrue (by rw [h]) else isFalse (fun e=>h (by cases e;rfl))
 | .one _,.st _=>isFalse (fun e=>by cases e)
 | .st _,.one _=>isFalse (fun e=>by cases e)
def bLookup (tt:TT) (σ:Sg) (T:TypeId) (u key:AV) (ok:Bool) (k:AV→Bool):Bool:=
 match tt T,keyV key with
 | some ⟨.mp kT eT,_,_,_⟩,some kv=>
  (match tt eT,ktOf tt kT with
  | some ei,some kt=>
   (match zk7 ei with
   | some z=>
    (match u with
    | .x (.h id)=>(match lk id σ with
     | some (.x (.map kt' kvs))=>(decide (kt'=kt) && kt.fits kv && kvs.all (fun p=>kt.fits p.1)) &&
      (match findK kv kvs with
      | some x=>ziC x && (bif ok then k (.t [x,bv true]) else k x)
      | none=>ziC z && (bif ok then k (.t [z,bv false]) else k z))
     | _=>false)
    | .x (.d (.v (.map none)))=>kt.fits kv && (bif ok then k (.t [z,bv false]) else k z)
    | _=>false)
   | none=>false)
  | _,_=>false)
 | _,_=>false
theorem bLookup_ok {T:TypeId} {u key:AV} {ok:Bool} (hk:∀ v,kb v=true→k v) (h:bLookup tt σ T u key ok kb=true):zjA tt σ T u key ok k:=by
 unfold bLookup at h;unfold zjA;have hb:∀ a b:AV,(bif ok then kb a else kb b)=true→(bif ok then k a else k b):=by intro a b;cases ok <;> exact hk _
 split at h
 ·rename_i h1 h2;simp only [h1,h2];split at h
  ·rename_i h3 h4;simp only [h3,h4];split at h
   ·rename_i h5;simp only [h5];split at h
    ·split at h
     ·rename_i h6;simp only [h6,Bool.and_eq_true,decide_eq_true_eq] at h ⊢;refine⟨h.1.1.1,h.1.1.2,?_⟩
      have hf:=h.1;have h:=h.2;split at h
      ·rename_i x h7;rw [Bool.and_eq_true] at h;exact⟨x,true,.inl ⟨rfl,findK_some hf.1.2 hf.2 h7⟩,h.1,hb _ _ h.2⟩
      ·rename_i h7;rw [Bool.and_eq_true] at h;exact⟨_,false,.inr ⟨rfl,rfl,findK_none hf.1.2 hf.2 h7⟩,h.1,hb _ _ h.2⟩
     ·cases h
    ·simp only [Bool.and_eq_true] at h ⊢;exact⟨h.1,hb _ _ h.2⟩
    ·cases h
   ·cases h
  ·cases h
 ·cases h
def setK (key:Value) (x:AV):List (Value × AV)→List (Value × AV)
 | []=>[(key,x)]
 | (u,y)::r=>bif eqKb u key then (key,x)::r else (u,y)::setK key x r
theorem setK_is {kt:KT} {key:Value} {x:AV} (hk:kt.fits key=true):∀ {kvs:List (Value × AV)},kvs.all (fun p=>kt.fits p.1)=true→zk5 kvs key x (setK key x kvs)
 | [],_=>.inr ⟨fun i y h=>by simp at h,rfl⟩
 | (u,z)::r,ha=>by
  simp only [List.all_cons,Bool.and_eq_true] at ha;unfold setK;cases hb:eqKb u key with
  | true=>
   rw [← eqK_b,zey ha.1 hk] at hb;subst hb;exact .inl ⟨0,z,rfl,rfl⟩
  | false=>
   simp only [cond_false];have hne:u≠key:=by rintro rfl;rw [← eqK_b,(zey hk hk).2 rfl] at hb;cases hb
   rcases setK_is hk ha.2 with ⟨i,y,h1,h2⟩|⟨h1,h2⟩
   ·exact .inl ⟨i+1,y,by simpa using h1,by rw [h2];rfl⟩
   ·refine .inr ⟨fun i y hi=>?_,by rw [h2];rfl⟩
    cases i with
    | zero=>simp at hi;exact hne hi.1
    | succ i=>exact h1 i y (by simpa using hi)
def bMapUpdate (tt:TT) (σ:Sg) (T:TypeId) (u key x:AV) (k:Sg→Bool):Bool:=
 match tt T,keyV key with
 | some ⟨.mp kT _,_,_,_⟩,some kv=>
  (match ktOf tt kT with
  | some kt=>
   (match u with
   | .x (.h id)=>(match lk id σ with
    | some (.x (.map kt' kvs))=>(decide (kt'=kt) && kt.fits kv && kvs.all (fun p=>kt.fits p.1)) && (zkZ x && k (zat id (.x (.map kt' (setK kv x kvs))) σ))
    | _=>false)
   | _=>false)
  | none=>false)
 | _,_=>false
theorem bMapUpdate_ok {T:TypeId} {u key x:AV} (hk:∀ s,kb3 s=true→k3 s) (h:bMapUpdate tt σ T u key x kb3=true):zdr tt σ T u key x k3:=by
 unfold bMapUpdate at h;unfold zdr;split at h
 ·rename_i h1 h2;simp only [h1,h2];split at h
  ·rename_i h3;simp only [h3];split at h
   ·split at h
    ·rename_i h6;simp only [h6,Bool.and_eq_true,decide_eq_true_eq] at h ⊢;exact⟨h.1.1.1,h.1.1.2,h.2.1,_,setK_is h.1.1.2 h.1.2,hk _ h.2.2⟩
    ·cases h
   ·cases h
  ·cases h
 ·cases h
def bMakeMap (tt:TT) (σ:Sg) (id:Nat) (T:TypeId) (k:AV→Sg→Bool):Bool:=
 match tt T with
 | some ⟨.mp kT _,_,_,_⟩=>(match ktOf tt kT with
  | some kt=>k (.x (.h id)) ((id,.x (.map kt [])) :: σ)
  | none=>false)
 | _=>false
theorem bMakeMap_ok {id:Nat} {T:TypeId} (hk:∀ v s,kb2 v s=true→k2 v s) (h:bMakeMap tt σ id T kb2=true):zhz tt σ id T none k2:=by
 unfold bMakeMap at h;unfold zhz;split at h
 ·rename_i h1;simp only [h1];split at h
  ·rename_i h2;simp only [h2];exact hk _ _ h
  ·cases h
 ·cases h
def bRange (tt:TT) (σ:Sg) (id:Nat) (T:TypeId) (u:AV) (k:AV→Sg→Bool):Bool:=
 match tt T,u with
 | some ⟨.mp _ _,_,_,_⟩,.x (.h m)=>(match lk m σ with
  | some (.x (.map _ kvs))=>k (.x (.h id)) ((id,.x (.mapIter (some m) kvs.length [] kvs.length)) :: σ)
  | _=>false)
 | some ⟨.mp _ _,_,_,_⟩,.x (.d (.v (.map none)))=>k (.x (.h id)) ((id,.x (.mapIter none 0 [] 0)) :: σ)
 | some ⟨.str,_,_,_⟩,.x (.d (.v (.string s)))=>k (.x (.h id)) ((id,.x (.strIter s 0)) :: σ)
 | _,_=>false
theorem bRange_ok {id:Nat} {T:TypeId} {u:AV} (hk:∀ v s,kb2 v s=true→k2 v s) (h:bRange tt σ id T u kb2=true):zmg tt σ id T u k2:=by
 unfold bRange at h;unfold zmg;split at h
 ·rename_i h1;simp only [h1];split at h
  ·rename_i h2;simp only [h2];exact hk _ _ h
  ·cases h
 ·rename_i h1;simp only [h1];exact hk _ _ h
 ·rename_i h1;simp only [h1];exact hk _ _ h
 ·cases h
def bNext (σ:Sg) (u:AV) (isS:Bool) (k:AV→Sg→Bool):Bool:=
 match u with
 | .x (.h it)=>(match lk it σ,isS with
  | some (.x (.mapIter none _ _ _)),false=>k (.t [bv false]) σ
  | some (.x (.mapIter (some m) since seen last)),false=>(match lk m σ with
   | some (.x (.map _ kvs))=>(Nat.beq since kvs.length && Nat.beq last kvs.length) &&
     (((List.range kvs.length).all fun i=>seen.any (Nat.beq i) || (match kvs[i]? with|some (key,x)=>k (.t [bv true,vAV key,x]) (zat it (.x (.mapIter (some m) since (seen ++ [i]) last)) σ)|none=>true)) &&
     (!((List.range kvs.length).all fun i=>seen.any (Nat.beq i)) || k (.t [bv false]) σ))
   | _=>false)
  | some (.x (.strIter s pos)),true=>
    bif Nat.blt pos s.size then (match Utf8.decode s pos with|(c,n)=>k (.t [bv true,iv .i64 pos,iv .i32 c]) (zat it (.x (.strIter s (pos+n))) σ)) else k (.t [bv false]) σ
  | _,_=>false)
 | _=>false
theorem bNext_ok {u:AV} {isS:Bool} (hk:∀ v s,kb2 v s=true→k2 v s) (h:bNext σ u isS kb2=true):zp3 σ u isS k2:=by
 unfold bNext at h;unfold zp3;split at h
 ·split at h
  ·rename_i h1;simp only [h1];exact hk _ _ h
  ·rename_i m since seen last h1;simp only [h1];split at h
   ·rename_i kvs h2;simp only [h2,Bool.and_eq_true,Bool.or_eq_true,Bool.not_eq_true'] at h ⊢;refine⟨Nat.eq_of_beq_eq_true h.1.1,Nat.eq_of_beq_eq_true h.1.2,fun i key x hi hs=>?_,fun ha=>?_⟩
    ·have hlt:i < kvs.length:=(List.getElem?_eq_some_iff.1 hi).1;have:=List.all_eq_true.1 h.2.1 i (List.mem_range.2 hlt);rw [Bool.or_eq_true] at this;rcases this with q|q
     ·obtain⟨j,hj,e⟩:=List.any_eq_true.1 q;exact absurd (Nat.eq_of_beq_eq_true e ▸ hj) hs
     ·rw [hi] at q;exact hk _ _ q
    ·refine hk _ _ (h.2.2.resolve_left ?_)
     rw [Bool.not_eq_false,List.all_eq_true];intro i hi;exact List.any_eq_true.2 ⟨i,ha i (List.mem_range.1 hi),by simp⟩
   ·cases h
  ·rename_i s pos h1;simp only [h1];cases hb:Nat.blt pos s.size with
   | true=>
    rw [hb] at h;simp only [cond_true] at h;exact⟨fun _=>⟨_,_,rfl,hk _ _ h⟩,fun hn=>absurd (Nat.le_of_ble_eq_true hb) hn⟩
   | false=>
    rw [hb] at h;exact⟨fun hn=>(by rw [show Nat.blt pos s.size=true from Nat.ble_eq_true_of_le hn] at hb;cases hb),fun _=>hk _ _ h⟩
  ·cases h
 ·cases h
def bEntry (σ:Sg) (u:AV) (k:AV→Bool):Bool:=
 match u with
 | .x (.h it)=>(match lk it σ with
  | some (.x (.mapIter (some m) _ seen last))=>(match lk m σ with
   | some (.x (.map _ kvs))=>Nat.beq last kvs.length && (match seen.getLast? with
    | some i=>(match kvs[i]? with|some (key,x)=>k (.t [vAV key,x])|none=>false)
    | none=>false)
   | _=>false)
  | _=>false)
 | _=>false
theorem bEntry_ok {u:AV} (hk:∀ v,kb v=true→k v) (h:bEntry σ u kb=true):zmr σ u k:=by
 unfold bEntry at h;unfold zmr;split at h
 ·split at h
  ·rename_i h1;simp only [h1];split at h
   ·rename_i h2;simp only [h2,Bool.and_eq_true] at h ⊢;refine⟨Nat.eq_of_beq_eq_true h.1,?_⟩
    have h:=h.2;split at h
    ·rename_i i h3;split at h
     ·rename_i key x h4;exact⟨i,key,x,h3,h4,hk _ h⟩
     ·cases h
    ·cases h
   ·cases h
  ·cases h
 ·cases h
def bAlloc (tt:TT) (σ:Sg) (id:Nat) (T:TypeId) (k:AV→Sg→Bool):Bool:=
 match tt T with
 | some ti=>k (.x (.b id 0)) ((id,.box (ti.zero.map fun z=>.d (.v z))) :: σ)
 | none=>false
theorem bAlloc_ok {id:Nat} {T:TypeId} (hk:∀ v s,kb2 v s=true→k2 v s) (h:bAlloc tt σ id T kb2=true):zgi tt σ id T k2:=by
 unfold bAlloc at h;unfold zgi;split at h
 ·rename_i h1;simp only [h1];exact hk _ _ h
 ·cases h
def bBox (σ:Sg) (id:Nat) (x:AV) (k:AV→Sg→Bool):Bool:=
 match zdh x with
 | some cs=>k (.x (.b id 0)) ((id,.box cs) :: σ)
 | none=>false
theorem bBox_ok {id:Nat} {x:AV} (hk:∀ v s,kb2 v s=true→k2 v s) (h:bBox σ id x kb2=true):kBox σ id x k2:=by
 unfold bBox at h;unfold kBox;split at h
 ·rename_i h1;simp only [h1];exact hk _ _ h
 ·cases h
def bStoreB (tt:TT) (σ:Sg) (T:TypeId) (id off:Nat) (x:AV) (k:Sg→Bool):Bool:=
 match tt T,lk id σ,zdh x with
 | some ti,some (.box cs),some ss=>(Nat.beq ss.length ti.size && Nat.ble (off+ss.length) cs.length) && k (zat id (.box (seg cs off ss)) σ)
 | _,_,_=>false
theorem bStoreB_ok {T:TypeId} {id off:Nat} {x:AV} (hk:∀ s,kb3 s=true→k3 s) (h:bStoreB tt σ T id off x kb3=true):zjv tt σ T id off x k3:=by
 unfold bStoreB at h;unfold zjv;split at h
 ·rename_i h1 h2 h3;simp only [h1,h2,h3,Bool.and_eq_true] at h ⊢;rw [if_pos ⟨Nat.eq_of_beq_eq_true h.1.1,Nat.le_of_ble_eq_true h.1.2⟩];exact hk _ h.2
 ·cases h
def bStoreOe (tt:TT) (σ:Sg) (T:TypeId) (c st i off:Nat) (x:AV) (k:Sg→Bool):Bool:=
 match tt T,lk c σ,zdh x with
 | some ti,some (.chain e sz st' xs),some ss=>
  (match zhQ ss with
  | some ps=>(Nat.beq st' st && Nat.beq ps.length ti.size) && (match xs[i]? with
   | some el=>Nat.ble (off+ps.length) el.length && k (zat c (.chain e sz st' (xs.set i (seg el off ps))) σ)
   | none=>false)
  | none=>false)
 | _,_,_=>false
theorem bStoreOe_ok {T:TypeId} {c st i off:Nat} {x:AV} (hk:∀ s,kb3 s=true→k3 s) (h:bStoreOe tt σ T c st i off x kb3=true):zhy tt σ T c st i off x k3:=by
 unfold bStoreOe at h;unfold zhy;split at h
 ·rename_i h1 h2 h3;simp only [h1,h2,h3];split at h
  ·rename_i h4;simp only [h4,Bool.and_eq_true] at h ⊢;refine⟨⟨Nat.eq_of_beq_eq_true h.1.1,Nat.eq_of_beq_eq_true h.1.2⟩,?_⟩
   have h:=h.2;split at h
   ·rename_i el h5;rw [Bool.and_eq_true] at h;exact⟨el,h5,Nat.le_of_ble_eq_true h.1,hk _ h.2⟩
   ·cases h
  ·cases h
 ·cases h
def bBuildSlice (tt:TT) (σ:Sg) (id:Nat) (T:TypeId) (len:Nat) (parts:List (Nat × AV)) (k:AV→Sg→Bool):Bool:=
 match tt T,zbZ parts with
 | some ⟨.sl e,_,_,_⟩,some ps=>
  (match tt e with
  | some ei=>
   (Nat.blt 0 ei.size && Nat.ble (len * ei.size) 16777216) &&
    (match zgB (fun i=>some (i * ei.size,ei.size)) (List.replicate len (zbS ei)).flatten ps with
    | some cs=>(match zhQ cs with
     | some l=>k (.x (.o id 0 len)) ((id,.chain e ei.size 0 (zO ei.size len l)) :: σ)
     | none=>false)
    | none=>false)
  | none=>false)
 | _,_=>false
theorem bBuildSlice_ok {id:Nat} {T:TypeId} {len:Nat} {parts:List (Nat × AV)} (hk:∀ v s,kb2 v s=true→k2 v s) (h:bBuildSlice tt σ id T len parts kb2=true):zaQ tt σ id T len parts k2:=by
 unfold bBuildSlice at h;unfold zaQ;split at h
 ·rename_i h1 h2;simp only [h1,h2];split at h
  ·rename_i h3;simp only [h3,Bool.and_eq_true] at h ⊢;rw [if_pos ⟨Nat.le_of_ble_eq_true h.1.1,Nat.le_of_ble_eq_true h.1.2⟩];have h:=h.2;split at h
   ·rename_i h4;simp only [h4];split at h
    ·rename_i h5;simp only [h5];exact hk _ _ h
    ·cases h
   ·cases h
  ·cases h
 ·cases h
def bBuildData (tt:TT) (T:TypeId) (len:Nat) (parts:List (Nat × AV)) (k:AV→Bool):Bool:=
 match tt T,zbZ parts with
 | some ⟨.sl e,_,_,_⟩,some ps=>
  (match tt e with
  | some ei=>
   (Nat.blt 0 ei.size && Nat.ble (len * ei.size) 16777216) &&
    (match zgB (fun i=>some (i * ei.size,ei.size)) (List.replicate len (zbS ei)).flatten ps with
    | some cs=>(match zhQ cs with
     | some l=>k (.x (.d (.s ei.size (zO ei.size len l))))
     | none=>false)
    | none=>false)
  | none=>false)
 | _,_=>false
theorem bBuildData_ok {T:TypeId} {len:Nat} {parts:List (Nat × AV)} (hk:∀ v,kb v=true→k v) (h:bBuildData tt T len parts kb=true):zds tt T len parts k:=by
 unfold bBuildData at h;unfold zds;split at h
 ·rename_i h1 h2;simp only [h1,h2];split at h
  ·rename_i h3;simp only [h3,Bool.and_eq_true] at h ⊢;rw [if_pos ⟨Nat.le_of_ble_eq_true h.1.1,Nat.le_of_ble_eq_true h.1.2⟩];have h:=h.2;split at h
   ·rename_i h4;simp only [h4];split at h
    ·rename_i h5;simp only [h5];exact hk _ h
    ·cases h
   ·cases h
  ·cases h
 ·cases h
def bMake (tt:TT) (σ:Sg) (id:Nat) (T:TypeId) (l c:AV) (k:AV→Sg→Bool):Bool:=
 match tt T,l,c with
 | some ⟨.sl e,_,_,_⟩,.x (.d (.v (.int .i64 n))),.x (.d (.v (.int .i64 m)))=>
  (match tt e with
  | some ei=>(Nat.blt 0 ei.size && decide (0≤n∧n≤m∧(ei.bytes:Int) * m≤281474976710656∧m≤9223372036854775807)) &&
    k (.x (.o id 0 n.toNat)) ((id,.chain e ei.size 0 (List.replicate n.toNat (ei.zero.map .v))) :: σ)
  | none=>false)
 | _,_,_=>false
theorem bMake_ok {id:Nat} {T:TypeId} {l c:AV} (hk:∀ v s,kb2 v s=true→k2 v s) (h:bMake tt σ id T l c kb2=true):zjz tt σ id T l c k2:=by
 unfold bMake at h;split at h
 ·rename_i e _ _ _ n m h1;split at h
  ·rename_i ei h2;simp only [Bool.and_eq_true,decide_eq_true_eq] at h;have key:zbg tt σ id T (.x (.d (.v (.int .i64 n)))) (.x (.d (.v (.int .i64 m)))) k2:=by
    unfold zbg;simp only [h1,h2];exact⟨Nat.le_of_ble_eq_true h.1.1,h.1.2,hk _ _ h.2⟩
   unfold zjz;simp only [h1,h2];split
   ·exact .inl key
   ·exact key
  ·cases h
 ·cases h
def bAppend (tt:TT) (σ:Sg) (T:TypeId) (dst src:AV) (k:AV→Sg→Bool):Bool:=
 match tt T with
 | some ⟨.sl e,_,_,_⟩=>
  (match tt e with
  | some ei=>
   (match zby σ ei.size src with
   | some ys=>
    Nat.blt 0 ei.size &&
    (match dst with
    | .x (.d (.v (.slice none 0 0)))=>decide (ys.length≤maxLen∧ys.length * ei.bytes≤140737488355328) && k (.x (.o (zaZ σ) 0 ys.length)) ((zaZ σ,.chain e ei.size 0 ys) :: σ)
    | .x (.o c st n)=>
     (match lk c σ with
     | some (.chain e' sz st' xs)=>(Nat.beq e' e && Nat.beq sz ei.size && Nat.beq st' st) && (decide (n≤xs.length∧n+ys.length≤maxLen∧(n+ys.length) * ei.bytes≤140737488355328) &&
       k (.x (.o c (st+1) (n+ys.length))) (zat c (.chain e ei.size (st+1) (xs.take n ++ ys)) σ))
     | _=>false)
    | .x (.d (.c sz xs))=>(Nat.beq sz ei.size && Nat.blt 0 ys.length) && (decide (xs.length+ys.length≤maxLen∧(xs.length+ys.length) * ei.bytes≤140737488355328) && k (.x (.d (.s sz (xs ++ ys)))) σ)
    | _=>false)
   | none=>false)
  | none=>false)
 | _=>false
theorem srcK_of {sz:Nat} {src:AV} {ys:List (List PV)} {p:List (List PV)→Prop} (h:zby σ sz src=some ys) (hp:p ys):srcK σ sz src p:=by
 unfold srcK;split
 ·rename_i c st n;unfold zby at h;simp only at h;split at h
  ·rename_i h1;split at h
   ·rename_i h2;cases h;exact⟨h2,hp⟩
   ·cases h
  ·cases h
 ·rw [h];exact hp
theorem bAppend_ok {T:TypeId} {dst src:AV} (hk:∀ v s,kb2 v s=true→k2 v s) (h:bAppend tt σ T dst src kb2=true):zjE tt σ T dst src k2:=by
 unfold bAppend at h;unfold zjE;split at h
 ·rename_i h1;simp only [h1];split at h
  ·rename_i h2;simp only [h2];split at h
   ·rename_i ys h3;refine srcK_of h3 ?_
    rw [Bool.and_eq_true] at h;refine⟨Nat.le_of_ble_eq_true h.1,?_⟩
    have h:=h.2;split at h
    ·simp only [Bool.and_eq_true,decide_eq_true_eq] at h;exact⟨h.1,hk _ _ h.2⟩
    ·split at h
     ·rename_i h4;simp only [h4,Bool.and_eq_true,decide_eq_true_eq] at h ⊢;exact⟨⟨Nat.eq_of_beq_eq_true h.1.1.1,Nat.eq_of_beq_eq_true h.1.1.2,Nat.eq_of_beq_eq_true h.1.2⟩,h.2.1,hk _ _ h.2.2⟩
     ·cases h
    ·simp only [Bool.and_eq_true,decide_eq_true_eq] at h;exact⟨⟨Nat.eq_of_beq_eq_true h.1.1,Nat.le_of_ble_eq_true h.1.2⟩,h.2.1,hk _ _ h.2.2⟩
    ·cases h
   ·cases h
  ·cases h
 ·cases h
def bAppendZ (tt:TT) (σ:Sg) (T T':TypeId) (dst src:AV) (k:AV→Sg→Bool):Bool:=
 match tt T,tt T',dst,src with
 | some ⟨.sl e,_,_,_⟩,some ⟨.int _,_,_,_⟩,.x (.o c st n),.x (.d (.v (.int _ m)))=>
  (match tt e,lk c σ with
  | some ei,some (.chain e' sz st' xs)=>(Nat.blt 0 ei.size && Nat.beq e' e && Nat.beq sz ei.size && Nat.beq st' st) && (decide (n≤xs.length∧0≤m∧n+m.toNat≤maxLen∧(n+m.toNat) * ei.bytes≤140737488355328) &&
    k (.x (.o c (st+1) (n+m.toNat))) (zat c (.chain e ei.size (st+1) (xs.take n ++ List.replicate m.toNat (ei.zero.map .v))) σ))
  | _,_=>false)
 | _,_,_,_=>false
theorem bAppendZ_ok {T T':TypeId} {dst src:AV} (hk:∀ v s,kb2 v s=true→k2 v s) (h:bAppendZ tt σ T T' dst src kb2=true):ztt tt σ T T' dst src k2:=by
 unfold bAppendZ at h;unfold ztt;split at h
 ·rename_i h1 h2;simp only [h1,h2];split at h
  ·rename_i h3 h4;simp only [h3,h4,Bool.and_eq_true,decide_eq_true_eq] at h ⊢;exact⟨⟨Nat.le_of_ble_eq_true h.1.1.1.1,Nat.eq_of_beq_eq_true h.1.1.1.2,Nat.eq_of_beq_eq_true h.1.1.2,Nat.eq_of_beq_eq_true h.1.2⟩,h.2.1,hk _ _ h.2.2⟩
  ·cases h
 ·cases h
def bCopy (tt:TT) (σ:Sg) (T:TypeId) (dst src:AV) (k:AV→Sg→Bool):Bool:=
 match tt T with
 | some ⟨.sl e,_,_,_⟩=>
  (match tt e,zby σ 1 src with
  | some ei,some ys=>
   Nat.beq ei.size 1 &&
   (match dst with
   | .x (.o c st n)=>
    (match lk c σ with
    | some (.chain e' sz st' xs)=>(Nat.beq sz 1 && Nat.beq st' st) && (Nat.ble n xs.length &&
      k (iv .i64 (min ys.length n:Nat)) (zat c (.chain e' sz st' (ys.take n ++ xs.drop (min ys.length n))) σ))
    | _=>false)
   | .x (.sb id off n _)=>
    (match lk id σ with
    | some (.box cs)=>Nat.ble (off+n) cs.length && k (iv .i64 (min ys.length n:Nat)) (zat id (.box (seg cs off ((ys.take n).flatten.map .d))) σ)
    | _=>false)
   | _=>false)
  | _,_=>false)
 | _=>false
theorem bCopy_ok {T:TypeId} {dst src:AV} (hk:∀ v s,kb2 v s=true→k2 v s) (h:bCopy tt σ T dst src kb2=true):zp5 tt σ T dst src k2:=by
 unfold bCopy at h;unfold zp5;split at h
 ·rename_i h1;simp only [h1];split at h
  ·rename_i h2 h3;simp only [h2,h3,Bool.and_eq_true] at h ⊢;refine⟨Nat.eq_of_beq_eq_true h.1,?_⟩
   have h:=h.2;split at h
   ·split at h
    ·rename_i h4;simp only [h4,Bool.and_eq_true] at h ⊢;exact⟨⟨Nat.eq_of_beq_eq_true h.1.1,Nat.eq_of_beq_eq_true h.1.2⟩,Nat.le_of_ble_eq_true h.2.1,hk _ _ h.2.2⟩
    ·cases h
   ·split at h
    ·rename_i h4;simp only [h4,Bool.and_eq_true] at h ⊢;exact⟨Nat.le_of_ble_eq_true h.1,hk _ _ h.2⟩
    ·cases h
   ·cases h
  ·cases h
 ·cases h
def bConvS (tt:TT) (dst:TypeId) (x:AV) (k:AV→Bool):Bool:=
 match x,tt dst with
 | .x (.d (.v (.string s))),some ⟨.sl e,_,_,_⟩=>(match tt e with
  | some ⟨.int .u8,_,_,_⟩=>Nat.ble s.size maxLen && k (.x (.d (.s 1 (s.data.toList.map fun c=>[.v (.int .u8 c.toNat)]))))
  | _=>false)
 | _,_=>false
theorem bConvS_ok {dst:TypeId} {x:AV} (hk:∀ v,kb v=true→k v) (h:bConvS tt dst x kb=true):zmt tt dst x k:=by
 unfold bConvS at h;unfold zmt;split at h
 ·rename_i h1;simp only [h1];split at h
  ·rename_i h2;simp only [h2,Bool.and_eq_true] at h ⊢;exact⟨Nat.le_of_ble_eq_true h.1,hk _ h.2⟩
  ·cases h
 ·cases h
end
end Go.QL
namespace Go.QL
open Go Go.RowKit
section
variable {tt:TT} {gd:Option Bool} {fr:Fr} {σ:Sg} {kb:AV→Bool} {k:AV→Prop} {kb2:AV→Sg→Bool} {k2:AV→Sg→Prop} {kb3:Sg→Bool} {k3:Sg→Prop}
def bev1 (fr:Fr) (gd:Option Bool) (x:Operand) (k:AV→Bool):Bool:=
 match ev fr x with
 | some (none,v)=>k v
 | some (some c,v)=>gB gd c && k v
 | none=>false
theorem bev1_ok {x:Operand} (hk:∀ v,kb v=true→k v) (h:bev1 fr gd x kb=true):ev1 fr gd x k:=by
 unfold bev1 at h;unfold ev1;split at h
 ·rename_i h1;simp only [h1];exact hk _ h
 ·rename_i h1;simp only [h1,Bool.and_eq_true] at h ⊢;exact⟨gB_ok' h.1 id,hk _ h.2⟩
 ·cases h
def bevL (fr:Fr) (gd:Option Bool):List Operand→(List AV→Bool)→Bool
 | [],k=>k []
 | x::r,k=>bev1 fr gd x fun v=>bevL fr gd r fun vs=>k (v::vs)
theorem bevL_ok:∀ {l:List Operand} {kb:List AV→Bool} {k:List AV→Prop},(∀ v,kb v=true→k v)→bevL fr gd l kb=true→evL fr gd l k
 | [],kb,k,hk,h=>hk _ h
 | x::r,kb,k,hk,h=>bev1_ok (fun v hv=>bevL_ok (fun vs hvs=>hk _ hvs) hv) h
def bevO (fr:Fr) (gd:Option Bool):Option Operand→(Option AV→Bool)→Bool
 | none,k=>k none
 | some x,k=>bev1 fr gd x fun v=>k (some v)
theorem bevO_ok {o:Option Operand} {kb:Option AV→Bool} {k:Option AV→Prop} (hk:∀ v,kb v=true→k v) (h:bevO fr gd o kb=true):evO fr gd o k:=by
 cases o with
 | none=>exact hk _ h
 | some x=>exact bev1_ok (fun v hv=>hk _ hv) h
def bStepP (tt:TT) (bd:Bool) (fr:Fr) (σ:Sg) (gd:Option Bool) (o:Op) (k:AV→Bool):Bool:=
 match o with
 | .move x|.assign x=>bev1 fr gd x k
 | .pick c a b=>bPick fr gd c a b k
 | .binOp op xT x (.const (.slice none 0 0)) _=>(match gd with|none=>bd|some _=>false) && bev1 fr gd x fun u=>bNilq tt σ op xT u k
 | .binOp op xT x (.const .nilIface) _=>(match tt xT with|some ⟨.ifc,_,_,_⟩=>bev1 fr gd x fun u=>bNilI op u k|_=>false)
 | .binOp op xT x y _=>bev1 fr gd x fun u=>bev1 fr gd y fun v=>bBin tt gd op xT u v k
 | .unOp op _ x=>bev1 fr gd x fun u=>bUn op u k
 | .convert src dst x=>(match tt src with
  | some ⟨.int _,_,_,_⟩=>bev1 fr gd x fun u=>bConv tt dst u k
  | some ⟨.str,_,_,_⟩=>bev1 fr gd x fun u=>bConv tt dst u k
  | some ⟨.sl e,_,_,_⟩=>(match tt e,tt dst with
   | some ⟨.int .u8,_,_,_⟩,some ⟨.str,_,_,_⟩=>bev1 fr gd x fun u=>bConvB u k
   | _,_=>false)
  | _=>false)
 | .load T x=>bev1 fr gd x fun u=>(match u with
  | .x (.oe c st i off)=>bLoadOe tt σ gd T c st i off k
  | u=>bLoad tt σ T u k)
 | .fieldAddr T x f=>bev1 fr gd x fun u=>(match u with
  | .x (.oe c st _ _)=>(match lk c σ with|some (.chain _ _ st' _)=>Nat.beq st' st|_=>false)
  | _=>true) && bFieldAddr tt T u f k
 | .field T x f=>bev1 fr gd x fun u=>bField tt T u f k
 | .indexAddr T x i=>bev1 fr gd x fun u=>bev1 fr gd i fun v=>bIndexAddr tt σ gd T u v k
 | .index T x i=>bev1 fr gd x fun u=>bev1 fr gd i fun v=>bIndex tt gd T u v k
 | .slice T x lo hi none=>bev1 fr gd x fun u=>bevO fr gd lo fun l=>bevO fr gd hi fun h=>bSlice tt σ gd T u l h k
 | .slice T x lo hi (some mx)=>bev1 fr gd x fun u=>bevO fr gd lo fun l=>bevO fr gd hi fun h=>bevO fr gd (some mx) fun m=>bSlice3 tt gd T u l h m k
 | .extract x n=>bev1 fr gd x fun u=>bExtract u n k
 | .nilCheck x=>bev1 fr gd x fun u=>(match u with
  | .x (.b id off)=>k (.x (.b id off))
  | .x (.se e off)=>k (.x (.se e off))
  | .x (.oe c st i off)=>(match lk c σ with
   | some (.chain _ _ st' _)=>Nat.beq st' st && k (.x (.oe c st i off))
   | _=>false)
  | _=>false)
 | .build T parts=>bevL fr gd (parts.toList.map (·.2)) fun vs=>bBuild tt T ((parts.toList.map (·.1)).zip vs) k
 | .makeFunc fn first captured=>bevL fr gd first.toList fun vs=>bevL fr gd captured.toList fun us=>(match stepP.scalars vs,stepP.scalars us with
  | some ss,some ts=>k (.x (.f fn ss ts))
  | none,some []=>(match zkw vs with|some l=>k (.x (.d (.v (.func fn l.toArray #[]))))|none=>false)
  | _,_=>false)
 | .call ⟨.builtin .max,args,_⟩=>bevL fr gd args.toList fun vs=>bMM true vs k
 | .call ⟨.builtin .min,args,_⟩=>bevL fr gd args.toList fun vs=>bMM false vs k
 | .lookup T x i ok=>bev1 fr gd x fun u=>bev1 fr gd i fun v=>bLookup tt σ T u v ok k
 | .entry x=>bev1 fr gd x fun u=>bEntry σ u k
 | .call ⟨.builtin .len,args,ts⟩=>(match args.toList,ts.toList with
  | [x],[T]=>bev1 fr gd x fun u=>bLen tt σ T u k
  | _,_=>false)
 | _=>false
theorem bStepP_ok {bd:Bool} {o:Op} (hk:∀ v,kb v=true→k v) (h:bStepP tt bd fr σ gd o kb=true):stepP tt bd fr σ gd o k:=by
 unfold bStepP at h;unfold stepP;split at h
 ·exact bev1_ok hk h
 ·exact bev1_ok hk h
 ·exact bPick_ok hk h
 ·rw [Bool.and_eq_true] at h;obtain⟨rfl,rfl⟩:gd=none∧bd=true:=by
   have h:=h.1;cases gd with
   | none=>exact⟨rfl,h⟩
   | some c=>cases h
  exact bev1_ok (fun v hv=>bNilq_ok hk hv) h.2
 ·split at h
  ·rename_i h1;simp only [h1];exact bev1_ok (fun v hv=>bNilI_ok hk hv) h
  ·cases h
 ·rename_i n1 n2;split
  all_goals first
   | (rename_i heq;cases heq;exact absurd rfl n1)
   | (rename_i heq;cases heq;exact absurd rfl n2)
   | (rename_i heq;cases heq;exact bev1_ok (fun v hv=>bev1_ok (fun u hu=>bBin_ok hk hu) hv) h)
   | (rename_i heq _;cases heq;exact bev1_ok (fun v hv=>bev1_ok (fun u hu=>bBin_ok hk hu) hv) h)
   | (rename_i heq _ _;cases heq;exact bev1_ok (fun v hv=>bev1_ok (fun u hu=>bBin_ok hk hu) hv) h)
   | (simp_all;done)
   | (simp_all;rename_i q;exact q _ _ _ _ _ rfl rfl rfl rfl rfl)
 ·exact bev1_ok (fun v hv=>bUn_ok hk hv) h
 ·split at h
  ·rename_i h1;simp only [h1];exact bev1_ok (fun v hv=>bConv_ok hk hv) h
  ·rename_i h1;simp only [h1];exact bev1_ok (fun v hv=>bConv_ok hk hv) h
  ·rename_i h1;simp only [h1];split at h
   ·rename_i h2 h3;simp only [h2,h3];exact bev1_ok (fun v hv=>bConvB_ok hk hv) h
   ·cases h
  ·cases h
 ·refine bev1_ok (fun v hv=>?_) h
  split at hv
  ·exact bLoadOe_ok hk hv
  ·rename_i hne;split
   ·exact absurd rfl (hne _ _ _ _)
   ·exact bLoad_ok hk hv
 ·refine bev1_ok (fun v hv=>?_) h
  rw [Bool.and_eq_true] at hv;refine⟨?_,bFieldAddr_ok hk hv.2⟩
  have hv:=hv.1;split at hv
  ·split at hv
   ·rename_i h1;unfold live;simp only [h1];exact Nat.eq_of_beq_eq_true hv
   ·cases hv
  ·unfold live;split
   ·rename_i h1;exact absurd rfl (h1 _ _ _ _)
   ·trivial
 ·exact bev1_ok (fun v hv=>bField_ok hk hv) h
 ·exact bev1_ok (fun v hv=>bev1_ok (fun u hu=>bIndexAddr_ok hk hu) hv) h
 ·exact bev1_ok (fun v hv=>bev1_ok (fun u hu=>bIndex_ok hk hu) hv) h
 ·exact bev1_ok (fun v hv=>bevO_ok (fun l hl=>bevO_ok (fun u hu=>bSlice_ok hk hu) hl) hv) h
 ·exact bev1_ok (fun v hv=>bevO_ok (fun l hl=>bevO_ok (fun u hu=>bevO_ok (fun m hm=>bSlice3_ok hk hm) hu) hl) hv) h
 ·exact bev1_ok (fun v hv=>bExtract_ok hk hv) h
 ·refine bev1_ok (fun v hv=>?_) h
  split at hv
  ·exact hk _ hv
  ·exact hk _ hv
  ·split at hv
   ·rename_i h1;simp only [h1,Bool.and_eq_true] at hv ⊢;exact⟨Nat.eq_of_beq_eq_true hv.1,hk _ hv.2⟩
   ·cases hv
  ·cases hv
 ·exact bevL_ok (fun v hv=>bBuild_ok hk hv) h
 ·refine bevL_ok (fun v hv=>bevL_ok (fun u hu=>?_) hv) h
  split at hu
  ·rename_i h1 h2;simp only [h1,h2];exact hk _ hu
  ·rename_i h1 h2;simp only [h1,h2];split at hu
   ·rename_i h3;simp only [h3];exact hk _ hu
   ·cases hu
  ·cases hu
 ·exact bevL_ok (fun v hv=>bMM_ok hk hv) h
 ·exact bevL_ok (fun v hv=>bMM_ok hk hv) h
 ·exact bev1_ok (fun v hv=>bev1_ok (fun u hu=>bLookup_ok hk hu) hv) h
 ·exact bev1_ok (fun v hv=>bEntry_ok hk hv) h
 ·split at h
  ·rename_i h1 h2;simp only [h1,h2];exact bev1_ok (fun v hv=>bLen_ok hk hv) h
  ·cases h
 ·cases h
def bId (σ:Sg) (d:Option Tmp):Nat:=
 match d with
 | some d=>(match lk d σ with|none=>d|some _=>zaZ σ)
 | none=>zaZ σ
theorem bId_ok {d:Option Tmp} {p:Nat→Prop} (h:p (bId σ d)):zhE σ d p:=by
 unfold bId at h;unfold zhE;cases d with
 | none=>exact h
 | some d=>
  simp only at h ⊢;cases hl:lk d σ with
  | none=>rw [hl] at h;exact h
  | some _=>rw [hl] at h;exact h
def bStepM (tt:TT) (fr:Fr) (σ:Sg) (id:Nat) (o:Op) (k:Option AV→Sg→Bool):Bool:=
 match o with
 | .alloc T=>bAlloc tt σ id T fun v σ'=>k (some v) σ'
 | .box _ x=>bev1 fr none x fun u=>bBox σ id u fun v σ'=>k (some v) σ'
 | .store T p x=>bev1 fr none p fun q=>bev1 fr none x fun u=>(match q with
  | .x (.b ib off)=>bStoreB tt σ T ib off u fun σ'=>k none σ'
  | .x (.oe c st i off)=>bStoreOe tt σ T c st i off u fun σ'=>k none σ'
  | _=>false)
 | .makeMap T none=>bMakeMap tt σ id T fun v σ'=>k (some v) σ'
 | .mapUpdate T m i x=>bev1 fr none m fun u=>bev1 fr none i fun v=>bev1 fr none x fun y=>bMapUpdate tt σ T u v y fun σ'=>k none σ'
 | .insert T m i x=>bev1 fr none m fun u=>bev1 fr none i fun v=>bev1 fr none x fun y=>bMapUpdate tt σ T u v y fun σ'=>k none σ'
 | .range T x=>bev1 fr none x fun u=>bRange tt σ id T u fun v σ'=>k (some v) σ'
 | .buildSlice T n parts=>bevL fr none (parts.toList.map (·.2)) fun vs=>bBuildSlice tt σ id T n ((parts.toList.map (·.1)).zip vs) fun v σ'=>k (some v) σ'
 | .makeSlice T l c=>bev1 fr none l fun u=>bev1 fr none c fun v=>bMake tt σ id T u v fun r σ'=>k (some r) σ'
 | .call ⟨.builtin .append,args,ts⟩=>(match args.toList,ts.toList with
  | [x,y],[T,T']=>bev1 fr none x fun u=>bev1 fr none y fun v=>bif Nat.beq T T' then bAppend tt σ T u v fun r σ'=>k (some r) σ' else bAppendZ tt σ T T' u v fun r σ'=>k (some r) σ'
  | _,_=>false)
 | .call ⟨.builtin .copy,args,ts⟩=>(match args.toList,ts.toList with
  | [x,y],[T,_]=>bev1 fr none x fun u=>bev1 fr none y fun v=>bCopy tt σ T u v fun r σ'=>k (some r) σ'
  | _,_=>false)
 | _=>false
theorem bStepM_ok {id:Nat} {o:Op} {kb:Option AV→Sg→Bool} {k:Option AV→Sg→Prop} (hk:∀ v s,kb v s=true→k v s) (h:bStepM tt fr σ id o kb=true):stepM tt fr σ id o k:=by
 unfold bStepM at h;unfold stepM;split at h
 ·exact bAlloc_ok (fun v s hs=>hk _ _ hs) h
 ·exact bev1_ok (fun u hu=>bBox_ok (fun v s hs=>hk _ _ hs) hu) h
 ·refine bev1_ok (fun q hq=>bev1_ok (fun u hu=>?_) hq) h
  split at hu
  ·exact bStoreB_ok (fun s hs=>hk _ _ hs) hu
  ·exact bStoreOe_ok (fun s hs=>hk _ _ hs) hu
  ·cases hu
 ·exact bMakeMap_ok (fun v s hs=>hk _ _ hs) h
 ·exact bev1_ok (fun u hu=>bev1_ok (fun v hv=>bev1_ok (fun y hy=>bMapUpdate_ok (fun s hs=>hk _ _ hs) hy) hv) hu) h
 ·exact bev1_ok (fun u hu=>bev1_ok (fun v hv=>bev1_ok (fun y hy=>bMapUpdate_ok (fun s hs=>hk _ _ hs) hy) hv) hu) h
 ·exact bev1_ok (fun u hu=>bRange_ok (fun v s hs=>hk _ _ hs) hu) h
 ·exact bevL_ok (fun vs hvs=>bBuildSlice_ok (fun v s hs=>hk _ _ hs) hvs) h
 ·exact bev1_ok (fun u hu=>bev1_ok (fun v hv=>bMake_ok (fun v s hs=>hk _ _ hs) hv) hu) h
 ·split at h
  ·rename_i x y T T' h1 h2;simp only [h1,h2];refine bev1_ok (fun u hu=>bev1_ok (fun v hv=>?_) hu) h
   cases hb:Nat.beq T T' with
   | true=>
    rw [hb] at hv;rw [if_pos (Nat.eq_of_beq_eq_true hb)];exact bAppend_ok (fun v s hs=>hk _ _ hs) hv
   | false=>
    rw [hb] at hv;rw [if_neg (by intro e;rw [e] at hb;simp at hb)];exact bAppendZ_ok (fun v s hs=>hk _ _ hs) hv
  ·cases h
 ·split at h
  ·rename_i h1 h2;simp only [h1,h2];exact bev1_ok (fun u hu=>bev1_ok (fun v hv=>bCopy_ok (fun v s hs=>hk _ _ hs) hv) hu) h
  ·cases h
 ·cases h
end
end Go.QL
