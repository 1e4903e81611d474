/- What the functions that this law reaches return: part 0. No condition. -/
import Derived.Test.YtpfiejadigkgaaaGreatDoorB04
import Derived.KernelRfl
import Derived.Shelf.Spec.SlicesGrow
import Derived.Shelf.LaysM
import Derived.Shelf.LaysC
import Derived.Shelf.Strconv.Itoa3
import Derived.Test.YtpfiejadigkgaaaGreatDoorProg
import Derived.Lib.AppendIntMem
import Derived.Lib.ItoaLen
set_option linter.all false
noncomputable section
namespace Go.Proofs.YtpfiejadigkgaaaGreatDoor
open Go Go.QL
structure GateT where
 kind:Int
 a:Int
 b:Int
deriving DecidableEq
structure NetT where
 inn:Int
 gates:List GateT
 out:List Int
deriving DecidableEq
def gPV (g:GateT):List PV:=[.v (.int .i64 g.kind),.v (.int .i64 g.a),.v (.int .i64 g.b)]
def gatesPV (l:List GateT):PV:=.s 3 (l.map gPV)
def netAV (n:NetT):AV:=.a [.d (.v (.int .i64 n.inn)),.d (gatesPV n.gates),.d (zR n.out)]
end Go.Proofs.YtpfiejadigkgaaaGreatDoor
namespace Go.Proofs.YtpfiejadigkgaaaGreatDoor
open Go Go.QL
set_option maxHeartbeats 400000
def inB (n lo hi:Int):Bool:=bif decide (lo≤n) then decide (n≤hi) else false
def delays:List GateT→Nat
 | []=>0
 | g::r=>(if g.kind=5 then 1 else 0)+delays r
theorem delays_take (l:List GateT) (i:Nat) (h:i < l.length):delays (l.take (i+1))=delays (l.take i)+(if l[i].kind=5 then 1 else 0):=by
 induction l generalizing i with
 | nil=>simp at h
 | cons g r ih=>
  cases i with
  | zero=>simp [delays]
  | succ i=>simp at h;simp only [List.take_succ_cons,delays,ih i h,List.getElem_cons_succ];omega
theorem delays_le (l:List GateT):delays l≤l.length:=by
 induction l with
 | nil=>simp [delays]
 | cons g r ih=>simp only [delays,List.length_cons];split <;> omega
end Go.Proofs.YtpfiejadigkgaaaGreatDoor
namespace Go.Proofs.YtpfiejadigkgaaaGreatDoor
open Go Go.QL
set_option maxHeartbeats 400000
def gateErr (inn:Int) (len i:Nat) (g:GateT):Int:=
 if inB g.kind 1 5=false then 2
 else
  let last:=if g.kind=5 then inn+len - 1 else inn+i - 1
  let b:=if g.kind=4∨g.kind=5 then 0 else last
  if inB g.a 0 last=false∨inB g.b 0 b=false then 4 else 0
end Go.Proofs.YtpfiejadigkgaaaGreatDoor
namespace Go.Proofs.YtpfiejadigkgaaaGreatDoor
open Go Go.QL
set_option maxHeartbeats 800000
attribute [local irreducible] ACall FnC
theorem inB_iff {n lo hi:Int}:inB n lo hi=true↔lo≤n∧n≤hi:=by
 unfold inB;cases h:decide (lo≤n) with
 | true=>have:=of_decide_eq_true h;simp [this]
 | false=>have:=of_decide_eq_false h;simp [this]
def firstGate (inn:Int) (len:Nat):List GateT→Nat→Option (Nat × Int)
 | [],_=>none
 | g::r,i=>if gateErr inn len i g=0 then firstGate inn len r (i+1) else some (i,gateErr inn len i g)
def firstOut (last:Int):List Int→Nat→Option Nat
 | [],_=>none
 | x::r,j=>if inB x 0 last=true then firstOut last r (j+1) else some j
def checkR (n:NetT):Int × Int × Int:=
 if inB n.inn 1 6=false then (1,0,7)
 else if 24 < n.gates.length∨inB n.out.length 1 4=false then (1,0,3)
 else match firstGate n.inn n.gates.length n.gates 0 with
  | some (i,e)=>(2,i,e)
  | none=>
   if 5 < delays n.gates then (1,0,3)
   else match firstOut (n.inn+n.gates.length - 1) n.out 0 with
    | some j=>(3,j,4)
    | none=>(0,0,0)
def three (t:Int × Int × Int):AV:=.t [iv .i64 t.1,iv .i64 t.2.1,iv .i64 t.2.2]
end Go.Proofs.YtpfiejadigkgaaaGreatDoor
namespace Go.Proofs.YtpfiejadigkgaaaGreatDoor
open Go Go.QL
set_option maxHeartbeats 800000
attribute [local irreducible] ACall FnC
def gOut (n hi:Int):Bool:=bif decide (n < 0) then true else decide (hi < n)
theorem zaL (n hi:Int):FnC Tryz.prog 55 [iv .i64 n,iv .i64 hi] (bv (gOut n hi)):=by
 refine hdC Tryz.func55 Tryz.ntmps55 (res:=[.tmp 4]) fun w0 K0=>?_
 repeat' first|refine zd ?_|((first|refine zi ?_|refine regA ?_|refine andA ?_|fail);conv=>whnf)|fail
 rfl
theorem gchk1_fn (last x:Int) (rest:Sg):ACall Tryz.prog 57 [iv .i64 x,.x (.b 6 0)] ((6,.box [.d (.v (.int .i64 last))])::rest)
  (fun r σ'=>r=bv (gOut x last)∧σ'=(6,.box [.d (.v (.int .i64 last))])::rest):=by
 refine zcN hTt Tryz.func57 rfl (by kernel_rfl) (res:=[.tmp 3]) rfl Tryz.ntmps57 (by simp) fun w0 K0 B=>?_
 dsimp only [entry];repeat' first|refine zd ?_|((first|refine zi ?_|refine regA ?_|refine zsn (zaL _ _) ?_|fail);conv=>whnf)|fail
 exact⟨_,rfl,rfl,rfl⟩
def firstBad (last:Int) (l:List Int):Int:=
 match firstOut last l 0 with
 | some j=>j
 | none=>-1
theorem outB_eq (x hi:Int):gOut x hi = !inB x 0 hi:=by
 unfold gOut inB;by_cases h:x < 0
 ·simp [h]
 ·by_cases h2:hi < x
  ·have:¬ x≤hi:=by omega
   simp [h,h2,this]
  ·have:x≤hi:=by omega
   have h3:0≤x:=by omega
   simp [h2,this,h3]
theorem gidxf_fn (last:Int) (l:List Int) (rest:Sg):ACall Tryz.prog 56 [sl l,.x (.f (.func 57) [] [.b 6 0])] ((6,.box [.d (.v (.int .i64 last))])::rest)
  (fun r σ'=>r=iv .i64 (firstBad last l)∧σ'=(6,.box [.d (.v (.int .i64 last))])::rest):=by
 refine zcN hTt Tryz.func56 rfl (by kernel_rfl) (res:=[.tmp 4]) rfl Tryz.ntmps56 (by simp) fun w0 K0 B=>?_
 dsimp only [entry];repeat' first|refine zd ?_|refine zc ?_|((refine regA ?_);conv=>whnf)|(refine lnA fun hln=>?_;conv=>whnf)|fail
 refine zJ (fun i:Nat=>[(8,iv .i64 i),(7,iv .i64 l.length),(0,sl l),(1,.x (.f (.func 57) [] [.b 6 0]))]) (fun _=>(6,.box [.d (.v (.int .i64 last))])::rest)
  (fun i=>i≤l.length∧firstOut last l 0=firstOut last (l.drop i) i) (fun i=>l.length - i) 0 (by simp) (Imp.slots ⟨rfl,congrArg (fun k:Nat=>some (iv .i64 k)) (List.length_map _),rfl,rfl,trivial⟩) ?_
 rintro i ⟨hi,hfo⟩;repeat' first|refine zd ?_|refine zc ?_|((first|refine zf ?_|refine zk ?_|refine zi ?_|refine regA ?_|((refine⟨_,gchk1_fn _ _ _,?_⟩);(rintro _ _ ⟨rfl,rfl⟩))|fail);conv=>whnf)|(refine zso rfl (fun hb=>?_) (fun hb=>?_))|((first|refine zsq ?_|refine andA ?_|with_reducible refine exA fun _=>?_|fail);conv=>whnf)|fail
 ·have e:firstBad last l=i:=by
   unfold firstBad;rw [hfo,List.drop_eq_getElem_cons (by omega)];simp only [firstOut];rw [outB_eq] at hb;rw [if_neg (by simpa using hb)]
  exact⟨_,rfl,by rw [e],rfl⟩
 ·refine⟨i+1,⟨by omega,?_⟩,by omega,Imp.slots ⟨rfl,rfl,rfl,rfl,trivial⟩⟩
  rw [hfo,List.drop_eq_getElem_cons (by omega)];simp only [firstOut];rw [outB_eq] at hb;rw [if_pos (by simpa using hb)]
 ·have e:firstBad last l = -1:=by
   unfold firstBad;rw [hfo,List.drop_eq_nil_of_le (by omega)];rfl
  exact⟨_,rfl,by rw [e],rfl⟩
theorem wrap_low {n:Int} (h:i64 n) {hi:Int} (hh:hi < 9223372036854775807):gOut (IntKind.i64.wrap (n - 1)) hi = !inB n 1 (hi+1):=by
 obtain⟨h1,h2⟩:=h;by_cases hn:n = -9223372036854775808
 ·subst hn;have:IntKind.i64.wrap (-9223372036854775808 - 1)=9223372036854775807:=by decide
  rw [this];unfold gOut inB;simp [hh]
 ·rw [zg (by omega),outB_eq];congr 1
  unfold inB;by_cases h3:1≤n
  ·have:0≤n - 1:=by omega
   simp only [this,h3,decide_true,cond_true];exact decide_eq_decide.2 (by omega)
  ·have:¬ 0≤n - 1:=by omega
   simp [this,h3]
theorem or_if {a b:Bool}:(if (!a)=false∨(!b)=false then (4:Int) else 0)=if (bif a then true else b)=true then 4 else 0:=by
 cases a <;> cases b <;> rfl
theorem inB_out (x hi:Int):inB x 0 hi = !gOut x hi:=by rw [outB_eq,Bool.not_not]
theorem gerr1 {inn:Int} {len i:Nat} {g:GateT} (hk:g.kind=1∨g.kind=2∨g.kind=3):gateErr inn len i g=if (bif gOut g.a (inn+i - 1) then true else gOut g.b (inn+i - 1))=true then 4 else 0:=by
 unfold gateErr;rw [if_neg (by rw [show inB g.kind 1 5=true from inB_iff.2 (by omega)];exact Bool.noConfusion)];simp only [show ¬ g.kind=5 by omega,show ¬ g.kind=4 by omega,or_self,if_false,inB_out];exact or_if
theorem gerr4 {inn:Int} {len i:Nat} {g:GateT} (hk:g.kind=4):gateErr inn len i g=if (bif gOut g.a (inn+i - 1) then true else gOut g.b 0)=true then 4 else 0:=by
 unfold gateErr;rw [if_neg (by rw [show inB g.kind 1 5=true from inB_iff.2 (by omega)];exact Bool.noConfusion)];simp only [show ¬ g.kind=5 by omega,hk,true_or,if_false,if_true,inB_out,show ¬ (4:Int)=5 by omega];exact or_if
theorem gerr5 {inn:Int} {len i:Nat} {g:GateT} (hk:g.kind=5):gateErr inn len i g=if (bif gOut g.a (inn+len - 1) then true else gOut g.b 0)=true then 4 else 0:=by
 unfold gateErr;rw [if_neg (by rw [show inB g.kind 1 5=true from inB_iff.2 (by omega)];exact Bool.noConfusion)];simp only [hk,show ((5:Int)=4∨(5:Int)=5) by omega,if_true,inB_out];exact or_if
theorem gerrX {inn:Int} {len i:Nat} {g:GateT} (hk:¬ (1≤g.kind∧g.kind≤5)):gateErr inn len i g=2:=by
 unfold gateErr;rw [if_pos];cases h:inB g.kind 1 5 with
 | false=>rfl
 | true=>exact absurd (inB_iff.1 h) hk
theorem pcheck_fn (n:NetT) (hr:i64 n.inn):FnC Tryz.prog 16 [netAV n] (three (checkR n)):=by
 refine hdC Tryz.func16 Tryz.ntmps16 (res:=[.tmp 2,.tmp 3,.tmp 4]) fun w0 K0=>?_
 refine AW_len 0 2 rfl rfl fun hol=>?_
 rw [List.length_map] at hol;unfold maxLen at hol;have ew:IntKind.i64.wrap ((n.out.length:Int) - 1)=(n.out.length:Int) - 1:=zg (by omega);repeat' first|refine zd ?_|refine zc ?_|((first|refine zf ?_|refine zi ?_|refine regA ?_|refine drA (id:=5) 9 true [0,1,0,4,12,31,63,0,128,511] ?_|refine zsn (zaL _ _) ?_|refine zsp (zaL _ _) ?_|fail);conv=>whnf)|(refine zso rfl (fun hb=>?_) (fun hb=>?_))|((first|refine zsq ?_|refine⟨IntKind.wrap _ _,rfl,?_⟩|refine andA ?_|fail);conv=>whnf)|(refine lnA fun hln=>?_;conv=>whnf)|fail
 ·rw [wrap_low hr (by decide)] at hb;rw [show checkR n=(1,0,7) from by unfold checkR;rw [if_pos (by simpa using hb)]];rfl
 ·rename_i hin;rw [wrap_low hr (by decide)] at hin;rw [show checkR n=(1,0,3) from by
   unfold checkR;rw [if_neg (by intro h;rw [show (5:Int)+1=6 from rfl,h] at hin;cases hin),if_pos];revert hb
   cases hd:decide (24 < (n.gates.length:Int)) with
   | true=>intro _;have:=of_decide_eq_true hd;exact .inl (by omega)
   | false=>
    intro hb;right;simp only [cond_false] at hb;rw [← ew,wrap_low (n:=(n.out.length:Int)) ⟨by omega,by omega⟩ (by decide)] at hb;simpa using hb];rfl
 ·rename_i hin _;rw [wrap_low hr (by decide)] at hin;have hin:inB n.inn 1 6=true:=by simpa using hin
  have hlen:n.gates.length≤24∧inB n.out.length 1 4=true:=by
   revert hb
   cases hd:decide (24 < (n.gates.length:Int)) with
   | true=>intro hb;cases hb
   | false=>
    intro hb;have:=of_decide_eq_false hd;simp only [cond_false] at hb;rw [← ew,wrap_low (n:=(n.out.length:Int)) ⟨by omega,by omega⟩ (by decide)] at hb;exact⟨by omega,by simpa using hb⟩
  obtain⟨h1,h6⟩:=inB_iff.1 hin;have e0:checkR n=match firstGate n.inn n.gates.length n.gates 0 with
   | some (i,e)=>(2,(i:Int),e)
   | none=>
    if 5 < delays n.gates then (1,0,3)
    else match firstOut (n.inn+n.gates.length - 1) n.out 0 with
     | some j=>(3,(j:Int),4)
     | none=>(0,0,0):=by
   unfold checkR;rw [if_neg (by rw [hin];exact Bool.noConfusion),if_neg (by rw [hlen.2];intro h;rcases h with h|h;omega;cases h)];try rfl
  have hll:=hlen.1;have elast:IntKind.i64.wrap (IntKind.i64.wrap (n.inn+(n.gates.map gPV).length) - 1)=n.inn+n.gates.length - 1:=by
   rw [List.length_map,zg (n:=n.inn+n.gates.length) (by omega),zg (by omega)]
  refine zJ (fun i:Nat=>[(39,iv .i64 i),(38,iv .i64 n.gates.length),(37,.x (.d (gatesPV n.gates))),(5,iv .i64 (delays (n.gates.take i))),(6,.x (.b 6 0)),(1,.x (.b 1 0))])
   (fun _=>[(6,.box [.d (.v (.int .i64 (n.inn+n.gates.length - 1)))]),(1,.box [.d (.v (.int .i64 n.inn)),.d (gatesPV n.gates),.d (zR n.out)])])
   (fun i=>i≤n.gates.length∧firstGate n.inn n.gates.length n.gates 0=firstGate n.inn n.gates.length (n.gates.drop i) i) (fun i=>n.gates.length - i) 0 (by simp)
   (Imp.forget ⟨rfl,congrArg (fun k:Nat=>some (iv .i64 k)) (List.length_map _),rfl,rfl,rfl,rfl,trivial⟩ ⟨congrArg (fun k:Int=>some (Ob.box [.d (.v (.int .i64 k))])) elast,rfl,trivial⟩ rfl) ?_
  rintro i ⟨hi,hfg⟩;have hdl:=delays_le (n.gates.take i);rw [List.length_take] at hdl;have herr:∀ (hi':i < n.gates.length) (e:Int),gateErr n.inn n.gates.length i n.gates[i]=e→e≠0→checkR n=(2,(i:Int),e):=by
   intro hi' e h1 h2;rw [e0,hfg,List.drop_eq_getElem_cons hi'];simp only [firstGate];rw [if_neg (by rw [h1];exact h2),h1]
  have hok:∀ (hi':i < n.gates.length),gateErr n.inn n.gates.length i n.gates[i]=0→firstGate n.inn n.gates.length n.gates 0=firstGate n.inn n.gates.length (n.gates.drop (i+1)) (i+1):=by
   intro hi' h1;rw [hfg,List.drop_eq_getElem_cons hi'];simp only [firstGate];rw [if_pos h1]
  have hdt:∀ (hi':i < n.gates.length) (k:Nat),(if n.gates[i].kind=5 then 1 else 0)=k→delays (n.gates.take (i+1))=delays (n.gates.take i)+k:=by
   intro hi' k hk;rw [delays_take _ _ hi',hk]
  repeat' first|refine zd ?_|refine zc ?_|((first|refine zf ?_|refine zk ?_|refine zi ?_|refine regA ?_|refine drA (id:=9) 11 false [0,1,0,7,15,0,32,0,224,480,31,2047] ?_|refine zsn (zaL _ _) ?_|refine zsp (zaL _ _) ?_|fail);conv=>whnf)|(refine zso rfl (fun hb=>?_) (fun hb=>?_))|((first|refine zsq ?_|refine andA ?_|with_reducible refine exA fun _=>?_|fail);conv=>whnf)|fail
  all_goals first
   | (rw [herr (by omega) 4 ((gerr1 (by omega)).trans (if_pos hb)) (by decide)];rfl)
   | (rw [herr (by omega) 4 ((gerr4 (by omega)).trans (if_pos hb)) (by decide)];rfl)
   | (rw [herr (by omega) 4 ((gerr5 (by omega)).trans (if_pos hb)) (by decide)];rfl)
   | (rw [herr (by omega) 2 (gerrX (by omega)) (by decide)];rfl)
   | (refine⟨i+1,⟨by omega,hok (by omega) ((gerr1 (by omega)).trans (if_neg (by rw [hb];exact Bool.noConfusion)))⟩,by omega,?_⟩;rw [hdt (by omega) 0 (if_neg (by omega))];exact Imp.forget ⟨rfl,rfl,rfl,rfl,rfl,rfl,trivial⟩ ⟨rfl,rfl,trivial⟩ rfl)
   | (refine⟨i+1,⟨by omega,hok (by omega) ((gerr4 (by omega)).trans (if_neg (by rw [hb];exact Bool.noConfusion)))⟩,by omega,?_⟩;rw [hdt (by omega) 0 (if_neg (by omega))];exact Imp.forget ⟨rfl,rfl,rfl,rfl,rfl,rfl,trivial⟩ ⟨rfl,rfl,trivial⟩ rfl)
   | (refine⟨i+1,⟨by omega,hok (by omega) ((gerr5 (by omega)).trans (if_neg (by rw [hb];exact Bool.noConfusion)))⟩,by omega,?_⟩;rw [hdt (by omega) 1 (if_pos (by omega))];exact Imp.forget ⟨rfl,rfl,rfl,rfl,rfl,rfl,trivial⟩ ⟨rfl,rfl,trivial⟩ rfl)
   | skip
  ·have e2:firstGate n.inn n.gates.length n.gates 0=none:=by
    rw [hfg,List.drop_eq_nil_of_le (by omega)];rfl
   rw [List.take_of_length_le (by omega)] at hb;rw [show checkR n=(1,0,3) from by rw [e0,e2];exact if_pos (by omega)];rfl
  ·have e2:firstGate n.inn n.gates.length n.gates 0=none:=by
    rw [hfg,List.drop_eq_nil_of_le (by omega)];rfl
   rw [List.take_of_length_le (by omega)] at hb;have e3:checkR n=match firstOut (n.inn+n.gates.length - 1) n.out 0 with
     | some j=>(3,(j:Int),4)
     | none=>(0,0,0):=by
    rw [e0,e2];exact if_neg (by omega)
   repeat' first|refine zd ?_|((first|refine zf ?_|refine zi ?_|refine regA ?_|((refine⟨_,gidxf_fn _ _ _,?_⟩);(rintro _ _ ⟨rfl,rfl⟩))|fail);conv=>whnf)|(refine zso rfl (fun hb=>?_) (fun hb=>?_))|fail
   ·have e4:checkR n=(3,firstBad (n.inn+n.gates.length - 1) n.out,4):=by
     rw [e3];revert hb
     unfold firstBad;cases firstOut (n.inn+n.gates.length - 1) n.out 0 with
     | none=>intro hb;exact absurd hb (by decide)
     | some j=>intro _;rfl
    rw [e4];rfl
   ·have e4:checkR n=(0,0,0):=by
     rw [e3];revert hb
     unfold firstBad;cases firstOut (n.inn+n.gates.length - 1) n.out 0 with
     | none=>intro _;rfl
     | some j=>intro hb;exact absurd (Int.natCast_nonneg j) hb
    rw [e4];rfl
end Go.Proofs.YtpfiejadigkgaaaGreatDoor
namespace Go.Proofs.YtpfiejadigkgaaaGreatDoor
open Go Go.QL
set_option maxHeartbeats 800000
attribute [local irreducible] ACall FnC
structure FaultT where
 sig:Int
 at_:Int
deriving DecidableEq
def faultAV (f:FaultT):AV:=.a [.d (.v (.int .i64 f.sig)),.d (.v (.int .i64 f.at_))]
def fine:FaultT:=⟨-1,0⟩
def faultErr (n:NetT) (f:FaultT):Int:=
 if inB f.sig 0 (n.inn+n.gates.length - 1)=false then 4 else if inB f.at_ 0 1=false then 7 else 0
def adder:NetT:=⟨2,[⟨5,7,0⟩,⟨3,0,1⟩,⟨3,3,2⟩,⟨1,0,1⟩,⟨1,3,2⟩,⟨2,5,6⟩],[4]⟩
end Go.Proofs.YtpfiejadigkgaaaGreatDoor
namespace Go.Proofs.YtpfiejadigkgaaaGreatDoor
open Go Go.QL
set_option maxHeartbeats 400000
end Go.Proofs.YtpfiejadigkgaaaGreatDoor
namespace Go.Proofs.YtpfiejadigkgaaaGreatDoor
open Go Go.QL
set_option maxHeartbeats 800000
attribute [local irreducible] ACall FnC
def faultPV (f:FaultT):List PV:=[.v (.int .i64 f.sig),.v (.int .i64 f.at_)]
def faultsAV (l:List FaultT):AV:=.x (.d (.s 2 (l.map faultPV)))
theorem bit2 {x:Int} (h0:0≤x) (i:Nat):(x / 2 ^ i).tmod 2=x / 2 ^ i % 2:=
 Int.tmod_eq_emod_of_nonneg (Int.ediv_nonneg h0 (Int.le_of_lt (Int.pow_pos (by decide))))
end Go.Proofs.YtpfiejadigkgaaaGreatDoor
namespace Go.Proofs.YtpfiejadigkgaaaGreatDoor
open Go Go.QL
set_option maxHeartbeats 800000
attribute [local irreducible] ACall FnC
def gateAV (g:GateT):AV:=.a [.d (.v (.int .i64 g.kind)),.d (.v (.int .i64 g.a)),.d (.v (.int .i64 g.b))]
theorem mk_fn (k a b:Int):FnC Tryz.prog 21 [iv .i64 k,iv .i64 a,iv .i64 b] (gateAV ⟨k,a,b⟩):=by
 refine hdC Tryz.func21 Tryz.ntmps21 (res:=[.cell 6 69]) fun w0 K0=>?_
 repeat' first|refine zd ?_|((first|refine zi ?_|refine regA ?_|fail);conv=>whnf)|fail
 rfl
theorem padder_fn:FnC Tryz.prog 5 [] (netAV adder):=by
 refine hdC Tryz.func5 Tryz.ntmps5 (res:=[.cell 0 32]) fun w0 K0=>?_
 repeat' first|refine zd ?_|((first|refine zi ?_|refine regA ?_|refine zsn (mk_fn _ _ _) ?_|fail);conv=>whnf)|fail
 rfl
end Go.Proofs.YtpfiejadigkgaaaGreatDoor
namespace Go.Proofs.YtpfiejadigkgaaaGreatDoor
open Go Go.QL
set_option maxHeartbeats 800000
attribute [local irreducible] ACall FnC
end Go.Proofs.YtpfiejadigkgaaaGreatDoor
namespace Go.Proofs.YtpfiejadigkgaaaGreatDoor
open Go Go.QL
set_option maxHeartbeats 800000
attribute [local irreducible] ACall FnC
abbrev W16:=BitVec 16
def wi (b:W16):Int:=b.toNat
theorem wrap_u16 (n:Nat) (h:n < 65536):IntKind.u16.wrap (n:Int)=n:=by
 simp only [IntKind.wrap,IntKind.bits,IntKind.signed,Bool.false_and,Bool.false_eq_true,if_false];omega
theorem ofInt_wi (b:W16):BitVec.ofInt 16 (wi b)=b:=by
 unfold wi;simp
theorem wi_back (b:W16):IntKind.u16.wrap ((b.toNat:Int))=wi b:=wrap_u16 _ b.isLt
theorem w_and (a b:W16):ze6 .and .u16 (wi a) (wi b)=wi (a &&& b):=by
 show IntKind.u16.wrap ((BitVec.ofInt 16 (wi a) &&& BitVec.ofInt 16 (wi b)).toNat:Int)=_
 rw [ofInt_wi,ofInt_wi,wi_back]
theorem w_or (a b:W16):ze6 .or .u16 (wi a) (wi b)=wi (a ||| b):=by
 show IntKind.u16.wrap ((BitVec.ofInt 16 (wi a) ||| BitVec.ofInt 16 (wi b)).toNat:Int)=_
 rw [ofInt_wi,ofInt_wi,wi_back]
theorem w_xor (a b:W16):ze6 .xor .u16 (wi a) (wi b)=wi (a ^^^ b):=by
 show IntKind.u16.wrap ((BitVec.ofInt 16 (wi a) ^^^ BitVec.ofInt 16 (wi b)).toNat:Int)=_
 rw [ofInt_wi,ofInt_wi,wi_back]
theorem w_andNot (a b:W16):ze6 .andNot .u16 (wi a) (wi b)=wi (a &&& ~~~b):=by
 show IntKind.u16.wrap ((BitVec.ofInt 16 (wi a) &&& ~~~BitVec.ofInt 16 (wi b)).toNat:Int)=_
 rw [ofInt_wi,ofInt_wi,wi_back]
theorem w_not (a:W16):ze6 .xor .u16 (IntKind.u16.max) (wi a)=wi (~~~a):=by
 show IntKind.u16.wrap ((BitVec.ofInt 16 IntKind.u16.max ^^^ BitVec.ofInt 16 (wi a)).toNat:Int)=_
 rw [ofInt_wi,show BitVec.ofInt 16 IntKind.u16.max=BitVec.allOnes 16 from by decide,BitVec.allOnes_xor,wi_back]
abbrev wv (b:W16):AV:=iv .u16 (wi b)
def wPV (b:W16):List PV:=[.v (.int .u16 (wi b))]
def sPV (p:W16 × W16):List PV:=[.v (.int .u16 (wi p.1)),.v (.int .u16 (wi p.2))]
abbrev gB (n:NetT) (s1:Nat) (sk:List (W16 × W16)) (s2:Nat) (dl:List Int) (s3 k:Nat) (nw:List W16):Sg:=
 [(900,.box [.d (.v (.int .i64 n.inn)),.d (gatesPV n.gates),.d (zR n.out),.o 901 s1 sk.length,.o 902 s2 dl.length,.o 903 s3 k]),
  (901,.chain 133 2 s1 (sk.map sPV)),(902,.chain 3 1 s2 (dl.map iPV)),(903,.chain 132 1 s3 (nw.map wPV))]
variable {n:NetT} {s1:Nat} {sk:List (W16 × W16)} {s2:Nat} {dl:List Int} {s3 k:Nat} {nw:List W16}
theorem getD_lt {nw:List W16} {i:Nat} (h:i < nw.length):nw.getD i 0#16=nw[i]:=by
 rw [List.getD_eq_getElem?_getD,List.getElem?_eq_getElem h];rfl
theorem and_fn (g:GateT) (was:W16) (hk:k≤nw.length) (ha:0≤g.a) (ha':g.a.toNat < k) (hb:0≤g.b) (hb':g.b.toNat < k) :
  ACall Tryz.prog 84 [.x (.b 900 0),gateAV g,wv was] (gB n s1 sk s2 dl s3 k nw)
   (fun r σ'=>r=wv (nw.getD g.a.toNat 0#16 &&& nw.getD g.b.toNat 0#16)∧σ'=gB n s1 sk s2 dl s3 k nw):=by
 rw [getD_lt (nw:=nw) (i:=g.a.toNat) (by omega),getD_lt (nw:=nw) (i:=g.b.toNat) (by omega)];refine hdD Tryz.func84 Tryz.ntmps84 (res:=[.tmp 6]) fun w0 K0 B=>?_
 repeat' first|refine zd ?_|((first|refine zi ?_|refine regA ?_|refine drA (id:=1) 16 false [0,1,3,7,0,16,63,127,0,256,768,1792,0,4096,16128,32512,65535,131071] ?_|refine⟨_,w_and _ _,?_⟩|refine andA ?_|with_reducible refine And.intro (ze (And.intro (by omega) (And.intro (by first|omega|(simp only [List.length_map];omega)) (by first|omega|(simp only [List.length_map];omega)|(simp only [List.length_set,List.length_map];omega))))) ?_|with_reducible refine Exists.intro _ (And.intro (ze (zh (by omega) (by omega))) (And.intro (And.intro (Nat.le_of_ble_eq_true rfl) rfl) ?_))|fail);conv=>whnf)|fail
 exact⟨_,gB n s1 sk s2 dl s3 k nw,⟨rfl,rfl,rfl,rfl,trivial⟩,rfl,rfl,rfl,rfl⟩
theorem or_fn (g:GateT) (was:W16) (hk:k≤nw.length) (ha:0≤g.a) (ha':g.a.toNat < k) (hb:0≤g.b) (hb':g.b.toNat < k) :
  ACall Tryz.prog 85 [.x (.b 900 0),gateAV g,wv was] (gB n s1 sk s2 dl s3 k nw)
   (fun r σ'=>r=wv (nw.getD g.a.toNat 0#16 ||| nw.getD g.b.toNat 0#16)∧σ'=gB n s1 sk s2 dl s3 k nw):=by
 rw [getD_lt (nw:=nw) (i:=g.a.toNat) (by omega),getD_lt (nw:=nw) (i:=g.b.toNat) (by omega)];refine hdD Tryz.func85 Tryz.ntmps85 (res:=[.tmp 6]) fun w0 K0 B=>?_
 repeat' first|refine zd ?_|((first|refine zi ?_|refine regA ?_|refine drA (id:=1) 16 false [0,1,3,7,0,16,63,127,0,256,768,1792,0,4096,16128,32512,65535,131071] ?_|refine⟨_,w_or _ _,?_⟩|refine andA ?_|with_reducible refine And.intro (ze (And.intro (by omega) (And.intro (by first|omega|(simp only [List.length_map];omega)) (by first|omega|(simp only [List.length_map];omega)|(simp only [List.length_set,List.length_map];omega))))) ?_|with_reducible refine Exists.intro _ (And.intro (ze (zh (by omega) (by omega))) (And.intro (And.intro (Nat.le_of_ble_eq_true rfl) rfl) ?_))|fail);conv=>whnf)|fail
 exact⟨_,gB n s1 sk s2 dl s3 k nw,⟨rfl,rfl,rfl,rfl,trivial⟩,rfl,rfl,rfl,rfl⟩
theorem xor_fn (g:GateT) (was:W16) (hk:k≤nw.length) (ha:0≤g.a) (ha':g.a.toNat < k) (hb:0≤g.b) (hb':g.b.toNat < k) :
  ACall Tryz.prog 86 [.x (.b 900 0),gateAV g,wv was] (gB n s1 sk s2 dl s3 k nw)
   (fun r σ'=>r=wv (nw.getD g.a.toNat 0#16 ^^^ nw.getD g.b.toNat 0#16)∧σ'=gB n s1 sk s2 dl s3 k nw):=by
 rw [getD_lt (nw:=nw) (i:=g.a.toNat) (by omega),getD_lt (nw:=nw) (i:=g.b.toNat) (by omega)];refine hdD Tryz.func86 Tryz.ntmps86 (res:=[.tmp 6]) fun w0 K0 B=>?_
 repeat' first|refine zd ?_|((first|refine zi ?_|refine regA ?_|refine drA (id:=1) 16 false [0,1,3,7,0,16,63,127,0,256,768,1792,0,4096,16128,32512,65535,131071] ?_|refine⟨_,w_xor _ _,?_⟩|refine andA ?_|with_reducible refine And.intro (ze (And.intro (by omega) (And.intro (by first|omega|(simp only [List.length_map];omega)) (by first|omega|(simp only [List.length_map];omega)|(simp only [List.length_set,List.length_map];omega))))) ?_|with_reducible refine Exists.intro _ (And.intro (ze (zh (by omega) (by omega))) (And.intro (And.intro (Nat.le_of_ble_eq_true rfl) rfl) ?_))|fail);conv=>whnf)|fail
 exact⟨_,gB n s1 sk s2 dl s3 k nw,⟨rfl,rfl,rfl,rfl,trivial⟩,rfl,rfl,rfl,rfl⟩
theorem not_fn (g:GateT) (was:W16) (hk:k≤nw.length) (ha:0≤g.a) (ha':g.a.toNat < k) :
  ACall Tryz.prog 87 [.x (.b 900 0),gateAV g,wv was] (gB n s1 sk s2 dl s3 k nw)
   (fun r σ'=>r=wv (~~~nw.getD g.a.toNat 0#16)∧σ'=gB n s1 sk s2 dl s3 k nw):=by
 rw [getD_lt (nw:=nw) (i:=g.a.toNat) (by omega)];refine hdD Tryz.func87 Tryz.ntmps87 (res:=[.tmp 6]) fun w0 K0 B=>?_
 repeat' first|refine zd ?_|((first|refine zi ?_|refine regA ?_|refine drA (id:=1) 6 false [0,1,3,7,0,16,63,127,255,511] ?_|refine⟨_,w_not _,?_⟩|refine andA ?_|with_reducible refine And.intro (ze (And.intro (by omega) (And.intro (by first|omega|(simp only [List.length_map];omega)) (by first|omega|(simp only [List.length_map];omega)|(simp only [List.length_set,List.length_map];omega))))) ?_|with_reducible refine Exists.intro _ (And.intro (ze (zh (by omega) (by omega))) (And.intro (And.intro (Nat.le_of_ble_eq_true rfl) rfl) ?_))|fail);conv=>whnf)|fail
 exact⟨_,gB n s1 sk s2 dl s3 k nw,⟨rfl,rfl,rfl,rfl,trivial⟩,rfl,rfl,rfl,rfl⟩
theorem kept_fn (g:GateT) (was:W16) :
  ACall Tryz.prog 88 [.x (.b 900 0),gateAV g,wv was] (gB n s1 sk s2 dl s3 k nw)
   (fun r σ'=>r=wv was∧σ'=gB n s1 sk s2 dl s3 k nw):=by
 refine hdD Tryz.func88 Tryz.ntmps88 (res:=[.tmp 6]) fun w0 K0 B=>?_
 repeat' first|refine zd ?_|((first|refine zi ?_|refine regA ?_|fail);conv=>whnf)|fail
 exact⟨_,gB n s1 sk s2 dl s3 k nw,⟨rfl,rfl,rfl,rfl,trivial⟩,rfl,rfl,rfl,rfl⟩
def stuckW (p:W16 × W16) (s:W16):W16:=s &&& ~~~p.1 ||| p.2
theorem zpa (s:W16) (hk:k≤nw.length) (hs:k < sk.length) (hl:sk.length≤100) :
  ACall Tryz.prog 89 [wv s,.x (.b 909 0)] ((909,.box [.b 900 0])::gB n s1 sk s2 dl s3 k nw)
   (fun r σ'=>r=.t []∧σ'=(909,.box [.b 900 0])::gB n s1 sk s2 dl (s3+1) (k+1) (nw.take k ++ [stuckW sk[k] s])):=by
 refine hdD Tryz.func89 Tryz.ntmps89 (res:=[]) fun w0 K0 B=>?_
 repeat' first|refine zd ?_|((first|refine drA (id:=0) 12 true [0,1,3,7,0,16,48,112,240,511,1023,0,4095] ?_|refine drM (id:=1) 13 [0] true [0,0,2,6,14,0,0,64,224,0,512,2016,4064,8190,16383,32767,65535] ?_|refine LateGo.mk ⟨_,rfl,?_⟩|refine⟨_,w_andNot _ _,?_⟩|refine⟨_,w_or _ _,?_⟩|refine andA ?_|with_reducible refine And.intro (ze (And.intro (by omega) (And.intro (by first|omega|(simp only [List.length_map];omega)) (by first|omega|(simp only [List.length_map];omega)|(simp only [List.length_set,List.length_map];omega))))) ?_|with_reducible refine Exists.intro _ (And.intro (ze (zh (by omega) (by omega))) (And.intro (And.intro (Nat.le_of_ble_eq_true rfl) rfl) ?_))|fail);conv=>whnf)|((refine And.intro (by refine⟨?_,?_,?_⟩ <;> simp [zO,maxLen] <;> omega) ?_);conv=>whnf)|fail
 all_goals
  have e:(List.map wPV nw).take k ++ [wPV (stuckW sk[k] s)]=(nw.take k ++ [stuckW sk[k] s]).map wPV:=by simp
  exact⟨_,(909,.box [.b 900 0])::gB n s1 sk s2 dl (s3+1) (k+1) (nw.take k ++ [stuckW sk[k] s]),⟨rfl,rfl,rfl,rfl,congrArg (fun l=>some (Ob.chain 132 1 (s3+1) l)) e,trivial⟩,rfl,rfl,rfl,rfl⟩
end Go.Proofs.YtpfiejadigkgaaaGreatDoor
namespace Go.Proofs.YtpfiejadigkgaaaGreatDoor
open Go Go.QL
set_option maxHeartbeats 800000
theorem keepO {σ σ':Sg} {c e sz st n:Nat} {xs:List (List PV)} (h:lk c σ'=none) (h1:lk c σ=some (.chain e sz st xs)) (hn:n=xs.length):zc5 σ σ' (.x (.o c st n))=some (.x (.d (.s sz xs))):=by
 subst hn;simp [zc5,zcy,h,zbq,h1]
theorem outKeep1 {tt:TT} {res:List ResultVar} {fr:Fr} {σ σ':Sg} {x x':AV} (h:zbY tt σ fr res=some [x]) (h1:zc5 σ σ' x=some x'):zb0 tt res fr σ σ'=some x':=by
 unfold zb0;rw [h];exact h1
theorem outKeep2 {tt:TT} {res:List ResultVar} {fr:Fr} {σ σ':Sg} {x x' y y':AV} (h:zbY tt σ fr res=some [x,y]) (h1:zc5 σ σ' x=some x') (h2:zc5 σ σ' y=some y'):zb0 tt res fr σ σ'=some (.t [x',y']):=by
 unfold zb0;rw [h];simp [zdP,h1,h2]
theorem shr_i (x:Int) (i:Nat) (hi:i≤64):x.fdiv (2 ^ (min ((i:Int)).toNat IntKind.i64.bits))=x / 2 ^ i:=by
 rw [Int.toNat_natCast,show min i IntKind.i64.bits=i from Nat.min_eq_left hi,Int.fdiv_eq_ediv_of_nonneg _ (Int.le_of_lt (Int.pow_pos (by decide)))]
theorem and1 (v:Int):ze6 .and .i64 v 1=v % 2:=by
 show IntKind.i64.wrap ((BitVec.ofInt 64 v &&& BitVec.ofInt 64 1).toNat:Int)=v % 2
 have h1:(BitVec.ofInt 64 (1:Int))=1#64:=by decide
 rw [h1];have h2:(BitVec.ofInt 64 v &&& 1#64).toNat=(v % 2).toNat:=by
  rw [BitVec.toNat_and,BitVec.toNat_ofInt,show (1#64).toNat=1 from rfl,Nat.and_one_is_mod];omega
 rw [h2];have:0≤v % 2∧v % 2 < 2:=by omega
 exact zg (by omega) |>.trans (by omega)
theorem u16_bit (v:Int):IntKind.u16.wrap (v % 2)=v % 2:=by
 have:((v % 2).toNat:Int)=v % 2:=by omega
 rw [← this,wrap_u16 _ (by omega)]
def inW (v:Int):W16:=if v % 2=1 then BitVec.allOnes 16 else 0#16
theorem neg_bit (v:Int):IntKind.u16.wrap (0 - v % 2)=wi (inW v):=by
 unfold inW;have:v % 2=0∨v % 2=1:=by omega
 rcases this with h|h <;> rw [h] <;> decide
def shlW (v:Int) (l:Nat):W16:=if v % 2=1 then BitVec.twoPow 16 l else 0#16
theorem shl_bit (v:Int) (l:Nat) (hl:l < 16):IntKind.u16.wrap (v % 2 * 2 ^ (min ((l:Int)).toNat IntKind.u16.bits))=wi (shlW v l):=by
 rw [Int.toNat_natCast,show min l IntKind.u16.bits=l from Nat.min_eq_left (by show l≤16;omega)];unfold shlW;have:v % 2=0∨v % 2=1:=by omega
 rcases this with h|h <;> rw [h]
 ·rw [Int.zero_mul,if_neg (by decide)];decide
 ·rw [Int.one_mul,if_pos rfl];unfold wi;rw [BitVec.toNat_twoPow];have hlt:2 ^ l < 2 ^ 16:=Nat.pow_lt_pow_right (by decide) hl;rw [Nat.mod_eq_of_lt hlt];have:=wrap_u16 (2 ^ l) hlt;rw [← this];congr 1
def lb (w:W16) (l:Nat):Int:=if w.getLsbD l then 1 else 0
theorem lb_le (w:W16) (l:Nat):0≤lb w l∧lb w l≤1:=by unfold lb;split <;> omega
theorem shr_w (w:W16) (l:Nat) (hl:l≤16):(wi w).fdiv (2 ^ (min ((l:Int)).toNat IntKind.u16.bits))=wi (w >>> l):=by
 rw [Int.toNat_natCast,show min l IntKind.u16.bits=l from Nat.min_eq_left hl,Int.fdiv_eq_ediv_of_nonneg _ (Int.le_of_lt (Int.pow_pos (by decide)))];unfold wi;rw [BitVec.toNat_ushiftRight,Nat.shiftRight_eq_div_pow];exact (by rw [Int.natCast_ediv,Int.natCast_pow];rfl)
theorem and1_w (w:W16) (l:Nat):ze6 .and .u16 (wi (w >>> l)) 1=lb w l:=by
 show IntKind.u16.wrap ((BitVec.ofInt 16 (wi (w >>> l)) &&& BitVec.ofInt 16 1).toNat:Int)=_
 rw [ofInt_wi,show (BitVec.ofInt 16 (1:Int))=1#16 from by decide];have h2:((w >>> l) &&& 1#16).toNat=if w.getLsbD l then 1 else 0:=by
  rw [BitVec.toNat_and,show (1#16).toNat=1 from rfl,Nat.and_one_is_mod,BitVec.toNat_ushiftRight,BitVec.getLsbD,Nat.shiftRight_eq_div_pow,Nat.testBit_eq_decide_div_mod_eq];by_cases h:w.toNat / 2 ^ l % 2=1
  ·rw [h,if_pos (decide_eq_true rfl)]
  ·have:w.toNat / 2 ^ l % 2=0:=by omega
   rw [this,if_neg (by decide)]
 rw [h2,wrap_u16 _ (by split <;> omega)];unfold lb;split <;> rfl
theorem conv_lb (w:W16) (l:Nat):IntKind.i64.wrap (lb w l)=lb w l:=zg (by have:=lb_le w l;omega)
theorem pow64 {m:Nat} (hm:m≤32):(1:Int)≤2 ^ m∧(2:Int) ^ m≤4294967296:=by
 have h1:2 ^ m≤2 ^ 32:=Nat.pow_le_pow_right (by decide) hm;have h2:0 < 2 ^ m:=Nat.pow_pos (by decide);have e:((2 ^ m:Nat):Int)=(2:Int) ^ m:=Int.natCast_pow 2 m;rw [← e];exact⟨Int.ofNat_le.2 h2,Int.ofNat_le.2 h1⟩
theorem shl_lb (w:W16) (l m:Nat) (hm:m≤32):IntKind.i64.wrap (lb w l * 2 ^ (min ((m:Int)).toNat IntKind.i64.bits))=lb w l * 2 ^ m:=by
 rw [Int.toNat_natCast,show min m IntKind.i64.bits=m from Nat.min_eq_left (by show m≤64;omega)];have:=pow64 hm;apply zg;unfold lb;split <;> omega
theorem or_lb (s:Int) (w:W16) (l m:Nat) (hm:m≤32) (h0:0≤s) (h1:s < 2 ^ m):ze6 .or .i64 s (lb w l * 2 ^ m)=s+lb w l * 2 ^ m:=by
 have hp:=pow64 hm;show IntKind.i64.wrap ((BitVec.ofInt 64 s ||| BitVec.ofInt 64 (lb w l * 2 ^ m)).toNat:Int)=_
 obtain⟨k,rfl⟩:=Int.eq_ofNat_of_zero_le h0;have hk:k < 2 ^ m:=by exact_mod_cast h1
 have hn:(2:Nat) ^ m≤2 ^ 32:=Nat.pow_le_pow_right (by decide) hm;unfold lb;split
 ·have e:(1:Int) * 2 ^ m=((2 ^ m * 1:Nat):Int):=by rw [Nat.mul_one,Int.one_mul];exact (Int.natCast_pow 2 m).symm
  rw [e,BitVec.toNat_or,BitVec.ofInt_natCast,BitVec.ofInt_natCast,BitVec.toNat_ofNat,BitVec.toNat_ofNat,Nat.mod_eq_of_lt (a:=k) (by omega),Nat.mod_eq_of_lt (a:=2 ^ m * 1) (by omega),Nat.or_comm,← Nat.two_pow_add_eq_or_of_lt hk];rw [zg (by omega)];omega
 ·rw [Int.zero_mul,show BitVec.ofInt 64 0=0#64 from by decide,BitVec.or_zero,BitVec.ofInt_natCast,BitVec.toNat_ofNat,Nat.mod_eq_of_lt (by omega),zg (by omega)];omega
def addW (sk:List (W16 × W16)) (nw:List W16) (s:W16):List W16:=nw ++ [stuckW (sk.getD nw.length (0#16,0#16)) s]
def inpW (sk:List (W16 × W16)) (x:Int):Nat→List W16
 | 0=>[]
 | i+1=>addW sk (inpW sk x i) (inW (x / 2 ^ i))
def laneW (states:List Int) (d:Nat):Nat→W16
 | 0=>0#16
 | m+1=>laneW states d m ||| shlW (states.getD m 0 / 2 ^ d) m
def gateW (g:GateT) (nw:List W16) (was:W16):W16:=
 if g.kind=1 then nw.getD g.a.toNat 0#16 &&& nw.getD g.b.toNat 0#16
 else if g.kind=2 then nw.getD g.a.toNat 0#16 ||| nw.getD g.b.toNat 0#16
 else if g.kind=3 then nw.getD g.a.toNat 0#16 ^^^ nw.getD g.b.toNat 0#16
 else if g.kind=4 then ~~~nw.getD g.a.toNat 0#16
 else was
def gate0:GateT:=⟨0,0,0⟩
def sigW (sk:List (W16 × W16)) (n:NetT) (states:List Int) (x:Int):Nat→List W16
 | 0=>inpW sk x n.inn.toNat
 | i+1=>addW sk (sigW sk n states x i) (gateW (n.gates.getD i gate0) (sigW sk n states x i) (if (n.gates.getD i gate0).kind=5 then laneW states (delays (n.gates.take i)) states.length else 0#16))
def nextW (n:NetT) (dl:List Int) (nw:List W16) (l:Nat):Nat→Int
 | 0=>0
 | m+1=>nextW n dl nw l m+lb (nw.getD (n.gates.getD (dl.getD m 0 - n.inn).toNat gate0).a.toNat 0#16) l * 2 ^ m
def outW (n:NetT) (nw:List W16) (l:Nat):Nat→Int
 | 0=>0
 | m+1=>outW n nw l m+lb (nw.getD (n.out.getD m 0).toNat 0#16) l * 2 ^ m
theorem inpW_len (sk:List (W16 × W16)) (x:Int) (i:Nat):(inpW sk x i).length=i:=by
 induction i with
 | zero=>rfl
 | succ i ih=>simp [inpW,addW,ih]
theorem sigW_len (sk:List (W16 × W16)) (n:NetT) (states:List Int) (x:Int) (i:Nat):(sigW sk n states x i).length=n.inn.toNat+i:=by
 induction i with
 | zero=>exact inpW_len _ _ _
 | succ i ih=>simp [sigW,addW,ih];omega
theorem nextW_lt (n:NetT) (dl:List Int) (nw:List W16) (l m:Nat):0≤nextW n dl nw l m∧nextW n dl nw l m < 2 ^ m:=by
 induction m with
 | zero=>simp [nextW]
 | succ m ih=>
  have:=lb_le (nw.getD (n.gates.getD (dl.getD m 0 - n.inn).toNat gate0).a.toNat 0#16) l;have hp:(0:Int) < 2 ^ m:=Int.pow_pos (by decide);simp only [nextW,Int.pow_succ];generalize lb _ l=b at *;have:b=0∨b=1:=by omega
  rcases this with rfl|rfl <;> omega
theorem outW_lt (n:NetT) (nw:List W16) (l m:Nat):0≤outW n nw l m∧outW n nw l m < 2 ^ m:=by
 induction m with
 | zero=>simp [outW]
 | succ m ih=>
  have:=lb_le (nw.getD (n.out.getD m 0).toNat 0#16) l;have hp:(0:Int) < 2 ^ m:=Int.pow_pos (by decide);simp only [outW,Int.pow_succ];generalize lb _ l=b at *;have:b=0∨b=1:=by omega
  rcases this with rfl|rfl <;> omega
structure NetOK (n:NetT):Prop where
 h1:1≤n.inn
 h6:n.inn≤6
 hl:n.gates.length≤24
 o1:1≤n.out.length
 o4:n.out.length≤4
 hd:delays n.gates≤5
 hk:∀ i (h:i < n.gates.length),1≤n.gates[i].kind∧n.gates[i].kind≤5
 ha:∀ i (h:i < n.gates.length),0≤n.gates[i].a∧n.gates[i].a < n.inn+n.gates.length∧(n.gates[i].kind≠5→n.gates[i].a < n.inn+i)
 hb:∀ i (h:i < n.gates.length),0≤n.gates[i].b∧n.gates[i].b < n.inn+n.gates.length∧(n.gates[i].kind≤3→n.gates[i].b < n.inn+i)
 ho:∀ i (h:i < n.out.length),0≤n.out[i]∧n.out[i] < n.inn+n.gates.length
end Go.Proofs.YtpfiejadigkgaaaGreatDoor
namespace Go.Proofs.YtpfiejadigkgaaaGreatDoor
open Go Go.QL
set_option maxHeartbeats 3200000
attribute [local irreducible] ACall FnC
theorem addFn' {n:NetT} {s1:Nat} {sk:List (W16 × W16)} {s2:Nat} {dl:List Int} {s3 k:Nat} {nw nw':List W16} (s:W16) (hk:k≤nw.length) (hs:k < sk.length) (hl:sk.length≤100) (e:nw.take k=nw') (he:nw'.length=k) :
  ACall Tryz.prog 89 [wv s,.x (.b 909 0)] ((909,.box [.b 900 0])::gB n s1 sk s2 dl s3 k nw)
   (fun r σ'=>r=.t []∧σ'=(909,.box [.b 900 0])::gB n s1 sk s2 dl (s3+1) (k+1) (addW sk nw' s)):=by
 refine (zpa s hk hs hl).mono fun r σ' h=>?_
 have:addW sk nw' s=nw.take k ++ [stuckW sk[k] s]:=by
  unfold addW;rw [← e];rw [← e] at he;rw [he,List.getD_eq_getElem?_getD,List.getElem?_eq_getElem hs];rfl
 rw [this];exact h
abbrev fBox:List SV:=[.d (.v .nilFunc),.f (.func 84) [.b 900 0] [],.f (.func 85) [.b 900 0] [],.f (.func 86) [.b 900 0] [],.f (.func 87) [.b 900 0] [],.f (.func 88) [.b 900 0] []]
def nexts (n:NetT) (dl:List Int) (sg:List W16) (m:Nat):List Int:=(List.range m).map fun l=>nextW n dl sg l dl.length
def outs (n:NetT) (sg:List W16) (m:Nat):List Int:=(List.range m).map fun l=>outW n sg l n.out.length
theorem nexts_len (n:NetT) (dl:List Int) (sg:List W16) (m:Nat):(nexts n dl sg m).length=m:=by simp [nexts]
theorem outs_len (n:NetT) (sg:List W16) (m:Nat):(outs n sg m).length=m:=by simp [outs]
theorem nexts_succ (n:NetT) (dl:List Int) (sg:List W16) (m:Nat):nexts n dl sg (m+1)=nexts n dl sg m ++ [nextW n dl sg m dl.length]:=by simp [nexts,List.range_succ]
theorem outs_succ (n:NetT) (sg:List W16) (m:Nat):outs n sg (m+1)=outs n sg m ++ [outW n sg m n.out.length]:=by simp [outs,List.range_succ]
theorem beat_fn {n:NetT} (ok:NetOK n) {s1:Nat} {sk:List (W16 × W16)} (hsk:sk.length=n.inn.toNat+n.gates.length) {s2:Nat} {dl:List Int} (hdl:dl.length≤5) (hdr:∀ m (h:m < dl.length),n.inn≤dl[m]∧dl[m] < n.inn+n.gates.length) {s3 k:Nat} {nw:List W16}
  (states:List Int) (hst:states.length≤16) (x:Int) :
  ACall Tryz.prog 60 [.x (.b 900 0),sl states,iv .i64 x] (gB n s1 sk s2 dl s3 k nw)
   (fun r σ'=>∃ s3',r=.t [sl (nexts n dl (sigW sk n states x n.gates.length) states.length),sl (outs n (sigW sk n states x n.gates.length) states.length)] ∧
    σ'=gB n s1 sk s2 dl s3' (n.inn.toNat+n.gates.length) (sigW sk n states x n.gates.length)):=by
 have h1:=ok.h1;have h6:=ok.h6;have hl:=ok.hl;have ho4:=ok.o4;refine hdD Tryz.func60 Tryz.ntmps60 (res:=[.tmp 6,.tmp 7]) fun w0 K0 B=>?_
 repeat' first|refine zd ?_|refine zc ?_|((first|refine regA ?_|refine drA (id:=2) 6 false [0,0,2,6,14,30,63,127,255] ?_|refine andA ?_|fail);conv=>whnf)|fail
 refine zJ (fun p:Nat × Nat × List W16=>[(49,iv .i64 p.1),(48,iv .i64 n.inn),(8,.x (.b 8 0)),(9,.x (.f (.func 89) [] [.b 3 0])),(3,.x (.b 3 0)),(1,sl states),(2,iv .i64 x),(6,.x (.d (.v (.slice none 0 0)))),(7,.x (.d (.v (.slice none 0 0))))])
  (fun p=>(8,.box fBox)::(3,.box [.b 900 0])::gB n s1 sk s2 dl p.2.1 p.1 p.2.2) (fun p=>p.1≤n.inn.toNat∧p.1≤p.2.2.length∧p.2.2.take p.1=inpW sk x p.1∧(0 < p.1→p.2.2.length=p.1)) (fun p=>n.inn.toNat - p.1) (0,s3,nw) ⟨Nat.zero_le _,Nat.zero_le _,rfl,fun h=>absurd h (Nat.lt_irrefl _)⟩
  (Imp.forget ⟨rfl,rfl,rfl,rfl,rfl,rfl,rfl,rfl,rfl,trivial⟩ ⟨rfl,rfl,rfl,rfl,rfl,rfl,trivial⟩ rfl) ?_
 rintro⟨i,st,cur⟩ ⟨hi,hic,htk,hlen⟩;dsimp only at hi hic htk hlen ⊢;repeat' first|refine zd ?_|refine zc ?_|((first|refine zf ?_|refine zk ?_|refine regA ?_|refine⟨_,shr_i x i (by omega),?_⟩|refine⟨_,and1 _,?_⟩|refine⟨_,u16_bit _,?_⟩|refine⟨_,neg_bit _,?_⟩|refine frA (addFn' (n:=n) (s1:=s1) (sk:=sk) (s2:=s2) (dl:=dl) (s3:=st) (k:=i) (nw:=cur) _ hic (by omega) (by omega) htk (inpW_len _ _ _)) [(909,3)] ?_|fail);conv=>whnf)|(refine zso rfl (fun hb=>?_) (fun hb=>?_))|((first|refine zsq ?_|refine andA ?_|fail);conv=>whnf)|(refine lnA fun hln=>?_;conv=>whnf)|fail
 ·exact⟨(i+1,st+1,inpW sk x (i+1)),⟨by show i+1≤n.inn.toNat;omega,by show i+1≤(inpW sk x (i+1)).length;rw [inpW_len];exact Nat.le_refl _,List.take_of_length_le (by rw [inpW_len];exact Nat.le_refl _),fun _=>inpW_len _ _ _⟩,by show n.inn.toNat - (i+1) < n.inn.toNat - i;omega,
   Imp.forget ⟨rfl,rfl,rfl,rfl,rfl,rfl,rfl,rfl,rfl,trivial⟩ ⟨rfl,rfl,rfl,rfl,rfl,rfl,trivial⟩ rfl⟩
 have hie:i=n.inn.toNat:=by omega
 subst hie;have hcur:cur=inpW sk x n.inn.toNat:=by rw [← htk,List.take_of_length_le (by rw [hlen (by omega)];exact Nat.le_refl _)]
 subst hcur;refine zJ (fun p:Nat × Nat=>[(67,iv .i64 p.1),(66,iv .i64 n.gates.length),(65,.x (.d (gatesPV n.gates))),(11,iv .i64 (delays (n.gates.take p.1))),(8,.x (.b 8 0)),(9,.x (.f (.func 89) [] [.b 3 0])),(3,.x (.b 3 0)),(1,sl states),(6,.x (.d (.v (.slice none 0 0)))),(7,.x (.d (.v (.slice none 0 0))))])
  (fun p=>(8,.box fBox)::(3,.box [.b 900 0])::gB n s1 sk s2 dl p.2 (n.inn.toNat+p.1) (sigW sk n states x p.1)) (fun p=>p.1≤n.gates.length) (fun p=>n.gates.length - p.1) (0,st) (Nat.zero_le _)
  (Imp.forget ⟨rfl,congrArg (fun k:Nat=>some (iv .i64 k)) (List.length_map _),rfl,rfl,rfl,rfl,rfl,rfl,rfl,rfl,trivial⟩ ⟨rfl,rfl,rfl,rfl,rfl,rfl,trivial⟩ rfl) ?_
 rintro⟨i,st⟩ hi;dsimp only at hi ⊢;clear htk hlen hic hb;have hsl:=sigW_len sk n states x i;repeat' first|refine zd ?_|refine zc ?_|((first|refine zf ?_|refine zk ?_|refine regA ?_|refine drM (id:=21) 7 [0] false [0,0,2,6,14,0,0,126,255] ?_|fail);conv=>whnf)|(refine zso rfl (fun hb=>?_) (fun hb=>?_))|((first|refine andA ?_|with_reducible refine exA fun _=>?_|fail);conv=>whnf)|(refine lnA fun hln=>?_;conv=>whnf)|fail
 ·-- a delay
  have hb5:n.gates[i].kind=5:=hb;obtain⟨ha0,ha1,_⟩:=ok.ha i (by omega);have hdle:=delays_le (n.gates.take i);rw [List.length_take] at hdle;have hge:n.gates.getD i gate0=n.gates[i]:=by rw [List.getD_eq_getElem?_getD,List.getElem?_eq_getElem (by omega)];rfl
  refine zJ (fun m:Nat=>[(76,iv .i64 m),(75,iv .i64 states.length),(74,sl states),(14,wv (laneW states (delays (n.gates.take i)) m)),(13,.x (.b 13 0)),(67,iv .i64 i),(66,iv .i64 n.gates.length),(65,.x (.d (gatesPV n.gates))),(11,iv .i64 (delays (n.gates.take i))),(8,.x (.b 8 0)),(9,.x (.f (.func 89) [] [.b 3 0])),(3,.x (.b 3 0)),(1,sl states),(6,.x (.d (.v (.slice none 0 0)))),(7,.x (.d (.v (.slice none 0 0))))])
   (fun m=>(13,.box [.d (.v (.int .i64 n.gates[i].kind)),.d (.v (.int .i64 n.gates[i].a)),.d (.v (.int .i64 n.gates[i].b))])::(8,.box fBox)::(3,.box [.b 900 0])::gB n s1 sk s2 dl st (n.inn.toNat+i) (sigW sk n states x i)) (fun m=>m≤states.length) (fun m=>states.length - m) 0 (Nat.zero_le _)
   (Imp.forget ⟨rfl,congrArg (fun k:Nat=>some (iv .i64 k)) (List.length_map _),rfl,rfl,rfl,rfl,rfl,rfl,rfl,rfl,rfl,rfl,rfl,rfl,rfl,trivial⟩ ⟨rfl,rfl,rfl,rfl,rfl,rfl,rfl,trivial⟩ rfl) ?_
  intro m hm;repeat' first|refine zd ?_|refine zc ?_|((first|refine zf ?_|refine zk ?_|refine regA ?_|refine drM (id:=21) 7 [0] false [0,0,2,6,14,0,0,126,255] ?_|refine⟨_,shr_i _ (delays (n.gates.take i)) (by omega),?_⟩|refine⟨_,and1 _,?_⟩|refine⟨_,u16_bit _,?_⟩|refine⟨_,shl_bit _ m (by omega),?_⟩|refine⟨_,w_or _ _,?_⟩|fail);conv=>whnf)|(refine zso rfl (fun hb=>?_) (fun hb=>?_))|((first|refine zsq ?_|refine andA ?_|with_reducible refine exA fun _=>?_|fail);conv=>whnf)|fail
  ·have el:laneW states (delays (n.gates.take i)) m ||| shlW (states[m] / 2 ^ delays (n.gates.take i)) m=laneW states (delays (n.gates.take i)) (m+1):=by
    simp only [laneW];rw [List.getD_eq_getElem?_getD,List.getElem?_eq_getElem (by omega)];rfl
   exact⟨m+1,by omega,by omega,Imp.forget ⟨rfl,rfl,rfl,congrArg (fun w=>some (wv w)) el,rfl,rfl,rfl,rfl,rfl,rfl,rfl,rfl,rfl,rfl,rfl,trivial⟩ ⟨rfl,rfl,rfl,rfl,rfl,rfl,rfl,trivial⟩ rfl⟩
  ·have hme:m=states.length:=by omega
   subst hme;have hdt:(delays (n.gates.take i):Int)+1=delays (n.gates.take (i+1)):=by rw [delays_take _ _ (by omega),if_pos hb5];omega
   rw [hb5];conv=>whnf
   repeat' first|((first|refine regA ?_|refine LateGo.mk ⟨_,rfl,?_⟩|refine frA (kept_fn (n:=n) (s1:=s1) (sk:=sk) (s2:=s2) (dl:=dl) (s3:=st) (k:=n.inn.toNat+i) (nw:=sigW sk n states x i) ⟨5,n.gates[i].a,n.gates[i].b⟩ (laneW states (delays (n.gates.take i)) states.length)) [] ?_|refine frA (addFn' (n:=n) (s1:=s1) (sk:=sk) (s2:=s2) (dl:=dl) (s3:=st) (k:=n.inn.toNat+i) (nw:=sigW sk n states x i) (laneW states (delays (n.gates.take i)) states.length) (Nat.le_of_eq hsl.symm) (by omega) (by omega) (List.take_of_length_le (Nat.le_of_eq hsl)) hsl) [(909,3)] ?_|refine zsq ?_|refine andA ?_|fail);conv=>whnf)|fail
   all_goals
    refine⟨(i+1,st+1),by show i+1≤n.gates.length;omega,by show n.gates.length - (i+1) < n.gates.length - i;omega,
     Imp.forget ⟨rfl,rfl,rfl,congrArg (fun k:Int=>some (iv .i64 k)) hdt,rfl,rfl,rfl,rfl,rfl,rfl,trivial⟩ ⟨rfl,rfl,rfl,rfl,rfl,congrArg (fun l=>some (Ob.chain 132 1 (st+1) (List.map wPV l))) (?_:addW sk (sigW sk n states x i) (laneW states (delays (n.gates.take i)) states.length)=sigW sk n states x (i+1)),trivial⟩ rfl⟩
    show _=addW sk (sigW sk n states x i) (gateW (n.gates.getD i gate0) _ (if (n.gates.getD i gate0).kind=5 then _ else _))
    rw [hge];unfold gateW;rw [if_neg (by omega),if_neg (by omega),if_neg (by omega),if_neg (by omega),if_pos hb5]
 ·-- the other gates
  obtain⟨hk1,hk5⟩:=ok.hk i (by omega);obtain⟨ha0,ha1,ha2⟩:=ok.ha i (by omega);obtain⟨hb0,hb1,hb2⟩:=ok.hb i (by omega);have ha2:=ha2 hb;have e:n.gates[i].kind=1∨n.gates[i].kind=2∨n.gates[i].kind=3∨n.gates[i].kind=4:=by omega
  have hge:n.gates.getD i gate0=n.gates[i]:=by rw [List.getD_eq_getElem?_getD,List.getElem?_eq_getElem (by omega)];rfl
  have hdt:(delays (n.gates.take i):Int)=delays (n.gates.take (i+1)):=by rw [delays_take _ _ (by omega),if_neg hb];omega
  rcases e with e|e|e|e
  ·rw [e];repeat' first|((first|refine regA ?_|refine LateGo.mk ⟨_,rfl,?_⟩|refine frA (and_fn (n:=n) (s1:=s1) (sk:=sk) (s2:=s2) (dl:=dl) (s3:=st) (k:=n.inn.toNat+i) (nw:=sigW sk n states x i) n.gates[i] 0#16 (Nat.le_of_eq hsl.symm) ha0 (by omega) hb0 (by omega)) [] ?_|refine frA (addFn' (n:=n) (s1:=s1) (sk:=sk) (s2:=s2) (dl:=dl) (s3:=st) (k:=n.inn.toNat+i) (nw:=sigW sk n states x i) ((sigW sk n states x i).getD n.gates[i].a.toNat 0#16 &&& (sigW sk n states x i).getD n.gates[i].b.toNat 0#16) (Nat.le_of_eq hsl.symm) (by omega) (by omega) (List.take_of_length_le (Nat.le_of_eq hsl)) hsl) [(909,3)] ?_|refine zsq ?_|refine andA ?_|fail);conv=>whnf)|fail
   all_goals
    refine⟨(i+1,st+1),by show i+1≤n.gates.length;omega,by show n.gates.length - (i+1) < n.gates.length - i;omega,
     Imp.forget ⟨rfl,rfl,rfl,congrArg (fun k:Int=>some (iv .i64 k)) hdt,rfl,rfl,rfl,rfl,rfl,rfl,trivial⟩ ⟨rfl,rfl,rfl,rfl,rfl,congrArg (fun l=>some (Ob.chain 132 1 (st+1) (List.map wPV l))) (?_:addW sk (sigW sk n states x i) ((sigW sk n states x i).getD n.gates[i].a.toNat 0#16 &&& (sigW sk n states x i).getD n.gates[i].b.toNat 0#16)=sigW sk n states x (i+1)),trivial⟩ rfl⟩
    show _=addW sk (sigW sk n states x i) (gateW (n.gates.getD i gate0) _ _)
    rw [hge];unfold gateW;rw [if_pos e]
  ·rw [e];repeat' first|((first|refine regA ?_|refine LateGo.mk ⟨_,rfl,?_⟩|refine frA (or_fn (n:=n) (s1:=s1) (sk:=sk) (s2:=s2) (dl:=dl) (s3:=st) (k:=n.inn.toNat+i) (nw:=sigW sk n states x i) n.gates[i] 0#16 (Nat.le_of_eq hsl.symm) ha0 (by omega) hb0 (by omega)) [] ?_|refine frA (addFn' (n:=n) (s1:=s1) (sk:=sk) (s2:=s2) (dl:=dl) (s3:=st) (k:=n.inn.toNat+i) (nw:=sigW sk n states x i) ((sigW sk n states x i).getD n.gates[i].a.toNat 0#16 ||| (sigW sk n states x i).getD n.gates[i].b.toNat 0#16) (Nat.le_of_eq hsl.symm) (by omega) (by omega) (List.take_of_length_le (Nat.le_of_eq hsl)) hsl) [(909,3)] ?_|refine zsq ?_|refine andA ?_|fail);conv=>whnf)|fail
   all_goals
    refine⟨(i+1,st+1),by show i+1≤n.gates.length;omega,by show n.gates.length - (i+1) < n.gates.length - i;omega,
     Imp.forget ⟨rfl,rfl,rfl,congrArg (fun k:Int=>some (iv .i64 k)) hdt,rfl,rfl,rfl,rfl,rfl,rfl,trivial⟩ ⟨rfl,rfl,rfl,rfl,rfl,congrArg (fun l=>some (Ob.chain 132 1 (st+1) (List.map wPV l))) (?_:addW sk (sigW sk n states x i) ((sigW sk n states x i).getD n.gates[i].a.toNat 0#16 ||| (sigW sk n states x i).getD n.gates[i].b.toNat 0#16)=sigW sk n states x (i+1)),trivial⟩ rfl⟩
    show _=addW sk (sigW sk n states x i) (gateW (n.gates.getD i gate0) _ _)
    rw [hge];unfold gateW;rw [if_neg (by omega),if_pos e]
  ·rw [e];repeat' first|((first|refine regA ?_|refine LateGo.mk ⟨_,rfl,?_⟩|refine frA (xor_fn (n:=n) (s1:=s1) (sk:=sk) (s2:=s2) (dl:=dl) (s3:=st) (k:=n.inn.toNat+i) (nw:=sigW sk n states x i) n.gates[i] 0#16 (Nat.le_of_eq hsl.symm) ha0 (by omega) hb0 (by omega)) [] ?_|refine frA (addFn' (n:=n) (s1:=s1) (sk:=sk) (s2:=s2) (dl:=dl) (s3:=st) (k:=n.inn.toNat+i) (nw:=sigW sk n states x i) ((sigW sk n states x i).getD n.gates[i].a.toNat 0#16 ^^^ (sigW sk n states x i).getD n.gates[i].b.toNat 0#16) (Nat.le_of_eq hsl.symm) (by omega) (by omega) (List.take_of_length_le (Nat.le_of_eq hsl)) hsl) [(909,3)] ?_|refine zsq ?_|refine andA ?_|fail);conv=>whnf)|fail
   all_goals
    refine⟨(i+1,st+1),by show i+1≤n.gates.length;omega,by show n.gates.length - (i+1) < n.gates.length - i;omega,
     Imp.forget ⟨rfl,rfl,rfl,congrArg (fun k:Int=>some (iv .i64 k)) hdt,rfl,rfl,rfl,rfl,rfl,rfl,trivial⟩ ⟨rfl,rfl,rfl,rfl,rfl,congrArg (fun l=>some (Ob.chain 132 1 (st+1) (List.map wPV l))) (?_:addW sk (sigW sk n states x i) ((sigW sk n states x i).getD n.gates[i].a.toNat 0#16 ^^^ (sigW sk n states x i).getD n.gates[i].b.toNat 0#16)=sigW sk n states x (i+1)),trivial⟩ rfl⟩
    show _=addW sk (sigW sk n states x i) (gateW (n.gates.getD i gate0) _ _)
    rw [hge];unfold gateW;rw [if_neg (by omega),if_neg (by omega),if_pos e]
  ·rw [e];repeat' first|((first|refine regA ?_|refine LateGo.mk ⟨_,rfl,?_⟩|refine frA (not_fn (n:=n) (s1:=s1) (sk:=sk) (s2:=s2) (dl:=dl) (s3:=st) (k:=n.inn.toNat+i) (nw:=sigW sk n states x i) n.gates[i] 0#16 (Nat.le_of_eq hsl.symm) ha0 (by omega)) [] ?_|refine frA (addFn' (n:=n) (s1:=s1) (sk:=sk) (s2:=s2) (dl:=dl) (s3:=st) (k:=n.inn.toNat+i) (nw:=sigW sk n states x i) (~~~(sigW sk n states x i).getD n.gates[i].a.toNat 0#16) (Nat.le_of_eq hsl.symm) (by omega) (by omega) (List.take_of_length_le (Nat.le_of_eq hsl)) hsl) [(909,3)] ?_|refine zsq ?_|refine andA ?_|fail);conv=>whnf)|fail
   all_goals
    refine⟨(i+1,st+1),by show i+1≤n.gates.length;omega,by show n.gates.length - (i+1) < n.gates.length - i;omega,
     Imp.forget ⟨rfl,rfl,rfl,congrArg (fun k:Int=>some (iv .i64 k)) hdt,rfl,rfl,rfl,rfl,rfl,rfl,trivial⟩ ⟨rfl,rfl,rfl,rfl,rfl,congrArg (fun l=>some (Ob.chain 132 1 (st+1) (List.map wPV l))) (?_:addW sk (sigW sk n states x i) (~~~(sigW sk n states x i).getD n.gates[i].a.toNat 0#16)=sigW sk n states x (i+1)),trivial⟩ rfl⟩
    show _=addW sk (sigW sk n states x i) (gateW (n.gates.getD i gate0) _ _)
    rw [hge];unfold gateW;rw [if_neg (by omega),if_neg (by omega),if_neg (by omega),if_pos e]
 ·-- the lanes
  have hie:i=n.gates.length:=by omega
  subst hie;have hlenA:(List.map gPV n.gates).length=n.gates.length:=List.length_map _;generalize hsg:sigW sk n states x n.gates.length=sg at *;refine zaq (Imp.nil 6 3 1 (fr':=[(105,iv .i64 0),(104,iv .i64 states.length),(103,sl states),(3,.x (.b 3 0)),(6,.x (.o 6 0 0)),(7,.x (.d (.v (.slice none 0 0))))])
   (σ':=(3,.box [.b 900 0])::gB n s1 sk s2 dl st (n.inn.toNat+n.gates.length) sg) rfl ?_ ?_ rfl rfl) ?_
  ·exact⟨⟨_,rfl,.inl rfl⟩,⟨_,congrArg (fun k:Nat=>some (iv .i64 k)) (List.length_map _),.inl rfl⟩,⟨_,rfl,.inl rfl⟩,⟨_,rfl,.inl rfl⟩,⟨_,rfl,.inr ⟨rfl,rfl⟩⟩,⟨_,rfl,.inl rfl⟩,trivial⟩
  ·exact⟨⟨_,rfl,.inl rfl⟩,⟨_,rfl,.inl rfl⟩,⟨_,rfl,.inl rfl⟩,⟨_,rfl,.inl rfl⟩,⟨_,rfl,.inl rfl⟩,trivial⟩
  refine zaq (Imp.nil 7 3 1 (fr':=[(105,iv .i64 0),(104,iv .i64 states.length),(103,sl states),(3,.x (.b 3 0)),(6,.x (.o 6 0 0)),(7,.x (.o 7 0 0))])
   (σ':=(6,.chain 3 1 0 [])::(3,.box [.b 900 0])::gB n s1 sk s2 dl st (n.inn.toNat+n.gates.length) sg) rfl ?_ ?_ rfl rfl) ?_
  ·exact⟨⟨_,rfl,.inl rfl⟩,⟨_,rfl,.inl rfl⟩,⟨_,rfl,.inl rfl⟩,⟨_,rfl,.inl rfl⟩,⟨_,rfl,.inl rfl⟩,⟨_,rfl,.inr ⟨rfl,rfl⟩⟩,trivial⟩
  ·exact⟨⟨_,rfl,.inl rfl⟩,⟨_,rfl,.inl rfl⟩,⟨_,rfl,.inl rfl⟩,⟨_,rfl,.inl rfl⟩,⟨_,rfl,.inl rfl⟩,⟨_,rfl,.inl rfl⟩,trivial⟩
  refine zJ (fun p:Nat × Nat × Nat=>[(105,iv .i64 p.1),(104,iv .i64 states.length),(103,sl states),(3,.x (.b 3 0)),(6,.x (.o 6 p.2.1 (nexts n dl sg p.1).length)),(7,.x (.o 7 p.2.2 (outs n sg p.1).length))])
   (fun p=>(7,.chain 3 1 p.2.2 ((outs n sg p.1).map iPV))::(6,.chain 3 1 p.2.1 ((nexts n dl sg p.1).map iPV))::(3,.box [.b 900 0])::gB n s1 sk s2 dl st (n.inn.toNat+n.gates.length) sg)
   (fun p=>p.1≤states.length) (fun p=>states.length - p.1) (0,0,0) (Nat.zero_le _)
   (Imp.forget ⟨rfl,rfl,rfl,rfl,rfl,rfl,trivial⟩ ⟨rfl,rfl,rfl,rfl,rfl,rfl,rfl,trivial⟩ rfl) ?_
  rintro⟨l,sa,sb⟩ hll;dsimp only at hll ⊢;have hsgl:sg.length=n.inn.toNat+n.gates.length:=by rw [← hsg];exact sigW_len _ _ _ _ _
  repeat' first|refine zd ?_|refine zc ?_|((first|refine zf ?_|refine zk ?_|refine zi ?_|refine regA ?_|fail);conv=>whnf)|(refine zso rfl (fun hb=>?_) (fun hb=>?_))|((refine andA ?_);conv=>whnf)|(refine lnA fun hln=>?_;conv=>whnf)|fail
  ·refine zJ (fun m:Nat=>[(113,iv .i64 m),(112,iv .i64 dl.length),(111,.x (.o 902 s2 dl.length)),(17,iv .i64 l),(18,iv .i64 (nextW n dl sg l m)),(19,iv .i64 0),(105,iv .i64 l),(104,iv .i64 states.length),(103,sl states),(3,.x (.b 3 0)),(6,.x (.o 6 sa (nexts n dl sg l).length)),(7,.x (.o 7 sb (outs n sg l).length))])
    (fun _=>(7,.chain 3 1 sb ((outs n sg l).map iPV))::(6,.chain 3 1 sa ((nexts n dl sg l).map iPV))::(3,.box [.b 900 0])::gB n s1 sk s2 dl st (n.inn.toNat+n.gates.length) sg)
    (fun m=>m≤dl.length) (fun m=>dl.length - m) 0 (Nat.zero_le _)
    (Imp.forget ⟨rfl,rfl,rfl,rfl,rfl,rfl,rfl,rfl,rfl,rfl,rfl,rfl,trivial⟩ ⟨rfl,rfl,rfl,rfl,rfl,rfl,rfl,trivial⟩ rfl) ?_
   intro m hm;rcases Nat.lt_or_ge m dl.length with hml|hml
   ·have hdm:=hdr ((m:Int)).toNat (by simpa using hml);have hga:=ok.ha (dl[((m:Int)).toNat]'(by simpa using hml) - n.inn).toNat (by omega);obtain⟨hga0,hga1,_⟩:=hga;have hnl:=nextW_lt n dl sg l m;repeat' first|refine zd ?_|refine zc ?_|((first|refine zf ?_|refine zk ?_|refine regA ?_|refine drA (id:=30) 28 false [0,0,2,6,14,0,32,96,224,480,0,0,2048,6144,14336,30720,64512,131040,262112,524256,1048574,2097150,0,8388606,16777214,33554430,0,134217726,268435455,536870911] ?_|fail);conv=>whnf)|exact abA hb|((first|refine⟨_,shr_w _ l (by omega),?_⟩|refine⟨_,and1_w _ l,?_⟩|refine⟨_,conv_lb _ _,?_⟩|refine⟨_,shl_lb _ l m (by omega),?_⟩|refine⟨_,or_lb _ _ l m (by omega) hnl.1 hnl.2,?_⟩|fail);conv=>whnf)|(refine zso rfl (fun hb=>?_) (fun hb=>?_))|((first|refine zsq ?_|refine andA ?_|with_reducible refine And.intro (ze (And.intro (by omega) (And.intro (by first|omega|(simp only [List.length_map];omega)) (by first|omega|(simp only [List.length_map];omega)|(simp only [List.length_set,List.length_map];omega))))) ?_|with_reducible refine Exists.intro _ (And.intro (ze (zh (by omega) (by omega))) (And.intro (And.intro (Nat.le_of_ble_eq_true rfl) rfl) ?_))|with_reducible refine Exists.intro _ (And.intro (ze (And.intro (by omega) (zh (by omega) (by omega)))) ?_)|fail);conv=>whnf)|fail
    have en:nextW n dl sg l m+lb (sg[n.gates[(dl[((m:Int)).toNat]'(by simpa using hml) - n.inn).toNat].a.toNat]'(by omega)) l * 2 ^ m=nextW n dl sg l (m+1):=by
     simp only [nextW,Int.toNat_natCast];rw [List.getD_eq_getElem?_getD (l:=dl),List.getElem?_eq_getElem hml,Option.getD_some,List.getD_eq_getElem?_getD (l:=n.gates),List.getElem?_eq_getElem (by have:=hdr m hml;omega),Option.getD_some,getD_lt]
    exact⟨m+1,by omega,by omega,Imp.forget ⟨rfl,rfl,rfl,rfl,congrArg (fun v:Int=>some (iv .i64 v)) en,rfl,rfl,rfl,rfl,rfl,rfl,rfl,trivial⟩ ⟨rfl,rfl,rfl,rfl,rfl,rfl,rfl,trivial⟩ rfl⟩
   ·have hme:m=dl.length:=by omega
    subst hme;repeat' first|refine zd ?_|refine zc ?_|((first|refine zf ?_|refine zk ?_|refine regA ?_|fail);conv=>whnf)|exact abA hb|(refine zso rfl (fun hb=>?_) (fun hb=>?_))|((refine andA ?_);conv=>whnf)|(refine lnA fun hln=>?_;conv=>whnf)|fail
    refine zJ (fun m:Nat=>[(154,iv .i64 m),(153,iv .i64 n.out.length),(152,.x (.d (zR n.out))),(17,iv .i64 l),(18,iv .i64 (nextW n dl sg l dl.length)),(19,iv .i64 (outW n sg l m)),(105,iv .i64 l),(104,iv .i64 states.length),(103,sl states),(3,.x (.b 3 0)),(6,.x (.o 6 sa (nexts n dl sg l).length)),(7,.x (.o 7 sb (outs n sg l).length))])
     (fun _=>(7,.chain 3 1 sb ((outs n sg l).map iPV))::(6,.chain 3 1 sa ((nexts n dl sg l).map iPV))::(3,.box [.b 900 0])::gB n s1 sk s2 dl st (n.inn.toNat+n.gates.length) sg)
     (fun m=>m≤n.out.length) (fun m=>n.out.length - m) 0 (Nat.zero_le _)
     (Imp.forget ⟨rfl,congrArg (fun k:Nat=>some (iv .i64 k)) (List.length_map _),rfl,rfl,rfl,rfl,rfl,rfl,rfl,rfl,rfl,rfl,trivial⟩ ⟨rfl,rfl,rfl,rfl,rfl,rfl,rfl,trivial⟩ rfl) ?_
    intro m hm;rcases Nat.lt_or_ge m n.out.length with hml|hml
    ·have hoo:=ok.ho m hml;have hnl:=outW_lt n sg l m;repeat' first|refine zd ?_|refine zc ?_|((first|refine zf ?_|refine zk ?_|refine regA ?_|fail);conv=>whnf)|exact abA hb|((first|refine⟨_,shr_w _ l (by omega),?_⟩|refine⟨_,and1_w _ l,?_⟩|refine⟨_,conv_lb _ _,?_⟩|refine⟨_,shl_lb _ l m (by omega),?_⟩|refine⟨_,or_lb _ _ l m (by omega) hnl.1 hnl.2,?_⟩|fail);conv=>whnf)|(refine zso rfl (fun hb=>?_) (fun hb=>?_))|((first|refine zsq ?_|refine andA ?_|with_reducible refine exA fun _=>?_|with_reducible refine And.intro (ze (And.intro (by omega) (And.intro (by first|omega|(simp only [List.length_map];omega)) (by first|omega|(simp only [List.length_map];omega)|(simp only [List.length_set,List.length_map];omega))))) ?_|with_reducible refine Exists.intro _ (And.intro (ze (zh (by omega) (by omega))) (And.intro (And.intro (Nat.le_of_ble_eq_true rfl) rfl) ?_))|fail);conv=>whnf)|fail
     have en:outW n sg l m+lb (sg[n.out[m].toNat]'(by omega)) l * 2 ^ m=outW n sg l (m+1):=by
      simp only [outW];rw [List.getD_eq_getElem?_getD (l:=n.out),List.getElem?_eq_getElem hml,Option.getD_some,getD_lt]
     exact⟨m+1,by omega,by omega,Imp.forget ⟨rfl,rfl,rfl,rfl,rfl,congrArg (fun v:Int=>some (iv .i64 v)) en,rfl,rfl,rfl,rfl,rfl,rfl,trivial⟩ ⟨rfl,rfl,rfl,rfl,rfl,rfl,rfl,trivial⟩ rfl⟩
    ·have hme:m=n.out.length:=by omega
     subst hme;have hnl:=nexts_len n dl sg l;have hol:=outs_len n sg l;repeat' first|refine zd ?_|refine zc ?_|((first|refine zf ?_|refine zk ?_|refine regA ?_|fail);conv=>whnf)|exact abA hb|(refine zso rfl (fun hb=>?_) (fun hb=>?_))|((first|refine zsq ?_|refine andA ?_|fail);conv=>whnf)|((refine And.intro (by refine⟨?_,?_,?_⟩ <;> simp [zO,maxLen] <;> omega) ?_);conv=>whnf)|fail
     have e1:((nexts n dl sg l).map iPV).take (nexts n dl sg l).length ++ [[PV.v (.int .i64 (nextW n dl sg l dl.length))]]=(nexts n dl sg (l+1)).map iPV:=by
      rw [nexts_succ,List.take_of_length_le (by simp),List.map_append];rfl
     have e2:((outs n sg l).map iPV).take (outs n sg l).length ++ [[PV.v (.int .i64 (outW n sg l n.out.length))]]=(outs n sg (l+1)).map iPV:=by
      rw [outs_succ,List.take_of_length_le (by simp),List.map_append];rfl
     have l1:(nexts n dl sg l).length+1=(nexts n dl sg (l+1)).length:=by rw [nexts_len,nexts_len]
     have l2:(outs n sg l).length+1=(outs n sg (l+1)).length:=by rw [outs_len,outs_len]
     exact⟨(l+1,sa+1,sb+1),by show l+1≤states.length;omega,by show states.length - (l+1) < states.length - l;omega,
      Imp.forget ⟨rfl,rfl,rfl,rfl,congrArg (fun k=>some (AV.x (.o 6 (sa+1) k))) l1,congrArg (fun k=>some (AV.x (.o 7 (sb+1) k))) l2,trivial⟩
       ⟨congrArg (fun l=>some (Ob.chain 3 1 (sb+1) l)) e2,congrArg (fun l=>some (Ob.chain 3 1 (sa+1) l)) e1,rfl,rfl,rfl,rfl,rfl,trivial⟩ rfl⟩
  ·have hle:l=states.length:=by omega
   subst hle;refine⟨_,gB n s1 sk s2 dl st (n.inn.toNat+n.gates.length) sg,⟨rfl,rfl,rfl,rfl,trivial⟩,rfl,(?_:_=some (AV.t [sl (nexts n dl sg states.length),sl (outs n sg states.length)])),st,rfl,rfl⟩
   exact outKeep2 (x:=.x (.o 6 sa _)) (y:=.x (.o 7 sb _)) rfl (keepO (xs:=(nexts n dl sg states.length).map iPV) rfl rfl (by simp)) (keepO (xs:=(outs n sg states.length).map iPV) rfl rfl (by simp))
end Go.Proofs.YtpfiejadigkgaaaGreatDoor
namespace Go.Proofs.YtpfiejadigkgaaaGreatDoor
open Go Go.QL
set_option maxHeartbeats 1600000
attribute [local irreducible] ACall FnC
def dlS (n:NetT) (i:Nat):List Int:=((List.range i).filter fun j=>(n.gates.getD j gate0).kind == 5).map fun (j:Nat)=>n.inn+j
theorem dlS_succ (n:NetT) (i:Nat):dlS n (i+1)=if (n.gates.getD i gate0).kind=5 then dlS n i ++ [n.inn+i] else dlS n i:=by
 unfold dlS;rw [List.range_succ,List.filter_append];simp only [List.getD_eq_getElem?_getD];by_cases h:(n.gates[i]?.getD gate0).kind=5
 ·simp [h]
 ·simp [h]
theorem dlS_len (n:NetT) (i:Nat) (hi:i≤n.gates.length):(dlS n i).length=delays (n.gates.take i):=by
 induction i with
 | zero=>rfl
 | succ i ih=>
  have hge:n.gates.getD i gate0=n.gates[i]:=by rw [List.getD_eq_getElem?_getD,List.getElem?_eq_getElem (by omega)];rfl
  rw [dlS_succ,delays_take _ _ (by omega),hge,← ih (by omega)];by_cases h:n.gates[i].kind=5
  ·simp [h]
  ·simp [h]
theorem dlS_mem (n:NetT) (i m:Nat) (h:m < (dlS n i).length):n.inn≤(dlS n i)[m]∧(dlS n i)[m] < n.inn+i:=by
 have:(dlS n i)[m] ∈ dlS n i:=List.getElem_mem h;unfold dlS at this;rw [List.mem_map] at this;obtain⟨j,hj,e⟩:=this;rw [List.mem_filter,List.mem_range] at hj;unfold dlS;rw [← e];omega
abbrev sB2 (n:NetT) (bx ch:Nat) (s1:Nat) (sk:List (W16 × W16)) (s2:Nat) (dl:List Int):Sg:=
 [(bx,.box [.d (.v (.int .i64 n.inn)),.d (gatesPV n.gates),.d (zR n.out),.o ch s1 sk.length,.o 902 s2 dl.length,.o 903 0 0]),
  (ch,.chain 133 2 s1 (sk.map sPV)),(902,.chain 3 1 s2 (dl.map iPV)),(903,.chain 132 1 0 [])]
def sk0 (n:NetT):List (W16 × W16):=List.replicate (n.inn.toNat+n.gates.length) (0#16,0#16)
end Go.Proofs.YtpfiejadigkgaaaGreatDoor
namespace Go.Proofs.YtpfiejadigkgaaaGreatDoor
open Go Go.QL
set_option maxHeartbeats 1600000
attribute [local irreducible] ACall FnC
def mkW (p:Nat→Bool):Nat→W16
 | 0=>0#16
 | m+1=>if p m then mkW p m ||| BitVec.twoPow 16 m else mkW p m
theorem mkW_bit (p:Nat→Bool) (m l:Nat) (hm:m≤16):(mkW p m).getLsbD l=(decide (l < m) && p l):=by
 induction m with
 | zero=>simp [mkW]
 | succ m ih=>
  unfold mkW;by_cases hp:p m=true
  ·rw [if_pos hp,BitVec.getLsbD_or,ih (by omega),BitVec.getLsbD_twoPow];by_cases h:m=l
   ·subst h;simp [hp];omega
   ·have e:decide (l < m+1)=decide (l < m):=decide_eq_decide.2 (by omega);rw [e];simp [h]
  ·rw [if_neg hp,ih (by omega)];by_cases h:l=m
   ·subst h;simp [hp]
   ·have e:decide (l < m+1)=decide (l < m):=decide_eq_decide.2 (by omega);rw [e]
theorem mkW_or (p q:Nat→Bool) (a:Nat) (ha:a < 16) (h:∀ l,l < 16→q l=(p l || l == a)):mkW p 16 ||| BitVec.twoPow 16 a=mkW q 16:=by
 apply BitVec.eq_of_getLsbD_eq;intro l hl;rw [BitVec.getLsbD_or,mkW_bit _ _ _ (Nat.le_refl _),mkW_bit _ _ _ (Nat.le_refl _),BitVec.getLsbD_twoPow,h l hl];simp [hl];by_cases e:a=l
 ·subst e;simp [hl]
 ·have:¬ l=a:=fun h=>e h.symm
  simp [e,this]
theorem mkW_congr (p q:Nat→Bool) (h:∀ l,p l=q l):mkW p 16=mkW q 16:=by rw [show p=q from funext h]
def metF (fs:List (Nat × FaultT)) (S:List Nat) (i v:Int) (l:Nat):Bool:=
 S.any fun j=>match fs[j]? with
  | some (l',f)=>l' == l && (f.sig == i && f.at_ == v)
  | none=>false
def skF (n:NetT) (fs:List (Nat × FaultT)) (S:List Nat):List (W16 × W16):=
 (List.range (n.inn.toNat+n.gates.length)).map fun (i:Nat)=>(mkW (metF fs S i 0) 16,mkW (metF fs S i 1) 16)
theorem skF_len (n:NetT) (fs:List (Nat × FaultT)) (S:List Nat):(skF n fs S).length=n.inn.toNat+n.gates.length:=by simp [skF]
theorem skF_nil (n:NetT) (fs:List (Nat × FaultT)):skF n fs []=sk0 n:=by
 unfold skF sk0;apply List.ext_getElem
 ·simp
 ·intro i h1 h2;have e:∀ m,mkW (fun _=>false) m=0#16:=by
   intro m;induction m with
   | zero=>rfl
   | succ m ih=>simp [mkW,ih]
  have e2:∀ v,metF fs [] (i:Int) v=fun _=>false:=fun v=>by funext l;rfl
  simp only [List.getElem_map,List.getElem_range,List.getElem_replicate,e2,e]
theorem skF_all (n:NetT) (fs:List (Nat × FaultT)) (S:List Nat) (hS:∀ i,i < fs.length→i ∈ S):skF n fs S=skF n fs (List.range fs.length):=by
 have key:∀ i v l,metF fs S i v l=metF fs (List.range fs.length) i v l:=by
  intro i v l;unfold metF;rw [Bool.eq_iff_iff,List.any_eq_true,List.any_eq_true];constructor
  ·rintro⟨j,hj,h⟩;refine⟨j,?_,h⟩
   rw [List.mem_range];cases e:fs[j]? with
   | none=>rw [e] at h;cases h
   | some p=>exact (List.getElem?_eq_some_iff.1 e).1
  ·rintro⟨j,hj,h⟩;exact⟨j,hS j (List.mem_range.1 hj),h⟩
 unfold skF;congr 1
 funext i
 rw [mkW_congr _ _ (key i 0),mkW_congr _ _ (key i 1)]
theorem metF_snoc (fs:List (Nat × FaultT)) (S:List Nat) (j l0:Nat) (f:FaultT) (hj:fs[j]?=some (l0,f)) (i v:Int) (l:Nat) :
  metF fs (S ++ [j]) i v l=(metF fs S i v l || (l0 == l && (f.sig == i && f.at_ == v))):=by
 unfold metF;rw [List.any_append];simp [hj]
theorem one_shl (l:Nat) (hl:l < 16):IntKind.u16.wrap (1 * 2 ^ (min ((l:Int)).toNat IntKind.u16.bits))=wi (BitVec.twoPow 16 l):=by
 have:=shl_bit 1 l hl;unfold shlW at this;simpa using this
def left (S:List Nat):Nat→Nat
 | 0=>0
 | m+1=>left S m+if m ∈ S then 0 else 1
theorem left_le (S:List Nat) (j m:Nat):left (S ++ [j]) m≤left S m:=by
 induction m with
 | zero=>exact Nat.le_refl _
 | succ m ih=>
  unfold left;by_cases h:m ∈ S
  ·have:m ∈ S ++ [j]:=List.mem_append_left _ h;rw [if_pos h,if_pos this];omega
  ·rw [if_neg h];split <;> omega
theorem left_lt (S:List Nat) (j m:Nat) (hj:j < m) (hn:j ∉ S):left (S ++ [j]) m < left S m:=by
 induction m with
 | zero=>omega
 | succ m ih=>
  have hle:=left_le S j m;unfold left;by_cases e:j=m
  ·subst e;rw [if_pos (List.mem_append_right _ (List.mem_singleton.2 rfl)),if_neg hn];omega
  ·have:=ih (by omega);by_cases h:m ∈ S
   ·have:m ∈ S ++ [j]:=List.mem_append_left _ h;rw [if_pos h,if_pos this];omega
   ·rw [if_neg h];split <;> omega
theorem skF_set (n:NetT) (fs:List (Nat × FaultT)) (S:List Nat) (j l0:Nat) (f:FaultT) (hj:fs[j]?=some (l0,f)) (hl:l0 < 16) (h0:0≤f.sig) (hs:f.sig.toNat < (skF n fs S).length) (e:List PV)
  (he:(f.at_=0∧e=[.v (.int .u16 (wi ((skF n fs S)[f.sig.toNat].1 ||| BitVec.twoPow 16 l0))),.v (.int .u16 (wi (skF n fs S)[f.sig.toNat].2))]) ∨
   (f.at_=1∧e=[.v (.int .u16 (wi (skF n fs S)[f.sig.toNat].1)),.v (.int .u16 (wi ((skF n fs S)[f.sig.toNat].2 ||| BitVec.twoPow 16 l0)))])) :
  ((skF n fs S).map sPV).set f.sig.toNat e=(skF n fs (S ++ [j])).map sPV:=by
 have hsig:((f.sig.toNat:Nat):Int)=f.sig:=by omega
 apply List.ext_getElem
 ·simp [skF]
 ·intro i h1 h2;rw [List.getElem_set];by_cases hi:f.sig.toNat=i
  ·subst hi;rw [if_pos rfl];simp only [skF,List.getElem_map,List.getElem_range,sPV] at he ⊢;rcases he with ⟨ha,rfl⟩|⟨ha,rfl⟩
   ·rw [mkW_or _ (metF fs (S ++ [j]) (f.sig.toNat:Int) 0) l0 hl (fun l _=>by rw [metF_snoc fs S j l0 f hj,hsig,ha];simp [eq_comm];rw [Bool.beq_comm]),
     mkW_congr (metF fs (S ++ [j]) (f.sig.toNat:Int) 1) (metF fs S (f.sig.toNat:Int) 1) (fun l=>by rw [metF_snoc fs S j l0 f hj,ha];simp)]
   ·rw [mkW_or _ (metF fs (S ++ [j]) (f.sig.toNat:Int) 1) l0 hl (fun l _=>by rw [metF_snoc fs S j l0 f hj,hsig,ha];simp [eq_comm];rw [Bool.beq_comm]),
     mkW_congr (metF fs (S ++ [j]) (f.sig.toNat:Int) 0) (metF fs S (f.sig.toNat:Int) 0) (fun l=>by rw [metF_snoc fs S j l0 f hj,ha];simp)]
  ·rw [if_neg hi];have hne:(f.sig == (i:Int))=false:=by
    simp;omega
   simp only [skF,List.getElem_map,List.getElem_range,sPV];rw [mkW_congr (metF fs (S ++ [j]) (i:Int) 0) (metF fs S (i:Int) 0) (fun l=>by rw [metF_snoc fs S j l0 f hj,hne];simp),
     mkW_congr (metF fs (S ++ [j]) (i:Int) 1) (metF fs S (i:Int) 1) (fun l=>by rw [metF_snoc fs S j l0 f hj,hne];simp)]
end Go.Proofs.YtpfiejadigkgaaaGreatDoor
namespace Go.Proofs.YtpfiejadigkgaaaGreatDoor
open Go Go.QL
set_option maxHeartbeats 1600000
attribute [local irreducible] ACall FnC
def kvF (fs:List (Nat × FaultT)):List (Value × AV):=fs.map fun p=>(.int .i64 p.1,faultAV p.2)
abbrev mapF (fs:List (Nat × FaultT)):Ob:=.x (.map (.one (.int .i64)) (kvF fs))
theorem build_map (n:NetT) (h1:1≤n.inn) (h6:n.inn≤6) (hl:n.gates.length≤24) (fs:List (Nat × FaultT)) (hfs:∀ i (h:i < fs.length),fs[i].1 < 16∧0≤fs[i].2.sig∧fs[i].2.sig < n.inn+n.gates.length∧(fs[i].2.at_=0∨fs[i].2.at_=1)) :
  ACall Tryz.prog 19 [netAV n,.x (.h 700)] [(700,mapF fs)]
   (fun r σ'=>∃ s2,r=.x (.b 19 0)∧σ'=(700,mapF fs)::sB2 n 19 17 0 (skF n fs (List.range fs.length)) s2 (dlS n n.gates.length)):=by
 refine hdD Tryz.func19 Tryz.ntmps19 (res:=[.tmp 4]) fun w0 K0 B=>?_
 repeat' first|refine zd ?_|refine zc ?_|((first|refine regA ?_|refine drA (id:=1) 8 true [0,0,2,0,8,24,62,126,255,511,1023] ?_|refine zsq ?_|refine andA ?_|with_reducible refine And.intro (And.intro (by omega) (And.intro (by first|omega|(simp only [List.length_map];omega)) (by first|omega|(simp only [List.length_map,List.length_set];omega)))) ?_|fail);conv=>whnf)|fail
 have eN:(n.inn+((List.map gPV n.gates).length:Int)).toNat=(skF n fs []).length:=by
  rw [skF_nil];unfold sk0;rw [List.length_map,List.length_replicate];omega
 have eC:List.replicate (n.inn+((List.map gPV n.gates).length:Int)).toNat [PV.v (.int .u16 0),PV.v (.int .u16 0)]=(skF n fs []).map sPV:=by
  rw [eN,skF_nil];unfold sk0;rw [List.length_replicate,List.map_replicate];rfl
 refine zJ (fun S:List Nat=>[(21,.x (.h 21)),(2,.x (.b 2 0)),(5,.x (.b 19 0))])
  (fun S=>[(21,.x (.mapIter (some 700) (kvF fs).length S (kvF fs).length)),(2,.box [.d (.v (.int .i64 n.inn)),.d (gatesPV n.gates),.d (zR n.out)]),(19,.box [.d (.v (.int .i64 n.inn)),.d (gatesPV n.gates),.d (zR n.out),.o 17 0 (skF n fs S).length,.d (.v (.slice none 0 0)),.d (.v (.slice none 0 0))]),(17,.chain 133 2 0 ((skF n fs S).map sPV)),(700,mapF fs)])
  (fun S=>∀ j ∈ S,j < fs.length) (fun S=>left S fs.length) [] (fun j hj=>by cases hj)
  (Imp.forget ⟨rfl,rfl,rfl,trivial⟩ ⟨rfl,rfl,congrArg (fun k=>some (Ob.box [.d (.v (.int .i64 n.inn)),.d (gatesPV n.gates),.d (zR n.out),.o 17 0 k,.d (.v (.slice none 0 0)),.d (.v (.slice none 0 0))])) eN,congrArg (fun l=>some (Ob.chain 133 2 0 l)) eC,rfl,trivial⟩ rfl) ?_
 intro S hS;have hskl:=skF_len n fs S;repeat' first|refine zd ?_|((first|refine regA ?_|refine andA ?_|fail);conv=>whnf)|fail
 refine⟨fun j key v hj hn=>?_,fun hall=>?_⟩
 ·have hjl:j < fs.length:=by have:=(List.getElem?_eq_some_iff.1 hj).1;simpa [kvF] using this
  obtain⟨⟨l0,f⟩,hfj⟩:∃ p,fs[j]=p:=⟨_,rfl⟩;have hfj':fs[j]?=some (l0,f):=by rw [List.getElem?_eq_getElem hjl,hfj]
  have hkv:(kvF fs)[j]?=some (.int .i64 l0,faultAV f):=by unfold kvF;rw [List.getElem?_map,hfj'];rfl
  rw [hkv] at hj;cases hj;obtain⟨hl16,hs0,hs1,hat⟩:=hfs j hjl;rw [hfj] at hl16 hs0 hs1 hat;dsimp only at hl16 hs0 hs1 hat;obtain⟨sg,av⟩:=f;dsimp only at hs0 hs1 hat;have hsl:sg.toNat < (skF n fs S).length:=by rw [hskl];omega
  rcases hat with rfl|rfl
  ·have eS:=skF_set n fs S j l0 ⟨sg,0⟩ hfj' hl16 hs0 hsl _ (.inl ⟨rfl,rfl⟩);have eL:(skF n fs S).length=(skF n fs (S ++ [j])).length:=by rw [skF_len,skF_len]
   conv=>whnf
   repeat' first|refine zd ?_|refine zc ?_|((first|refine zf ?_|refine regA ?_|refine drA (id:=5) 15 false [0,1,3,7,0,16,0,64,63,511,1023,0,2048,8191,63,32767,65535] ?_|refine⟨_,ze (zh (n:=sg) hs0 hsl),⟨Nat.le_of_ble_eq_true rfl,rfl⟩,?_⟩|refine⟨_,zh (n:=sg) hs0 hsl,Nat.le_of_ble_eq_true rfl,?_⟩|refine⟨rfl,j,_,_,List.getLast?_concat,hkv,?_⟩|refine⟨_,one_shl l0 hl16,?_⟩|refine⟨_,w_or _ _,?_⟩|fail);conv=>whnf)|(refine zsu rfl ?_)|((first|refine andA ?_|with_reducible refine And.intro (ze (And.intro (by omega) (And.intro (by first|omega|(simp only [List.length_map];omega)) (by first|omega|(simp only [List.length_map];omega)|(simp only [List.length_set,List.length_map];omega))))) ?_|fail);conv=>whnf)|fail
   exact⟨S ++ [j],by
     intro x hx;rcases List.mem_append.1 hx with hx|hx
     ·exact hS x hx
     ·rw [List.mem_singleton] at hx;omega,
    left_lt S j fs.length hjl hn,
    Imp.forget ⟨rfl,rfl,rfl,trivial⟩ ⟨rfl,rfl,congrArg (fun k=>some (Ob.box [.d (.v (.int .i64 n.inn)),.d (gatesPV n.gates),.d (zR n.out),.o 17 0 k,.d (.v (.slice none 0 0)),.d (.v (.slice none 0 0))])) eL,congrArg (fun l=>some (Ob.chain 133 2 0 l)) eS,rfl,trivial⟩ rfl⟩
  ·have eS:=skF_set n fs S j l0 ⟨sg,1⟩ hfj' hl16 hs0 hsl _ (.inr ⟨rfl,rfl⟩);have eL:(skF n fs S).length=(skF n fs (S ++ [j])).length:=by rw [skF_len,skF_len]
   conv=>whnf
   repeat' first|refine zd ?_|refine zc ?_|((first|refine zf ?_|refine regA ?_|refine drA (id:=5) 15 false [0,1,3,7,0,16,0,64,63,511,1023,0,2048,8191,63,32767,65535] ?_|refine⟨_,ze (zh (n:=sg) hs0 hsl),⟨Nat.le_of_ble_eq_true rfl,rfl⟩,?_⟩|refine⟨_,zh (n:=sg) hs0 hsl,Nat.le_of_ble_eq_true rfl,?_⟩|refine⟨rfl,j,_,_,List.getLast?_concat,hkv,?_⟩|refine⟨_,one_shl l0 hl16,?_⟩|refine⟨_,w_or _ _,?_⟩|fail);conv=>whnf)|(refine zsu rfl ?_)|((first|refine andA ?_|with_reducible refine And.intro (ze (And.intro (by omega) (And.intro (by first|omega|(simp only [List.length_map];omega)) (by first|omega|(simp only [List.length_map];omega)|(simp only [List.length_set,List.length_map];omega))))) ?_|fail);conv=>whnf)|fail
   exact⟨S ++ [j],by
     intro x hx;rcases List.mem_append.1 hx with hx|hx
     ·exact hS x hx
     ·rw [List.mem_singleton] at hx;omega,
    left_lt S j fs.length hjl hn,
    Imp.forget ⟨rfl,rfl,rfl,trivial⟩ ⟨rfl,rfl,congrArg (fun k=>some (Ob.box [.d (.v (.int .i64 n.inn)),.d (gatesPV n.gates),.d (zR n.out),.o 17 0 k,.d (.v (.slice none 0 0)),.d (.v (.slice none 0 0))])) eL,congrArg (fun l=>some (Ob.chain 133 2 0 l)) eS,rfl,trivial⟩ rfl⟩
 ·have hall':∀ i,i < fs.length→i ∈ S:=fun i hi=>hall i (by unfold kvF;rw [List.length_map];exact hi)
  clear hall;conv=>whnf
  repeat' first|refine zd ?_|refine zc ?_|((first|refine zk ?_|refine regA ?_|fail);conv=>whnf)|(refine zsv rfl ?_)|((refine andA ?_);conv=>whnf)|(refine lnA fun hln=>?_;conv=>whnf)|fail
  refine zaq (Imp.nil 902 3 1 (fr':=[(46,iv .i64 0),(45,iv .i64 n.gates.length),(44,.x (.d (gatesPV n.gates))),(2,.x (.b 2 0)),(5,.x (.b 19 0))])
   (σ':=[(700,mapF fs),(2,.box [.d (.v (.int .i64 n.inn)),.d (gatesPV n.gates),.d (zR n.out)]),(19,.box [.d (.v (.int .i64 n.inn)),.d (gatesPV n.gates),.d (zR n.out),.o 17 0 (skF n fs S).length,.o 902 0 0,.d (.v (.slice none 0 0))]),(17,.chain 133 2 0 ((skF n fs S).map sPV))]) rfl ?_ ?_ rfl rfl) ?_
  ·exact⟨⟨_,rfl,.inl rfl⟩,⟨_,congrArg (fun k:Nat=>some (iv .i64 k)) (List.length_map _),.inl rfl⟩,⟨_,rfl,.inl rfl⟩,⟨_,rfl,.inl rfl⟩,⟨_,rfl,.inl rfl⟩,trivial⟩
  ·exact⟨⟨_,rfl,.inl rfl⟩,⟨_,rfl,.inl rfl⟩,⟨_,rfl,.inr ⟨_,_,rfl,rfl,.inl rfl,.inl rfl,.inl rfl,.inl rfl,.inr ⟨rfl,rfl⟩,.inl rfl,trivial⟩⟩,⟨_,rfl,.inl rfl⟩,trivial⟩
  refine zaq (Imp.nil 903 132 1 (fr':=[(46,iv .i64 0),(45,iv .i64 n.gates.length),(44,.x (.d (gatesPV n.gates))),(2,.x (.b 2 0)),(5,.x (.b 19 0))])
   (σ':=[(902,.chain 3 1 0 []),(700,mapF fs),(2,.box [.d (.v (.int .i64 n.inn)),.d (gatesPV n.gates),.d (zR n.out)]),(19,.box [.d (.v (.int .i64 n.inn)),.d (gatesPV n.gates),.d (zR n.out),.o 17 0 (skF n fs S).length,.o 902 0 0,.o 903 0 0]),(17,.chain 133 2 0 ((skF n fs S).map sPV))]) rfl ?_ ?_ rfl rfl) ?_
  ·exact⟨⟨_,rfl,.inl rfl⟩,⟨_,rfl,.inl rfl⟩,⟨_,rfl,.inl rfl⟩,⟨_,rfl,.inl rfl⟩,⟨_,rfl,.inl rfl⟩,trivial⟩
  ·exact⟨⟨_,rfl,.inl rfl⟩,⟨_,rfl,.inl rfl⟩,⟨_,rfl,.inl rfl⟩,⟨_,rfl,.inr ⟨_,_,rfl,rfl,.inl rfl,.inl rfl,.inl rfl,.inl rfl,.inl rfl,.inr ⟨rfl,rfl⟩,trivial⟩⟩,⟨_,rfl,.inl rfl⟩,trivial⟩
  refine zJ (fun p:Nat × Nat=>[(46,iv .i64 p.1),(45,iv .i64 n.gates.length),(44,.x (.d (gatesPV n.gates))),(2,.x (.b 2 0)),(5,.x (.b 19 0))])
   (fun p=>(700,mapF fs)::(2,.box [.d (.v (.int .i64 n.inn)),.d (gatesPV n.gates),.d (zR n.out)])::sB2 n 19 17 0 (skF n fs S) p.2 (dlS n p.1)) (fun p=>p.1≤n.gates.length) (fun p=>n.gates.length - p.1) (0,0) (Nat.zero_le _)
   (Imp.forget ⟨rfl,rfl,rfl,rfl,rfl,trivial⟩ ⟨rfl,rfl,rfl,rfl,rfl,rfl,trivial⟩ rfl) ?_
  rintro⟨i,st⟩ hi;dsimp only at hi ⊢;have hdl:=dlS_len n i hi;have hdle:=delays_le (n.gates.take i);rw [List.length_take] at hdle;rcases Nat.lt_or_ge i n.gates.length with hil|hil
  ·have hge:n.gates.getD i gate0=n.gates[i]:=by rw [List.getD_eq_getElem?_getD,List.getElem?_eq_getElem (by omega)];rfl
   repeat' first|refine zd ?_|refine zc ?_|((first|refine zf ?_|refine zk ?_|refine zi ?_|refine regA ?_|refine drM (id:=10) 10 [0] true [0,0,2,6,14,0,32,0,224,480,1022,2047,4095,8191] ?_|refine LateGo.mk ⟨_,rfl,?_⟩|fail);conv=>whnf)|exact abA hb|(refine zso rfl (fun hb=>?_) (fun hb=>?_))|((first|refine zsq ?_|refine andA ?_|with_reducible refine exA fun _=>?_|fail);conv=>whnf)|((refine And.intro (by refine⟨?_,?_,?_⟩ <;> simp [zO,maxLen] <;> omega) ?_);conv=>whnf)|fail
   iterate 1
    ·have e:=dlS_succ n i;rw [hge,if_pos hb] at e;have l1:(dlS n i).length+1=(dlS n (i+1)).length:=by rw [e];simp
     have e1:((dlS n i).map iPV).take (dlS n i).length ++ [[PV.v (.int .i64 (n.inn+i))]]=(dlS n (i+1)).map iPV:=by
      rw [e,List.take_of_length_le (by simp),List.map_append];rfl
     exact⟨(i+1,st+1),by show i+1≤n.gates.length;omega,by show n.gates.length - (i+1) < n.gates.length - i;omega,
      Imp.forget ⟨rfl,rfl,rfl,rfl,rfl,trivial⟩ ⟨rfl,rfl,congrArg (fun k=>some (Ob.box [.d (.v (.int .i64 n.inn)),.d (gatesPV n.gates),.d (zR n.out),.o 17 0 (skF n fs S).length,.o 902 (st+1) k,.o 903 0 0])) l1,rfl,congrArg (fun l=>some (Ob.chain 3 1 (st+1) l)) e1,rfl,trivial⟩ rfl⟩
   ·have e:=dlS_succ n i;rw [hge,if_neg hb] at e;refine⟨(i+1,st),by show i+1≤n.gates.length;omega,by show n.gates.length - (i+1) < n.gates.length - i;omega,?_⟩
    dsimp only;rw [e];exact Imp.forget ⟨rfl,rfl,rfl,rfl,rfl,trivial⟩ ⟨rfl,rfl,rfl,rfl,rfl,rfl,trivial⟩ rfl
  ·have hie:i=n.gates.length:=by omega
   subst hie;repeat' first|refine zd ?_|refine zc ?_|((first|refine zf ?_|refine zk ?_|refine zi ?_|refine regA ?_|fail);conv=>whnf)|exact abA hb|(refine zso rfl (fun hb=>?_) (fun hb=>?_))|fail
   exact⟨_,(700,mapF fs)::sB2 n 19 17 0 (skF n fs S) st (dlS n n.gates.length),⟨rfl,rfl,rfl,rfl,rfl,trivial⟩,rfl,rfl,st,rfl,by rw [skF_all n fs S hall']⟩
end Go.Proofs.YtpfiejadigkgaaaGreatDoor
namespace Go.Proofs.YtpfiejadigkgaaaGreatDoor
open Go Go.QL
set_option maxHeartbeats 1600000
attribute [local irreducible] ACall FnC
theorem shl_one (k:Int) (h0:0≤k) (h1:k≤32):IntKind.i64.wrap (1 * 2 ^ (min k.toNat IntKind.i64.bits))=2 ^ k.toNat:=by
 rw [show min k.toNat IntKind.i64.bits=k.toNat from Nat.min_eq_left (by show k.toNat≤64;omega),Int.one_mul];have:=pow64 (m:=k.toNat) (by omega);exact zg (by omega)
def topIn (n:NetT):Int:=2 ^ n.inn.toNat - 1
abbrev netBox (n:NetT):Ob:=.box [.d (.v (.int .i64 n.inn)),.d (gatesPV n.gates),.d (zR n.out)]
theorem inchk_fn (n:NetT) (h1:1≤n.inn) (h6:n.inn≤6) (x:Int) (rest:Sg):ACall Tryz.prog 59 [iv .i64 x,.x (.b 2 0)] ((2,netBox n)::rest)
  (fun r σ'=>r=bv (gOut x (topIn n))∧σ'=(2,netBox n)::rest):=by
 refine zcN hTt Tryz.func59 rfl (by kernel_rfl) (res:=[.tmp 3]) rfl Tryz.ntmps59 (by simp) fun w0 K0 B=>?_
 dsimp only [entry];have hp:=pow64 (m:=n.inn.toNat) (by omega);repeat' first|refine zd ?_|((first|refine zi ?_|refine regA ?_|refine zsn (zaL _ _) ?_|refine⟨_,shl_one n.inn (by omega) (by omega),?_⟩|refine zsq ?_|refine andA ?_|fail);conv=>whnf)|fail
 exact⟨_,rfl,rfl,rfl⟩
theorem idxin_fn (n:NetT) (h1:1≤n.inn) (h6:n.inn≤6) (l:List Int) (rest:Sg):ACall Tryz.prog 56 [sl l,.x (.f (.func 59) [] [.b 2 0])] ((2,netBox n)::rest)
  (fun r σ'=>r=iv .i64 (firstBad (topIn n) l)∧σ'=(2,netBox n)::rest):=by
 refine zcN hTt Tryz.func56 rfl (by kernel_rfl) (res:=[.tmp 4]) rfl Tryz.ntmps56 (by simp) fun w0 K0 B=>?_
 dsimp only [entry];repeat' first|refine zd ?_|refine zc ?_|((refine regA ?_);conv=>whnf)|(refine lnA fun hln=>?_;conv=>whnf)|fail
 refine zJ (fun i:Nat=>[(8,iv .i64 i),(7,iv .i64 l.length),(0,sl l),(1,.x (.f (.func 59) [] [.b 2 0]))]) (fun _=>(2,netBox n)::rest)
  (fun i=>i≤l.length∧firstOut (topIn n) l 0=firstOut (topIn n) (l.drop i) i) (fun i=>l.length - i) 0 (by simp) (Imp.slots ⟨rfl,congrArg (fun k:Nat=>some (iv .i64 k)) (List.length_map _),rfl,rfl,trivial⟩) ?_
 rintro i ⟨hi,hfo⟩;repeat' first|refine zd ?_|refine zc ?_|((first|refine zf ?_|refine zk ?_|refine zi ?_|refine regA ?_|((refine⟨_,inchk_fn n h1 h6 _ _,?_⟩);(rintro _ _ ⟨rfl,rfl⟩))|fail);conv=>whnf)|(refine zso rfl (fun hb=>?_) (fun hb=>?_))|((first|refine zsq ?_|refine andA ?_|with_reducible refine exA fun _=>?_|fail);conv=>whnf)|fail
 ·have e:firstBad (topIn n) l=i:=by
   unfold firstBad;rw [hfo,List.drop_eq_getElem_cons (by omega)];simp only [firstOut];rw [outB_eq] at hb;rw [if_neg (by simpa using hb)]
  exact⟨_,rfl,by rw [e],rfl⟩
 ·refine⟨i+1,⟨by omega,?_⟩,by omega,Imp.slots ⟨rfl,rfl,rfl,rfl,trivial⟩⟩
  rw [hfo,List.drop_eq_getElem_cons (by omega)];simp only [firstOut];rw [outB_eq] at hb;rw [if_pos (by simpa using hb)]
 ·have e:firstBad (topIn n) l = -1:=by
   unfold firstBad;rw [hfo,List.drop_eq_nil_of_le (by omega)];rfl
  exact⟨_,rfl,by rw [e],rfl⟩
theorem contin_fn (n:NetT) (h1:1≤n.inn) (h6:n.inn≤6) (l:List Int) (rest:Sg):ACall Tryz.prog 58 [sl l,.x (.f (.func 59) [] [.b 2 0])] ((2,netBox n)::rest)
  (fun r σ'=>r=bv (decide (0≤firstBad (topIn n) l))∧σ'=(2,netBox n)::rest):=by
 refine zcN hTt Tryz.func58 rfl (by kernel_rfl) (res:=[.tmp 4]) rfl Tryz.ntmps58 (by simp) fun w0 K0 B=>?_
 dsimp only [entry];repeat' first|refine zd ?_|((first|refine zi ?_|refine regA ?_|((refine⟨_,idxin_fn n h1 h6 _ _,?_⟩);(rintro _ _ ⟨rfl,rfl⟩))|fail);conv=>whnf)|fail
 exact⟨_,rfl,rfl,rfl⟩
def insErr (n:NetT) (l:List Int):Int:=if 32 < l.length then 3 else if 0≤firstBad (topIn n) l then 7 else 0
theorem pins_fn (n:NetT) (h1:1≤n.inn) (h6:n.inn≤6) (l:List Int):FnC Tryz.prog 18 [netAV n,sl l] (iv .i64 (insErr n l)):=by
 refine hdC Tryz.func18 Tryz.ntmps18 (res:=[.tmp 4]) fun w0 K0=>?_
 repeat' first|refine zd ?_|refine zc ?_|((first|refine zf ?_|refine zi ?_|refine regA ?_|((refine⟨_,contin_fn n h1 h6 _ _,?_⟩);(rintro _ _ ⟨rfl,rfl⟩))|fail);conv=>whnf)|(refine zso rfl (fun hb=>?_) (fun hb=>?_))|(refine lnA fun hln=>?_;conv=>whnf)|fail
 ·rw [show insErr n l=3 from if_pos (by omega)];rfl
 ·rename_i hb1;rw [show insErr n l=7 from by unfold insErr;rw [if_neg (by omega),if_pos hb]];rfl
 ·rename_i hb1;rw [show insErr n l=0 from by unfold insErr;rw [if_neg (by omega),if_neg hb]];rfl
theorem firstGate_none (inn:Int) (len:Nat):∀ (l:List GateT) (k:Nat),firstGate inn len l k=none→∀ i (h:i < l.length),gateErr inn len (k+i) l[i]=0
 | [],k,_,i,h=>by simp at h
 | g::r,k,hn,i,h=>by
  unfold firstGate at hn;by_cases hg:gateErr inn len k g=0
  ·rw [if_pos hg] at hn;cases i with
   | zero=>exact hg
   | succ i=>
    have:=firstGate_none inn len r (k+1) hn i (by simpa using h);rw [show k+1+i=k+(i+1) by omega] at this;exact this
  ·rw [if_neg hg] at hn;cases hn
theorem firstOut_none (last:Int):∀ (l:List Int) (k:Nat),firstOut last l k=none→∀ i (h:i < l.length),inB l[i] 0 last=true
 | [],k,_,i,h=>by simp at h
 | x::r,k,hn,i,h=>by
  unfold firstOut at hn;by_cases hg:inB x 0 last=true
  ·rw [if_pos hg] at hn;cases i with
   | zero=>exact hg
   | succ i=>exact firstOut_none last r (k+1) hn i (by simpa using h)
  ·rw [if_neg hg] at hn;cases hn
theorem gateErr_ok {inn:Int} {len i:Nat} {g:GateT} (h:gateErr inn len i g=0) (hi:i < len) (h1:1≤inn) :
  (1≤g.kind∧g.kind≤5)∧(0≤g.a∧g.a < inn+len∧(g.kind≠5→g.a < inn+i))∧(0≤g.b∧g.b < inn+len∧(g.kind≤3→g.b < inn+i)):=by
 unfold gateErr at h;by_cases hk:inB g.kind 1 5=false
 ·rw [if_pos hk] at h;cases h
 ·rw [if_neg hk] at h;have hk:=inB_iff.1 (by simpa using hk:inB g.kind 1 5=true);have hn:¬ (inB g.a 0 (if g.kind=5 then inn+len - 1 else inn+i - 1)=false∨inB g.b 0 (if g.kind=4∨g.kind=5 then 0 else if g.kind=5 then inn+len - 1 else inn+i - 1)=false):=fun hc=>by
   dsimp only at h;rw [if_pos hc] at h;cases h
  have hn:=not_or.1 hn;have ha:=inB_iff.1 (by simpa using hn.1:inB g.a 0 (if g.kind=5 then inn+len - 1 else inn+i - 1)=true);have hb:=inB_iff.1 (by simpa using hn.2:inB g.b 0 (if g.kind=4∨g.kind=5 then 0 else if g.kind=5 then inn+len - 1 else inn+i - 1)=true);refine⟨hk,?_,?_⟩
  ·split at ha <;> refine⟨by omega,by omega,fun _=>by omega⟩
  ·split at hb
   ·refine⟨by omega,by omega,fun _=>by omega⟩
   ·split at hb <;> refine⟨by omega,by omega,fun _=>by omega⟩
theorem NetOK.of {n:NetT} (h:(checkR n).2.2=0):NetOK n:=by
 unfold checkR at h;by_cases c1:inB n.inn 1 6=false
 ·rw [if_pos c1] at h;cases h
 rw [if_neg c1] at h;by_cases c2:24 < n.gates.length∨inB n.out.length 1 4=false
 ·rw [if_pos c2] at h;cases h
 rw [if_neg c2] at h;have b1:=inB_iff.1 (by simpa using c1:inB n.inn 1 6=true);have c2:=not_or.1 c2;have b2:=inB_iff.1 (by simpa using c2.2:inB n.out.length 1 4=true);cases c3:firstGate n.inn n.gates.length n.gates 0 with
 | some p=>
  rw [c3] at h;obtain⟨i,e⟩:=p;have h:e=0:=h;exfalso;have key:∀ (l:List GateT) (k:Nat) (p:Nat × Int),firstGate n.inn n.gates.length l k=some p→p.2≠0:=by
   intro l;induction l with
   | nil=>intro k p hp;cases hp
   | cons g r ih=>
    intro k p hp;unfold firstGate at hp;split at hp
    ·exact ih _ _ hp
    ·rename_i hg;cases hp;exact hg
  exact key _ _ _ c3 h
 | none=>
  rw [c3] at h;dsimp only at h;by_cases c4:5 < delays n.gates
  ·rw [if_pos c4] at h;cases h
  rw [if_neg c4] at h;cases c5:firstOut (n.inn+n.gates.length - 1) n.out 0 with
  | some j=>rw [c5] at h;cases h
  | none=>
   have g:=fun i hi=>gateErr_ok (by simpa using firstGate_none _ _ _ _ c3 i hi) hi b1.1
   have o:=fun i hi=>inB_iff.1 (firstOut_none _ _ _ c5 i hi)
   exact⟨b1.1,b1.2,by omega,by omega,by omega,by omega,fun i hi=>(g i hi).1,fun i hi=>(g i hi).2.1,fun i hi=>(g i hi).2.2,fun i hi=>by have:=o i hi;omega⟩
end Go.Proofs.YtpfiejadigkgaaaGreatDoor
namespace Go.Proofs.YtpfiejadigkgaaaGreatDoor
open Go Go.QL
set_option maxHeartbeats 1600000
attribute [local irreducible] ACall FnC
def sig0 (n:NetT) (states:List Int) (x:Int):List W16:=sigW (sk0 n) n states x n.gates.length
def dl0 (n:NetT):List Int:=dlS n n.gates.length
def stepP (n:NetT) (state input:Int):Int × Int × Int:=
 if (checkR n).2.2≠0 then (0,0,(checkR n).2.2)
 else if gOut state (2 ^ delays n.gates - 1)=true∨gOut input (topIn n)=true then (0,0,7)
 else (nextW n (dl0 n) (sig0 n [state] input) 0 (dl0 n).length,outW n (sig0 n [state] input) 0 n.out.length,0)
end Go.Proofs.YtpfiejadigkgaaaGreatDoor
namespace Go.Proofs.YtpfiejadigkgaaaGreatDoor
open Go Go.QL
set_option maxHeartbeats 1600000
attribute [local irreducible] ACall FnC
theorem pwrong_fn (n:NetT) (f:FaultT) (h1:1≤n.inn) (h6:n.inn≤6) (hl:n.gates.length≤24):FnC Tryz.prog 17 [netAV n,faultAV f] (iv .i64 (faultErr n f)):=by
 refine hdC Tryz.func17 Tryz.ntmps17 (res:=[.tmp 4]) fun w0 K0=>?_
 repeat' first|refine zd ?_|refine zc ?_|((first|refine zf ?_|refine zi ?_|refine regA ?_|refine zsn (zaL _ _) ?_|fail);conv=>whnf)|(refine zso rfl (fun hb=>?_) (fun hb=>?_))|((first|refine zsq ?_|refine andA ?_|fail);conv=>whnf)|(refine lnA fun hln=>?_;conv=>whnf)|fail
 ·rw [show faultErr n f=4 from by
   rw [outB_eq] at hb;unfold faultErr;rw [if_pos (by simpa using hb)]]
  rfl
 ·rename_i hb1;rw [show faultErr n f=7 from by
   rw [outB_eq] at hb1;rw [outB_eq] at hb;unfold faultErr;rw [if_neg (by simpa using hb1),if_pos (by simpa using hb)]]
  rfl
 ·rename_i hb1;rw [show faultErr n f=0 from by
   rw [outB_eq] at hb1;rw [outB_eq] at hb;unfold faultErr;rw [if_neg (by simpa using hb1),if_neg (by simpa using hb)]]
  rfl
end Go.Proofs.YtpfiejadigkgaaaGreatDoor
namespace Go.Proofs.YtpfiejadigkgaaaGreatDoor
open Go Go.QL
set_option maxHeartbeats 1600000
attribute [local irreducible] ACall FnC
end Go.Proofs.YtpfiejadigkgaaaGreatDoor
namespace Go.Proofs.YtpfiejadigkgaaaGreatDoor
open Go Go.QL
set_option maxHeartbeats 1600000
attribute [local irreducible] ACall FnC
end Go.Proofs.YtpfiejadigkgaaaGreatDoor
namespace Go.Proofs.YtpfiejadigkgaaaGreatDoor
open Go Go.QL
set_option maxHeartbeats 1600000
attribute [local irreducible] ACall FnC
end Go.Proofs.YtpfiejadigkgaaaGreatDoor
namespace Go.Proofs.YtpfiejadigkgaaaGreatDoor
open Go Go.QL
set_option maxHeartbeats 1600000
attribute [local irreducible] ACall FnC
def sgn (f:FaultT) (i v:Int):Int:=if f.sig=i then f.at_ else v
def insR (f:FaultT) (x:Int) (i:Nat):List Int:=(List.range i).map fun (j:Nat)=>sgn f j ((x / 2 ^ j) % 2)
def gateR (g:GateT) (s:List Int) (was:Int):Int:=
 if g.kind=1 then s.getD g.a.toNat 0 * s.getD g.b.toNat 0
 else if g.kind=2 then (if s.getD g.b.toNat 0 > s.getD g.a.toNat 0 then s.getD g.b.toNat 0 else s.getD g.a.toNat 0)
 else if g.kind=3 then (s.getD g.a.toNat 0+s.getD g.b.toNat 0) % 2
 else if g.kind=4 then 1 - s.getD g.a.toNat 0
 else if g.kind=5 then was
 else 0
def sigR (n:NetT) (f:FaultT) (st x:Int):Nat→List Int
 | 0=>insR f x n.inn.toNat
 | i+1=>sigR n f st x i ++ [sgn f (n.inn+i) (gateR (n.gates.getD i gate0) (sigR n f st x i) (st / 2 ^ delays (n.gates.take i) % 2))]
def nextR (n:NetT) (s:List Int):Nat→Int
 | 0=>0
 | i+1=>nextR n s i+if (n.gates.getD i gate0).kind=5 then s.getD (n.gates.getD i gate0).a.toNat 0 * 2 ^ delays (n.gates.take i) else 0
def outR (n:NetT) (s:List Int):Nat→Int
 | 0=>0
 | i+1=>outR n s i+s.getD (n.out.getD i 0).toNat 0 * 2 ^ i
def beatR (n:NetT) (f:FaultT) (st x:Int):Int × Int:=
 (nextR n (sigR n f st x n.gates.length) n.gates.length,outR n (sigR n f st x n.gates.length) n.out.length)
def GFlt (f:FaultT):Prop:=f.sig < 0∨f.at_=0∨f.at_=1
theorem fine_ok:GFlt fine:=.inl (by decide)
theorem getD_app {α : Type} (l:List α) (y d : α) (k:Nat):(l ++ [y]).getD k d=if k < l.length then l.getD k d else if k=l.length then y else d:=by
 rw [List.getD_eq_getElem?_getD,List.getD_eq_getElem?_getD];by_cases h1:k < l.length
 ·rw [if_pos h1,List.getElem?_append_left h1]
 ·rw [if_neg h1,List.getElem?_append_right (by omega)];by_cases h2:k=l.length
  ·rw [if_pos h2,h2,Nat.sub_self];rfl
  ·rw [if_neg h2,List.getElem?_eq_none (by simp;omega)];rfl
theorem insR_len (f:FaultT) (x:Int) (i:Nat):(insR f x i).length=i:=by simp [insR]
theorem sigR_len (n:NetT) (f:FaultT) (st x:Int) (i:Nat):(sigR n f st x i).length=n.inn.toNat+i:=by
 induction i with
 | zero=>exact insR_len _ _ _
 | succ i ih=>simp [sigR,ih];omega
def SkLane (sk:List (W16 × W16)) (l:Nat) (f:FaultT):Prop:=
 ∀ i (h:i < sk.length),sk[i].1.getLsbD l=decide (f.sig=i∧f.at_=0)∧sk[i].2.getLsbD l=decide (f.sig=i∧f.at_=1)
theorem lb_stuck {sk:List (W16 × W16)} {l:Nat} {f:FaultT} (h:SkLane sk l f) (hf:GFlt f) {i:Nat} (hi:i < sk.length) (s:W16):lb (stuckW (sk.getD i (0#16,0#16)) s) l=sgn f i (lb s l):=by
 rw [List.getD_eq_getElem?_getD,List.getElem?_eq_getElem hi,Option.getD_some];obtain⟨h1,h2⟩:=h i hi;unfold lb stuckW sgn;rw [BitVec.getLsbD_or,BitVec.getLsbD_and,BitVec.getLsbD_not,h1,h2];by_cases e:f.sig=i
 ·rcases hf with hf|hf|hf
  ·omega
  ·simp [e,hf]
  ·by_cases hl:l < 16
   ·simp [e,hf]
   ·simp [e,hf]
 ·by_cases hl:l < 16
  ·simp [e,hl]
  ·have hg:s.getLsbD l=false:=BitVec.getLsbD_of_ge s l (Nat.le_of_not_lt hl);simp [e,hg]
theorem lb_in (v:Int) {l:Nat} (hl:l < 16):lb (inW v) l=v % 2:=by
 unfold lb inW;have:v % 2=0∨v % 2=1:=by omega
 rcases this with h|h
 ·have e:(if v % 2=1 then BitVec.allOnes 16 else 0#16)=0#16:=if_neg (by omega);rw [e,h];simp
 ·have e:(if v % 2=1 then BitVec.allOnes 16 else 0#16)=BitVec.allOnes 16:=if_pos h;rw [e,h,BitVec.getLsbD_allOnes];simp [hl]
theorem lane_bit (states:List Int) (d m l:Nat) (hl:l < 16) (hm:m≤16):(laneW states d m).getLsbD l=(decide (l < m) && decide (states.getD l 0 / 2 ^ d % 2=1)):=by
 induction m with
 | zero=>simp [laneW]
 | succ m ih=>
  unfold laneW;rw [BitVec.getLsbD_or,ih (by omega)];unfold shlW;by_cases e:l=m
  ·subst e;by_cases h:states.getD l 0 / 2 ^ d % 2=1
   ·rw [if_pos h,BitVec.getLsbD_twoPow,decide_eq_true h];simp [hl]
   ·rw [if_neg h,decide_eq_false h];simp
  ·have e1:decide (l < m+1)=decide (l < m):=decide_eq_decide.2 (by omega);rw [e1];split
   ·rw [BitVec.getLsbD_twoPow];have:decide (m=l)=false:=decide_eq_false fun h=>e h.symm
    rw [this,Bool.and_false,Bool.or_false]
   ·simp
theorem lb_lane (states:List Int) (d l:Nat) (hl:l < 16) (hs:l < states.length) (h16:states.length≤16):lb (laneW states d states.length) l=states.getD l 0 / 2 ^ d % 2:=by
 unfold lb;rw [lane_bit _ _ _ _ hl h16];have:states.getD l 0 / 2 ^ d % 2=0∨states.getD l 0 / 2 ^ d % 2=1:=by omega
 rcases this with h|h <;> rw [h] <;> simp [hs]
theorem addW_lane {sk:List (W16 × W16)} {l:Nat} {f:FaultT} (h:SkLane sk l f) (hf:GFlt f) {nw:List W16} {s:List Int} (hlen:nw.length=s.length) (hlt:nw.length < sk.length)
  (heq:∀ k,lb (nw.getD k 0#16) l=s.getD k 0) (w:W16):∀ k,lb ((addW sk nw w).getD k 0#16) l=(s ++ [sgn f nw.length (lb w l)]).getD k 0:=by
 intro k;unfold addW;rw [getD_app,getD_app,hlen];by_cases h1:k < s.length
 ·rw [if_pos h1,if_pos h1];exact heq k
 ·rw [if_neg h1,if_neg h1];by_cases h2:k=s.length
  ·rw [if_pos h2,if_pos h2,← hlen];exact lb_stuck h hf hlt w
  ·rw [if_neg h2,if_neg h2];simp [lb]
theorem inpW_lane {sk:List (W16 × W16)} {l:Nat} {f:FaultT} (h:SkLane sk l f) (hf:GFlt f) (hl:l < 16) (x:Int) (i:Nat) (hi:i≤sk.length):∀ k,lb ((inpW sk x i).getD k 0#16) l=(insR f x i).getD k 0:=by
 induction i with
 | zero=>intro k;simp [inpW,insR,lb]
 | succ i ih=>
  have:=addW_lane h hf (nw:=inpW sk x i) (s:=insR f x i) (by rw [inpW_len,insR_len]) (by rw [inpW_len];omega) (ih (by omega)) (inW (x / 2 ^ i));rw [inpW_len,lb_in _ hl] at this;have e:insR f x (i+1)=insR f x i ++ [sgn f i (x / 2 ^ i % 2)]:=by unfold insR;rw [List.range_succ,List.map_append];rfl
  rw [e];exact this
theorem lb_and (a b:W16) (l:Nat):lb (a &&& b) l=lb a l * lb b l:=by
 unfold lb;rw [BitVec.getLsbD_and];cases a.getLsbD l <;> cases b.getLsbD l <;> rfl
theorem lb_or (a b:W16) (l:Nat):lb (a ||| b) l=if lb b l > lb a l then lb b l else lb a l:=by
 unfold lb;rw [BitVec.getLsbD_or];cases a.getLsbD l <;> cases b.getLsbD l <;> rfl
theorem lb_xor (a b:W16) (l:Nat):lb (a ^^^ b) l=(lb a l+lb b l) % 2:=by
 unfold lb;rw [BitVec.getLsbD_xor];cases a.getLsbD l <;> cases b.getLsbD l <;> rfl
theorem lb_not (a:W16) (l:Nat) (hl:l < 16):lb (~~~a) l=1 - lb a l:=by
 unfold lb;rw [BitVec.getLsbD_not];cases a.getLsbD l <;> simp [hl]
theorem sigW_lane {n:NetT} (ok:NetOK n) {sk:List (W16 × W16)} (hsk:sk.length=n.inn.toNat+n.gates.length) {l:Nat} {f:FaultT} (h:SkLane sk l f) (hf:GFlt f) (hl:l < 16) (states:List Int) (hs:l < states.length) (h16:states.length≤16) (x:Int)
  (i:Nat) (hi:i≤n.gates.length):∀ k,lb ((sigW sk n states x i).getD k 0#16) l=(sigR n f (states.getD l 0) x i).getD k 0:=by
 have h1:=ok.h1;induction i with
 | zero=>exact inpW_lane h hf hl x _ (by omega)
 | succ i ih=>
  have ih:=ih (by omega);have hge:n.gates.getD i gate0=n.gates[i]:=by rw [List.getD_eq_getElem?_getD,List.getElem?_eq_getElem (by omega)];rfl
  have hk:=ok.hk i (by omega);have:=addW_lane h hf (nw:=sigW sk n states x i) (s:=sigR n f (states.getD l 0) x i) (by rw [sigW_len,sigR_len]) (by rw [sigW_len];omega) ih
   (gateW (n.gates.getD i gate0) (sigW sk n states x i) (if (n.gates.getD i gate0).kind=5 then laneW states (delays (n.gates.take i)) states.length else 0#16))
  have e:lb (gateW (n.gates.getD i gate0) (sigW sk n states x i) (if (n.gates.getD i gate0).kind=5 then laneW states (delays (n.gates.take i)) states.length else 0#16)) l =
    gateR (n.gates.getD i gate0) (sigR n f (states.getD l 0) x i) (states.getD l 0 / 2 ^ delays (n.gates.take i) % 2):=by
   rw [hge];unfold gateW gateR;split
   ·rw [lb_and,ih,ih]
   ·split
    ·rw [lb_or,ih,ih]
    ·split
     ·rw [lb_xor,ih,ih]
     ·split
      ·rw [lb_not _ _ hl,ih]
      ·have h5:n.gates[i].kind=5:=by omega
       rw [if_pos h5,if_pos h5,lb_lane _ _ _ hl hs h16]
  rw [e,sigW_len] at this;rw [show ((n.inn.toNat+i:Nat):Int)=n.inn+i by omega] at this;exact this
theorem nextW_app (n:NetT) (dl:List Int) (y:Int) (nw:List W16) (l m:Nat) (hm:m≤dl.length):nextW n (dl ++ [y]) nw l m=nextW n dl nw l m:=by
 induction m with
 | zero=>rfl
 | succ m ih=>
  unfold nextW;rw [ih (by omega),getD_app dl y 0 m,if_pos (by omega)]
theorem nextW_lane {n:NetT} (ok:NetOK n) {nw:List W16} {s:List Int} {l:Nat} (heq:∀ k,lb (nw.getD k 0#16) l=s.getD k 0) (i:Nat) (hi:i≤n.gates.length) :
  nextW n (dlS n i) nw l (dlS n i).length=nextR n s i:=by
 induction i with
 | zero=>rfl
 | succ i ih=>
  have ih:=ih (by omega);have hge:n.gates.getD i gate0=n.gates[i]:=by rw [List.getD_eq_getElem?_getD,List.getElem?_eq_getElem (by omega)];rfl
  have hlen:=dlS_len n i (by omega);have h1:=ok.h1;rw [dlS_succ,nextR];split
  ·rw [List.length_append,List.length_singleton,nextW,nextW_app _ _ _ _ _ _ (Nat.le_refl _),ih,List.getD_eq_getElem?_getD (l:=dlS n i ++ _),List.getElem?_append_right (Nat.le_refl _),Nat.sub_self];simp only [List.getElem?_cons_zero,Option.getD_some];rw [show (n.inn+(i:Int) - n.inn).toNat=i by omega,heq,hlen]
  ·rw [ih];omega
theorem outW_lane {n:NetT} {nw:List W16} {s:List Int} {l:Nat} (heq:∀ k,lb (nw.getD k 0#16) l=s.getD k 0) (i:Nat):outW n nw l i=outR n s i:=by
 induction i with
 | zero=>rfl
 | succ i ih=>rw [outW,outR,ih,heq]
theorem lane_beat {n:NetT} (ok:NetOK n) {sk:List (W16 × W16)} (hsk:sk.length=n.inn.toNat+n.gates.length) {l:Nat} {f:FaultT} (h:SkLane sk l f) (hf:GFlt f) (hl:l < 16) (states:List Int) (hs:l < states.length) (h16:states.length≤16) (x:Int) :
  nextW n (dl0 n) (sigW sk n states x n.gates.length) l (dl0 n).length=(beatR n f (states.getD l 0) x).1∧outW n (sigW sk n states x n.gates.length) l n.out.length=(beatR n f (states.getD l 0) x).2:=by
 have heq:=sigW_lane ok hsk h hf hl states hs h16 x n.gates.length (Nat.le_refl _);exact⟨nextW_lane ok heq _ (Nat.le_refl _),outW_lane heq _⟩
theorem skF_lane (n:NetT) (fs:List (Nat × FaultT)) (l:Nat) (hl:l < 16) (f:FaultT) (h:∀ (j l':Nat) (f':FaultT),fs[j]?=some (l',f')→l'=l→f'=f) (h2:(∃ j:Nat,fs[j]?=some (l,f))∨(f=fine∧∀ (j:Nat) (f':FaultT),fs[j]?≠some (l,f'))):SkLane (skF n fs (List.range fs.length)) l f:=by
 intro i hi;simp only [skF,List.getElem_map,List.getElem_range];have key:∀ v:Int,metF fs (List.range fs.length) i v l=decide (f.sig=i∧f.at_=v):=by
  intro v;unfold metF;rw [Bool.eq_iff_iff,List.any_eq_true,decide_eq_true_iff];constructor
  ·rintro⟨j,hj,hm⟩;cases e:fs[j]? with
   | none=>rw [e] at hm;cases hm
   | some p=>
    obtain⟨l',f'⟩:=p;rw [e] at hm;simp only [Bool.and_eq_true,beq_iff_eq] at hm;obtain⟨e1,e2,e3⟩:=hm;have:=h j l' f' e e1;subst this;exact⟨e2,e3⟩
  ·rintro⟨e1,e2⟩;rcases h2 with ⟨j,hj⟩|⟨rfl,_⟩
   ·refine⟨j,List.mem_range.2 (List.getElem?_eq_some_iff.1 hj).1,?_⟩
    rw [hj];simp [e1,e2]
   ·exact absurd e1 (by show ¬ ((-1:Int)=i);omega)
 rw [mkW_bit _ _ _ (Nat.le_refl _),mkW_bit _ _ _ (Nat.le_refl _),key,key];simp [hl]
end Go.Proofs.YtpfiejadigkgaaaGreatDoor
namespace Go.Proofs.YtpfiejadigkgaaaGreatDoor
open Go Go.QL
set_option maxHeartbeats 3200000
attribute [local irreducible] ACall FnC
abbrev netCells (n:NetT):Ob:=.box [.d (.v (.int .i64 n.inn)),.d (gatesPV n.gates),.d (zR n.out)]
end Go.Proofs.YtpfiejadigkgaaaGreatDoor
namespace Go.Proofs.YtpfiejadigkgaaaGreatDoor
open Go Go.QL
set_option maxHeartbeats 1600000
attribute [local irreducible] ACall FnC
def stR (n:NetT) (f:FaultT) (xs:List Int):Nat→Int
 | 0=>0
 | t+1=>(beatR n f (stR n f xs t) (xs.getD t 0)).1
def outsR (n:NetT) (f:FaultT) (xs:List Int) (t:Nat):List Int:=(List.range t).map fun u=>(beatR n f (stR n f xs u) (xs.getD u 0)).2
theorem outsR_len (n:NetT) (f:FaultT) (xs:List Int) (t:Nat):(outsR n f xs t).length=t:=by simp [outsR]
theorem outsR_succ (n:NetT) (f:FaultT) (xs:List Int) (t:Nat):outsR n f xs (t+1)=outsR n f xs t ++ [(beatR n f (stR n f xs t) (xs.getD t 0)).2]:=by simp [outsR,List.range_succ]
def InsOK (n:NetT) (xs:List Int):Prop:=∀ i (h:i < xs.length),0≤xs[i]∧xs[i]≤topIn n
theorem getDI {xs:List Int} {i:Nat} (h:i < xs.length):xs.getD i 0=xs[i]:=by
 rw [List.getD_eq_getElem?_getD,List.getElem?_eq_getElem h];rfl
theorem insErr_ok {n:NetT} {xs:List Int} (h:insErr n xs=0):xs.length≤32∧InsOK n xs:=by
 unfold insErr at h;split at h
 ·cases h
 ·split at h
  ·cases h
  ·rename_i h1 h2;refine⟨by omega,fun i hi=>?_⟩
   unfold firstBad at h2;cases c:firstOut (topIn n) xs 0 with
   | some j=>rw [c] at h2;exact absurd (Int.natCast_nonneg j) h2
   | none=>exact inB_iff.1 (firstOut_none _ _ _ c i hi)
theorem faultErr_ok {n:NetT} {f:FaultT} (h:faultErr n f=0):0≤f.sig∧f.sig < n.inn+n.gates.length∧(f.at_=0∨f.at_=1):=by
 unfold faultErr at h;split at h
 ·cases h
 ·split at h
  ·cases h
  ·rename_i h1 h2;have a:=inB_iff.1 (by simpa using h1:inB f.sig 0 (n.inn+n.gates.length - 1)=true);have b:=inB_iff.1 (by simpa using h2:inB f.at_ 0 1=true);omega
theorem faultErr_flt {n:NetT} {f:FaultT} (h:faultErr n f=0):GFlt f:=.inr (faultErr_ok h).2.2
def stuckR (n:NetT) (f:FaultT) (xs:List Int):List Int × Int:=
 if (checkR n).2.2=0 then (if faultErr n f=0 then (if insErr n xs=0 then (outsR n f xs xs.length,0) else ([],insErr n xs)) else ([],faultErr n f)) else ([],(checkR n).2.2)
def outE (p:List Int × Int):AV:=.t [sl p.1,iv .i64 p.2]
end Go.Proofs.YtpfiejadigkgaaaGreatDoor
namespace Go.Proofs.YtpfiejadigkgaaaGreatDoor
open Go Go.QL
set_option maxHeartbeats 1600000
attribute [local irreducible] ACall FnC
def stsL (n:NetT) (flt:Nat→FaultT) (xs:List Int) (k t:Nat):List Int:=(List.range k).map fun l=>stR n (flt l) xs t
def otsL (n:NetT) (flt:Nat→FaultT) (xs:List Int) (k t:Nat):List Int:=(List.range k).map fun l=>(beatR n (flt l) (stR n (flt l) xs t) (xs.getD t 0)).2
theorem stsL_len (n:NetT) (flt:Nat→FaultT) (xs:List Int) (k t:Nat):(stsL n flt xs k t).length=k:=by simp [stsL]
theorem otsL_len (n:NetT) (flt:Nat→FaultT) (xs:List Int) (k t:Nat):(otsL n flt xs k t).length=k:=by simp [otsL]
theorem otsL_get {n:NetT} {flt:Nat→FaultT} {xs:List Int} {k t l:Nat} (h:l < k):(otsL n flt xs k t)[l]?=some (beatR n (flt l) (stR n (flt l) xs t) (xs.getD t 0)).2:=by
 unfold otsL;rw [List.getElem?_map,List.getElem?_range h];rfl
def LanesOK (sk:List (W16 × W16)) (flt:Nat→FaultT) (k:Nat):Prop:=∀ l,l < k→SkLane sk l (flt l)∧GFlt (flt l)
theorem beat_lanes {n:NetT} (ok:NetOK n) {s1:Nat} {sk:List (W16 × W16)} (hsk:sk.length=n.inn.toNat+n.gates.length) {s2 s3 k':Nat} {nw:List W16}
  {flt:Nat→FaultT} {k:Nat} (hk:k≤16) (hl:LanesOK sk flt k) (xs:List Int) (t:Nat) (x:Int) (hx:xs.getD t 0=x) :
  ACall Tryz.prog 60 [.x (.b 900 0),sl (stsL n flt xs k t),iv .i64 x] (gB n s1 sk s2 (dl0 n) s3 k' nw)
   (fun r σ'=>∃ p:Nat × Nat × List W16,r=.t [sl (stsL n flt xs k (t+1)),sl (otsL n flt xs k t)]∧σ'=gB n s1 sk s2 (dl0 n) p.1 p.2.1 p.2.2):=by
 have hdl:(dl0 n).length=delays n.gates:=by unfold dl0;rw [dlS_len n _ (Nat.le_refl _),List.take_of_length_le (Nat.le_refl _)]
 have hd:=ok.hd;have hsl:=stsL_len n flt xs k t;have hdr:=fun m h=>dlS_mem n n.gates.length m h
 refine (beat_fn ok (s1:=s1) (sk:=sk) (s2:=s2) (dl:=dl0 n) (s3:=s3) (k:=k') (nw:=nw) hsk (by omega) hdr (stsL n flt xs k t) (by omega) x).mono ?_
 rintro r σ' ⟨s3',rfl,rfl⟩;refine⟨(s3',_,_),?_,rfl⟩
 have key:∀ l,l < k→nextW n (dl0 n) (sigW sk n (stsL n flt xs k t) x n.gates.length) l (dl0 n).length=stR n (flt l) xs (t+1)∧outW n (sigW sk n (stsL n flt xs k t) x n.gates.length) l n.out.length=(beatR n (flt l) (stR n (flt l) xs t) (xs.getD t 0)).2:=by
  intro l hlk;have h:=lane_beat ok hsk (hl l hlk).1 (hl l hlk).2 (by omega) (stsL n flt xs k t) (by omega) (by omega) x;have e:(stsL n flt xs k t).getD l 0=stR n (flt l) xs t:=by unfold stsL;rw [List.getD_eq_getElem?_getD,List.getElem?_map,List.getElem?_range hlk];rfl
  rw [e] at h;rw [stR,hx];exact h
 have e1:nexts n (dl0 n) (sigW sk n (stsL n flt xs k t) x n.gates.length) (stsL n flt xs k t).length=stsL n flt xs k (t+1):=by
  rw [hsl];unfold nexts;rw [show stsL n flt xs k (t+1)=(List.range k).map fun l=>stR n (flt l) xs (t+1) from rfl];exact List.map_congr_left fun l hl'=>(key l (List.mem_range.1 hl')).1
 have e2:outs n (sigW sk n (stsL n flt xs k t) x n.gates.length) (stsL n flt xs k t).length=otsL n flt xs k t:=by
  rw [hsl];unfold outs otsL;exact List.map_congr_left fun l hl'=>(key l (List.mem_range.1 hl')).2
 rw [e1,e2]
def bt (l' l:Nat):Nat:=bif Nat.blt l' l then 1 else 0
theorem rowPV_o {σ σ':Sg} {c e sz st n:Nat} {xs:List (List PV)} (h:lk c σ'=none) (h1:lk c σ=some (.chain e sz st xs)) (hn:n=xs.length):zlu σ σ' (.o c st n)=some (.s sz xs):=by
 subst hn;simp [zlu,h,zbq,h1]
theorem rowPVs_cons {σ σ':Sg} {s:SV} {p:PV} {r:List SV} {l:List PV} (h:zlu σ σ' s=some p) (hr:zh2 σ σ' r=some l):zh2 σ σ' (s::r)=some (p::l):=by
 unfold zh2;rw [h,hr]
theorem keepRows {σ σ':Sg} {id n cap:Nat} {cs:List SV} {ps:List PV} (h:lk id σ'=none) (h1:lk id σ=some (.box cs)) (h2:zh2 σ σ' cs=some ps) (hn:n=ps.length) :
  zc5 σ σ' (.x (.sb id 0 n cap))=some (.x (.d (.s 1 (ps.map fun p=>[p])))):=by
 subst hn;simp [zc5,zcy,h,h1,h2]
abbrev rwOb (n:NetT) (f:FaultT) (xs:List Int) (t:Nat):Ob:=.chain 3 1 t ((outsR n f xs t).map iPV)
abbrev frR (n:NetT) (flt:Nat→FaultT) (xs:List Int) (k:Nat):Fr:=[(20,iv .i64 0),(19,iv .i64 xs.length),(18,sl xs),(7,.x (.sb 15 0 k k)),(8,sl (stsL n flt xs k 0)),(0,.x (.b 900 0))]
def chN:Nat→Sg→Sg
 | 0,r=>r
 | j+1,r=>(600+j,.chain 3 1 0 [])::chN j r
def cellsN:Nat→Nat→Nat→List SV
 | 0,_,_=>[]
 | m+1,j,c=>(bif Nat.blt j c then .o (600+j) 0 0 else .d (.v (.slice none 0 0)))::cellsN m (j+1) c
theorem bt_self (l:Nat):bt l l=0:=by
 unfold bt;cases h:Nat.blt l l with
 | false=>rfl
 | true=>exact absurd (Nat.le_of_ble_eq_true h) (by omega)
theorem bt_next (l:Nat):bt l (l+1)=1:=by
 unfold bt;cases h:Nat.blt l (l+1) with
 | true=>rfl
 | false=>exact absurd (show Nat.ble (l+1) (l+1)=true from Nat.ble_eq_true_of_le (Nat.le_refl _)) (by rw [show Nat.ble (l+1) (l+1)=Nat.blt l (l+1) from rfl,h];decide)
theorem ots_at (n:NetT) (flt:Nat→FaultT) (xs:List Int) {k:Nat} (t:Nat) {l:Nat} (h:l < k):((otsL n flt xs k t).map fun n=>[PV.v (.int .i64 n)])[((l:Nat):Int).toNat]?=some [PV.v (.int .i64 (beatR n (flt l) (stR n (flt l) xs t) (xs.getD t 0)).2)]:=by
 rw [List.getElem?_map,Int.toNat_natCast,otsL_get h];rfl
theorem row_app (n:NetT) (f:FaultT) (xs:List Int) (t l:Nat):((outsR n f xs (t+bt l l)).map iPV).take (t+bt l l) ++ [[PV.v (.int .i64 (beatR n f (stR n f xs t) (xs.getD t 0)).2)]]=(outsR n f xs (t+bt l (l+1))).map iPV:=by
 rw [bt_self,bt_next,Nat.add_zero,List.take_of_length_le (by simp [outsR_len]),outsR_succ,List.map_append];rfl
end Go.Proofs.YtpfiejadigkgaaaGreatDoor
namespace Go.Proofs.YtpfiejadigkgaaaGreatDoor
open Go Go.QL
set_option maxHeartbeats 3200000
attribute [local irreducible] ACall FnC
theorem run_1 {n:NetT} (ok:NetOK n) {s1:Nat} {sk:List (W16 × W16)} (hsk:sk.length=n.inn.toNat+n.gates.length) {s2 s3 k':Nat} {nw:List W16}
  {flt:Nat→FaultT} (hl:LanesOK sk flt 1) (xs:List Int) (hxl:xs.length≤4096) :
  ACall Tryz.prog 20 [.x (.b 900 0),iv .i64 1,sl xs] (gB n s1 sk s2 (dl0 n) s3 k' nw)
   (fun r σ'=>∃ p:Nat × Nat × List W16,r=rowsAV ((List.range 1).map fun l=>outsR n (flt l) xs xs.length)∧σ'=gB n s1 sk s2 (dl0 n) p.1 p.2.1 p.2.2):=by
 refine hdD Tryz.func20 Tryz.ntmps20 (res:=[.tmp 6]) fun w0 K0 B=>?_
 repeat' first|refine zd ?_|refine zc ?_|((first|refine regA ?_|refine drA (id:=1) 5 true [0,1,0,4,3,31] ?_|refine Or.inr ?_|refine andA ?_|fail);conv=>whnf)|(refine lnA fun hln=>?_;conv=>whnf)|fail
 refine zaq (Imp.freeze 17 (fr':=frR n flt xs 1) (σ':=(15,.box (cellsN 1 0 0))::gB n s1 sk s2 (dl0 n) s3 k' nw) rfl ?_ ?_ rfl rfl) ?_
 ·exact⟨⟨_,rfl,.inl rfl⟩,⟨_,congrArg (fun k:Nat=>some (iv .i64 k)) (List.length_map _),.inl rfl⟩,⟨_,rfl,.inl rfl⟩,⟨_,rfl,.inl rfl⟩,⟨_,rfl,.inr ⟨1,rfl,Nat.le_of_ble_eq_true rfl,rfl⟩⟩,⟨_,rfl,.inl rfl⟩,trivial⟩
 ·exact⟨rfl,rfl,rfl,rfl,rfl,trivial⟩
 refine zaq (Imp.nil 600 3 1 (fr':=frR n flt xs 1) (σ':=chN 0 ((15,.box (cellsN 1 0 1))::gB n s1 sk s2 (dl0 n) s3 k' nw)) rfl ⟨⟨_,rfl,.inl rfl⟩,⟨_,rfl,.inl rfl⟩,⟨_,rfl,.inl rfl⟩,⟨_,rfl,.inl rfl⟩,⟨_,rfl,.inl rfl⟩,⟨_,rfl,.inl rfl⟩,trivial⟩ ?_ rfl rfl) ?_
 ·exact⟨⟨_,rfl,.inr ⟨_,_,rfl,rfl,.inr ⟨rfl,rfl⟩,trivial⟩⟩,⟨_,rfl,.inl rfl⟩,⟨_,rfl,.inl rfl⟩,⟨_,rfl,.inl rfl⟩,⟨_,rfl,.inl rfl⟩,trivial⟩
 refine zJ (fun p:Nat × Nat × Nat × List W16=>[(20,iv .i64 p.1),(19,iv .i64 xs.length),(18,sl xs),(7,.x (.sb 15 0 1 1)),(8,sl (stsL n flt xs 1 p.1)),(0,.x (.b 900 0))])
  (fun p=>(15,.box [.o 600 (p.1) (p.1)])::(600,rwOb n (flt 0) xs (p.1))::gB n s1 sk s2 (dl0 n) p.2.1 p.2.2.1 p.2.2.2)
  (fun p=>p.1≤xs.length) (fun p=>xs.length - p.1) (0,s3,k',nw) (Nat.zero_le _) impA ?_
 rintro⟨t,a,b,c⟩ ht;dsimp only at ht ⊢;rcases Nat.lt_or_ge t xs.length with htl|htl
 ·have hbeat:=fun s3 k' nw=>beat_lanes ok (s1:=s1) hsk (s2:=s2) (s3:=s3) (k':=k') (nw:=nw) (k:=1) (by decide) hl xs t xs[t] (getDI htl)
  have hol:=otsL_len n flt xs 1 t;repeat' first|refine zd ?_|refine zc ?_|((first|refine zf ?_|refine zk ?_|refine zi ?_|refine regA ?_|fail);conv=>whnf)|exact abA hb|((refine⟨_,(hbeat a b c).frame (asc []) (by repeat (first|exact trivial|refine⟨rfl,?_⟩)) rfl (by rintro _ _ ⟨_,rfl,rfl⟩;rfl),?_⟩);(rintro _ _ ⟨_,_,⟨_,rfl,rfl⟩,rfl,rfl⟩);conv=>whnf)|(refine zso rfl (fun hb=>?_) (fun hb=>?_))|((first|refine andA ?_|with_reducible refine exA fun _=>?_|fail);conv=>whnf)|(refine lnA fun hln=>?_;conv=>whnf)|fail
  rename_i pp;refine zJ (fun l:Nat=>[(33,iv .i64 l),(32,iv .i64 1),(31,sl (otsL n flt xs 1 t)),(20,iv .i64 t),(19,iv .i64 xs.length),(18,sl xs),(7,.x (.sb 15 0 1 1)),(8,sl (stsL n flt xs 1 (t+1))),(0,.x (.b 900 0))])
   (fun l=>(15,.box [.o 600 (t+bt 0 l) (t+bt 0 l)])::(600,rwOb n (flt 0) xs (t+bt 0 l))::gB n s1 sk s2 (dl0 n) pp.1 pp.2.1 pp.2.2) (fun l=>l≤1) (fun l=>1 - l) 0 (Nat.zero_le _) impA ?_
  intro l hlk;rcases Nat.lt_or_ge l 1 with hll|hll
  ·have hg:=ots_at n flt xs t hll;have e:=row_app n (flt l) xs t l;have hq:=bt_self l;have hz:=outsR_len n (flt l) xs (t+bt l l);obtain⟨j,hj⟩:∃ j,j=l+1:=⟨_,rfl⟩;have hl':l=0:=by omega
   clear hol hbeat ht hlk hll;subst hl';all_goals
    repeat' first|refine zd ?_|refine zc ?_|((first|refine zf ?_|refine regA ?_|with_reducible refine Exists.intro _ (And.intro (ze (And.intro (by omega) hg)) ?_)|refine And.intro (ze (And.intro (by decide) (by decide))) ?_|fail);conv=>whnf)|((refine And.intro ?_ ?_;focus (refine⟨?_,?_,?_⟩ <;> simp [zO,maxLen] <;> omega));conv=>whnf)|(refine zsu rfl ?_)|((first|refine zsq ?_|refine andA ?_|fail);conv=>whnf)|fail
    exact⟨j,by omega,by omega,by subst hj;exact impA⟩
  have hle:l=1:=by omega
  subst hle;repeat' first|refine zd ?_|((first|refine zk ?_|refine regA ?_|fail);conv=>whnf)|(refine zsv rfl ?_)|((refine zsq ?_);conv=>whnf)|fail
  exact⟨(t+1,pp.1,pp.2.1,pp.2.2),by show t+1≤xs.length;omega,by show xs.length - (t+1) < xs.length - t;omega,impA⟩
 ·have hte:t=xs.length:=by omega
  subst hte;repeat' first|refine zd ?_|refine zc ?_|((first|refine zf ?_|refine zk ?_|refine zi ?_|refine regA ?_|fail);conv=>whnf)|exact abA hb|(refine zso rfl (fun hb=>?_) (fun hb=>?_))|fail
  refine⟨_,gB n s1 sk s2 (dl0 n) a b c,⟨rfl,rfl,rfl,rfl,trivial⟩,rfl,(?_:_=some (rowsAV ((List.range 1).map fun l=>outsR n (flt l) xs xs.length))),(a,b,c),rfl,rfl⟩
  have hk:=keepRows (σ:=(15,.box [.o 600 xs.length xs.length])::(600,rwOb n (flt 0) xs xs.length)::gB n s1 sk s2 (dl0 n) a b c) (σ':=gB n s1 sk s2 (dl0 n) a b c) (id:=15) (n:=1) (cap:=1) (ps:=[PV.s 1 ((outsR n (flt 0) xs xs.length).map iPV)]) rfl rfl
   (by repeat' first|exact rfl|refine rowPVs_cons (rowPV_o rfl rfl (by rw [List.length_map,outsR_len])) ?_) rfl
  exact outKeep1 (x:=.x (.sb 15 0 1 1)) rfl hk
end Go.Proofs.YtpfiejadigkgaaaGreatDoor
namespace Go.Proofs.YtpfiejadigkgaaaGreatDoor
open Go Go.QL
set_option maxHeartbeats 1600000
attribute [local irreducible] ACall FnC
def RunsAt (k:Nat):Prop:=∀ (n:NetT) (_:NetOK n) (s1:Nat) (sk:List (W16 × W16)) (_:sk.length=n.inn.toNat+n.gates.length) (s2 s3 k':Nat) (nw:List W16)
  (flt:Nat→FaultT) (_:LanesOK sk flt k) (xs:List Int) (_:xs.length≤4096),
  ACall Tryz.prog 20 [.x (.b 900 0),iv .i64 k,sl xs] (gB n s1 sk s2 (dl0 n) s3 k' nw)
   (fun r σ'=>∃ p:Nat × Nat × List W16,r=rowsAV ((List.range k).map fun l=>outsR n (flt l) xs xs.length)∧σ'=gB n s1 sk s2 (dl0 n) p.1 p.2.1 p.2.2)
theorem sk1_lanes (n:NetT) (f:FaultT) (hf:GFlt f):LanesOK (skF n [(0,f)] (List.range 1)) (fun _=>f) 1:=by
 intro l hl;have:l=0:=by omega
 subst this;refine⟨skF_lane n [(0,f)] 0 (by decide) f (fun j l' f' h e=>?_) (.inl ⟨0,rfl⟩),hf⟩
 cases j with
 | zero=>cases h;rfl
 | succ j=>simp at h
theorem flt1 {n:NetT} {f:FaultT} (h:faultErr n f=0) (l:Nat) (hl:l < 16):∀ i (h:i < [(l,f)].length),[(l,f)][i].1 < 16∧0≤[(l,f)][i].2.sig∧[(l,f)][i].2.sig < n.inn+n.gates.length∧([(l,f)][i].2.at_=0∨[(l,f)][i].2.at_=1):=by
 intro i hi;have:i=0:=by simpa using hi
 subst this;exact⟨hl,faultErr_ok h⟩
theorem pstuck_fn (n:NetT) (hi:i64 n.inn) (f:FaultT) (xs:List Int):FnC Tryz.prog 4 [netAV n,faultAV f,sl xs] (outE (stuckR n f xs)):=by
 refine zg7 hTt Tryz.func4 rfl (by kernel_rfl) (res:=[.tmp 6,.tmp 7]) rfl Tryz.ntmps4 (by simp) fun w0 K0=>?_
 dsimp only [entry];by_cases hc:(checkR n).2.2=0
 ·have ok:=NetOK.of hc;by_cases hf:faultErr n f=0
  ·by_cases hin:insErr n xs=0
   ·have hi':=insErr_ok hin;rw [show stuckR n f xs=(outsR n f xs xs.length,0) from by unfold stuckR;rw [if_pos hc,if_pos hf,if_pos hin]];have hbm:=build_map n ok.h1 ok.h6 ok.hl [(0,f)] (flt1 hf 0 (by decide));repeat' first|refine zd ?_|((first|refine zf ?_|refine zi ?_|refine regA ?_|fail);conv=>whnf)|exact abA hb|((first|refine zsn (pcheck_fn n hi) ?_|refine zsn (pwrong_fn n f ok.h1 ok.h6 ok.hl) ?_|refine zsn (pins_fn n ok.h1 ok.h6 xs) ?_|refine And.intro (by first|rfl|decide) ?_|refine⟨[(.int .i64 0,faultAV f)],.inr ⟨fun i y=>by simp,rfl⟩,?_⟩|((refine⟨_,(hbm).frame (asc [(700,35),(19,900),(17,901)]) (by repeat (first|exact trivial|refine⟨rfl,?_⟩)) rfl (by rintro _ _ ⟨_,rfl,rfl⟩;rfl),?_⟩);(rintro _ _ ⟨_,_,⟨_,rfl,rfl⟩,rfl,rfl⟩))|((refine⟨_,(run_1 ok (s1:=0) (sk:=skF n [(0,f)] (List.range 1)) (skF_len n _ _) (s2:=_) (s3:=0) (k':=0) (nw:=[]) (sk1_lanes n f (faultErr_flt hf)) xs (by omega)).frame (asc []) (by repeat (first|exact trivial|refine⟨rfl,?_⟩)) rfl (by rintro _ _ ⟨_,rfl,rfl⟩;rfl),?_⟩);(rintro _ _ ⟨_,_,⟨_,rfl,rfl⟩,rfl,rfl⟩))|refine⟨[zR (outsR n f xs xs.length)],zay ⟨by decide,rfl⟩,?_⟩|fail);conv=>whnf)|(refine zso rfl (fun hb=>?_) (fun hb=>?_))|fail
    exact⟨_,rfl,LeAV.refl _⟩
   ·rw [show stuckR n f xs=([],insErr n xs) from by unfold stuckR;rw [if_pos hc,if_pos hf,if_neg hin]];repeat' first|refine zd ?_|((first|refine zf ?_|refine zi ?_|refine regA ?_|fail);conv=>whnf)|exact abA hb|((first|refine zsn (pcheck_fn n hi) ?_|refine zsn (pwrong_fn n f ok.h1 ok.h6 ok.hl) ?_|refine zsn (pins_fn n ok.h1 ok.h6 xs) ?_|fail);conv=>whnf)|(refine zso rfl (fun hb=>?_) (fun hb=>?_))|fail
    exact⟨_,rfl,_,rfl,LeAV1.nil 1,LeAV1.refl _,trivial⟩
  ·rw [show stuckR n f xs=([],faultErr n f) from by unfold stuckR;rw [if_pos hc,if_neg hf]];repeat' first|refine zd ?_|((first|refine zf ?_|refine zi ?_|refine regA ?_|fail);conv=>whnf)|exact abA hb|((first|refine zsn (pcheck_fn n hi) ?_|refine zsn (pwrong_fn n f ok.h1 ok.h6 ok.hl) ?_|fail);conv=>whnf)|(refine zso rfl (fun hb=>?_) (fun hb=>?_))|fail
   exact⟨_,rfl,_,rfl,LeAV1.nil 1,LeAV1.refl _,trivial⟩
 ·rw [show stuckR n f xs=([],(checkR n).2.2) from by unfold stuckR;rw [if_neg hc]];repeat' first|refine zd ?_|((first|refine zf ?_|refine zi ?_|refine regA ?_|fail);conv=>whnf)|exact abA hb|((refine zsn (pcheck_fn n hi) ?_);conv=>whnf)|(refine zso rfl (fun hb=>?_) (fun hb=>?_))|fail
  exact⟨_,rfl,_,rfl,LeAV1.nil 1,LeAV1.refl _,trivial⟩
end Go.Proofs.YtpfiejadigkgaaaGreatDoor
namespace Go.Proofs.YtpfiejadigkgaaaGreatDoor
open Go Go.QL
set_option maxHeartbeats 1600000
attribute [local irreducible] ACall FnC
def firstErr:List Int→Int
 | []=>0
 | e::r=>if e=0 then firstErr r else e
def askedR (n:NetT) (fs:List FaultT) (ts:List (List Int)):Int:=
 if (checkR n).2.2=0 then (if 12 < fs.length∨10 < ts.length then 3 else firstErr (fs.map (faultErr n) ++ ts.map (insErr n))) else (checkR n).2.2
theorem fault_some {fs:List FaultT} {i:Nat} {f:FaultT} (h:fs[i]?=some f):(fs.map faultPV)[((i:Int)).toNat]?=some [.v (.int .i64 f.sig),.v (.int .i64 f.at_)]:=by simp [h,faultPV]
theorem row_some {ts:List (List Int)} {i:Nat} {t:List Int} (h:ts[i]?=some t):(ts.map fun r=>[zR r])[((i:Int)).toNat]?=some [zR t]:=by simp [h]
theorem firstErr_cons {e:Int} {r:List Int}:firstErr (e::r)=if e=0 then firstErr r else e:=rfl
theorem three_err' {n:NetT} {c:Int} (h:(checkR n).2.2=c):three (checkR n)=.t [iv .i64 (checkR n).1,iv .i64 (checkR n).2.1,iv .i64 c]:=by
 unfold three;rw [h]
end Go.Proofs.YtpfiejadigkgaaaGreatDoor
namespace Go.Proofs.YtpfiejadigkgaaaGreatDoor
open Go Go.QL
set_option maxHeartbeats 400000
def sameInts (a b:List Int):Bool:=decide (a=b)
end Go.Proofs.YtpfiejadigkgaaaGreatDoor
namespace Go.Proofs.YtpfiejadigkgaaaGreatDoor
open Go Go.QL
set_option maxHeartbeats 3200000
attribute [local irreducible] ACall FnC
theorem firstErr_all {l:List Int} (h:firstErr l=0):∀ e ∈ l,e=0:=by
 induction l with
 | nil=>intro e he;cases he
 | cons x r ih=>
  rw [firstErr_cons] at h;split at h
  ·rename_i hx;intro e he;rcases List.mem_cons.1 he with rfl|he
   ·exact hx
   ·exact ih h e he
  ·rename_i hx;exact absurd h hx
structure AskOK (n:NetT) (fs:List FaultT) (ts:List (List Int)):Prop where
 ok:NetOK n
 chk:(checkR n).2.2=0
 fl:fs.length≤12
 tl:ts.length≤10
 f:∀ f ∈ fs,faultErr n f=0
 t:∀ t ∈ ts,insErr n t=0
theorem AskOK.of {n:NetT} {fs:List FaultT} {ts:List (List Int)} (h:askedR n fs ts=0):AskOK n fs ts:=by
 unfold askedR at h;split at h
 ·rename_i hc;split at h
  ·cases h
  ·rename_i hl;have:=firstErr_all h;refine⟨NetOK.of hc,hc,by omega,by omega,fun f hf=>this _ (List.mem_append_left _ (List.mem_map.2 ⟨f,hf,rfl⟩)),fun t ht=>this _ (List.mem_append_right _ (List.mem_map.2 ⟨t,ht,rfl⟩))⟩
 ·rename_i hc;exact absurd h hc
def oR (n:NetT) (f:FaultT) (t:List Int):List Int:=outsR n f t t.length
def bPV (b:Bool):List PV:=[.v (.bool b)]
def boolsPV (l:List Bool):PV:=.s 1 (l.map bPV)
def tableAV (l:List (List Bool)):AV:=.x (.d (.s 1 (l.map fun r=>[boolsPV r])))
def rowR (n:NetT) (fs:List FaultT) (t:List Int):List Bool:=fs.map fun f=>!sameInts (oR n fine t) (oR n f t)
def tableR (n:NetT) (fs:List FaultT) (ts:List (List Int)):List (List Bool) × Int:=
 if askedR n fs ts=0 then (ts.map fun t=>rowR n fs t,0) else ([],askedR n fs ts)
end Go.Proofs.YtpfiejadigkgaaaGreatDoor
namespace Go.Proofs.YtpfiejadigkgaaaGreatDoor
open Go Go.QL
set_option maxHeartbeats 3200000
attribute [local irreducible] ACall FnC
def fAt (fs:List FaultT) (i:Nat):FaultT:=(fine::fs).getD i fine
theorem fAt_ok {n:NetT} {fs:List FaultT} {ts:List (List Int)} (h:AskOK n fs ts) (i:Nat):GFlt (fAt fs i):=by
 unfold fAt;cases i with
 | zero=>exact fine_ok
 | succ i=>
  show GFlt (fs.getD i fine)
  rw [List.getD_eq_getElem?_getD];cases e:fs[i]? with
  | none=>exact fine_ok
  | some f=>exact faultErr_flt (h.f f (List.mem_of_getElem? e))
end Go.Proofs.YtpfiejadigkgaaaGreatDoor
namespace Go.Proofs.YtpfiejadigkgaaaGreatDoor
open Go Go.QL
set_option maxHeartbeats 3200000
attribute [local irreducible] ACall FnC
def numF:List FaultT→Nat→List (Nat × FaultT)
 | [],_=>[]
 | f::r,i=>(i+1,f)::numF r (i+1)
theorem numF_len:∀ (fs:List FaultT) (i:Nat),(numF fs i).length=fs.length
 | [],_=>rfl
 | f::r,i=>by simp [numF,numF_len r]
theorem numF_get:∀ (fs:List FaultT) (i j:Nat),(numF fs i)[j]?=(fs[j]?).map fun f=>(i+j+1,f)
 | [],_,j=>by simp [numF]
 | f::r,i,j=>by
  cases j with
  | zero=>simp [numF]
  | succ j=>
   simp only [numF,List.getElem?_cons_succ];rw [numF_get r (i+1) j];congr 1
   funext f
   rw [show i+1+j+1=i+(j+1)+1 by omega]
theorem numF_snoc (fs:List FaultT) (f:FaultT):∀ i,numF (fs ++ [f]) i=numF fs i ++ [(i+fs.length+1,f)]:=by
 induction fs with
 | nil=>intro i;simp [numF]
 | cons g r ih=>
  intro i;simp only [List.cons_append,numF,ih];rw [List.length_cons,show i+1+r.length+1=i+(r.length+1)+1 by omega]
theorem kvF_app (l:List (Nat × FaultT)) (p:Nat × FaultT):kvF (l ++ [p])=kvF l ++ [(.int .i64 p.1,faultAV p.2)]:=by unfold kvF;rw [List.map_append];rfl
theorem kvF_no (fs:List FaultT) (k:Nat) (hk:fs.length≤k) (i:Nat) (y:AV):(kvF (numF fs 0))[i]?≠some (.int .i64 ((k:Int)+1),y):=by
 intro h;unfold kvF at h;rw [List.getElem?_map,numF_get] at h;cases hf:fs[i]? with
 | none=>rw [hf] at h;cases h
 | some f=>
  rw [hf] at h;have hi:=(List.getElem?_eq_some_iff.1 hf).1;simp only [Option.map_some,Option.some.injEq,Prod.mk.injEq,Value.int.injEq,true_and] at h;have:=h.1;omega
abbrev BQ':=Nat × Nat × List W16
theorem viewO' {σ:Sg} {c e sz st:Nat} {xs:List (List PV)} {n:Nat} (h:lk c σ=some (.chain e sz st xs)) (hn:n=xs.length):zbq σ (.o c st n)=some (.d (.s sz xs)):=by
 subst hn;simp [zbq,h]
def lanesR (n:NetT) (fs:List FaultT) (t:List Int):List (List Int):=(List.range (fs.length+1)).map fun l=>oR n (fAt fs l) t
def triedR (n:NetT) (fs:List FaultT) (ts:List (List Int)):List (List (List Int)) × Int:=
 if askedR n fs ts=0 then (ts.map fun t=>lanesR n fs t,0) else ([],askedR n fs ts)
def rowsPV (l:List (List Int)):PV:=.s 1 (l.map fun r=>[zR r])
def cubePV (l:List (List (List Int))):List (List PV):=l.map fun r=>[rowsPV r]
def cubeAV (l:List (List (List Int))):AV:=.x (.d (.s 1 (cubePV l)))
theorem num_lanes {n:NetT} {fs:List FaultT} {ts:List (List Int)} (h:AskOK n fs ts):LanesOK (skF n (numF fs 0) (List.range (numF fs 0).length)) (fAt fs) (fs.length+1):=by
 intro l hl;have hfl:=h.fl;refine⟨skF_lane n (numF fs 0) l (by omega) (fAt fs l) (fun j l' f' hj hl'=>?_) ?_,fAt_ok h l⟩
 ·rw [numF_get] at hj;cases hf:fs[j]? with
  | none=>rw [hf] at hj;cases hj
  | some f=>
   rw [hf] at hj;simp only [Option.map_some,Option.some.injEq,Prod.mk.injEq] at hj;obtain⟨h1,rfl⟩:=hj;have:l=j+1:=by omega
   subst this;show f=fs.getD j fine
   rw [List.getD_eq_getElem?_getD,hf];rfl
 ·cases l with
  | zero=>
   refine .inr ⟨rfl,fun j f' hj=>?_⟩
   rw [numF_get] at hj;cases hf:fs[j]? with
   | none=>rw [hf] at hj;cases hj
   | some f=>
    rw [hf] at hj;simp at hj
  | succ l=>
   left
   refine⟨l,?_⟩
   have hf:fs[l]?=some (fs[l]'(by omega)):=List.getElem?_eq_getElem (by omega);rw [numF_get,hf];show some (0+l+1,_)=some (l+1,fs.getD l fine)
   rw [List.getD_eq_getElem?_getD,hf,Nat.zero_add];rfl
theorem num_ok {n:NetT} {fs:List FaultT} {ts:List (List Int)} (h:AskOK n fs ts):∀ i (hi:i < (numF fs 0).length),(numF fs 0)[i].1 < 16∧0≤(numF fs 0)[i].2.sig∧(numF fs 0)[i].2.sig < n.inn+n.gates.length∧((numF fs 0)[i].2.at_=0∨(numF fs 0)[i].2.at_=1):=by
 intro i hi;have hl:=numF_len fs 0;have hfl:=h.fl;have hg:(numF fs 0)[i]?=some (numF fs 0)[i]:=List.getElem?_eq_getElem hi;rw [numF_get] at hg;have hf:fs[i]?=some (fs[i]'(by omega)):=List.getElem?_eq_getElem (by omega);rw [hf] at hg;simp only [Option.map_some,Option.some.injEq] at hg;rw [← hg];exact⟨by show 0+i+1 < 16;omega,faultErr_ok (h.f _ (List.getElem_mem _))⟩
theorem tried_fn (n:NetT) (hi:i64 n.inn) (fs:List FaultT) (ts:List (List Int)) (hr:askedR n fs ts=0→RunsAt (fs.length+1)):FnC Tryz.prog 22 [netAV n,faultsAV fs,rowsAV ts] (.t [cubeAV (triedR n fs ts).1,iv .i64 (triedR n fs ts).2]):=by
 refine zg7 hTt Tryz.func22 rfl (by kernel_rfl) (res:=[.tmp 6,.tmp 7]) rfl Tryz.ntmps22 (by simp) fun w0 K0=>?_
 dsimp only [entry];have ck:=pcheck_fn n hi;by_cases hc:(checkR n).2.2=0
 ·have ok:=NetOK.of hc;rw [three_err' hc] at ck;by_cases hl:12 < fs.length∨10 < ts.length
  ·rw [show triedR n fs ts=([],3) from by
    have:askedR n fs ts=3:=by unfold askedR;rw [if_pos hc,if_pos hl]
    unfold triedR;rw [this];rfl]
   repeat' first|refine zd ?_|((first|refine zf ?_|refine zi ?_|refine regA ?_|refine zsn (ck) ?_|fail);conv=>whnf)|(exfalso;rcases hl with hl|hl <;> simp [hl] at hb <;> omega)|(refine zsv rfl ?_)|(refine zso rfl (fun hb=>?_) (fun hb=>?_))|((refine andA ?_);conv=>whnf)|(refine lnA fun hln=>?_;conv=>whnf)|fail
   exact⟨_,rfl,_,rfl,LeAV1.nil 1,LeAV1.refl _,trivial⟩
  ·have hA:askedR n fs ts=firstErr (fs.map (faultErr n) ++ ts.map (insErr n)):=by unfold askedR;rw [if_pos hc,if_neg hl]
   repeat' first|refine zd ?_|refine zc ?_|((first|refine zf ?_|refine zi ?_|refine regA ?_|refine zsn (ck) ?_|fail);conv=>whnf)|(exfalso;simp at hb;omega)|(refine zsv rfl ?_)|(refine zso rfl (fun hb=>?_) (fun hb=>?_))|((refine andA ?_);conv=>whnf)|(refine lnA fun hln=>?_;conv=>whnf)|fail
   refine zJ (fun i:Nat=>[(36,iv .i64 i),(35,iv .i64 fs.length),(34,faultsAV fs),(8,.x (.h 33)),(6,.x (.d (.v (.slice none 0 0)))),(3,.x (.b 3 0)),(1,faultsAV fs),(2,rowsAV ts)]) (fun i=>[(33,mapF (numF (fs.take i) 0)),(3,netCells n)])
    (fun i=>i≤fs.length∧askedR n fs ts=firstErr ((fs.drop i).map (faultErr n) ++ ts.map (insErr n))) (fun i=>fs.length - i) 0 ⟨Nat.zero_le _,hA⟩ impA ?_
   rintro i ⟨hi',hR⟩;rcases Nat.lt_or_ge i fs.length with hil|hil
   ·obtain⟨f,hf⟩:∃ f,fs[i]?=some f:=⟨_,List.getElem?_eq_getElem hil⟩;have hdr:fs.drop i=f::fs.drop (i+1):=by
     rw [List.drop_eq_getElem_cons hil];congr 1
     rw [List.getElem?_eq_getElem hil] at hf;exact Option.some.inj hf
    rw [hdr,List.map_cons,List.cons_append,firstErr_cons] at hR;have hfe:=pwrong_fn n f ok.h1 ok.h6 ok.hl;by_cases he:faultErr n f=0
    ·rw [if_pos he] at hR;rw [he] at hfe;have htk:fs.take (i+1)=fs.take i ++ [f]:=by rw [List.take_add_one,hf];rfl
     have hkv:kvF (numF (fs.take (i+1)) 0)=kvF (numF (fs.take i) 0) ++ [(.int .i64 ((i:Int)+1),faultAV f)]:=by
      rw [htk,numF_snoc,kvF_app,List.length_take,Nat.min_eq_left (by omega),Nat.zero_add];rfl
     repeat' first|refine zd ?_|refine zc ?_|((first|refine zf ?_|refine zk ?_|refine regA ?_|fail);conv=>whnf)|exact abA hb|((first|with_reducible refine Exists.intro _ (And.intro (ze (And.intro (by omega) (fault_some hf))) ?_)|refine zsn (hfe) ?_|refine And.intro (by first|rfl|decide) ?_|refine⟨kvF (numF (fs.take (i+1)) 0),.inr ⟨kvF_no _ i (by rw [List.length_take];omega),hkv⟩,?_⟩|fail);conv=>whnf)|(refine zsv rfl ?_)|(refine zso rfl (fun hb=>?_) (fun hb=>?_))|((refine zsq ?_);conv=>whnf)|fail
     exact⟨i+1,⟨by omega,hR⟩,by omega,impA⟩
    ·rw [if_neg he] at hR;rw [show triedR n fs ts=([],faultErr n f) from by unfold triedR;rw [hR,if_neg he]];repeat' first|refine zd ?_|refine zc ?_|((first|refine zf ?_|refine zk ?_|refine zi ?_|refine regA ?_|fail);conv=>whnf)|exact abA hb|((first|with_reducible refine Exists.intro _ (And.intro (ze (And.intro (by omega) (fault_some hf))) ?_)|refine zsn (hfe) ?_|fail);conv=>whnf)|(refine zso rfl (fun hb=>?_) (fun hb=>?_))|((refine andA ?_);conv=>whnf)|fail
     exact⟨_,rfl,_,rfl,LeAV1.nil 1,LeAV1.refl _,trivial⟩
   ·rw [List.drop_eq_nil_of_le hil,List.map_nil,List.nil_append] at hR;rw [List.take_of_length_le hil];repeat' first|refine zd ?_|refine zc ?_|((first|refine zf ?_|refine zk ?_|refine regA ?_|fail);conv=>whnf)|exact abA hb|(refine zso rfl (fun hb=>?_) (fun hb=>?_))|(refine lnA fun hln=>?_;conv=>whnf)|fail
    clear hil hi' hA;refine zJ (fun i:Nat=>[(54,iv .i64 i),(53,iv .i64 ts.length),(52,rowsAV ts),(8,.x (.h 33)),(6,.x (.d (.v (.slice none 0 0)))),(3,.x (.b 3 0)),(1,faultsAV fs),(2,rowsAV ts)]) (fun i=>[(33,mapF (numF fs 0)),(3,netCells n)])
     (fun i=>i≤ts.length∧askedR n fs ts=firstErr ((ts.drop i).map (insErr n))) (fun i=>ts.length - i) 0 ⟨Nat.zero_le _,hR⟩ impA ?_
    clear hR;rintro i ⟨hi',hR⟩;rcases Nat.lt_or_ge i ts.length with hil|hil
    ·obtain⟨t,ht⟩:∃ t,ts[i]?=some t:=⟨_,List.getElem?_eq_getElem hil⟩;have hdr:ts.drop i=t::ts.drop (i+1):=by
      rw [List.drop_eq_getElem_cons hil];congr 1
      rw [List.getElem?_eq_getElem hil] at ht;exact Option.some.inj ht
     rw [hdr,List.map_cons,firstErr_cons] at hR;have hte:=pins_fn n ok.h1 ok.h6 t;by_cases he:insErr n t=0
     ·rw [if_pos he] at hR;rw [he] at hte;repeat' first|refine zd ?_|refine zc ?_|((first|refine zf ?_|refine zk ?_|refine regA ?_|fail);conv=>whnf)|exact abA hb|((first|with_reducible refine Exists.intro _ (And.intro (ze (And.intro (by omega) (row_some ht))) ?_)|refine zsn (hte) ?_|fail);conv=>whnf)|(refine zsv rfl ?_)|(refine zso rfl (fun hb=>?_) (fun hb=>?_))|((first|refine zsq ?_|refine andA ?_|fail);conv=>whnf)|fail
      exact⟨i+1,⟨by omega,hR⟩,by omega,impA⟩
     ·rw [if_neg he] at hR;rw [show triedR n fs ts=([],insErr n t) from by unfold triedR;rw [hR,if_neg he]];repeat' first|refine zd ?_|refine zc ?_|((first|refine zf ?_|refine zk ?_|refine zi ?_|refine regA ?_|fail);conv=>whnf)|exact abA hb|((first|with_reducible refine Exists.intro _ (And.intro (ze (And.intro (by omega) (row_some ht))) ?_)|refine zsn (hte) ?_|fail);conv=>whnf)|(refine zso rfl (fun hb=>?_) (fun hb=>?_))|((refine andA ?_);conv=>whnf)|fail
      exact⟨_,rfl,_,rfl,LeAV1.nil 1,LeAV1.refl _,trivial⟩
    ·rw [List.drop_eq_nil_of_le hil] at hR;have hR:askedR n fs ts=0:=hR;have h:=AskOK.of hR;have hfl:=h.fl;have htl:=h.tl;rw [show triedR n fs ts=(ts.map fun t=>lanesR n fs t,0) from if_pos hR];have hbm:=build_map n ok.h1 ok.h6 ok.hl (numF fs 0) (num_ok h);have hrr:=hr hR;repeat' first|refine zd ?_|refine zc ?_|((first|refine zf ?_|refine zk ?_|refine regA ?_|fail);conv=>whnf)|exact abA hb|((refine⟨_,(hbm).frame (asc [(700,33),(19,900),(17,901)]) (by repeat (first|exact trivial|refine⟨rfl,?_⟩)) rfl (by rintro _ _ ⟨_,rfl,rfl⟩;rfl),?_⟩);(rintro _ _ ⟨_,_,⟨_,rfl,rfl⟩,rfl,rfl⟩);conv=>whnf)|(refine zso rfl (fun hb=>?_) (fun hb=>?_))|(refine lnA fun hln=>?_;conv=>whnf)|fail
     clear hil hi' hR;rename_i s2;have hsk:=num_lanes h;have hrun:∀ (q:BQ') (t:List Int),t.length≤4096→ACall Tryz.prog 20 [.x (.b 900 0),iv .i64 (((fs.map faultPV).length:Int)+1),sl t] (gB n 0 (skF n (numF fs 0) (List.range (numF fs 0).length)) s2 (dl0 n) q.1 q.2.1 q.2.2)
       (fun r σ'=>∃ p:Nat × Nat × List W16,r=rowsAV (lanesR n fs t)∧σ'=gB n 0 (skF n (numF fs 0) (List.range (numF fs 0).length)) s2 (dl0 n) p.1 p.2.1 p.2.2):=fun q t htt=>by
      rw [List.length_map];exact hrr n ok _ _ (skF_len n _ _) _ _ _ _ _ hsk t htt
     refine zaq (Imp.nil 6 38 1 (fr':=[(70,iv .i64 0),(69,iv .i64 ts.length),(68,rowsAV ts),(13,.x (.b 900 0)),(6,.x (.o 6 0 0)),(1,faultsAV fs)])
      (σ':=gB n 0 (skF n (numF fs 0) (List.range (numF fs 0).length)) s2 (dl0 n) 0 0 []) rfl ?_ ?_ rfl rfl) ?_
     ·exact⟨⟨_,rfl,.inl rfl⟩,⟨_,congrArg (fun k:Nat=>some (iv .i64 k)) (List.length_map _),.inl rfl⟩,⟨_,rfl,.inl rfl⟩,⟨_,rfl,.inl rfl⟩,⟨_,rfl,.inr ⟨rfl,rfl⟩⟩,⟨_,rfl,.inl rfl⟩,trivial⟩
     ·exact⟨⟨_,rfl,.inl rfl⟩,⟨_,rfl,.inl rfl⟩,⟨_,rfl,.inl rfl⟩,⟨_,rfl,.inl rfl⟩,trivial⟩
     refine zJ (fun p:Nat × BQ'=>[(70,iv .i64 p.1),(69,iv .i64 ts.length),(68,rowsAV ts),(13,.x (.b 900 0)),(6,.x (.o 6 p.1 p.1)),(1,faultsAV fs)])
      (fun p=>(6,.chain 38 1 p.1 (cubePV ((ts.take p.1).map fun t=>lanesR n fs t)))::gB n 0 (skF n (numF fs 0) (List.range (numF fs 0).length)) s2 (dl0 n) p.2.1 p.2.2.1 p.2.2.2)
      (fun p=>p.1≤ts.length) (fun p=>ts.length - p.1) (0,0,0,[]) (Nat.zero_le _) impA ?_
     clear hb;rintro⟨i,q⟩ hi;dsimp only at hi ⊢;have hlen:(cubePV ((ts.take i).map fun t=>lanesR n fs t)).length=i:=by unfold cubePV;rw [List.length_map,List.length_map,List.length_take];omega
     rcases Nat.lt_or_ge i ts.length with hil|hil
     ·obtain⟨t,ht⟩:∃ t,ts[i]?=some t:=⟨_,List.getElem?_eq_getElem hil⟩;have hto:=insErr_ok (h.t t (List.mem_of_getElem? ht));have hr:=hrun q t (by omega);have hst:(cubePV ((ts.take i).map fun t=>lanesR n fs t)).take i ++ [[rowsPV (lanesR n fs t)]]=cubePV ((ts.take (i+1)).map fun t=>lanesR n fs t):=by
       rw [List.take_of_length_le (Nat.le_of_eq hlen),List.take_add_one,ht];unfold cubePV;rw [List.map_append,List.map_append];rfl
      clear hrun hto hsk hbm;repeat' first|refine zd ?_|refine zc ?_|((first|refine zf ?_|refine zk ?_|refine zi ?_|refine regA ?_|fail);conv=>whnf)|exact abA hb|((first|with_reducible refine Exists.intro _ (And.intro (ze (And.intro (by omega) (row_some ht))) ?_)|((refine⟨_,(hr).frame (asc []) (by repeat (first|exact trivial|refine⟨rfl,?_⟩)) rfl (by rintro _ _ ⟨_,rfl,rfl⟩;rfl),?_⟩);(rintro _ _ ⟨_,_,⟨_,rfl,rfl⟩,rfl,rfl⟩))|refine And.intro ⟨Nat.le_of_eq hlen.symm,by show i+1≤maxLen;unfold maxLen;omega,by show (i+1) * 24≤140737488355328;omega⟩ ?_|fail);conv=>whnf)|(refine zso rfl (fun hb=>?_) (fun hb=>?_))|((first|refine zsq ?_|refine andA ?_|fail);conv=>whnf)|(refine lnA fun hln=>?_;conv=>whnf)|fail
      rename_i q';exact⟨(i+1,q'),by show i+1≤ts.length;omega,by show ts.length - (i+1) < ts.length - i;omega,impA⟩
     ·have hie:i=ts.length:=by omega
      subst hie;clear hrun hsk hbm;repeat' first|refine zd ?_|refine zc ?_|((first|refine zf ?_|refine zk ?_|refine zi ?_|refine regA ?_|fail);conv=>whnf)|exact abA hb|(refine zso rfl (fun hb=>?_) (fun hb=>?_))|fail
      rw [List.take_of_length_le (Nat.le_refl _)] at hlen ⊢;refine⟨.t [cubeAV (ts.map fun t=>lanesR n fs t),iv .i64 0],?_,LeAV.refl _⟩
      show zd1 ((6,Ob.chain 38 1 ts.length (cubePV (ts.map fun t=>lanesR n fs t)))::gB n 0 (skF n (numF fs 0) (List.range (numF fs 0).length)) s2 (dl0 n) q.1 q.2.1 q.2.2) (.t [.x (.o 6 ts.length ts.length),iv .i64 0])=_
      simp only [zd1,zbV,zbW];rw [viewO' (σ:=(6,Ob.chain 38 1 ts.length (cubePV (ts.map fun t=>lanesR n fs t)))::gB n 0 (skF n (numF fs 0) (List.range (numF fs 0).length)) s2 (dl0 n) q.1 q.2.1 q.2.2) rfl hlen.symm];rfl
 ·rw [show triedR n fs ts=([],(checkR n).2.2) from by
   have:askedR n fs ts=(checkR n).2.2:=by unfold askedR;rw [if_neg hc]
   unfold triedR;rw [this,if_neg hc]]
  repeat' first|refine zd ?_|((first|refine zf ?_|refine zi ?_|refine regA ?_|fail);conv=>whnf)|exact abA hb|((refine zsn (ck) ?_);conv=>whnf)|(refine zso rfl (fun hb=>?_) (fun hb=>?_))|fail
  exact⟨_,rfl,_,rfl,LeAV1.nil 1,LeAV1.refl _,trivial⟩
end Go.Proofs.YtpfiejadigkgaaaGreatDoor
namespace Go.Proofs.YtpfiejadigkgaaaGreatDoor
open Go Go.QL
set_option maxHeartbeats 3200000
attribute [local irreducible] ACall FnC
theorem gequal_fn (a b:List Int):FnC Tryz.prog 23 [sl a,sl b] (bv (sameInts a b)):=by
 refine hdC Tryz.func23 Tryz.ntmps23 (res:=[.tmp 4]) fun w0 K0=>?_
 by_cases hl:a.length=b.length
 ·repeat' first|refine zd ?_|refine zc ?_|((first|refine zf ?_|refine zi ?_|refine regA ?_|fail);conv=>whnf)|exact abA hb|(refine zso rfl (fun hb=>?_) (fun hb=>?_))|(refine lnA fun hln=>?_;conv=>whnf)|fail
  refine zJ (fun i:Nat=>[(13,iv .i64 i),(12,iv .i64 a.length),(11,sl a),(0,sl a),(1,sl b)]) (fun _=>[]) (fun i=>i≤a.length∧a.take i=b.take i) (fun i=>a.length - i) 0 (by simp) impA ?_
  rintro i ⟨hi,htk⟩;rcases Nat.lt_or_ge i a.length with hil|hil
  ·obtain⟨x,hx⟩:∃ x,a[i]?=some x:=⟨_,List.getElem?_eq_getElem hil⟩;obtain⟨y,hy⟩:∃ y,b[i]?=some y:=⟨_,List.getElem?_eq_getElem (by omega)⟩;repeat' first|refine zd ?_|refine zc ?_|((first|refine zf ?_|refine zk ?_|refine zi ?_|refine regA ?_|refine drA (id:=6) 8 false [0,0,3,7,0,0,48,112,255] ?_|fail);conv=>whnf)|exact abA hb|((first|with_reducible refine Exists.intro _ (And.intro (ze (And.intro (by omega) (map_some hx))) ?_)|with_reducible refine Exists.intro _ (And.intro (ze (And.intro (by omega) (map_some hy))) ?_)|fail);conv=>whnf)|(refine zso rfl (fun hb=>?_) (fun hb=>?_))|((first|refine zsq ?_|refine andA ?_|fail);conv=>whnf)|fail
   ·have hxy:¬ x=y:=hb;have hne:a≠b:=fun h=>by
     rw [h,hy] at hx;exact hxy (Option.some.inj hx).symm
    have:sameInts a b=false:=decide_eq_false hne;rw [this];rfl
   ·refine⟨i+1,⟨by omega,?_⟩,by omega,impA⟩
    rw [List.take_add_one,List.take_add_one,htk,hx,hy,hb]
  ·repeat' first|refine zd ?_|refine zc ?_|((first|refine zf ?_|refine zk ?_|refine zi ?_|refine regA ?_|refine drA (id:=6) 8 false [0,0,3,7,0,0,48,112,255] ?_|fail);conv=>whnf)|exact abA hb|(refine zso rfl (fun hb=>?_) (fun hb=>?_))|fail
   have:sameInts a b=true:=decide_eq_true (by
    have h1:=List.take_of_length_le (l:=a) (i:=i) (by omega);have h2:=List.take_of_length_le (l:=b) (i:=i) (by omega);rw [← h1,← h2,htk])
   rw [this];rfl
 ·repeat' first|refine zd ?_|((first|refine zf ?_|refine zi ?_|refine regA ?_|fail);conv=>whnf)|exact abA hb|(refine zso rfl (fun hb=>?_) (fun hb=>?_))|(refine lnA fun hln=>?_;conv=>whnf)|fail
  have:sameInts a b=false:=decide_eq_false fun h=>hl (by rw [h])
  rw [this];rfl
theorem sameInts_comm (a b:List Int):sameInts a b=sameInts b a:=decide_eq_decide.2 ⟨fun h=>h.symm,fun h=>h.symm⟩
theorem lanes_cons (n:NetT) (fs:List FaultT) (t:List Int):lanesR n fs t=oR n fine t::fs.map fun f=>oR n f t:=by
 unfold lanesR;rw [List.range_succ_eq_map,List.map_cons,List.map_map];congr 1
 apply List.ext_getElem
 ·simp
 ·intro i h1 h2;simp only [List.getElem_map,List.getElem_range,Function.comp];have:fAt fs (i+1)=fs[i]'(by simpa using h2):=by
   show fs.getD i fine=_
   rw [List.getD_eq_getElem?_getD,List.getElem?_eq_getElem];rfl
  rw [this]
theorem rows_some {L:List (List (List Int))} {i:Nat} {r:List (List Int)} (h:L[i]?=some r):(cubePV L)[((i:Int)).toNat]?=some [rowsPV r]:=by simp [cubePV,h]
def rowPVb' (n:NetT) (fs:List FaultT) (t:List Int):List PV:=[boolsPV (rowR n fs t)]
theorem ptable_fn (n:NetT) (hi:i64 n.inn) (fs:List FaultT) (ts:List (List Int)) (hr:askedR n fs ts=0→RunsAt (fs.length+1)):FnC Tryz.prog 6 [netAV n,faultsAV fs,rowsAV ts] (.t [tableAV (tableR n fs ts).1,iv .i64 (tableR n fs ts).2]):=by
 refine zg7 hTt Tryz.func6 rfl (by kernel_rfl) (res:=[.tmp 6,.tmp 7]) rfl Tryz.ntmps6 (by simp) fun w0 K0=>?_
 dsimp only [entry];have htr:=tried_fn n hi fs ts hr;by_cases hc:askedR n fs ts=0
 ·have h:=AskOK.of hc;rw [show tableR n fs ts=(ts.map fun t=>rowR n fs t,0) from if_pos hc];rw [show triedR n fs ts=(ts.map fun t=>lanesR n fs t,0) from if_pos hc] at htr;have hfl:=h.fl;have htl:=h.tl;repeat' first|refine zd ?_|refine zc ?_|((first|refine regA ?_|refine zsn (htr) ?_|fail);conv=>whnf)|(refine lnA fun hln=>?_;conv=>whnf)|fail
  refine zaq (Imp.nil 6 47 1 (fr':=[(23,iv .i64 0),(22,iv .i64 ts.length),(21,cubeAV (ts.map fun t=>lanesR n fs t)),(6,.x (.o 6 0 0)),(7,iv .i64 0)]) (σ':=[]) rfl ?_ ?_ rfl rfl) ?_
  ·exact⟨⟨_,rfl,.inl rfl⟩,⟨_,congrArg (fun k:Nat=>some (iv .i64 k)) (by unfold cubePV;rw [List.length_map,List.length_map]),.inl rfl⟩,⟨_,rfl,.inl rfl⟩,⟨_,rfl,.inr ⟨rfl,rfl⟩⟩,⟨_,rfl,.inl rfl⟩,trivial⟩
  ·exact trivial
  refine zJ (fun i:Nat=>[(23,iv .i64 i),(22,iv .i64 ts.length),(21,cubeAV (ts.map fun t=>lanesR n fs t)),(6,.x (.o 6 i i)),(7,iv .i64 0)]) (fun i=>[(6,.chain 47 1 i ((ts.take i).map (rowPVb' n fs)))])
   (fun i=>i≤ts.length) (fun i=>ts.length - i) 0 (Nat.zero_le _) impA ?_
  intro i hi';have hlen:(ts.take i).length=i:=by rw [List.length_take];omega
  have hlm:((ts.take i).map (rowPVb' n fs)).length=i:=by rw [List.length_map];exact hlen
  rcases Nat.lt_or_ge i ts.length with hil|hil
  ·obtain⟨t,ht⟩:∃ t,ts[i]?=some t:=⟨_,List.getElem?_eq_getElem hil⟩;have htL:(ts.map fun t=>lanesR n fs t)[i]?=some (lanesR n fs t):=by rw [List.getElem?_map,ht];rfl
   have hlc:=lanes_cons n fs t;have hll:(lanesR n fs t).length=fs.length+1:=by rw [hlc];simp
   have htail:(((lanesR n fs t).map fun r=>[zR r]).take ((((lanesR n fs t).map fun r=>[zR r]).length:Int)).toNat).drop (1:Int).toNat=(fs.map fun f=>oR n f t).map fun r=>[zR r]:=by
    rw [Int.toNat_natCast,List.take_of_length_le (Nat.le_refl _),hlc];rfl
   have h0:((lanesR n fs t).map fun r=>[zR r])[(0:Int).toNat]?=some [zR (oR n fine t)]:=by rw [hlc];rfl
   repeat' first|refine zd ?_|refine zc ?_|((first|refine zf ?_|refine zk ?_|refine zi ?_|refine regA ?_|fail);conv=>whnf)|exact abA hb|((with_reducible refine Exists.intro _ (And.intro (ze (And.intro (by omega) (rows_some htL))) ?_));conv=>whnf)|(refine zso rfl (fun hb=>?_) (fun hb=>?_))|((first|refine andA ?_|with_reducible refine And.intro (ze (And.intro (by omega) (And.intro (by first|omega|(simp only [List.length_map];omega)) (by first|omega|(simp only [List.length_map];omega)|(simp only [List.length_set,List.length_map];omega))))) ?_|fail);conv=>whnf)|(refine lnA fun hln=>?_;conv=>whnf)|fail
   refine zaq (Imp.nil 11 4 1 (fr':=[(30,iv .i64 0),(29,iv .i64 fs.length),(28,rowsAV (fs.map fun f=>oR n f t)),(11,.x (.o 11 0 0)),(10,rowsAV (lanesR n fs t)),(23,iv .i64 i),(22,iv .i64 ts.length),(21,cubeAV (ts.map fun t=>lanesR n fs t)),(6,.x (.o 6 i i)),(7,iv .i64 0)])
    (σ':=[(6,.chain 47 1 i ((ts.take i).map (rowPVb' n fs)))]) rfl ?_ ?_ rfl rfl) ?_
   ·exact⟨⟨_,rfl,.inl rfl⟩,⟨_,congrArg (fun k:Nat=>some (iv .i64 k)) (by rw [htail];simp),.inl rfl⟩,⟨_,congrArg (fun l=>some (AV.x (.d (.s 1 l)))) htail,.inl rfl⟩,⟨_,rfl,.inr ⟨rfl,rfl⟩⟩,⟨_,rfl,.inl rfl⟩,⟨_,rfl,.inl rfl⟩,⟨_,rfl,.inl rfl⟩,⟨_,rfl,.inl rfl⟩,⟨_,rfl,.inl rfl⟩,⟨_,rfl,.inl rfl⟩,trivial⟩
   ·exact⟨⟨_,rfl,.inl rfl⟩,trivial⟩
   refine zJ (fun k:Nat=>[(30,iv .i64 k),(29,iv .i64 fs.length),(28,rowsAV (fs.map fun f=>oR n f t)),(11,.x (.o 11 k k)),(10,rowsAV (lanesR n fs t)),(23,iv .i64 i),(22,iv .i64 ts.length),(21,cubeAV (ts.map fun t=>lanesR n fs t)),(6,.x (.o 6 i i)),(7,iv .i64 0)])
    (fun k=>[(11,.chain 4 1 k ((rowR n (fs.take k) t).map bPV)),(6,.chain 47 1 i ((ts.take i).map (rowPVb' n fs)))])
    (fun k=>k≤fs.length) (fun k=>fs.length - k) 0 (Nat.zero_le _) impA ?_
   intro k hk;have hrl:(rowR n (fs.take k) t).length=k:=by unfold rowR;rw [List.length_map,List.length_take];omega
   rcases Nat.lt_or_ge k fs.length with hkl|hkl
   ·obtain⟨f,hf⟩:∃ f,fs[k]?=some f:=⟨_,List.getElem?_eq_getElem hkl⟩;have hfr:(fs.map fun f=>oR n f t)[k]?=some (oR n f t):=by rw [List.getElem?_map,hf];rfl
    have heq:=gequal_fn (oR n f t) (oR n fine t);rw [sameInts_comm] at heq;have hst:((rowR n (fs.take k) t).map bPV).take k ++ [[PV.v (.bool (!sameInts (oR n fine t) (oR n f t)))]]=(rowR n (fs.take (k+1)) t).map bPV:=by
     rw [List.take_of_length_le (by rw [List.length_map];omega),List.take_add_one,hf];unfold rowR;rw [List.map_append,List.map_append];rfl
    clear hlen htail hlm;repeat' first|refine zd ?_|refine zc ?_|((first|refine zf ?_|refine zk ?_|refine regA ?_|fail);conv=>whnf)|exact abA hb|((first|with_reducible refine Exists.intro _ (And.intro (ze (And.intro (by omega) (row_some hfr))) ?_)|with_reducible refine Exists.intro _ (And.intro (ze (And.intro (by omega) h0)) ?_)|refine zsn (heq) ?_|fail);conv=>whnf)|((refine And.intro (by refine⟨?_,?_,?_⟩ <;> simp [zO,maxLen,hrl] <;> omega) ?_);conv=>whnf)|(refine zso rfl (fun hb=>?_) (fun hb=>?_))|((first|refine zsq ?_|refine andA ?_|fail);conv=>whnf)|fail
    exact⟨k+1,by omega,by omega,impA⟩
   ·have hke:k=fs.length:=by omega
    subst hke;rw [List.take_of_length_le (Nat.le_refl _)] at hrl ⊢;have hfz:AV.x (.d (boolsPV (rowR n fs t)))=.x (.d (.s 1 (((rowR n fs t).map bPV).take fs.length))):=by
     rw [List.take_of_length_le (by rw [List.length_map];omega)];rfl
    refine zaq (Imp.freeze 11 (fr':=[(30,iv .i64 fs.length),(29,iv .i64 fs.length),(11,.x (.d (boolsPV (rowR n fs t)))),(23,iv .i64 i),(22,iv .i64 ts.length),(21,cubeAV (ts.map fun t=>lanesR n fs t)),(6,.x (.o 6 i i)),(7,iv .i64 0)]) (σ':=[(6,.chain 47 1 i ((ts.take i).map (rowPVb' n fs)))]) rfl
     ⟨⟨_,rfl,.inl rfl⟩,⟨_,rfl,.inl rfl⟩,⟨_,rfl,.inr ⟨fs.length,rfl,by rw [List.length_map];omega,hfz⟩⟩,⟨_,rfl,.inl rfl⟩,⟨_,rfl,.inl rfl⟩,⟨_,rfl,.inl rfl⟩,⟨_,rfl,.inl rfl⟩,⟨_,rfl,.inl rfl⟩,trivial⟩ ⟨rfl,trivial⟩ rfl rfl) ?_
    have hst:((ts.take i).map (rowPVb' n fs)).take i ++ [[boolsPV (rowR n fs t)]]=(ts.take (i+1)).map (rowPVb' n fs):=by
     rw [List.take_of_length_le (by rw [List.length_map];omega),List.take_add_one,ht,List.map_append];rfl
    repeat' first|refine zd ?_|refine zc ?_|((first|refine zf ?_|refine zk ?_|refine regA ?_|fail);conv=>whnf)|exact abA hb|((refine And.intro ⟨Nat.le_of_eq hlm.symm,by show i+1≤maxLen;unfold maxLen;omega,by show (i+1) * 24≤140737488355328;omega⟩ ?_);conv=>whnf)|(refine zso rfl (fun hb=>?_) (fun hb=>?_))|((first|refine zsq ?_|refine andA ?_|fail);conv=>whnf)|fail
    exact⟨i+1,by omega,by omega,impA⟩
  ·have hie:i=ts.length:=by omega
   subst hie;repeat' first|refine zd ?_|refine zc ?_|((first|refine zf ?_|refine zk ?_|refine zi ?_|refine regA ?_|fail);conv=>whnf)|exact abA hb|(refine zso rfl (fun hb=>?_) (fun hb=>?_))|fail
   refine⟨.t [tableAV (ts.map fun t=>rowR n fs t),iv .i64 0],?_,LeAV.refl _⟩
   show zd1 _ (.t [.x (.o 6 ts.length ts.length),iv .i64 0])=_
   simp only [zd1,zbV,zbW];rw [viewO' (σ:=[(6,Ob.chain 47 1 ts.length ((ts.take ts.length).map (rowPVb' n fs)))]) rfl hlm.symm,List.take_of_length_le (Nat.le_refl _)];unfold tableAV rowPVb';rw [List.map_map];rfl
 ·rw [show tableR n fs ts=([],askedR n fs ts) from if_neg hc];rw [show triedR n fs ts=([],askedR n fs ts) from if_neg hc] at htr;repeat' first|refine zd ?_|refine zc ?_|((first|refine regA ?_|refine zsn (htr) ?_|fail);conv=>whnf)|(refine lnA fun hln=>?_;conv=>whnf)|fail
  refine zJ (fun i:Unit=>[(23,iv .i64 0),(22,iv .i64 0),(6,.x (.d (.v (.slice none 0 0)))),(7,iv .i64 (askedR n fs ts))]) (fun _=>[]) (fun _=>True) (fun _=>0) () trivial impA ?_
  intro _ _;repeat' first|refine zd ?_|((first|refine zk ?_|refine zi ?_|refine regA ?_|fail);conv=>whnf)|(refine zsv rfl ?_)|fail
  exact⟨_,rfl,_,rfl,LeAV1.nil 1,LeAV1.refl _,trivial⟩
end Go.Proofs.YtpfiejadigkgaaaGreatDoor
namespace Go.Proofs.YtpfiejadigkgaaaGreatDoor
open Go Go.QL
set_option maxHeartbeats 3200000
attribute [local irreducible] ACall FnC
theorem run_2 {n:NetT} (ok:NetOK n) {s1:Nat} {sk:List (W16 × W16)} (hsk:sk.length=n.inn.toNat+n.gates.length) {s2 s3 k':Nat} {nw:List W16}
  {flt:Nat→FaultT} (hl:LanesOK sk flt 2) (xs:List Int) (hxl:xs.length≤4096) :
  ACall Tryz.prog 20 [.x (.b 900 0),iv .i64 2,sl xs] (gB n s1 sk s2 (dl0 n) s3 k' nw)
   (fun r σ'=>∃ p:Nat × Nat × List W16,r=rowsAV ((List.range 2).map fun l=>outsR n (flt l) xs xs.length)∧σ'=gB n s1 sk s2 (dl0 n) p.1 p.2.1 p.2.2):=by
 refine hdD Tryz.func20 Tryz.ntmps20 (res:=[.tmp 6]) fun w0 K0 B=>?_
 repeat' first|refine zd ?_|refine zc ?_|((first|refine regA ?_|refine drA (id:=1) 5 true [0,1,0,4,3,31] ?_|refine Or.inr ?_|refine andA ?_|fail);conv=>whnf)|(refine lnA fun hln=>?_;conv=>whnf)|fail
 refine zaq (Imp.freeze 17 (fr':=frR n flt xs 2) (σ':=(15,.box (cellsN 2 0 0))::gB n s1 sk s2 (dl0 n) s3 k' nw) rfl ?_ ?_ rfl rfl) ?_
 ·exact⟨⟨_,rfl,.inl rfl⟩,⟨_,congrArg (fun k:Nat=>some (iv .i64 k)) (List.length_map _),.inl rfl⟩,⟨_,rfl,.inl rfl⟩,⟨_,rfl,.inl rfl⟩,⟨_,rfl,.inr ⟨2,rfl,Nat.le_of_ble_eq_true rfl,rfl⟩⟩,⟨_,rfl,.inl rfl⟩,trivial⟩
 ·exact⟨rfl,rfl,rfl,rfl,rfl,trivial⟩
 refine zaq (Imp.nil 600 3 1 (fr':=frR n flt xs 2) (σ':=chN 0 ((15,.box (cellsN 2 0 1))::gB n s1 sk s2 (dl0 n) s3 k' nw)) rfl ⟨⟨_,rfl,.inl rfl⟩,⟨_,rfl,.inl rfl⟩,⟨_,rfl,.inl rfl⟩,⟨_,rfl,.inl rfl⟩,⟨_,rfl,.inl rfl⟩,⟨_,rfl,.inl rfl⟩,trivial⟩ ?_ rfl rfl) ?_
 ·exact⟨⟨_,rfl,.inr ⟨_,_,rfl,rfl,.inr ⟨rfl,rfl⟩,.inl rfl,trivial⟩⟩,⟨_,rfl,.inl rfl⟩,⟨_,rfl,.inl rfl⟩,⟨_,rfl,.inl rfl⟩,⟨_,rfl,.inl rfl⟩,trivial⟩
 refine zaq (Imp.nil 601 3 1 (fr':=frR n flt xs 2) (σ':=chN 1 ((15,.box (cellsN 2 0 2))::gB n s1 sk s2 (dl0 n) s3 k' nw)) rfl ⟨⟨_,rfl,.inl rfl⟩,⟨_,rfl,.inl rfl⟩,⟨_,rfl,.inl rfl⟩,⟨_,rfl,.inl rfl⟩,⟨_,rfl,.inl rfl⟩,⟨_,rfl,.inl rfl⟩,trivial⟩ ?_ rfl rfl) ?_
 ·exact⟨⟨_,rfl,.inl rfl⟩,⟨_,rfl,.inr ⟨_,_,rfl,rfl,.inl rfl,.inr ⟨rfl,rfl⟩,trivial⟩⟩,⟨_,rfl,.inl rfl⟩,⟨_,rfl,.inl rfl⟩,⟨_,rfl,.inl rfl⟩,⟨_,rfl,.inl rfl⟩,trivial⟩
 refine zJ (fun p:Nat × Nat × Nat × List W16=>[(20,iv .i64 p.1),(19,iv .i64 xs.length),(18,sl xs),(7,.x (.sb 15 0 2 2)),(8,sl (stsL n flt xs 2 p.1)),(0,.x (.b 900 0))])
  (fun p=>(15,.box [.o 600 (p.1) (p.1),.o 601 (p.1) (p.1)])::(600,rwOb n (flt 0) xs (p.1))::(601,rwOb n (flt 1) xs (p.1))::gB n s1 sk s2 (dl0 n) p.2.1 p.2.2.1 p.2.2.2)
  (fun p=>p.1≤xs.length) (fun p=>xs.length - p.1) (0,s3,k',nw) (Nat.zero_le _) impA ?_
 rintro⟨t,a,b,c⟩ ht;dsimp only at ht ⊢;rcases Nat.lt_or_ge t xs.length with htl|htl
 ·have hbeat:=fun s3 k' nw=>beat_lanes ok (s1:=s1) hsk (s2:=s2) (s3:=s3) (k':=k') (nw:=nw) (k:=2) (by decide) hl xs t xs[t] (getDI htl)
  have hol:=otsL_len n flt xs 2 t;repeat' first|refine zd ?_|refine zc ?_|((first|refine zf ?_|refine zk ?_|refine zi ?_|refine regA ?_|fail);conv=>whnf)|exact abA hb|((refine⟨_,(hbeat a b c).frame (asc []) (by repeat (first|exact trivial|refine⟨rfl,?_⟩)) rfl (by rintro _ _ ⟨_,rfl,rfl⟩;rfl),?_⟩);(rintro _ _ ⟨_,_,⟨_,rfl,rfl⟩,rfl,rfl⟩);conv=>whnf)|(refine zso rfl (fun hb=>?_) (fun hb=>?_))|((first|refine andA ?_|with_reducible refine exA fun _=>?_|fail);conv=>whnf)|(refine lnA fun hln=>?_;conv=>whnf)|fail
  rename_i pp;refine zJ (fun l:Nat=>[(33,iv .i64 l),(32,iv .i64 2),(31,sl (otsL n flt xs 2 t)),(20,iv .i64 t),(19,iv .i64 xs.length),(18,sl xs),(7,.x (.sb 15 0 2 2)),(8,sl (stsL n flt xs 2 (t+1))),(0,.x (.b 900 0))])
   (fun l=>(15,.box [.o 600 (t+bt 0 l) (t+bt 0 l),.o 601 (t+bt 1 l) (t+bt 1 l)])::(600,rwOb n (flt 0) xs (t+bt 0 l))::(601,rwOb n (flt 1) xs (t+bt 1 l))::gB n s1 sk s2 (dl0 n) pp.1 pp.2.1 pp.2.2) (fun l=>l≤2) (fun l=>2 - l) 0 (Nat.zero_le _) impA ?_
  intro l hlk;rcases Nat.lt_or_ge l 2 with hll|hll
  ·have hg:=ots_at n flt xs t hll;have e:=row_app n (flt l) xs t l;have hq:=bt_self l;have hz:=outsR_len n (flt l) xs (t+bt l l);obtain⟨j,hj⟩:∃ j,j=l+1:=⟨_,rfl⟩;have hl':l=0∨l=1:=by omega
   clear hol hbeat ht hlk hll;rcases hl' with rfl|rfl
   all_goals
    repeat' first|refine zd ?_|refine zc ?_|((first|refine zf ?_|refine regA ?_|with_reducible refine Exists.intro _ (And.intro (ze (And.intro (by omega) hg)) ?_)|refine And.intro (ze (And.intro (by decide) (by decide))) ?_|fail);conv=>whnf)|((refine And.intro ?_ ?_;focus (refine⟨?_,?_,?_⟩ <;> simp [zO,maxLen] <;> omega));conv=>whnf)|(refine zsu rfl ?_)|((first|refine zsq ?_|refine andA ?_|fail);conv=>whnf)|fail
    exact⟨j,by omega,by omega,by subst hj;exact impA⟩
  have hle:l=2:=by omega
  subst hle;repeat' first|refine zd ?_|((first|refine zk ?_|refine regA ?_|fail);conv=>whnf)|(refine zsv rfl ?_)|((refine zsq ?_);conv=>whnf)|fail
  exact⟨(t+1,pp.1,pp.2.1,pp.2.2),by show t+1≤xs.length;omega,by show xs.length - (t+1) < xs.length - t;omega,impA⟩
 ·have hte:t=xs.length:=by omega
  subst hte;repeat' first|refine zd ?_|refine zc ?_|((first|refine zf ?_|refine zk ?_|refine zi ?_|refine regA ?_|fail);conv=>whnf)|exact abA hb|(refine zso rfl (fun hb=>?_) (fun hb=>?_))|fail
  refine⟨_,gB n s1 sk s2 (dl0 n) a b c,⟨rfl,rfl,rfl,rfl,trivial⟩,rfl,(?_:_=some (rowsAV ((List.range 2).map fun l=>outsR n (flt l) xs xs.length))),(a,b,c),rfl,rfl⟩
  have hk:=keepRows (σ:=(15,.box [.o 600 xs.length xs.length,.o 601 xs.length xs.length])::(600,rwOb n (flt 0) xs xs.length)::(601,rwOb n (flt 1) xs xs.length)::gB n s1 sk s2 (dl0 n) a b c) (σ':=gB n s1 sk s2 (dl0 n) a b c) (id:=15) (n:=2) (cap:=2) (ps:=[PV.s 1 ((outsR n (flt 0) xs xs.length).map iPV),PV.s 1 ((outsR n (flt 1) xs xs.length).map iPV)]) rfl rfl
   (by repeat' first|exact rfl|refine rowPVs_cons (rowPV_o rfl rfl (by rw [List.length_map,outsR_len])) ?_) rfl
  exact outKeep1 (x:=.x (.sb 15 0 2 2)) rfl hk
end Go.Proofs.YtpfiejadigkgaaaGreatDoor
namespace Go.Proofs.YtpfiejadigkgaaaGreatDoor
open Go Go.QL FoT
set_option maxHeartbeats 3200000
attribute [local irreducible] ACall FnC YC
theorem ad_i64:i64 adder.inn:=by unfold i64;decide
theorem ad_chk:(checkR adder).2.2=0:=by kernel_rfl
theorem ad_top:topIn adder=3:=by kernel_rfl
def addI (a b:Int) (i:Nat):List Int:=(List.range i).map fun (j:Nat)=>a / 2 ^ j % 2+2 * (b / 2 ^ j % 2)
def addO (a b:Int) (i:Nat):List Int:=(List.range i).map fun (j:Nat)=>(a+b) / 2 ^ j % 2
theorem addI_len (a b:Int) (i:Nat):(addI a b i).length=i:=by simp [addI]
theorem addO_len (a b:Int) (i:Nat):(addO a b i).length=i:=by simp [addO]
theorem addI_succ (a b:Int) (i:Nat):addI a b (i+1)=addI a b i ++ [a / 2 ^ i % 2+2 * (b / 2 ^ i % 2)]:=by simp [addI,List.range_succ]
theorem addI_get (a b:Int) {i m:Nat} (h:i < m):(addI a b m).getD i 0=a / 2 ^ i % 2+2 * (b / 2 ^ i % 2):=by
 simp [addI,List.getD_eq_getElem?_getD,h]
theorem add_beat {c x y:Int} (hc:c=0∨c=1) (hx:x=0∨x=1) (hy:y=0∨y=1):beatR adder fine c (x+2 * y)=((x+y+c) / 2,(x+y+c) % 2):=by
 rcases hc with rfl|rfl <;> rcases hx with rfl|rfl <;> rcases hy with rfl|rfl <;> kernel_rfl
theorem half (a:Int) (u:Nat):a / 2 ^ (u+1)=a / 2 ^ u / 2:=by
 rw [Int.pow_succ,Int.ediv_ediv_of_nonneg (Int.le_of_lt (Int.pow_pos (by decide)))]
theorem add_state (a b:Int) (m:Nat):∀ u,u≤m→stR adder fine (addI a b m) u=(a+b) / 2 ^ u - a / 2 ^ u - b / 2 ^ u ∧
  ((a+b) / 2 ^ u - a / 2 ^ u - b / 2 ^ u=0∨(a+b) / 2 ^ u - a / 2 ^ u - b / 2 ^ u=1)
 | 0,_=>by simp [stR];omega
 | u+1,h=>by
  obtain⟨h1,h2⟩:=add_state a b m u (by omega);have hb:=add_beat (c:=(a+b) / 2 ^ u - a / 2 ^ u - b / 2 ^ u) (x:=a / 2 ^ u % 2) (y:=b / 2 ^ u % 2) h2 (by omega) (by omega);have hs:stR adder fine (addI a b m) (u+1)=(a / 2 ^ u % 2+b / 2 ^ u % 2+((a+b) / 2 ^ u - a / 2 ^ u - b / 2 ^ u)) / 2:=by
   simp only [stR];rw [h1,addI_get a b (by omega),hb]
  rw [hs,half,half,half];constructor <;> omega
theorem add_outs (a b:Int) (m:Nat):outsR adder fine (addI a b m) m=addO a b m:=by
 unfold outsR addO;apply List.map_congr_left;intro u hu;have hu:=List.mem_range.1 hu;obtain⟨h1,h2⟩:=add_state a b m u (by omega);rw [h1,addI_get a b hu,add_beat h2 (by omega) (by omega)];dsimp only;omega
theorem firstOut_ok (last:Int):∀ (l:List Int) (k:Nat),(∀ i (h:i < l.length),inB l[i] 0 last=true)→firstOut last l k=none
 | [],_,_=>rfl
 | x::r,k,h=>by
  have h0:inB x 0 last=true:=h 0 (by simp);have ih:=firstOut_ok last r (k+1) fun i hi=>h (i+1) (by simpa using hi)
  simp only [firstOut,h0];exact ih
theorem add_err (a b:Int) (m:Nat) (hm:m≤32):insErr adder (addI a b m)=0:=by
 unfold insErr;rw [if_neg (by rw [addI_len];omega)];unfold firstBad;rw [firstOut_ok _ _ _ fun i h=>?_]
 ·rfl
 ·rw [addI_len] at h;have e:(addI a b m)[i]'(by rw [addI_len];exact h)=a / 2 ^ i % 2+2 * (b / 2 ^ i % 2):=by
   rw [← addI_get a b h,List.getD_eq_getElem?_getD,List.getElem?_eq_getElem (by rw [addI_len];exact h)];rfl
  rw [e,ad_top];exact inB_iff.2 (by omega)
def isBit (x:Int):Prop:=x=0∨x=1
def bitB (x:Int):Bool:=x == 0 || x == 1
theorem bitB_ok {x:Int} (h:bitB x=true):isBit x:=by
 unfold bitB at h;unfold isBit;simpa using h
theorem stuck_all:(List.range 8).all (fun s=>(List.range 2).all fun t=>(List.range 2).all fun c=>(List.range 4).all fun x=>
  bitB (beatR adder ⟨s,t⟩ c x).1 && bitB (beatR adder ⟨s,t⟩ c x).2)=true:=by kernel_rfl
theorem nat_of {x:Int} {n:Nat} (h:0≤x∧x < n):∃ k,k < n∧x=(k:Int):=⟨x.toNat,by omega,by omega⟩
theorem stuck_beat {f:FaultT} (hs:0≤f.sig∧f.sig < 8) (ht:0≤f.at_∧f.at_ < 2) {c x:Int} (hc:isBit c) (hx:0≤x∧x < 4):isBit (beatR adder f c x).1∧isBit (beatR adder f c x).2:=by
 obtain⟨s,t⟩:=f;obtain⟨s,h1,rfl⟩:=nat_of (n:=8) hs;obtain⟨t,h2,rfl⟩:=nat_of (n:=2) ht;obtain⟨c,h3,rfl⟩:=nat_of (n:=2) (x:=c) (by unfold isBit at hc;omega);obtain⟨x,h4,rfl⟩:=nat_of (n:=4) hx;have:=stuck_all;rw [List.all_eq_true] at this;have:=this s (List.mem_range.2 h1);rw [List.all_eq_true] at this;have:=this t (List.mem_range.2 h2);rw [List.all_eq_true] at this;have:=this c (List.mem_range.2 h3);rw [List.all_eq_true] at this;have:=this x (List.mem_range.2 h4);rw [Bool.and_eq_true] at this;exact⟨bitB_ok this.1,bitB_ok this.2⟩
theorem stuck_bits {f:FaultT} (hs:0≤f.sig∧f.sig < 8) (ht:0≤f.at_∧f.at_ < 2) (a b:Int) (m:Nat):∀ u,u≤m→isBit (stR adder f (addI a b m) u)
 | 0,_=>.inl rfl
 | u+1,h=>by
  have ih:=stuck_bits hs ht a b m u (by omega);simp only [stR];exact (stuck_beat hs ht ih (by rw [addI_get a b (by omega)];omega)).1
theorem stuck_outs {f:FaultT} (hs:0≤f.sig∧f.sig < 8) (ht:0≤f.at_∧f.at_ < 2) (a b:Int) (m:Nat):∀ x ∈ outsR adder f (addI a b m) m,isBit x:=by
 intro x hx;unfold outsR at hx;obtain⟨u,hu,rfl⟩:=List.mem_map.1 hx;have hu:=List.mem_range.1 hu;exact (stuck_beat hs ht (stuck_bits hs ht a b m u (by omega)) (by rw [addI_get a b hu];omega)).2
def sumB (l:List Int):Nat→Int
 | 0=>0
 | i+1=>sumB l i+l.getD i 0 * 2 ^ i
theorem sumB_lt {l:List Int} (h:∀ x ∈ l,isBit x):∀ i,0≤sumB l i∧sumB l i < 2 ^ i
 | 0=>⟨Int.le_refl _,by show (0:Int) < 2 ^ 0;decide⟩
 | i+1=>by
  have ih:=sumB_lt h i;have hb:isBit (l.getD i 0):=by
   rw [List.getD_eq_getElem?_getD];cases hg:l[i]? with
   | none=>exact .inl rfl
   | some x=>exact h x (List.mem_of_getElem? hg)
  rw [sumB,Int.pow_succ];rcases hb with e|e <;> rw [e] <;> omega
theorem sumB_inj {l k:List Int} (hl:∀ x ∈ l,isBit x) (hk:∀ x ∈ k,isBit x):∀ i,sumB l i=sumB k i→∀ j,j < i→l.getD j 0=k.getD j 0
 | 0,_,j,hj=>by omega
 | i+1,h,j,hj=>by
  have bt:∀ {l:List Int},(∀ x ∈ l,isBit x)→isBit (l.getD i 0):=by
   intro l hl;rw [List.getD_eq_getElem?_getD];cases hg:l[i]? with
   | none=>exact .inl rfl
   | some x=>exact hl x (List.mem_of_getElem? hg)
  have h1:=sumB_lt hl i;have h2:=sumB_lt hk i;rw [sumB,sumB] at h;have e:sumB l i=sumB k i∧l.getD i 0=k.getD i 0:=by
   rcases bt hl with e1|e1 <;> rcases bt hk with e2|e2 <;> rw [e1,e2] at h ⊢ <;> (constructor <;> omega)
  rcases Nat.lt_or_ge j i with hji|hji
  ·exact sumB_inj hl hk i e.1 j hji
  ·rw [show j=i by omega];exact e.2
theorem sumB_eq {l k:List Int} (hl:∀ x ∈ l,isBit x) (hk:∀ x ∈ k,isBit x) (n:Nat) (h1:l.length=n) (h2:k.length=n) (h:sumB l n=sumB k n):l=k:=by
 apply List.ext_getElem (by omega);intro i hi hi';have:=sumB_inj hl hk n h i (by omega);rwa [List.getD_eq_getElem?_getD,List.getD_eq_getElem?_getD,List.getElem?_eq_getElem hi,List.getElem?_eq_getElem hi'] at this
theorem addO_bits (a b:Int) (m:Nat):∀ x ∈ addO a b m,isBit x:=by
 intro x hx;unfold addO at hx;obtain⟨j,_,rfl⟩:=List.mem_map.1 hx;unfold isBit;omega
theorem sumB_add (a b:Int) (m:Nat):∀ i,i≤m→sumB (addO a b m) i=(a+b) % 2 ^ i
 | 0,_=>by simp [sumB,Int.emod_one]
 | i+1,h=>by
  have hg:(addO a b m).getD i 0=(a+b) / 2 ^ i % 2:=by
   simp [addO,List.getD_eq_getElem?_getD,show i < m by omega]
  rw [sumB,sumB_add a b m i (by omega),hg];have hp:(0:Int) < 2 ^ i:=Int.pow_pos (by decide);generalize hP:(2:Int) ^ i=p at *;rw [Int.pow_succ,hP];have h1:=Int.emod_add_mul_ediv (a+b) p;have h2:=Int.emod_add_mul_ediv ((a+b) / p) 2;have h3:=Int.emod_nonneg (a+b) (by omega:p≠0);have h4:=Int.emod_lt_of_pos (a+b) hp;have h5:=Int.emod_nonneg ((a+b) / p) (by decide:(2:Int)≠0);have h6:=Int.emod_lt_of_pos ((a+b) / p) (by decide:(0:Int) < 2);have e:(a+b)=(a+b) % p+(a+b) / p % 2 * p+(p * 2) * ((a+b) / p / 2):=by grind
  have h7:(a+b) % (p * 2)=((a+b) % p+(a+b) / p % 2 * p) % (p * 2):=by
   conv=>lhs;rw [e]
   rw [Int.add_mul_emod_self_left]
  rw [h7];refine (Int.emod_eq_of_lt ?_ ?_).symm
  ·have:0≤(a+b) / p % 2 * p:=Int.mul_nonneg h5 (by omega);omega
  ·rcases (by omega:(a+b) / p % 2=0∨(a+b) / p % 2=1) with e|e <;> rw [e] <;> omega
end Go.Proofs.YtpfiejadigkgaaaGreatDoor
namespace Go.Proofs.YtpfiejadigkgaaaGreatDoor
open Go Go.QL
set_option maxHeartbeats 3200000
attribute [local irreducible] ACall FnC
theorem run_5 {n:NetT} (ok:NetOK n) {s1:Nat} {sk:List (W16 × W16)} (hsk:sk.length=n.inn.toNat+n.gates.length) {s2 s3 k':Nat} {nw:List W16}
  {flt:Nat→FaultT} (hl:LanesOK sk flt 5) (xs:List Int) (hxl:xs.length≤4096) :
  ACall Tryz.prog 20 [.x (.b 900 0),iv .i64 5,sl xs] (gB n s1 sk s2 (dl0 n) s3 k' nw)
   (fun r σ'=>∃ p:Nat × Nat × List W16,r=rowsAV ((List.range 5).map fun l=>outsR n (flt l) xs xs.length)∧σ'=gB n s1 sk s2 (dl0 n) p.1 p.2.1 p.2.2):=by
 refine hdD Tryz.func20 Tryz.ntmps20 (res:=[.tmp 6]) fun w0 K0 B=>?_
 repeat' first|refine zd ?_|refine zc ?_|((first|refine regA ?_|refine drA (id:=1) 5 true [0,1,0,4,3,31] ?_|refine Or.inr ?_|refine andA ?_|fail);conv=>whnf)|(refine lnA fun hln=>?_;conv=>whnf)|fail
 refine zaq (Imp.freeze 17 (fr':=frR n flt xs 5) (σ':=(15,.box (cellsN 5 0 0))::gB n s1 sk s2 (dl0 n) s3 k' nw) rfl ?_ ?_ rfl rfl) ?_
 ·exact⟨⟨_,rfl,.inl rfl⟩,⟨_,congrArg (fun k:Nat=>some (iv .i64 k)) (List.length_map _),.inl rfl⟩,⟨_,rfl,.inl rfl⟩,⟨_,rfl,.inl rfl⟩,⟨_,rfl,.inr ⟨5,rfl,Nat.le_of_ble_eq_true rfl,rfl⟩⟩,⟨_,rfl,.inl rfl⟩,trivial⟩
 ·exact⟨rfl,rfl,rfl,rfl,rfl,trivial⟩
 refine zaq (Imp.nil 600 3 1 (fr':=frR n flt xs 5) (σ':=chN 0 ((15,.box (cellsN 5 0 1))::gB n s1 sk s2 (dl0 n) s3 k' nw)) rfl ⟨⟨_,rfl,.inl rfl⟩,⟨_,rfl,.inl rfl⟩,⟨_,rfl,.inl rfl⟩,⟨_,rfl,.inl rfl⟩,⟨_,rfl,.inl rfl⟩,⟨_,rfl,.inl rfl⟩,trivial⟩ ?_ rfl rfl) ?_
 ·exact⟨⟨_,rfl,.inr ⟨_,_,rfl,rfl,.inr ⟨rfl,rfl⟩,.inl rfl,.inl rfl,.inl rfl,.inl rfl,trivial⟩⟩,⟨_,rfl,.inl rfl⟩,⟨_,rfl,.inl rfl⟩,⟨_,rfl,.inl rfl⟩,⟨_,rfl,.inl rfl⟩,trivial⟩
 refine zaq (Imp.nil 601 3 1 (fr':=frR n flt xs 5) (σ':=chN 1 ((15,.box (cellsN 5 0 2))::gB n s1 sk s2 (dl0 n) s3 k' nw)) rfl ⟨⟨_,rfl,.inl rfl⟩,⟨_,rfl,.inl rfl⟩,⟨_,rfl,.inl rfl⟩,⟨_,rfl,.inl rfl⟩,⟨_,rfl,.inl rfl⟩,⟨_,rfl,.inl rfl⟩,trivial⟩ ?_ rfl rfl) ?_
 ·exact⟨⟨_,rfl,.inl rfl⟩,⟨_,rfl,.inr ⟨_,_,rfl,rfl,.inl rfl,.inr ⟨rfl,rfl⟩,.inl rfl,.inl rfl,.inl rfl,trivial⟩⟩,⟨_,rfl,.inl rfl⟩,⟨_,rfl,.inl rfl⟩,⟨_,rfl,.inl rfl⟩,⟨_,rfl,.inl rfl⟩,trivial⟩
 refine zaq (Imp.nil 602 3 1 (fr':=frR n flt xs 5) (σ':=chN 2 ((15,.box (cellsN 5 0 3))::gB n s1 sk s2 (dl0 n) s3 k' nw)) rfl ⟨⟨_,rfl,.inl rfl⟩,⟨_,rfl,.inl rfl⟩,⟨_,rfl,.inl rfl⟩,⟨_,rfl,.inl rfl⟩,⟨_,rfl,.inl rfl⟩,⟨_,rfl,.inl rfl⟩,trivial⟩ ?_ rfl rfl) ?_
 ·exact⟨⟨_,rfl,.inl rfl⟩,⟨_,rfl,.inl rfl⟩,⟨_,rfl,.inr ⟨_,_,rfl,rfl,.inl rfl,.inl rfl,.inr ⟨rfl,rfl⟩,.inl rfl,.inl rfl,trivial⟩⟩,⟨_,rfl,.inl rfl⟩,⟨_,rfl,.inl rfl⟩,⟨_,rfl,.inl rfl⟩,⟨_,rfl,.inl rfl⟩,trivial⟩
 refine zaq (Imp.nil 603 3 1 (fr':=frR n flt xs 5) (σ':=chN 3 ((15,.box (cellsN 5 0 4))::gB n s1 sk s2 (dl0 n) s3 k' nw)) rfl ⟨⟨_,rfl,.inl rfl⟩,⟨_,rfl,.inl rfl⟩,⟨_,rfl,.inl rfl⟩,⟨_,rfl,.inl rfl⟩,⟨_,rfl,.inl rfl⟩,⟨_,rfl,.inl rfl⟩,trivial⟩ ?_ rfl rfl) ?_
 ·exact⟨⟨_,rfl,.inl rfl⟩,⟨_,rfl,.inl rfl⟩,⟨_,rfl,.inl rfl⟩,⟨_,rfl,.inr ⟨_,_,rfl,rfl,.inl rfl,.inl rfl,.inl rfl,.inr ⟨rfl,rfl⟩,.inl rfl,trivial⟩⟩,⟨_,rfl,.inl rfl⟩,⟨_,rfl,.inl rfl⟩,⟨_,rfl,.inl rfl⟩,⟨_,rfl,.inl rfl⟩,trivial⟩
 refine zaq (Imp.nil 604 3 1 (fr':=frR n flt xs 5) (σ':=chN 4 ((15,.box (cellsN 5 0 5))::gB n s1 sk s2 (dl0 n) s3 k' nw)) rfl ⟨⟨_,rfl,.inl rfl⟩,⟨_,rfl,.inl rfl⟩,⟨_,rfl,.inl rfl⟩,⟨_,rfl,.inl rfl⟩,⟨_,rfl,.inl rfl⟩,⟨_,rfl,.inl rfl⟩,trivial⟩ ?_ rfl rfl) ?_
 ·exact⟨⟨_,rfl,.inl rfl⟩,⟨_,rfl,.inl rfl⟩,⟨_,rfl,.inl rfl⟩,⟨_,rfl,.inl rfl⟩,⟨_,rfl,.inr ⟨_,_,rfl,rfl,.inl rfl,.inl rfl,.inl rfl,.inl rfl,.inr ⟨rfl,rfl⟩,trivial⟩⟩,⟨_,rfl,.inl rfl⟩,⟨_,rfl,.inl rfl⟩,⟨_,rfl,.inl rfl⟩,⟨_,rfl,.inl rfl⟩,trivial⟩
 refine zJ (fun p:Nat × Nat × Nat × List W16=>[(20,iv .i64 p.1),(19,iv .i64 xs.length),(18,sl xs),(7,.x (.sb 15 0 5 5)),(8,sl (stsL n flt xs 5 p.1)),(0,.x (.b 900 0))])
  (fun p=>(15,.box [.o 600 (p.1) (p.1),.o 601 (p.1) (p.1),.o 602 (p.1) (p.1),.o 603 (p.1) (p.1),.o 604 (p.1) (p.1)])::(600,rwOb n (flt 0) xs (p.1))::(601,rwOb n (flt 1) xs (p.1))::(602,rwOb n (flt 2) xs (p.1))::(603,rwOb n (flt 3) xs (p.1))::(604,rwOb n (flt 4) xs (p.1))::gB n s1 sk s2 (dl0 n) p.2.1 p.2.2.1 p.2.2.2)
  (fun p=>p.1≤xs.length) (fun p=>xs.length - p.1) (0,s3,k',nw) (Nat.zero_le _) impA ?_
 rintro⟨t,a,b,c⟩ ht;dsimp only at ht ⊢;rcases Nat.lt_or_ge t xs.length with htl|htl
 ·have hbeat:=fun s3 k' nw=>beat_lanes ok (s1:=s1) hsk (s2:=s2) (s3:=s3) (k':=k') (nw:=nw) (k:=5) (by decide) hl xs t xs[t] (getDI htl)
  have hol:=otsL_len n flt xs 5 t;repeat' first|refine zd ?_|refine zc ?_|((first|refine zf ?_|refine zk ?_|refine zi ?_|refine regA ?_|fail);conv=>whnf)|exact abA hb|((refine⟨_,(hbeat a b c).frame (asc []) (by repeat (first|exact trivial|refine⟨rfl,?_⟩)) rfl (by rintro _ _ ⟨_,rfl,rfl⟩;rfl),?_⟩);(rintro _ _ ⟨_,_,⟨_,rfl,rfl⟩,rfl,rfl⟩);conv=>whnf)|(refine zso rfl (fun hb=>?_) (fun hb=>?_))|((first|refine andA ?_|with_reducible refine exA fun _=>?_|fail);conv=>whnf)|(refine lnA fun hln=>?_;conv=>whnf)|fail
  rename_i pp;refine zJ (fun l:Nat=>[(33,iv .i64 l),(32,iv .i64 5),(31,sl (otsL n flt xs 5 t)),(20,iv .i64 t),(19,iv .i64 xs.length),(18,sl xs),(7,.x (.sb 15 0 5 5)),(8,sl (stsL n flt xs 5 (t+1))),(0,.x (.b 900 0))])
   (fun l=>(15,.box [.o 600 (t+bt 0 l) (t+bt 0 l),.o 601 (t+bt 1 l) (t+bt 1 l),.o 602 (t+bt 2 l) (t+bt 2 l),.o 603 (t+bt 3 l) (t+bt 3 l),.o 604 (t+bt 4 l) (t+bt 4 l)])::(600,rwOb n (flt 0) xs (t+bt 0 l))::(601,rwOb n (flt 1) xs (t+bt 1 l))::(602,rwOb n (flt 2) xs (t+bt 2 l))::(603,rwOb n (flt 3) xs (t+bt 3 l))::(604,rwOb n (flt 4) xs (t+bt 4 l))::gB n s1 sk s2 (dl0 n) pp.1 pp.2.1 pp.2.2) (fun l=>l≤5) (fun l=>5 - l) 0 (Nat.zero_le _) impA ?_
  intro l hlk;rcases Nat.lt_or_ge l 5 with hll|hll
  ·have hg:=ots_at n flt xs t hll;have e:=row_app n (flt l) xs t l;have hq:=bt_self l;have hz:=outsR_len n (flt l) xs (t+bt l l);obtain⟨j,hj⟩:∃ j,j=l+1:=⟨_,rfl⟩;have hl':l=0∨l=1∨l=2∨l=3∨l=4:=by omega
   clear hol hbeat ht hlk hll;rcases hl' with rfl|rfl|rfl|rfl|rfl
   all_goals
    repeat' first|refine zd ?_|refine zc ?_|((first|refine zf ?_|refine regA ?_|with_reducible refine Exists.intro _ (And.intro (ze (And.intro (by omega) hg)) ?_)|refine And.intro (ze (And.intro (by decide) (by decide))) ?_|fail);conv=>whnf)|((refine And.intro ?_ ?_;focus (refine⟨?_,?_,?_⟩ <;> simp [zO,maxLen] <;> omega));conv=>whnf)|(refine zsu rfl ?_)|((first|refine zsq ?_|refine andA ?_|fail);conv=>whnf)|fail
    exact⟨j,by omega,by omega,by subst hj;exact impA⟩
  have hle:l=5:=by omega
  subst hle;repeat' first|refine zd ?_|((first|refine zk ?_|refine regA ?_|fail);conv=>whnf)|(refine zsv rfl ?_)|((refine zsq ?_);conv=>whnf)|fail
  exact⟨(t+1,pp.1,pp.2.1,pp.2.2),by show t+1≤xs.length;omega,by show xs.length - (t+1) < xs.length - t;omega,impA⟩
 ·have hte:t=xs.length:=by omega
  subst hte;repeat' first|refine zd ?_|refine zc ?_|((first|refine zf ?_|refine zk ?_|refine zi ?_|refine regA ?_|fail);conv=>whnf)|exact abA hb|(refine zso rfl (fun hb=>?_) (fun hb=>?_))|fail
  refine⟨_,gB n s1 sk s2 (dl0 n) a b c,⟨rfl,rfl,rfl,rfl,trivial⟩,rfl,(?_:_=some (rowsAV ((List.range 5).map fun l=>outsR n (flt l) xs xs.length))),(a,b,c),rfl,rfl⟩
  have hk:=keepRows (σ:=(15,.box [.o 600 xs.length xs.length,.o 601 xs.length xs.length,.o 602 xs.length xs.length,.o 603 xs.length xs.length,.o 604 xs.length xs.length])::(600,rwOb n (flt 0) xs xs.length)::(601,rwOb n (flt 1) xs xs.length)::(602,rwOb n (flt 2) xs xs.length)::(603,rwOb n (flt 3) xs xs.length)::(604,rwOb n (flt 4) xs xs.length)::gB n s1 sk s2 (dl0 n) a b c) (σ':=gB n s1 sk s2 (dl0 n) a b c) (id:=15) (n:=5) (cap:=5) (ps:=[PV.s 1 ((outsR n (flt 0) xs xs.length).map iPV),PV.s 1 ((outsR n (flt 1) xs xs.length).map iPV),PV.s 1 ((outsR n (flt 2) xs xs.length).map iPV),PV.s 1 ((outsR n (flt 3) xs xs.length).map iPV),PV.s 1 ((outsR n (flt 4) xs xs.length).map iPV)]) rfl rfl
   (by repeat' first|exact rfl|refine rowPVs_cons (rowPV_o rfl rfl (by rw [List.length_map,outsR_len])) ?_) rfl
  exact outKeep1 (x:=.x (.sb 15 0 5 5)) rfl hk
end Go.Proofs.YtpfiejadigkgaaaGreatDoor
namespace Go.Proofs.YtpfiejadigkgaaaGreatDoor
open Go Go.QL
noncomputable def fp5:FnI Tryz.prog:=⟨5,Tryz.f5,17,[.cell 0 32],[],3,0,false,false,Tryz.func5,by kernel_rfl,rfl,Tryz.ntmps5⟩
noncomputable def fp6:FnI Tryz.prog:=⟨6,Tryz.f6,51,[.tmp 6,.tmp 7],[],4058000847,0,false,false,Tryz.func6,by kernel_rfl,rfl,Tryz.ntmps6⟩
noncomputable def fp11:FnI Tryz.prog:=⟨11,Tryz.f11,74,[.cell 6 3,.cell 7 50,.cell 8 27],[(3,⟨4,false,[0,1],[⟨2,false,false,[0,1],[]⟩,⟨3,false,false,[1],[]⟩],[0,0,0,5,15],[]⟩),(4,⟨7,true,[0,1,3,5,6],[⟨2,false,false,[3,5,6],[]⟩,⟨4,false,false,[5,6],[]⟩],[0,0,3,0,15,0,0,127,255],[]⟩),(9,⟨8,false,[0,1,2,3,4,5,6,7],[],[0,1,3,7,0,16,48,112,255],[]⟩),(10,⟨9,false,[0,1,2,3,4,5,6,7,8],[],[0,1,0,4,0,16,48,112,240,511,1023],[]⟩),(11,⟨7,false,[0,1,2,3,4,5,6],[],[0,1,3,7,15,0,32,127],[]⟩),(13,⟨3,false,[0,1],[⟨2,false,false,[1],[]⟩],[0,0,1,7,15],[]⟩),(14,⟨2,false,[0],[⟨1,false,false,[0],[]⟩],[0,0,3,7],[]⟩)],576462953205997519,1,false,false,Tryz.func11,by kernel_rfl,rfl,Tryz.ntmps11⟩
noncomputable def fp12:FnI Tryz.prog:=⟨12,Tryz.f12,126,[.tmp 0],[(2,⟨9,false,[0],[⟨1,false,false,[0],[2,3]⟩,⟨4,false,false,[],[5,6,7,8]⟩],[0,0,2,6,15,31,63,63,127,511],[]⟩),(4,⟨9,false,[0],[⟨1,false,false,[0],[2,3]⟩,⟨4,false,false,[],[5,6,7,8]⟩],[0,0,2,6,15,31,63,63,127,511],[]⟩),(5,⟨8,false,[0],[⟨1,false,false,[0],[]⟩,⟨2,false,false,[0],[]⟩,⟨3,false,false,[],[4,5,6,7]⟩],[0,0,2,7,15,31,31,63,255],[]⟩),(6,⟨8,false,[0],[⟨1,false,false,[0],[]⟩,⟨2,false,false,[0],[]⟩,⟨3,false,false,[],[4,5,6,7]⟩],[0,0,2,7,15,31,31,63,255],[]⟩)],122879,0,false,false,Tryz.func12,by kernel_rfl,rfl,Tryz.ntmps12⟩
noncomputable def fp13:FnI Tryz.prog:=⟨13,Tryz.f13,139,[.tmp 0],[(8,⟨75,false,[0,1,2,3,4,5,6,7,8,9,10,11,12,13,14,15,16,17,18,19,20,21,22,23,24,25,26,27,28,29],[⟨30,false,false,[],[31,32,33,34,35,36,37,38,39,40,41,42,43,44,45,46,47,48,49,50,51,52,53,54]⟩,⟨55,false,false,[],[56,57,58,59,60]⟩,⟨61,false,false,[],[62,63,64]⟩,⟨65,false,false,[64],[66,67]⟩,⟨68,false,false,[64,66,67],[69,70]⟩,⟨71,false,false,[64,66,67,69,70],[72,73,74]⟩],[0,1,3,7,15,31,63,127,255,511,1023,2047,4095,8191,16383,32767,65535,131071,262143,524287,1048575,2097151,4194303,8388607,16777215,33554431,67108863,134217727,268435455,134217727,1073741823,2147483647,4294967295,8589934591,17179869183,34359738367,68719476735,137438953471,274877906943,549755813887,1099511627775,2199023255551,4398046511103,8796093022207,4398046511103,35184372088831,70368744177663,140737488355327,281474976710655,562949953421311,1125899906842623,2251799813685247,4503599627370495,9007199254740991,9007199254740991,36028797018963967,72057594037927935,144115188075855871,288230376151711743,288230376151711743,864691128455135231,2305843009213693951,4611686018427387903,9223372036854775807,18446744073709551615,18446744073709551615,55340232221128654847,129127208515966861311,55340232221128654847,350488137400481480703,940783947759187132415,350488137400481480703,2711671378835304087551,7434037861704949301247,18871019187404871303167,37778931862957161709567,75557863725914323419135,151115727451828646838271],[]⟩)],130879,0,false,false,Tryz.func13,by kernel_rfl,rfl,Tryz.ntmps13⟩
noncomputable def fp14:FnI Tryz.prog:=⟨14,Tryz.f14,57,[.cell 6 43,.tmp 7],[(5,⟨29,false,[0,1,2,3,4,5,6,7,9,10,11,12,13,15,16,17,18,19],[⟨8,false,false,[0,1,2,9,10,11,12,13,15,16,17,18,19],[]⟩,⟨14,false,false,[0,1,2,15,16,17,18,19],[]⟩,⟨20,false,false,[0,1,2],[21,22,23]⟩,⟨24,false,false,[1,2],[25,26,27]⟩,⟨28,false,false,[2],[]⟩],[0,0,0,0,8,24,56,120,248,0,512,1536,3584,7680,16376,0,32768,98304,229376,491520,1048568,2097145,4194297,8388601,16777209,33554427,67108859,134217723,268435451,536870911,1073741823,2147483647,4294967295],[]⟩)],33743,0,false,false,Tryz.func14,by kernel_rfl,rfl,Tryz.ntmps14⟩
noncomputable def fp15:FnI Tryz.prog:=⟨15,Tryz.f15,26,[.tmp 4],[(6,⟨8,false,[0,1,2,3,4,5,6,7],[],[0,0,3,7,0,0,48,112,255],[]⟩)],33571891,0,false,false,Tryz.func15,by kernel_rfl,rfl,Tryz.ntmps15⟩
noncomputable def fp16:FnI Tryz.prog:=⟨16,Tryz.f16,89,[.tmp 2,.tmp 3,.tmp 4],[(5,⟨9,false,[0,1,2,3,4,5,6],[⟨7,false,false,[0,1,2,3,4,5,6],[8]⟩],[0,1,0,4,12,31,63,0,128,511],[]⟩),(9,⟨11,false,[0,1,2,3,4,5,6,7,8,9,10],[],[0,1,0,7,15,0,32,0,224,480,31,2047],[]⟩)],157311483986714714106372095,0,false,false,Tryz.func16,by kernel_rfl,rfl,Tryz.ntmps16⟩
noncomputable def fp17:FnI Tryz.prog:=⟨17,Tryz.f17,20,[.tmp 4],[],65599,0,false,false,Tryz.func17,by kernel_rfl,rfl,Tryz.ntmps17⟩
noncomputable def fp18:FnI Tryz.prog:=⟨18,Tryz.f18,13,[.tmp 4],[],567,0,false,false,Tryz.func18,by kernel_rfl,rfl,Tryz.ntmps18⟩
noncomputable def fp19:FnI Tryz.prog:=⟨19,Tryz.f19,69,[.tmp 4],[(1,⟨8,false,[0,1,2,3,4,5,6],[⟨7,false,false,[0],[]⟩],[0,0,2,0,8,24,62,126,255,511,1023],[]⟩),(5,⟨15,false,[0,1,2,3,4,5,6,7,8,9,10,11,12,13,14],[],[0,1,3,7,0,16,0,64,63,511,1023,0,2048,8191,63,32767,65535],[]⟩),(10,⟨11,false,[0,1,2,3,4,5,6,7,8,9],[⟨10,false,false,[0],[]⟩],[0,0,2,6,14,0,32,0,224,480,1022,2047,4095,8191],[]⟩)],9271082055894007,0,false,false,Tryz.func19,by kernel_rfl,rfl,Tryz.ntmps19⟩
noncomputable def fp20:FnI Tryz.prog:=⟨20,Tryz.f20,51,[.tmp 6],[(1,⟨5,true,[0,1,2,3,4],[],[0,1,0,4,3,31],[]⟩)],32216202695,0,false,false,Tryz.func20,by kernel_rfl,rfl,Tryz.ntmps20⟩
noncomputable def fp21:FnI Tryz.prog:=⟨21,Tryz.f21,11,[.cell 6 69],[],71,0,false,false,Tryz.func21,by kernel_rfl,rfl,Tryz.ntmps21⟩
noncomputable def fp23:FnI Tryz.prog:=⟨23,Tryz.f23,26,[.tmp 4],[(6,⟨8,false,[0,1,2,3,4,5,6,7],[],[0,0,3,7,0,0,48,112,255],[]⟩)],16806963,0,false,false,Tryz.func23,by kernel_rfl,rfl,Tryz.ntmps23⟩
noncomputable def fp24:FnI Tryz.prog:=⟨24,Tryz.f24,8,[.tmp 4],[],23,0,false,false,Tryz.func24,by kernel_rfl,rfl,Tryz.ntmps24⟩
noncomputable def fp25:FnI Tryz.prog:=⟨25,Tryz.f25,8,[.tmp 2],[],21,0,true,false,Tryz.func25,by kernel_rfl,rfl,Tryz.ntmps25⟩
noncomputable def fp29:FnI Tryz.prog:=⟨29,Tryz.f29,46,[.tmp 6],[],35735462218319,0,false,false,Tryz.func29,by kernel_rfl,rfl,Tryz.ntmps29⟩
noncomputable def fp30:FnI Tryz.prog:=⟨30,Tryz.f30,36,[.tmp 4],[(5,⟨16,false,[0,1,2,3,4,5,6,7,8,9,10,11,12,13,14],[⟨15,false,false,[0,1,2,3,4,5],[]⟩],[0,1,3,7,0,16,0,64,192,448,0,1024,4032,0,8192,32704,65535],[]⟩)],61623,0,false,false,Tryz.func30,by kernel_rfl,rfl,Tryz.ntmps30⟩
noncomputable def fp31:FnI Tryz.prog:=⟨31,Tryz.f31,8,[.tmp 6],[],127,0,false,false,Tryz.func31,by kernel_rfl,rfl,Tryz.ntmps31⟩
noncomputable def fp32:FnI Tryz.prog:=⟨32,Tryz.f32,73,[],[(0,⟨8,false,[0,1,2,3,4,5,6,7],[],[0,1,3,7,0,16,48,112,255,511],[]⟩),(6,⟨11,false,[0,1,2,3,4,5,6,7,8,9,10],[],[0,1,3,7,15,0,32,127,255,0,512,2047,4095,8191],[]⟩)],515412852757,0,false,false,Tryz.func32,by kernel_rfl,rfl,Tryz.ntmps32⟩
noncomputable def fp33:FnI Tryz.prog:=⟨33,Tryz.f33,59,[.tmp 4],[],31,0,false,false,Tryz.func33,by kernel_rfl,rfl,Tryz.ntmps33⟩
noncomputable def fp34:FnI Tryz.prog:=⟨34,Tryz.f34,10,[.cell 2 41,.tmp 3],[],77,0,false,false,Tryz.func34,by kernel_rfl,rfl,Tryz.ntmps34⟩
noncomputable def fp35:FnI Tryz.prog:=⟨35,Tryz.f35,31,[.tmp 4,.tmp 5],[],8520503,0,false,false,Tryz.func35,by kernel_rfl,rfl,Tryz.ntmps35⟩
noncomputable def fp36:FnI Tryz.prog:=⟨36,Tryz.f36,5,[.tmp 0],[],1,0,false,false,Tryz.func36,by kernel_rfl,rfl,Tryz.ntmps36⟩
noncomputable def fp37:FnI Tryz.prog:=⟨37,Tryz.f37,54,[.tmp 6,.tmp 7,.tmp 8],[(8,⟨7,false,[0,1,2,3,4,5,6],[],[0,1,3,0,8,24,7,127,255],[]⟩)],549756342223,0,false,false,Tryz.func37,by kernel_rfl,rfl,Tryz.ntmps37⟩
noncomputable def fp38:FnI Tryz.prog:=⟨38,Tryz.f38,37,[.tmp 4,.tmp 5],[],17041215,0,false,false,Tryz.func38,by kernel_rfl,rfl,Tryz.ntmps38⟩
noncomputable def fp39:FnI Tryz.prog:=⟨39,Tryz.f39,6,[.tmp 0],[],1,0,false,false,Tryz.func39,by kernel_rfl,rfl,Tryz.ntmps39⟩
noncomputable def fp40:FnI Tryz.prog:=⟨40,Tryz.f40,65,[.tmp 6,.tmp 7],[],132203187206095,0,false,false,Tryz.func40,by kernel_rfl,rfl,Tryz.ntmps40⟩
noncomputable def fp41:FnI Tryz.prog:=⟨41,Tryz.f41,55,[.tmp 4,.tmp 5],[(10,⟨6,true,[0,2,4,5],[⟨1,false,false,[2,4,5],[]⟩,⟨3,false,false,[4,5],[]⟩],[0,1,0,7,0,0,63,127],[]⟩)],17592454978751,0,false,false,Tryz.func41,by kernel_rfl,rfl,Tryz.ntmps41⟩
noncomputable def fp42:FnI Tryz.prog:=⟨42,Tryz.f42,56,[.tmp 2,.tmp 3],[(11,⟨8,false,[0,2,3,6],[⟨1,false,false,[0,2,3,6],[4,5]⟩,⟨7,false,false,[0],[]⟩],[0,0,0,4,14,30,0,126,255,511],[]⟩)],275381487311,0,false,false,Tryz.func42,by kernel_rfl,rfl,Tryz.ntmps42⟩
noncomputable def fp43:FnI Tryz.prog:=⟨43,Tryz.f43,26,[.tmp 4],[(6,⟨8,false,[0,1,2,3,4,5,6,7],[],[0,0,3,7,0,0,48,112,255],[]⟩)],33571891,0,false,false,Tryz.func43,by kernel_rfl,rfl,Tryz.ntmps43⟩
noncomputable def fp44:FnI Tryz.prog:=⟨44,Tryz.f44,53,[.tmp 4],[(6,⟨10,false,[0,1,2,3,4,5,6,7,8,9],[],[0,0,3,7,15,0,0,96,224,480,1023],[]⟩),(11,⟨14,false,[0,1,2,3,4,5,6,7,8,9,10,11,12,13],[],[0,0,3,7,0,31,63,0,0,384,896,0,3968,8064,16383],[]⟩)],4503634255579251,0,false,false,Tryz.func44,by kernel_rfl,rfl,Tryz.ntmps44⟩
noncomputable def fp45:FnI Tryz.prog:=⟨45,Tryz.f45,20,[.cell 0 43],[],7,0,false,false,Tryz.func45,by kernel_rfl,rfl,Tryz.ntmps45⟩
noncomputable def fp46:FnI Tryz.prog:=⟨46,Tryz.f46,3,[.tmp 0],[],1,0,false,false,Tryz.func46,by kernel_rfl,rfl,Tryz.ntmps46⟩
noncomputable def fp47:FnI Tryz.prog:=⟨47,Tryz.f47,3,[.tmp 0],[],1,0,false,false,Tryz.func47,by kernel_rfl,rfl,Tryz.ntmps47⟩
noncomputable def fp48:FnI Tryz.prog:=⟨48,Tryz.f48,70,[.cell 10 26,.tmp 11],[(11,⟨5,false,[0,1,2,3,4],[],[0,1,3,7,0,31,63],[]⟩),(15,⟨8,false,[0,1,2,3,4,5,6,7],[],[0,1,3,7,0,16,48,112,255,511],[]⟩)],18447870033821695551,1,false,false,Tryz.func48,by kernel_rfl,rfl,Tryz.ntmps48⟩
noncomputable def fp49:FnI Tryz.prog:=⟨49,Tryz.f49,80,[.tmp 6,.tmp 7],[(13,⟨16,false,[0,1,2,3,4,5,6,7,8,9,10,11,12,13,14,15],[],[0,1,0,7,15,31,63,31,31,287,31,1823,3999,8095,16383,31,65535,131071],[]⟩)],4722366482934087564231,0,false,false,Tryz.func49,by kernel_rfl,rfl,Tryz.ntmps49⟩
noncomputable def fp50:FnI Tryz.prog:=⟨50,Tryz.f50,5,[.tmp 0],[],1,0,false,false,Tryz.func50,by kernel_rfl,rfl,Tryz.ntmps50⟩
noncomputable def fp51:FnI Tryz.prog:=⟨51,Tryz.f51,93,[.cell 2 111,.cell 3 27],[],69175290292532706221,2,false,false,Tryz.func51,by kernel_rfl,rfl,Tryz.ntmps51⟩
noncomputable def fp52:FnI Tryz.prog:=⟨52,Tryz.f52,26,[.tmp 4],[(6,⟨8,false,[0,1,2,3,4,5,6,7],[],[0,0,3,7,0,0,48,112,255],[]⟩)],33571891,0,false,false,Tryz.func52,by kernel_rfl,rfl,Tryz.ntmps52⟩
noncomputable def fp53:FnI Tryz.prog:=⟨53,Tryz.f53,26,[.tmp 4],[(6,⟨8,false,[0,1,2,3,4,5,6,7],[],[0,0,3,7,0,0,48,112,255],[]⟩)],33571891,0,false,false,Tryz.func53,by kernel_rfl,rfl,Tryz.ntmps53⟩
noncomputable def fp54:FnI Tryz.prog:=⟨54,Tryz.f54,12,[.tmp 4],[],243,0,false,false,Tryz.func54,by kernel_rfl,rfl,Tryz.ntmps54⟩
noncomputable def fp55:FnI Tryz.prog:=⟨55,Tryz.f55,12,[.tmp 4],[],19,0,false,false,Tryz.func55,by kernel_rfl,rfl,Tryz.ntmps55⟩
noncomputable def fp56:FnI Tryz.prog:=⟨56,Tryz.f56,19,[.tmp 4],[],66483,0,false,false,Tryz.func56,by kernel_rfl,rfl,Tryz.ntmps56⟩
noncomputable def fp57:FnI Tryz.prog:=⟨57,Tryz.f57,7,[.tmp 3],[],11,0,false,false,Tryz.func57,by kernel_rfl,rfl,Tryz.ntmps57⟩
noncomputable def fp58:FnI Tryz.prog:=⟨58,Tryz.f58,9,[.tmp 4],[],19,0,false,false,Tryz.func58,by kernel_rfl,rfl,Tryz.ntmps58⟩
noncomputable def fp59:FnI Tryz.prog:=⟨59,Tryz.f59,10,[.tmp 3],[],11,0,false,false,Tryz.func59,by kernel_rfl,rfl,Tryz.ntmps59⟩
noncomputable def fp60:FnI Tryz.prog:=⟨60,Tryz.f60,186,[.tmp 6,.tmp 7],[(2,⟨6,false,[0,1,2,3,4,5],[],[0,0,2,6,14,30,63,127,255],[]⟩),(21,⟨8,false,[0,1,2,3,4,5,6],[⟨7,false,false,[0],[]⟩],[0,0,2,6,14,0,0,126,255],[]⟩),(30,⟨28,false,[0,1,2,3,4,5,6,7,8,9,10,11,12,13,14,15,16,17,18,19,20,21,22,23,24,25,26,27],[],[0,0,2,6,14,0,32,96,224,480,0,0,2048,6144,14336,30720,64512,131040,262112,524256,1048574,2097150,0,8388606,16777214,33554430,0,134217726,268435455,536870911],[]⟩)],85634861562396677066803688276002884990336495567,0,false,false,Tryz.func60,by kernel_rfl,rfl,Tryz.ntmps60⟩
noncomputable def fp61:FnI Tryz.prog:=⟨61,Tryz.f61,11,[.tmp 3],[],11,0,false,false,Tryz.func61,by kernel_rfl,rfl,Tryz.ntmps61⟩
noncomputable def fp62:FnI Tryz.prog:=⟨62,Tryz.f62,87,[.tmp 2,.tmp 3,.tmp 4],[],604462909843614585585919,0,false,false,Tryz.func62,by kernel_rfl,rfl,Tryz.ntmps62⟩
noncomputable def fp64:FnI Tryz.prog:=⟨64,Tryz.f64,15,[.tmp 6],[],71,0,false,false,Tryz.func64,by kernel_rfl,rfl,Tryz.ntmps64⟩
noncomputable def fp65:FnI Tryz.prog:=⟨65,Tryz.f65,37,[],[(2,⟨5,false,[0,1,2,3,4],[],[0,1,3,7,0,31],[]⟩),(5,⟨9,false,[0,1,2,3,4,5,6,7,8],[],[0,0,0,0,8,24,56,124,254,511],[]⟩)],68719509743,0,false,false,Tryz.func65,by kernel_rfl,rfl,Tryz.ntmps65⟩
noncomputable def fp66:FnI Tryz.prog:=⟨66,Tryz.f66,23,[.cell 2 41],[],5,0,false,false,Tryz.func66,by kernel_rfl,rfl,Tryz.ntmps66⟩
noncomputable def fp67:FnI Tryz.prog:=⟨67,Tryz.f67,95,[.tmp 4,.tmp 5],[(24,⟨4,false,[0,1,2,3],[],[0,0,2,6,15],[]⟩)],2476485132355090790375210995,0,false,false,Tryz.func67,by kernel_rfl,rfl,Tryz.ntmps67⟩
noncomputable def fp68:FnI Tryz.prog:=⟨68,Tryz.f68,34,[.cell 5 142,.tmp 6],[(2,⟨15,false,[0,1,2,3,4,5,6,7,8,9,10,11,12,13],[⟨14,false,false,[7,8,9,10,11,12,13],[]⟩],[0,1,3,0,8,24,63,0,128,384,0,1024,3072,8064,127,32767],[]⟩)],495,0,false,false,Tryz.func68,by kernel_rfl,rfl,Tryz.ntmps68⟩
noncomputable def fp69:FnI Tryz.prog:=⟨69,Tryz.f69,22,[.tmp 2],[],1855,0,false,false,Tryz.func69,by kernel_rfl,rfl,Tryz.ntmps69⟩
noncomputable def fp70:FnI Tryz.prog:=⟨70,Tryz.f70,44,[.cell 6 142,.tmp 7],[(3,⟨15,false,[0,1,2,3,4,5,6,7,8,9,10,11,12,13],[⟨14,false,false,[7,8,9,10,11,12,13],[]⟩],[0,1,3,0,8,24,63,0,128,384,0,1024,3072,8064,127,32767],[]⟩)],4063,0,false,false,Tryz.func70,by kernel_rfl,rfl,Tryz.ntmps70⟩
noncomputable def fp71:FnI Tryz.prog:=⟨71,Tryz.f71,21,[.tmp 4],[],2003,0,false,false,Tryz.func71,by kernel_rfl,rfl,Tryz.ntmps71⟩
noncomputable def fp72:FnI Tryz.prog:=⟨72,Tryz.f72,2,[.tmp 0],[],1,0,false,false,Tryz.func72,by kernel_rfl,rfl,Tryz.ntmps72⟩
noncomputable def fp73:FnI Tryz.prog:=⟨73,Tryz.f73,56,[.cell 6 43,.tmp 7],[(5,⟨9,true,[0,1,2,3,4,5,6,7,8],[],[0,0,0,6,0,0,32,127,0,511],[]⟩),(9,⟨7,false,[0,1,2,3,4,5,6],[],[0,1,0,0,0,24,56,127,255],[]⟩)],17594333660103,0,false,true,Tryz.func73,by kernel_rfl,rfl,Tryz.ntmps73⟩
noncomputable def fp74:FnI Tryz.prog:=⟨74,Tryz.f74,12,[.tmp 4],[],19,0,false,false,Tryz.func74,by kernel_rfl,rfl,Tryz.ntmps74⟩
noncomputable def fp75:FnI Tryz.prog:=⟨75,Tryz.f75,17,[.tmp 4],[(1,⟨10,false,[0,1,2,3,4,5,6,7,8],[⟨9,false,false,[0,1,2,3,4],[]⟩],[0,1,0,4,15,0,32,0,128,480,1023,2047,4095],[]⟩)],31,0,false,false,Tryz.func75,by kernel_rfl,rfl,Tryz.ntmps75⟩
noncomputable def fp76:FnI Tryz.prog:=⟨76,Tryz.f76,5,[.tmp 2],[],5,0,false,false,Tryz.func76,by kernel_rfl,rfl,Tryz.ntmps76⟩
noncomputable def fp77:FnI Tryz.prog:=⟨77,Tryz.f77,20,[.tmp 4],[],604275,0,false,false,Tryz.func77,by kernel_rfl,rfl,Tryz.ntmps77⟩
noncomputable def fp78:FnI Tryz.prog:=⟨78,Tryz.f78,8,[],[(2,⟨3,false,[0,1],[⟨2,false,false,[0,1],[]⟩],[0,1,0,7],[]⟩)],39,0,false,false,Tryz.func78,by kernel_rfl,rfl,Tryz.ntmps78⟩
noncomputable def fp79:FnI Tryz.prog:=⟨79,Tryz.f79,8,[],[],35,0,false,false,Tryz.func79,by kernel_rfl,rfl,Tryz.ntmps79⟩
noncomputable def fp80:FnI Tryz.prog:=⟨80,Tryz.f80,47,[.tmp 2],[],2166259741,0,false,false,Tryz.func80,by kernel_rfl,rfl,Tryz.ntmps80⟩
noncomputable def fp81:FnI Tryz.prog:=⟨81,Tryz.f81,36,[.tmp 2],[],504373101,0,false,false,Tryz.func81,by kernel_rfl,rfl,Tryz.ntmps81⟩
noncomputable def fp82:FnI Tryz.prog:=⟨82,Tryz.f82,12,[.tmp 4],[],19,0,false,false,Tryz.func82,by kernel_rfl,rfl,Tryz.ntmps82⟩
noncomputable def fp83:FnI Tryz.prog:=⟨83,Tryz.f83,22,[.tmp 4],[],31,0,false,false,Tryz.func83,by kernel_rfl,rfl,Tryz.ntmps83⟩
noncomputable def fp84:FnI Tryz.prog:=⟨84,Tryz.f84,24,[.tmp 6],[(1,⟨16,false,[0,1,2,3,4,5,6,7,8,9,10,11,12,13,14,15],[],[0,1,3,7,0,16,63,127,0,256,768,1792,0,4096,16128,32512,65535,131071],[]⟩)],87,0,false,false,Tryz.func84,by kernel_rfl,rfl,Tryz.ntmps84⟩
noncomputable def fp85:FnI Tryz.prog:=⟨85,Tryz.f85,24,[.tmp 6],[(1,⟨16,false,[0,1,2,3,4,5,6,7,8,9,10,11,12,13,14,15],[],[0,1,3,7,0,16,63,127,0,256,768,1792,0,4096,16128,32512,65535,131071],[]⟩)],87,0,false,false,Tryz.func85,by kernel_rfl,rfl,Tryz.ntmps85⟩
noncomputable def fp86:FnI Tryz.prog:=⟨86,Tryz.f86,24,[.tmp 6],[(1,⟨16,false,[0,1,2,3,4,5,6,7,8,9,10,11,12,13,14,15],[],[0,1,3,7,0,16,63,127,0,256,768,1792,0,4096,16128,32512,65535,131071],[]⟩)],87,0,false,false,Tryz.func86,by kernel_rfl,rfl,Tryz.ntmps86⟩
noncomputable def fp87:FnI Tryz.prog:=⟨87,Tryz.f87,16,[.tmp 6],[(1,⟨6,false,[0,1,2,3,4,5],[],[0,1,3,7,0,16,63,127,255,511],[]⟩)],87,0,false,false,Tryz.func87,by kernel_rfl,rfl,Tryz.ntmps87⟩
noncomputable def fp88:FnI Tryz.prog:=⟨88,Tryz.f88,8,[.tmp 6],[],71,0,false,false,Tryz.func88,by kernel_rfl,rfl,Tryz.ntmps88⟩
noncomputable def fp89:FnI Tryz.prog:=⟨89,Tryz.f89,31,[],[(0,⟨12,false,[0,1,2,3,4,5,6,7,8,9,10],[⟨11,false,false,[0,1,2,3,4,5,6,7,8,9,10],[]⟩],[0,1,3,7,0,16,48,112,240,511,1023,0,4095],[]⟩),(1,⟨14,false,[0,1,2,3,4,5,6,7,8,9,10,11,12],[⟨13,false,false,[0],[]⟩],[0,0,2,6,14,0,0,64,224,0,512,2016,4064,8190,16383,32767,65535],[]⟩)],11,0,false,false,Tryz.func89,by kernel_rfl,rfl,Tryz.ntmps89⟩
noncomputable def fp90:FnI Tryz.prog:=⟨90,Tryz.f90,6,[.tmp 2],[],5,0,false,false,Tryz.func90,by kernel_rfl,rfl,Tryz.ntmps90⟩
noncomputable def fp101:FnI Tryz.prog:=⟨101,Tryz.f101,8,[.tmp 2,.tmp 3],[],13,0,false,false,Tryz.func101,by kernel_rfl,rfl,Tryz.ntmps101⟩
noncomputable def fp102:FnI Tryz.prog:=⟨102,Tryz.f102,28,[],[(3,⟨14,false,[0,1,2,3,4,5,6,7,8,9,10,11,12],[⟨13,false,false,[2,3],[]⟩],[0,0,0,0,0,0,48,112,0,0,768,1792,4083,8179,16383,32767],[]⟩)],525,0,false,false,Tryz.func102,by kernel_rfl,rfl,Tryz.ntmps102⟩
noncomputable def fp103:FnI Tryz.prog:=⟨103,Tryz.f103,9,[.tmp 5],[],55,0,false,false,Tryz.func103,by kernel_rfl,rfl,Tryz.ntmps103⟩
noncomputable def fp104:FnI Tryz.prog:=⟨104,Tryz.f104,12,[.tmp 4],[(1,⟨5,false,[0,1,2,3,4],[],[0,0,3,7,0,31,63,127],[]⟩)],23,0,false,false,Tryz.func104,by kernel_rfl,rfl,Tryz.ntmps104⟩
noncomputable def fp105:FnI Tryz.prog:=⟨105,Tryz.f105,11,[.cell 4 26],[],635,1,false,false,Tryz.func105,by kernel_rfl,rfl,Tryz.ntmps105⟩
noncomputable def fp106:FnI Tryz.prog:=⟨106,Tryz.f106,4,[.tmp 2],[],7,0,false,false,Tryz.func106,by kernel_rfl,rfl,Tryz.ntmps106⟩
noncomputable def fp107:FnI Tryz.prog:=⟨107,Tryz.f107,31,[.tmp 5],[],1073873007,0,false,false,Tryz.func107,by kernel_rfl,rfl,Tryz.ntmps107⟩
noncomputable def fp109:FnI Tryz.prog:=⟨109,Tryz.f109,17,[.tmp 2],[],32909,0,false,false,Tryz.func109,by kernel_rfl,rfl,Tryz.ntmps109⟩
noncomputable def fp110:FnI Tryz.prog:=⟨110,Tryz.f110,5,[.tmp 2],[],5,0,false,false,Tryz.func110,by kernel_rfl,rfl,Tryz.ntmps110⟩
noncomputable def fp111:FnI Tryz.prog:=⟨111,Tryz.f111,8,[.tmp 2],[],21,0,true,false,Tryz.func111,by kernel_rfl,rfl,Tryz.ntmps111⟩
noncomputable def fp112:FnI Tryz.prog:=⟨112,Tryz.f112,14,[],[],19,0,false,false,Tryz.func112,by kernel_rfl,rfl,Tryz.ntmps112⟩
noncomputable def fp113:FnI Tryz.prog:=⟨113,Tryz.f113,61,[.tmp 2],[(6,⟨9,false,[0,1,2,3,4,5,6,7,8],[],[0,0,3,7,0,0,32,112,240,511],[]⟩),(11,⟨9,false,[0,1,2,3,4,5,6,7,8],[],[0,0,3,7,0,0,32,112,240,511],[]⟩)],17596514574653,0,false,false,Tryz.func113,by kernel_rfl,rfl,Tryz.ntmps113⟩
noncomputable def fp114:FnI Tryz.prog:=⟨114,Tryz.f114,18,[.tmp 2],[],17389,0,false,false,Tryz.func114,by kernel_rfl,rfl,Tryz.ntmps114⟩
noncomputable def fp115:FnI Tryz.prog:=⟨115,Tryz.f115,6,[.tmp 2],[],5,0,false,false,Tryz.func115,by kernel_rfl,rfl,Tryz.ntmps115⟩
noncomputable def fp116:FnI Tryz.prog:=⟨116,Tryz.f116,15,[.tmp 6],[],71,0,false,false,Tryz.func116,by kernel_rfl,rfl,Tryz.ntmps116⟩
noncomputable def fp118:FnI Tryz.prog:=⟨118,Tryz.f118,8,[.tmp 2],[],21,0,true,false,Tryz.func118,by kernel_rfl,rfl,Tryz.ntmps118⟩
noncomputable def fp119:FnI Tryz.prog:=⟨119,Tryz.f119,14,[],[],19,0,false,false,Tryz.func119,by kernel_rfl,rfl,Tryz.ntmps119⟩
noncomputable def fp120:FnI Tryz.prog:=⟨120,Tryz.f120,61,[.tmp 2],[(6,⟨9,false,[0,1,2,3,4,5,6,7,8],[],[0,0,3,7,0,0,32,112,240,511],[]⟩),(11,⟨9,false,[0,1,2,3,4,5,6,7,8],[],[0,0,3,7,0,0,32,112,240,511],[]⟩)],17596514574653,0,false,false,Tryz.func120,by kernel_rfl,rfl,Tryz.ntmps120⟩
noncomputable def fp123:FnI Tryz.prog:=⟨123,Tryz.f123,15,[],[],8671,0,false,false,Tryz.func123,by kernel_rfl,rfl,Tryz.ntmps123⟩
noncomputable def fp124:FnI Tryz.prog:=⟨124,Tryz.f124,40,[.tmp 6],[(9,⟨6,false,[0,1,3,4],[⟨2,false,false,[0,3,4],[]⟩,⟨5,false,true,[0],[]⟩],[0,0,2,0,8,30,63,127],[]⟩)],550292951519,0,false,false,Tryz.func124,by kernel_rfl,rfl,Tryz.ntmps124⟩
noncomputable def fp125:FnI Tryz.prog:=⟨125,Tryz.f125,9,[.tmp 2],[],5,0,false,false,Tryz.func125,by kernel_rfl,rfl,Tryz.ntmps125⟩
noncomputable def fp127:FnI Tryz.prog:=⟨127,Tryz.f127,5,[.tmp 2],[],5,0,false,false,Tryz.func127,by kernel_rfl,rfl,Tryz.ntmps127⟩
noncomputable def fp128:FnI Tryz.prog:=⟨128,Tryz.f128,15,[.tmp 6],[],71,0,false,false,Tryz.func128,by kernel_rfl,rfl,Tryz.ntmps128⟩
noncomputable def fp129:FnI Tryz.prog:=⟨129,Tryz.f129,148,[],[(17,⟨13,false,[0,1,2,3,4,5,6,7,8,9,10,11,12],[],[0,1,3,7,7,7,39,119,247,7,7,1543,3591,8191,16383,32767,65535],[]⟩)],42535296023574879666274036850519702559,0,false,false,Tryz.func129,by kernel_rfl,rfl,Tryz.ntmps129⟩
noncomputable def fp130:FnI Tryz.prog:=⟨130,Tryz.f130,8,[.tmp 2],[],5,0,false,false,Tryz.func130,by kernel_rfl,rfl,Tryz.ntmps130⟩
noncomputable def fp131:FnI Tryz.prog:=⟨131,Tryz.f131,148,[],[(17,⟨13,false,[0,1,2,3,4,5,6,7,8,9,10,11,12],[],[0,1,3,7,7,7,39,119,247,7,7,1543,3591,8191,16383,32767,65535],[]⟩)],42535296023574879666274036850519702559,0,false,false,Tryz.func131,by kernel_rfl,rfl,Tryz.ntmps131⟩
noncomputable def fp134:FnI Tryz.prog:=⟨134,Tryz.f134,53,[],[(4,⟨14,false,[0,1,2,3,4,5,6,7,8,9,10,11,12,13],[],[0,0,3,7,15,15,15,111,239,15,15,1039,3599,7695,16383,32767,65535],[]⟩),(6,⟨16,false,[0,1,2,3,4,5,6,7,8,9,10,11,12,13,14],[⟨15,false,false,[2,3,4],[]⟩],[0,0,0,0,8,0,0,64,224,480,0,0,3072,7168,16355,32739,65535,131071],[]⟩)],17179886351,0,false,false,Tryz.func134,by kernel_rfl,rfl,Tryz.ntmps134⟩
noncomputable def fp135:FnI Tryz.prog:=⟨135,Tryz.f135,60,[],[(10,⟨18,false,[0,1,2,3,4,5,6,7,8,9,10,11,12,13,14,15,16],[⟨17,false,false,[2,3,4,5],[]⟩],[0,0,0,0,0,24,0,0,0,384,960,1984,0,0,12288,28672,65475,131011,262143,524287],[]⟩)],8592039695,0,false,false,Tryz.func135,by kernel_rfl,rfl,Tryz.ntmps135⟩
noncomputable def fp136:FnI Tryz.prog:=⟨136,Tryz.f136,67,[],[(10,⟨18,false,[0,1,2,3,4,5,6,7,8,9,10,11,12,13,14,15,16],[⟨17,false,false,[2,3,4,5],[]⟩],[0,0,0,0,0,24,0,0,0,384,960,1984,0,0,12288,28672,65475,131011,262143,524287],[]⟩)],35218731966223,0,false,false,Tryz.func136,by kernel_rfl,rfl,Tryz.ntmps136⟩
noncomputable def fp137:FnI Tryz.prog:=⟨137,Tryz.f137,63,[.tmp 8,.tmp 9],[],1333065575601045263,0,false,false,Tryz.func137,by kernel_rfl,rfl,Tryz.ntmps137⟩
noncomputable def fp138:FnI Tryz.prog:=⟨138,Tryz.f138,34,[],[(3,⟨14,false,[0,1,2,3,4,5,6,7,8,9,10,11,12],[⟨13,false,false,[2,3],[]⟩],[0,0,0,0,0,0,48,112,0,0,768,1792,4083,8179,16383,32767],[]⟩)],33551,0,false,false,Tryz.func138,by kernel_rfl,rfl,Tryz.ntmps138⟩
noncomputable def fp139:FnI Tryz.prog:=⟨139,Tryz.f139,141,[.tmp 8],[(5,⟨14,false,[0,1,2,3,4,5,6,7,8,9,10,11,12,13],[],[0,0,3,7,15,15,15,111,239,15,15,1039,3599,7695,16383,32767,65535,131071],[]⟩),(11,⟨16,false,[0,1,2,3,4,5,6,7,8,9,10,11,12,13,14],[⟨15,false,false,[2,3,4],[]⟩],[0,0,0,0,8,0,0,64,224,480,0,0,3072,7168,16355,32739,65535,131071],[]⟩),(16,⟨10,false,[0,1,2,3,4,5,6,7,8,9],[],[0,0,0,6,14,0,0,64,224,480,1023,2047,4095],[]⟩),(17,⟨16,false,[0,1,2,3,4,5,6,7,8,9,10,11,12,13,14],[⟨15,false,false,[2,3,4],[]⟩],[0,0,0,0,8,0,0,64,224,480,0,0,3072,7168,16355,32739,65535,131071],[]⟩),(22,⟨10,false,[0,1,2,3,4,5,6,7,8,9],[],[0,0,0,6,14,0,0,64,224,480,1023,2047,4095],[]⟩),(23,⟨16,false,[0,1,2,3,4,5,6,7,8,9,10,11,12,13,14],[⟨15,false,false,[2,3,4],[]⟩],[0,0,0,0,8,0,0,64,224,480,0,0,3072,7168,16355,32739,65535,131071],[]⟩)],21268317252094917911888073248812900111,0,false,false,Tryz.func139,by kernel_rfl,rfl,Tryz.ntmps139⟩
noncomputable def fp140:FnI Tryz.prog:=⟨140,Tryz.f140,90,[.tmp 10],[(1,⟨14,false,[0,1,2,3,4,5,6,7,8,9,10,11,12],[⟨13,false,false,[2,3],[]⟩],[0,0,0,0,0,0,48,112,0,0,768,1792,4083,8179,16383,32767],[]⟩),(3,⟨13,false,[0,1,2,3,4,5,6,7,8,9,10,11,12],[],[0,0,3,7,15,15,15,111,239,15,15,1551,3599,8191,16383,32767,65535],[]⟩),(5,⟨13,false,[0,1,2,3,4,5,6,7,8,9,10,11,12],[],[0,0,3,7,15,15,15,111,239,15,15,1551,3599,8191,16383,32767],[]⟩),(8,⟨14,false,[0,1,2,3,4,5,6,7,8,9,10,11,12],[⟨13,false,false,[2,3],[]⟩],[0,0,0,0,0,0,48,112,0,0,768,1792,4083,8179,16383,32767],[]⟩)],1217485249602318769183,0,false,false,Tryz.func140,by kernel_rfl,rfl,Tryz.ntmps140⟩
noncomputable def fp141:FnI Tryz.prog:=⟨141,Tryz.f141,178,[.tmp 10,.tmp 11],[(1,⟨14,false,[0,1,2,3,4,5,6,7,8,9,10,11,12],[⟨13,false,false,[2,3],[]⟩],[0,0,0,0,0,0,48,112,0,0,768,1792,4083,8179,16383,32767],[]⟩),(3,⟨13,false,[0,1,2,3,4,5,6,7,8,9,10,11,12],[],[0,0,3,7,15,15,15,111,239,15,15,1551,3599,8191,16383,32767],[]⟩),(5,⟨13,false,[0,1,2,3,4,5,6,7,8,9,10,11,12],[],[0,0,3,7,15,15,15,111,239,15,15,1551,3599,8191,16383,32767,65535],[]⟩),(8,⟨14,false,[0,1,2,3,4,5,6,7,8,9,10,11,12],[⟨13,false,false,[2,3],[]⟩],[0,0,0,0,0,0,48,112,0,0,768,1792,4083,8179,16383,32767],[]⟩),(10,⟨14,false,[0,1,2,3,4,5,6,7,8,9,10,11,12],[⟨13,false,false,[2,3],[]⟩],[0,0,0,0,0,0,48,112,0,0,768,1792,4083,8179,16383,32767],[]⟩),(13,⟨13,false,[0,1,2,3,4,5,6,7,8,9,10,11,12],[],[0,0,3,7,15,15,15,111,239,15,15,1551,3599,8191,16383,32767],[]⟩),(15,⟨13,false,[0,1,2,3,4,5,6,7,8,9,10,11,12],[],[0,0,3,7,15,15,15,111,239,15,15,1551,3599,8191,16383,32767,65535],[]⟩),(18,⟨14,false,[0,1,2,3,4,5,6,7,8,9,10,11,12],[⟨13,false,false,[2,3],[]⟩],[0,0,0,0,0,0,48,112,0,0,768,1792,4083,8179,16383,32767],[]⟩),(21,⟨14,false,[0,1,2,3,4,5,6,7,8,9,10,11,12],[⟨13,false,false,[2,3],[]⟩],[0,0,0,0,0,0,48,112,0,0,768,1792,4083,8179,16383,32767],[]⟩)],22997644815212700899627017342834150232570911,0,false,false,Tryz.func141,by kernel_rfl,rfl,Tryz.ntmps141⟩
noncomputable def fp142:FnI Tryz.prog:=⟨142,Tryz.f142,19,[.tmp 2],[],277,0,false,false,Tryz.func142,by kernel_rfl,rfl,Tryz.ntmps142⟩
noncomputable def fp143:FnI Tryz.prog:=⟨143,Tryz.f143,25,[.tmp 2],[],16661,0,false,false,Tryz.func143,by kernel_rfl,rfl,Tryz.ntmps143⟩
noncomputable def fp144:FnI Tryz.prog:=⟨144,Tryz.f144,53,[],[(4,⟨14,false,[0,1,2,3,4,5,6,7,8,9,10,11,12,13],[],[0,0,3,7,15,15,15,111,239,15,15,1039,3599,7695,16383,32767,65535],[]⟩),(6,⟨16,false,[0,1,2,3,4,5,6,7,8,9,10,11,12,13,14],[⟨15,false,false,[2,3,4],[]⟩],[0,0,0,0,8,0,0,64,224,480,0,0,3072,7168,16355,32739,65535,131071],[]⟩)],17179886351,0,false,false,Tryz.func144,by kernel_rfl,rfl,Tryz.ntmps144⟩
noncomputable def fp145:FnI Tryz.prog:=⟨145,Tryz.f145,60,[],[(10,⟨18,false,[0,1,2,3,4,5,6,7,8,9,10,11,12,13,14,15,16],[⟨17,false,false,[2,3,4,5],[]⟩],[0,0,0,0,0,24,0,0,0,384,960,1984,0,0,12288,28672,65475,131011,262143,524287],[]⟩)],8592039695,0,false,false,Tryz.func145,by kernel_rfl,rfl,Tryz.ntmps145⟩
noncomputable def fp146:FnI Tryz.prog:=⟨146,Tryz.f146,67,[],[(10,⟨18,false,[0,1,2,3,4,5,6,7,8,9,10,11,12,13,14,15,16],[⟨17,false,false,[2,3,4,5],[]⟩],[0,0,0,0,0,24,0,0,0,384,960,1984,0,0,12288,28672,65475,131011,262143,524287],[]⟩)],35218731966223,0,false,false,Tryz.func146,by kernel_rfl,rfl,Tryz.ntmps146⟩
noncomputable def fp147:FnI Tryz.prog:=⟨147,Tryz.f147,63,[.tmp 8,.tmp 9],[],1333065575601045263,0,false,false,Tryz.func147,by kernel_rfl,rfl,Tryz.ntmps147⟩
noncomputable def fp148:FnI Tryz.prog:=⟨148,Tryz.f148,34,[],[(3,⟨14,false,[0,1,2,3,4,5,6,7,8,9,10,11,12],[⟨13,false,false,[2,3],[]⟩],[0,0,0,0,0,0,48,112,0,0,768,1792,4083,8179,16383,32767],[]⟩)],33551,0,false,false,Tryz.func148,by kernel_rfl,rfl,Tryz.ntmps148⟩
noncomputable def fp149:FnI Tryz.prog:=⟨149,Tryz.f149,141,[.tmp 8],[(5,⟨14,false,[0,1,2,3,4,5,6,7,8,9,10,11,12,13],[],[0,0,3,7,15,15,15,111,239,15,15,1039,3599,7695,16383,32767,65535,131071],[]⟩),(11,⟨16,false,[0,1,2,3,4,5,6,7,8,9,10,11,12,13,14],[⟨15,false,false,[2,3,4],[]⟩],[0,0,0,0,8,0,0,64,224,480,0,0,3072,7168,16355,32739,65535,131071],[]⟩),(16,⟨10,false,[0,1,2,3,4,5,6,7,8,9],[],[0,0,0,6,14,0,0,64,224,480,1023,2047,4095],[]⟩),(17,⟨16,false,[0,1,2,3,4,5,6,7,8,9,10,11,12,13,14],[⟨15,false,false,[2,3,4],[]⟩],[0,0,0,0,8,0,0,64,224,480,0,0,3072,7168,16355,32739,65535,131071],[]⟩),(22,⟨10,false,[0,1,2,3,4,5,6,7,8,9],[],[0,0,0,6,14,0,0,64,224,480,1023,2047,4095],[]⟩),(23,⟨16,false,[0,1,2,3,4,5,6,7,8,9,10,11,12,13,14],[⟨15,false,false,[2,3,4],[]⟩],[0,0,0,0,8,0,0,64,224,480,0,0,3072,7168,16355,32739,65535,131071],[]⟩)],21268317252094917911888073248812900111,0,false,false,Tryz.func149,by kernel_rfl,rfl,Tryz.ntmps149⟩
noncomputable def fp150:FnI Tryz.prog:=⟨150,Tryz.f150,90,[.tmp 10],[(1,⟨14,false,[0,1,2,3,4,5,6,7,8,9,10,11,12],[⟨13,false,false,[2,3],[]⟩],[0,0,0,0,0,0,48,112,0,0,768,1792,4083,8179,16383,32767],[]⟩),(3,⟨13,false,[0,1,2,3,4,5,6,7,8,9,10,11,12],[],[0,0,3,7,15,15,15,111,239,15,15,1551,3599,8191,16383,32767,65535],[]⟩),(5,⟨13,false,[0,1,2,3,4,5,6,7,8,9,10,11,12],[],[0,0,3,7,15,15,15,111,239,15,15,1551,3599,8191,16383,32767],[]⟩),(8,⟨14,false,[0,1,2,3,4,5,6,7,8,9,10,11,12],[⟨13,false,false,[2,3],[]⟩],[0,0,0,0,0,0,48,112,0,0,768,1792,4083,8179,16383,32767],[]⟩)],1217485249602318769183,0,false,false,Tryz.func150,by kernel_rfl,rfl,Tryz.ntmps150⟩
noncomputable def fp151:FnI Tryz.prog:=⟨151,Tryz.f151,178,[.tmp 10,.tmp 11],[(1,⟨14,false,[0,1,2,3,4,5,6,7,8,9,10,11,12],[⟨13,false,false,[2,3],[]⟩],[0,0,0,0,0,0,48,112,0,0,768,1792,4083,8179,16383,32767],[]⟩),(3,⟨13,false,[0,1,2,3,4,5,6,7,8,9,10,11,12],[],[0,0,3,7,15,15,15,111,239,15,15,1551,3599,8191,16383,32767],[]⟩),(5,⟨13,false,[0,1,2,3,4,5,6,7,8,9,10,11,12],[],[0,0,3,7,15,15,15,111,239,15,15,1551,3599,8191,16383,32767,65535],[]⟩),(8,⟨14,false,[0,1,2,3,4,5,6,7,8,9,10,11,12],[⟨13,false,false,[2,3],[]⟩],[0,0,0,0,0,0,48,112,0,0,768,1792,4083,8179,16383,32767],[]⟩),(10,⟨14,false,[0,1,2,3,4,5,6,7,8,9,10,11,12],[⟨13,false,false,[2,3],[]⟩],[0,0,0,0,0,0,48,112,0,0,768,1792,4083,8179,16383,32767],[]⟩),(13,⟨13,false,[0,1,2,3,4,5,6,7,8,9,10,11,12],[],[0,0,3,7,15,15,15,111,239,15,15,1551,3599,8191,16383,32767],[]⟩),(15,⟨13,false,[0,1,2,3,4,5,6,7,8,9,10,11,12],[],[0,0,3,7,15,15,15,111,239,15,15,1551,3599,8191,16383,32767,65535],[]⟩),(18,⟨14,false,[0,1,2,3,4,5,6,7,8,9,10,11,12],[⟨13,false,false,[2,3],[]⟩],[0,0,0,0,0,0,48,112,0,0,768,1792,4083,8179,16383,32767],[]⟩),(21,⟨14,false,[0,1,2,3,4,5,6,7,8,9,10,11,12],[⟨13,false,false,[2,3],[]⟩],[0,0,0,0,0,0,48,112,0,0,768,1792,4083,8179,16383,32767],[]⟩)],22997644815212700899627017342834150232570911,0,false,false,Tryz.func151,by kernel_rfl,rfl,Tryz.ntmps151⟩
noncomputable def fp157:FnI Tryz.prog:=⟨157,Tryz.f157,82,[],[(3,⟨19,false,[0,1,2,3,4,5,6,7,8,9,10,11,12,13,14,15,16,17,18],[],[0,1,0,7,15,31,31,31,31,415,991,2015,31,31,31,24607,57375,127007,258079,524287,1048575,2097151],[]⟩),(5,⟨13,false,[0,1,2,3,4,5,6,7,8,9,10,11,12],[],[0,0,0,0,12,30,62,0,0,0,768,1920,3968,8191,16383,32767],[]⟩),(6,⟨22,false,[0,1,2,3,4,5,6,7,8,9,10,11,12,13,14,15,16,17,18,19,20],[⟨21,false,false,[4,5,6,7],[]⟩],[0,0,0,6,0,0,0,96,0,0,0,1536,3840,7936,0,0,0,98304,245760,507904,1048335,2096911,4194303,8388607],[]⟩)],288231475663604767,0,false,false,Tryz.func157,by kernel_rfl,rfl,Tryz.ntmps157⟩
noncomputable def fp158:FnI Tryz.prog:=⟨158,Tryz.f158,7,[.tmp 2],[],5,0,false,false,Tryz.func158,by kernel_rfl,rfl,Tryz.ntmps158⟩
noncomputable def fp159:FnI Tryz.prog:=⟨159,Tryz.f159,33,[.tmp 2],[(1,⟨7,false,[0,1,2,3,4,5,6],[],[0,1,3,0,8,24,56,127,255,511],[]⟩),(2,⟨7,false,[0,1,2,3,4,5,6],[],[0,1,3,0,8,24,56,127,255,511],[]⟩),(3,⟨7,false,[0,1,2,3,4,5,6],[],[0,1,3,0,8,24,56,127,255,511],[]⟩)],5,0,false,false,Tryz.func159,by kernel_rfl,rfl,Tryz.ntmps159⟩
noncomputable def fp160:FnI Tryz.prog:=⟨160,Tryz.f160,18,[.tmp 8],[],271,0,false,false,Tryz.func160,by kernel_rfl,rfl,Tryz.ntmps160⟩
noncomputable def fp161:FnI Tryz.prog:=⟨161,Tryz.f161,41,[.tmp 12],[],4159,0,false,false,Tryz.func161,by kernel_rfl,rfl,Tryz.ntmps161⟩
noncomputable def fp162:FnI Tryz.prog:=⟨162,Tryz.f162,82,[],[(3,⟨19,false,[0,1,2,3,4,5,6,7,8,9,10,11,12,13,14,15,16,17,18],[],[0,1,0,7,15,31,31,31,31,415,991,2015,31,31,31,24607,57375,127007,258079,524287,1048575,2097151],[]⟩),(5,⟨13,false,[0,1,2,3,4,5,6,7,8,9,10,11,12],[],[0,0,0,0,12,30,62,0,0,0,768,1920,3968,8191,16383,32767],[]⟩),(6,⟨22,false,[0,1,2,3,4,5,6,7,8,9,10,11,12,13,14,15,16,17,18,19,20],[⟨21,false,false,[4,5,6,7],[]⟩],[0,0,0,6,0,0,0,96,0,0,0,1536,3840,7936,0,0,0,98304,245760,507904,1048335,2096911,4194303,8388607],[]⟩)],288231475663604767,0,false,false,Tryz.func162,by kernel_rfl,rfl,Tryz.ntmps162⟩
noncomputable def fp163:FnI Tryz.prog:=⟨163,Tryz.f163,18,[.tmp 8],[],271,0,false,false,Tryz.func163,by kernel_rfl,rfl,Tryz.ntmps163⟩
noncomputable def fp164:FnI Tryz.prog:=⟨164,Tryz.f164,41,[.tmp 12],[],4159,0,false,false,Tryz.func164,by kernel_rfl,rfl,Tryz.ntmps164⟩
noncomputable def fp169:FnI Tryz.prog:=⟨169,Tryz.f169,32,[.tmp 10,.tmp 11],[(1,⟨9,false,[0,1,2,3,4,5,6,7,8],[],[0,0,0,6,14,0,0,96,224,511,1023],[]⟩)],4197407,0,false,false,Tryz.func169,by kernel_rfl,rfl,Tryz.ntmps169⟩
noncomputable def fp170:FnI Tryz.prog:=⟨170,Tryz.f170,32,[.tmp 10,.tmp 11],[(1,⟨9,false,[0,1,2,3,4,5,6,7,8],[],[0,0,0,6,14,0,0,96,224,511,1023],[]⟩)],4197407,0,false,false,Tryz.func170,by kernel_rfl,rfl,Tryz.ntmps170⟩
noncomputable def fns:List (FnI Tryz.prog):=[fp5,fp6,fp11,fp12,fp13,fp14,fp15,fp16,fp17,fp18,fp19,fp20,fp21,fp23,fp24,fp25,fp29,fp30,fp31,fp32,fp33,fp34,fp35,fp36,fp37,fp38,fp39,fp40,fp41,fp42,fp43,fp44,fp45,fp46,fp47,fp48,fp49,fp50,fp51,fp52,fp53,fp54,fp55,fp56,fp57,fp58,fp59,fp60,fp61,fp62,fp64,fp65,fp66,fp67,fp68,fp69,fp70,fp71,fp72,fp73,fp74,fp75,fp76,fp77,fp78,fp79,fp80,fp81,fp82,fp83,fp84,fp85,fp86,fp87,fp88,fp89,fp90,fp101,fp102,fp103,fp104,fp105,fp106,fp107,fp109,fp110,fp111,fp112,fp113,fp114,fp115,fp116,fp118,fp119,fp120,fp123,fp124,fp125,fp127,fp128,fp129,fp130,fp131,fp134,fp135,fp136,fp137,fp138,fp139,fp140,fp141,fp142,fp143,fp144,fp145,fp146,fp147,fp148,fp149,fp150,fp151,fp157,fp158,fp159,fp160,fp161,fp162,fp163,fp164,fp169,fp170]
end Go.Proofs.YtpfiejadigkgaaaGreatDoor
namespace Go.Proofs.YtpfiejadigkgaaaGreatDoor
open Go Go.QL Go.RowKit Go.Shelf FoT
set_option maxHeartbeats 1600000
set_option maxRecDepth 20000
attribute [local irreducible] ACall FnC
def zoi:Go.Shelf.Ren:=⟨fun|4=>117|n=>n,fun|0=>0|3=>3|4=>4|9=>9|20=>20|22=>111|25=>121|n=>n,fun n=>n⟩
theorem zmD:Go.Proofs.Lays8.n4 Tryz.prog zoi:={
 mixed:=by kernel_rfl
 f4:=⟨Tryz.f117.name,by kernel_rfl,Tryz.func117.trans (congrArg some (by kernel_rfl))⟩
 t0:=Tryz.underlying0
 a0:=Tryz.isAgg0
 z0:=Tryz.sizeOf0
 v0:=Tryz.zeroValue0
 t3:=Tryz.underlying3
 a3:=Tryz.isAgg3
 z3:=Tryz.sizeOf3
 v3:=Tryz.zeroValue3
 t4:=Tryz.underlying4
 a4:=Tryz.isAgg4
 z4:=Tryz.sizeOf4
 v4:=Tryz.zeroValue4
 t9:=Tryz.underlying9
 a9:=Tryz.isAgg9
 z9:=Tryz.sizeOf9
 v9:=Tryz.zeroValue9
 t20:=Tryz.underlying20
 a20:=Tryz.isAgg20
 z20:=Tryz.sizeOf20
 v20:=Tryz.zeroValue20
 t22:=Tryz.underlying111
 a22:=Tryz.isAgg111
 z22:=Tryz.sizeOf111
 v22:=Tryz.zeroValue111 }
theorem zqa (n:Nat) (h0:0 < n) (hn:n≤100000):ACall Tryz.prog 117 [.x (.d (.v (.slice none 0 0))),iv .i64 n] [] (fun r σ'=>r=.x (.o 50 0 0)∧σ'=[(50,.chain 121 4 0 [])]):=by
 unfold ACall;refine⟨⟨_,Tryz.func117,rfl,rfl⟩,fun w0 K0 g w vs hL hp hs' hv=>?_⟩
 obtain⟨u,v,rfl⟩:∃ u v,vs = #[u,v]:=by
  match vs,hs' with
  | ⟨[u,v]⟩,_=>exact⟨u,v,rfl⟩
 have h2:=zm (hv 0 (.x (.d (.v (.slice none 0 0)))) u rfl rfl);have h3:=zm (hv 1 (iv .i64 n) v rfl rfl);subst h2;subst h3;obtain⟨info,z,i1,i2,i3,i4,i5⟩:=(hTt 121 _ rfl).info;have hsz:info.size=4:=i2;have hby:info.bytes=40:=i3;have hzl:z.cells.size=4:=by rw [i5];rfl
 refine (show Calls Tryz.prog 117 #[.slice none 0 0,.int .i64 n] w _ from Any8.slices_Grow_grow zmD info z i1 i4 (by omega) none 0 0 n [] w (by omega) (by omega) (by rw [hby];omega) (by omega) (by simp) (fun _=>rfl) (fun a h=>by cases h)).mono ?_
 rintro e w' ⟨rfl,rfl⟩;have hd1:=hp.grow (w':=w.drew) (K':=g.K) (Below.refl w.heap.size w).drew ⟨fun _ _ h=>h,fun b o hk=>rfl⟩ (fun _ _ _ h=>h) (fun b o hk=>hp.val b o hk);have hcap:grownCap w (0+n) 0 121≤maxLen:=grownCap_le_maxLen w (0+n) 0 121 (by unfold maxLen;omega);have hge:0+n≤grownCap w (0+n) 0 121:=grownCap_ge w _ _ _;have hge2:=hge;rw [Nat.zero_add] at hge2;have hd2:=hd1.hp.addChain 50 rfl 121 4 (grownCap w (0+n) 0 121) [] (([]:List Value).toArray ++ Builtin.zeroCells z.cells (0+n - 0) ++ Builtin.zeroCells z.cells (grownCap w (0+n) 0 121 - (0+n))) (by simp) hcap
  (by simp [Builtin.zeroCells,hzl];omega) (by simp) (fun i x h=>by simp at h)
 refine⟨_,_,_,_,rfl,hd1.trans hd2,?_,rfl,rfl⟩
 refine .o 50 0 0 121 4 [] _ _ rfl (Nat.le_refl _) ?_
 dsimp only;rw [zy];rfl
def growH:CallH:=fun f args σ kb=>bif Nat.beq f 117 then (match args with
 | [.x (.d (.v (.slice none 0 0))),.x (.d (.v (.int .i64 n)))]=>decide (0 < n∧n≤100000) && kb (.x (.o (zaZ σ) 0 0)) ((zaZ σ,.chain 121 4 0 []) :: σ)
 | _=>false) else false
theorem dropK0:∀ σ:Sg,ziI [] σ=σ
 | []=>rfl
 | x::r=>by simp [ziI,dropK0 r]
theorem growH_ok:CallOK Tryz.prog growH:=by
 intro f args σ kb h;unfold growH at h;cases hb:Nat.beq f 117 with
 | false=>rw [hb] at h;cases h
 | true=>
  rw [hb] at h;simp only [cond_true] at h;obtain rfl:=Nat.eq_of_beq_eq_true hb;split at h
  ·rename_i n;rw [Bool.and_eq_true] at h;obtain⟨h1,h2⟩:=h;have h1:=of_decide_eq_true h1;have hg:=zqa n.toNat (by omega) (by omega);rw [show ((n.toNat:Nat):Int)=n from Int.toNat_of_nonneg (by omega)] at hg;have hf:=hg.frame (fun i=>if i=50 then zaZ σ else i) (σ:=σ) trivial rfl (by
    rintro _ _ ⟨rfl,rfl⟩;simp only [zdN,List.map_cons,List.map_nil,List.all_nil,Bool.true_and,Bool.and_true,List.all_cons,List.any_nil,Bool.false_or,Bool.and_eq_true,Bool.not_eq_true',if_true];refine⟨rfl,?_⟩
    rw [List.any_eq_false];intro a ha e;obtain⟨x,hx,rfl⟩:=List.mem_map.1 ha;exact (lkN (L:=σ) (l0:=[]) (by rw [List.append_nil];exact zhx σ)).1 x hx (Nat.eq_of_beq_eq_true e).symm)
   refine hf.mono ?_
   rintro r σ' ⟨_,_,⟨rfl,rfl⟩,rfl,rfl⟩;have e:after (fun i=>if i=50 then zaZ σ else i) [] [(50,Ob.chain 121 4 0 [])] σ=(zaZ σ,.chain 121 4 0 []) :: σ:=by
    show (zaZ σ,Ob.chain 121 4 0 [])::ziI [] σ=_
    rw [dropK0]
   rw [e];exact h2
  ·cases h
end Go.Proofs.YtpfiejadigkgaaaGreatDoor
namespace Go.Proofs.YtpfiejadigkgaaaGreatDoor
open Go Go.QL
set_option maxRecDepth 1000000
def u (n:Int):List PV:=[.v (.int .u8 n)]
def i (n:Int):List PV:=[.v (.int .i64 n)]
def I (n:Int):SV:=.d (.v (.int .i64 n))
abbrev noT:Nat→Bool:=fun _=>false
def leSV (s t:SV):Bool:=eqAV (.x s) (.x t) || (match s,t with|.d (.v (.slice none 0 0)),.d (.s _ [])=>true|_,_=>false)
def leL:List SV→List SV→Bool
 | [],[]=>true
 | x::r,y::s=>leSV x y && leL r s
 | _,_=>false
def le1:AV→AV→Bool
 | .x s,.x t=>leSV s t
 | .a cs,.a ds=>leL cs ds
 | _,_=>false
def leAs:List AV→List AV→Bool
 | [],[]=>true
 | x::r,y::s=>le1 x y && leAs r s
 | _,_=>false
def leAV:AV→AV→Bool
 | .t xs,.t ys=>leAs xs ys
 | x,y=>le1 x y
section
variable {σ:Sg} {g:Gh} {w:World}
theorem leSV_ok {s t:SV} (h:leSV s t=true) {v:Value} (hv:SR σ g w s v):SR σ g w t v:=by
 unfold leSV at h;rw [Bool.or_eq_true] at h;rcases h with h|h
 ·cases eqAV_ok h;exact hv
 ·split at h
  ·exact LeSV.ok (.inr ⟨rfl,_,rfl⟩) hv
  ·cases h
theorem leL_ok:∀ {xs ys:List SV},leL xs ys=true→xs.length=ys.length∧∀ (i:Nat) (y:SV),ys[i]?=some y→∃ x,xs[i]?=some x∧leSV x y=true
 | [],[],_=>⟨rfl,fun i y h=>by simp at h⟩
 | x::r,y::s,h=>by
  unfold leL at h;rw [Bool.and_eq_true] at h;obtain⟨e,ih⟩:=leL_ok h.2;refine⟨by simp [e],fun i z hi=>?_⟩
  cases i with
  | zero=>cases hi;exact⟨x,rfl,h.1⟩
  | succ i=>exact ih i z hi
 | [],_::_,h=>by cases h
 | _::_,[],h=>by cases h
theorem le1_ok {x y:AV} (h:le1 x y=true) {v:Value} (hv:VR1 σ g w x v):VR1 σ g w y v:=by
 unfold le1 at h;split at h
 ·exact leSV_ok h hv
 ·obtain⟨vs,rfl,h2,h3⟩:=hv;obtain⟨e,hg⟩:=leL_ok h;refine⟨vs,rfl,by omega,fun i s u hi hu=>?_⟩
  obtain⟨x,h4,h5⟩:=hg i s hi;exact leSV_ok h5 (h3 i x u h4 hu)
 ·cases h
theorem leAs_ok:∀ {xs ys:List AV},leAs xs ys=true→xs.length=ys.length∧∀ (i:Nat) (y:AV),ys[i]?=some y→∃ x,xs[i]?=some x∧le1 x y=true
 | [],[],_=>⟨rfl,fun i y h=>by simp at h⟩
 | x::r,y::s,h=>by
  unfold leAs at h;rw [Bool.and_eq_true] at h;obtain⟨e,ih⟩:=leAs_ok h.2;refine⟨by simp [e],fun i z hi=>?_⟩
  cases i with
  | zero=>cases hi;exact⟨x,rfl,h.1⟩
  | succ i=>exact ih i z hi
 | [],_::_,h=>by cases h
 | _::_,[],h=>by cases h
theorem leAV_ok {x y:AV} (h:leAV x y=true) {v:Value} (hv:VR2 σ g w x v):VR2 σ g w y v:=by
 unfold leAV at h;split at h
 ·obtain⟨vs,rfl,h2,h3⟩:=hv;obtain⟨e,hg⟩:=leAs_ok h;refine⟨vs,rfl,by omega,fun i s u hi hu=>?_⟩
  obtain⟨x,h4,h5⟩:=hg i s hi;exact le1_ok h5 (h3 i x u h4 hu)
 ·cases x <;> cases y <;> first|exact le1_ok h hv|exact Bool.noConfusion h
end
theorem FnC_le {f:FuncId} {args:List AV} {r:AV} (h:ACall Tryz.prog f args [] (fun r' σ'=>leAV r' r=true∧σ'=[])) (hr:zf6 r=true):FnC Tryz.prog f args r:=by
 refine FnC.of_ACall ⟨h.1,fun w0 K0 g w vs hL hp hs hv=>?_⟩ hr
 refine (h.2 w0 K0 g w vs hL hp hs hv).mono ?_
 rintro e w' ⟨v,g',σ',r',he,hd,hvr,hle,rfl⟩;exact⟨v,g',[],r,he,hd,leAV_ok hle hvr,rfl,rfl⟩
theorem evF0 {M:List (Fact Tryz.prog)} {f:FuncId} {args:List AV} {r:AV} (h:(evH M fns (retH growH) noT noT Tt 100000 60).1.a f args [] (fun r' s=>leAV r' r && s.isEmpty)=true) (hr:zf6 r=true):FnC Tryz.prog f args r:=
 FnC_le (((evH_ok (M:=M) hTt hMix (retH_ok growH_ok) (fun T h=>by cases h) (fun T h=>by cases h) 100000 60).1.a _ _ _ _ h).mono fun r' σ' h=>by
  rw [Bool.and_eq_true] at h;exact⟨h.1,List.isEmpty_iff.1 h.2⟩) hr
end Go.Proofs.YtpfiejadigkgaaaGreatDoor
namespace Go.Proofs
open Go.Shelf
def Tryz.laysM171_ren:Go.Shelf.Ren:=⟨fun|129=>143|171=>108|243=>126|246=>133|283=>153|284=>154|285=>155|286=>156|317=>165|318=>166|319=>167|320=>168|337=>171|338=>172|n=>n,fun|0=>0|2=>2|3=>3|4=>4|5=>5|9=>9|20=>20|37=>189|46=>193|51=>22|53=>211|171=>217|173=>219|212=>229|213=>230|232=>234|233=>235|n=>n,fun|17=>0|18=>1|19=>2|n=>n⟩
theorem Tryz.laysM171:Go.Proofs.LaysM.n171 Tryz.prog Tryz.laysM171_ren:={
 mixed:=by kernel_rfl
 f129:=Tryz.func143.trans (congrArg some (by kernel_rfl))
 f171:=Tryz.func108.trans (congrArg some (by kernel_rfl))
 f243:=Tryz.func126.trans (congrArg some (by kernel_rfl))
 f246:=Tryz.func133.trans (congrArg some (by kernel_rfl))
 f283:=Tryz.func153.trans (congrArg some (by kernel_rfl))
 f284:=Tryz.func154.trans (congrArg some (by kernel_rfl))
 f285:=Tryz.func155.trans (congrArg some (by kernel_rfl))
 f286:=Tryz.func156.trans (congrArg some (by kernel_rfl))
 f317:=Tryz.func165.trans (congrArg some (by kernel_rfl))
 f318:=Tryz.func166.trans (congrArg some (by kernel_rfl))
 f319:=Tryz.func167.trans (congrArg some (by kernel_rfl))
 f320:=Tryz.func168.trans (congrArg some (by kernel_rfl))
 f337:=Tryz.func171.trans (congrArg some (by kernel_rfl))
 f338:=Tryz.func172.trans (congrArg some (by kernel_rfl))
 t0:=Tryz.underlying0
 a0:=Tryz.isAgg0
 z0:=Tryz.sizeOf0
 v0:=Tryz.zeroValue0
 t2:=Tryz.underlying2
 a2:=Tryz.isAgg2
 z2:=Tryz.sizeOf2
 v2:=Tryz.zeroValue2
 t3:=Tryz.underlying3
 a3:=Tryz.isAgg3
 z3:=Tryz.sizeOf3
 v3:=Tryz.zeroValue3
 t4:=Tryz.underlying4
 a4:=Tryz.isAgg4
 z4:=Tryz.sizeOf4
 v4:=Tryz.zeroValue4
 t5:=Tryz.underlying5
 a5:=Tryz.isAgg5
 z5:=Tryz.sizeOf5
 v5:=Tryz.zeroValue5
 t9:=Tryz.underlying9
 a9:=Tryz.isAgg9
 z9:=Tryz.sizeOf9
 v9:=Tryz.zeroValue9
 t20:=Tryz.underlying20
 a20:=Tryz.isAgg20
 z20:=Tryz.sizeOf20
 v20:=Tryz.zeroValue20
 t37:=Tryz.underlying189
 a37:=Tryz.isAgg189
 z37:=Tryz.sizeOf189
 v37:=Tryz.zeroValue189
 t46:=Tryz.underlying193
 a46:=Tryz.isAgg193
 z46:=Tryz.sizeOf193
 v46:=Tryz.zeroValue193
 t51:=Tryz.underlying22
 a51:=Tryz.isAgg22
 z51:=Tryz.sizeOf22
 v51:=Tryz.zeroValue22
 t53:=Tryz.underlying211
 a53:=Tryz.isAgg211
 z53:=Tryz.sizeOf211
 v53:=Tryz.zeroValue211
 t171:=Tryz.underlying217
 a171:=Tryz.isAgg217
 z171:=Tryz.sizeOf217
 v171:=Tryz.zeroValue217
 t173:=Tryz.underlying219
 a173:=Tryz.isAgg219
 z173:=Tryz.sizeOf219
 v173:=Tryz.zeroValue219
 t212:=Tryz.underlying229
 a212:=Tryz.isAgg229
 z212:=Tryz.sizeOf229
 v212:=Tryz.zeroValue229
 t213:=Tryz.underlying230
 a213:=Tryz.isAgg230
 z213:=Tryz.sizeOf230
 t232:=Tryz.underlying234
 a232:=Tryz.isAgg234
 z232:=Tryz.sizeOf234
 v232:=Tryz.zeroValue234
 t233:=Tryz.underlying235
 a233:=Tryz.isAgg235
 z233:=Tryz.sizeOf235
 v233:=Tryz.zeroValue235
 g17:=by kernel_rfl
 g18:=by kernel_rfl
 g19:=by kernel_rfl
 i0:=by kernel_rfl
 i2:=by kernel_rfl
 i3:=by kernel_rfl
 i4:=by kernel_rfl
 i5:=by kernel_rfl
 i9:=by kernel_rfl
 i20:=by kernel_rfl
 i37:=by kernel_rfl
 i46:=by kernel_rfl
 i51:=by kernel_rfl
 i53:=by kernel_rfl
 i171:=by kernel_rfl
 i173:=by kernel_rfl
 i212:=by kernel_rfl
 i232:=by kernel_rfl
 i233:=by kernel_rfl
 m17:=by kernel_rfl
 m18:=by kernel_rfl
 m19:=by kernel_rfl }
end Go.Proofs
namespace Go.Proofs.YtpfiejadigkgaaaGreatDoor
open Go Go.QL Go.RowKit FoT
set_option maxHeartbeats 1600000
set_option maxRecDepth 20000
attribute [local irreducible] ACall FnC YC
theorem zod (n:Int) (h0 : -9223372036854775808≤n) (h1:n≤9223372036854775807):FnC Tryz.prog 108 [iv .i64 n] (sv ⟨(Lib.itoa n).toArray⟩):=by
 unfold FnC;refine⟨⟨_,Tryz.func108,rfl,rfl⟩,fun K w vs hL hK hs hv=>?_⟩
 obtain⟨v,rfl⟩:∃ v,vs = #[v]:=by
  match vs,hs with
  | ⟨[v]⟩,_=>exact⟨v,rfl⟩
 have h2:=hv 0 (iv .i64 n) v rfl rfl;have hvi:v=.int .i64 n:=by
  cases h2 with
  | d _ _ h=>cases h;rfl
 subst hvi;refine Calls.mono (show Calls Tryz.prog 108 #[.int .i64 n] w _ from Any.strconv_Itoa Tryz.laysM171 n h0 h1 w (hL.tab (by decide +kernel) (by kernel_rfl:_=some 0))) ?_
 rintro e w' ⟨rfl,k,os,rfl⟩;have hb:=Lib.below_grow w.heap.size w (Nat.le_refl _) k os;refine⟨_,K,rfl,hb,⟨fun _ _ h=>h,fun b o hk=>?_⟩,fun _ _ _ h=>h,fun b o hk=>Nat.lt_of_lt_of_le (hK b o hk) hb.size,zL _ rfl⟩
 exact hb.cell (hK b o hk)
def intsOf:SV→Option (List Int)
 | .d (.s 1 xs)=>xs.mapM fun r=>match r with|[.v (.int .i64 n)]=>some n|_=>none
 | .d (.v (.slice none 0 0))=>some []
 | _=>none
theorem ints_map:∀ {xs:List (List PV)} {l:List Int},(xs.mapM fun r=>match r with|[PV.v (.int .i64 n)]=>some n|_=>none)=some l→xs=l.map iPV
 | [],l,h=>by cases h;rfl
 | x::r,l,h=>by
  rw [List.mapM_cons] at h;split at h
  ·rename_i n;cases hr:(r.mapM fun r=>match r with|[PV.v (.int .i64 n)]=>some n|_=>none) with
   | none=>rw [hr] at h;cases h
   | some l'=>rw [hr] at h;cases h;rw [ints_map hr];rfl
  ·cases h
theorem intsOf_ok {s:SV} {l:List Int} (h:intsOf s=some l):LeSV s (.d (zR l)):=by
 unfold intsOf at h;split at h
 ·rw [ints_map h];exact .inl rfl
 ·cases h;exact .inr ⟨rfl,1,rfl⟩
 ·cases h
def intOf:SV→Option Int
 | .d (.v (.int .i64 n))=>some n
 | _=>none
theorem intOf_ok {s:SV} {n:Int} (h:intOf s=some n):s=iC n:=by
 unfold intOf at h;split at h
 ·cases h;rfl
 ·cases h
def stOf:List SV→Option OrS
 | [a,b,c,d,e,f,g,i]=>match intsOf a,intsOf b,intOf c,intsOf d,intOf e,intOf f,intOf g,intOf i with
  | some a,some b,some c,some d,some e,some f,some g,some i=>some ⟨a,b,c,d,e,f,g,i⟩
  | _,_,_,_,_,_,_,_=>none
 | _=>none
theorem stOf_ok {cs:List SV} {s:OrS} (h:stOf cs=some s):LeW1 (.a cs) (stAV s):=by
 unfold stOf at h;split at h
 ·split at h
  ·rename_i h1 h2 h3 h4 h5 h6 h7 h8;cases h;rw [intOf_ok h3,intOf_ok h5,intOf_ok h6,intOf_ok h7,intOf_ok h8];exact⟨intsOf_ok h1,intsOf_ok h2,.inl rfl,intsOf_ok h4,.inl rfl,.inl rfl,.inl rfl,.inl rfl,trivial⟩
  ·cases h
 ·cases h
def wordB (n:Int):Bool:=decide (0≤n∧n≤16777215)
def goodB (s:OrS):Bool:=Nat.beq s.store.length 128 && s.store.all wordB && Nat.ble s.tape.length 200 && s.tape.all wordB && decide (0≤s.taken∧s.taken≤s.tape.length) && Nat.ble s.printed.length 200 && s.printed.all wordB &&
 decide (0≤s.time∧s.time≤1000000000) && decide (0≤s.at_∧s.at_≤127) && decide (0≤s.done∧s.done≤s.time) && decide (0≤s.why∧s.why≤4) && decide ((s.time - s.at_) % 16=0)
theorem wordsB {l:List Int} (h:l.all wordB=true):∀ w ∈ l,zP w:=fun w hw=>by
 have:=of_decide_eq_true (List.all_eq_true.1 h w hw);unfold zP;omega
theorem goodB_ok {s:OrS} (h:goodB s=true):GoodS s:=by
 unfold goodB at h;simp only [Bool.and_eq_true,decide_eq_true_eq] at h;obtain⟨⟨⟨⟨⟨⟨⟨⟨⟨⟨⟨h1,h2⟩,h3⟩,h4⟩,h5⟩,h6⟩,h7⟩,h8⟩,h9⟩,h10⟩,h11⟩,h12⟩:=h;exact⟨⟨Nat.eq_of_beq_eq_true h1,wordsB h2,Nat.le_of_ble_eq_true h3,wordsB h4,h5,Nat.le_of_ble_eq_true h6,wordsB h7,h8,h9,h10,h11⟩,h12⟩
theorem run_fact {cs:List SV} {n:Int} {r:AV} (h:(match stOf cs with|some s=>goodB s && decide (0≤n∧n≤5000) && eqAV (.t [stAV (runO n.toNat s),iv .i64 0]) r|none=>false)=true):FnC Tryz.prog 9 [.a cs,iv .i64 n] r:=by
 split at h
 ·rename_i s hs;simp only [Bool.and_eq_true,decide_eq_true_eq] at h;rw [← eqAV_ok h.2];obtain⟨hg,hn⟩:=h.1;have h1:=orun_fn s (goodB_ok hg) n.toNat (by omega);rw [Int.toNat_of_nonneg hn.1] at h1;unfold FnC at h1 ⊢;refine⟨h1.1,fun K w vs hL hK hs' hv=>h1.2 K w vs hL hK hs' fun i x v hi hv'=>?_⟩
  match i with
  | 0=>cases hi;exact LeW1.ok (stOf_ok hs) (hv 0 (.a cs) v rfl hv')
  | 1=>cases hi;exact hv 1 _ v rfl hv'
  | i+2=>cases hi
 ·cases h
theorem chk_fact {cs:List SV} (h:(match stOf cs with|some s=>goodB s|none=>false)=true):FnC Tryz.prog 62 [.a cs] (.t [iv .i64 0,iv .i64 0,iv .i64 0]):=by
 split at h
 ·rename_i s hs;have h1:=ocheck_fn s (goodB_ok h);unfold FnC at h1 ⊢;refine⟨h1.1,fun K w vs hL hK hs' hv=>h1.2 K w vs hL hK hs' fun i x v hi hv'=>?_⟩
  match i with
  | 0=>cases hi;exact LeW1.ok (stOf_ok hs) (hv 0 (.a cs) v rfl hv')
  | i+1=>cases hi
 ·cases h
theorem itoa_fact {n:Int} {r:AV} (h:(decide (-9223372036854775808≤n∧n≤9223372036854775807) && eqAV (sv ⟨(Lib.itoa n).toArray⟩) r)=true):FnC Tryz.prog 108 [iv .i64 n] r:=by
 rw [Bool.and_eq_true,decide_eq_true_eq] at h;rw [← eqAV_ok h.2];exact zod n h.1.1 h.1.2
end Go.Proofs.YtpfiejadigkgaaaGreatDoor
namespace Go.Proofs.YtpfiejadigkgaaaGreatDoor
open Go Go.QL FoT
set_option maxRecDepth 1000000
def da0:List AV:=[.a [I 2,.d (.s 3 [[.v (.int .i64 (5)),.v (.int .i64 (7)),.v (.int .i64 (0))],[.v (.int .i64 (3)),.v (.int .i64 (0)),.v (.int .i64 (1))],[.v (.int .i64 (3)),.v (.int .i64 (3)),.v (.int .i64 (2))],[.v (.int .i64 (1)),.v (.int .i64 (0)),.v (.int .i64 (1))],[.v (.int .i64 (1)),.v (.int .i64 (3)),.v (.int .i64 (2))],[.v (.int .i64 (2)),.v (.int .i64 (5)),.v (.int .i64 (6))]]),.d (.s 1 [i 4])]]
def dr0:AV:=.t [.x (I 0),.x (I 0),.x (I 0)]
theorem dk0:FnC Tryz.prog 16 da0 dr0:=evF0 (M:=[]) (by kernel_rfl) (by kernel_rfl)
def df0:Fact Tryz.prog:=⟨16,da0,dr0,fun σ=>dk0.call (by kernel_rfl) (by kernel_rfl)⟩
def da1:List AV:=[.a [I 2,.d (.s 3 [[.v (.int .i64 (5)),.v (.int .i64 (7)),.v (.int .i64 (0))],[.v (.int .i64 (3)),.v (.int .i64 (0)),.v (.int .i64 (1))],[.v (.int .i64 (3)),.v (.int .i64 (3)),.v (.int .i64 (2))],[.v (.int .i64 (1)),.v (.int .i64 (0)),.v (.int .i64 (1))],[.v (.int .i64 (1)),.v (.int .i64 (3)),.v (.int .i64 (2))],[.v (.int .i64 (2)),.v (.int .i64 (5)),.v (.int .i64 (6))]]),.d (.s 1 [i 4])],.x (.d (.s 1 [i 3,i 1,i 0]))]
def dr1:AV:=.t [.x (.d (.s 1 [i 0,i 0,i 1])),.x (I 0)]
theorem dk1:FnC Tryz.prog 35 da1 dr1:=evF0 (M:=[df0]) (by kernel_rfl) (by kernel_rfl)
def df1:Fact Tryz.prog:=⟨35,da1,dr1,fun σ=>dk1.call (by kernel_rfl) (by kernel_rfl)⟩
def da2:List AV:=[.a [I 2,.d (.s 3 [[.v (.int .i64 (5)),.v (.int .i64 (7)),.v (.int .i64 (0))],[.v (.int .i64 (3)),.v (.int .i64 (0)),.v (.int .i64 (1))],[.v (.int .i64 (3)),.v (.int .i64 (3)),.v (.int .i64 (2))],[.v (.int .i64 (1)),.v (.int .i64 (0)),.v (.int .i64 (1))],[.v (.int .i64 (1)),.v (.int .i64 (3)),.v (.int .i64 (2))],[.v (.int .i64 (2)),.v (.int .i64 (5)),.v (.int .i64 (6))]]),.d (.s 1 [i 4])],.x (I 1),.x (I 1)]
def dr2:AV:=.t [.x (I 1),.x (I 0),.x (I 0)]
theorem dk2:FnC Tryz.prog 37 da2 dr2:=evF0 (M:=[df0]) (by kernel_rfl) (by kernel_rfl)
def df2:Fact Tryz.prog:=⟨37,da2,dr2,fun σ=>dk2.call (by kernel_rfl) (by kernel_rfl)⟩
def da3:List AV:=[.a [I 2,.d (.s 3 [[.v (.int .i64 (5)),.v (.int .i64 (7)),.v (.int .i64 (0))],[.v (.int .i64 (3)),.v (.int .i64 (0)),.v (.int .i64 (1))],[.v (.int .i64 (3)),.v (.int .i64 (3)),.v (.int .i64 (2))],[.v (.int .i64 (1)),.v (.int .i64 (0)),.v (.int .i64 (1))],[.v (.int .i64 (1)),.v (.int .i64 (3)),.v (.int .i64 (2))],[.v (.int .i64 (2)),.v (.int .i64 (5)),.v (.int .i64 (6))]]),.d (.s 1 [i 4])],.a [I 6,I 0]]
def dr3:AV:=.t [.x (.d (.s 1 [i 3,i 1,i 0])),.x (I 0)]
theorem dk3:FnC Tryz.prog 38 da3 dr3:=evF0 (M:=[df0]) (by kernel_rfl) (by kernel_rfl)
def df3:Fact Tryz.prog:=⟨38,da3,dr3,fun σ=>dk3.call (by kernel_rfl) (by kernel_rfl)⟩
end Go.Proofs.YtpfiejadigkgaaaGreatDoor
namespace Go.Proofs.YtpfiejadigkgaaaGreatDoor
open Go Go.QL FoT
set_option maxRecDepth 1000000
def da4:List AV:=[.a [I 2,.d (.s 3 [[.v (.int .i64 (5)),.v (.int .i64 (7)),.v (.int .i64 (0))],[.v (.int .i64 (3)),.v (.int .i64 (0)),.v (.int .i64 (1))],[.v (.int .i64 (3)),.v (.int .i64 (3)),.v (.int .i64 (2))],[.v (.int .i64 (1)),.v (.int .i64 (0)),.v (.int .i64 (1))],[.v (.int .i64 (1)),.v (.int .i64 (3)),.v (.int .i64 (2))],[.v (.int .i64 (2)),.v (.int .i64 (5)),.v (.int .i64 (6))]]),.d (.s 1 [i 4])],.x (.d (.s 2 [[.v (.int .i64 (7)),.v (.int .i64 (0))],[.v (.int .i64 (2)),.v (.int .i64 (1))],[.v (.int .i64 (6)),.v (.int .i64 (0))],[.v (.int .i64 (4)),.v (.int .i64 (0))]])),.x (.d (.s 1 [[.s 1 [i 3,i 0]],[.s 1 [i 0]],[.s 1 [i 3,i 1,i 0]]]))]
def dr4:AV:=.t [.x (.d (.s 1 [[.s 1 [[.s 1 [i 0,i 1]],[.s 1 [i 0,i 0]],[.s 1 [i 1,i 1]],[.s 1 [i 0,i 1]],[.s 1 [i 0,i 0]]]],[.s 1 [[.s 1 [i 0]],[.s 1 [i 0]],[.s 1 [i 1]],[.s 1 [i 0]],[.s 1 [i 0]]]],[.s 1 [[.s 1 [i 0,i 0,i 1]],[.s 1 [i 0,i 1,i 0]],[.s 1 [i 1,i 0,i 1]],[.s 1 [i 0,i 0,i 0]],[.s 1 [i 0,i 0,i 0]]]]])),.x (I 0)]
end Go.Proofs.YtpfiejadigkgaaaGreatDoor
namespace Go.Proofs.YtpfiejadigkgaaaGreatDoor
open Go Go.QL FoT
set_option maxRecDepth 1000000
def da5:List AV:=[.a [I 2,.d (.s 3 [[.v (.int .i64 (5)),.v (.int .i64 (7)),.v (.int .i64 (0))],[.v (.int .i64 (3)),.v (.int .i64 (0)),.v (.int .i64 (1))],[.v (.int .i64 (3)),.v (.int .i64 (3)),.v (.int .i64 (2))],[.v (.int .i64 (1)),.v (.int .i64 (0)),.v (.int .i64 (1))],[.v (.int .i64 (1)),.v (.int .i64 (3)),.v (.int .i64 (2))],[.v (.int .i64 (2)),.v (.int .i64 (5)),.v (.int .i64 (6))]]),.d (.s 1 [i 4])],.x (.d (.s 2 [[.v (.int .i64 (7)),.v (.int .i64 (0))],[.v (.int .i64 (2)),.v (.int .i64 (1))],[.v (.int .i64 (6)),.v (.int .i64 (0))],[.v (.int .i64 (4)),.v (.int .i64 (0))]])),.x (.d (.s 1 [[.s 1 [i 3,i 0]],[.s 1 [i 0]],[.s 1 [i 3,i 1,i 0]]]))]
def dr5:AV:=.t [.x (.d (.s 1 [[.s 1 [[.v (.bool true)],[.v (.bool true)],[.v (.bool false)],[.v (.bool true)]]],[.s 1 [[.v (.bool false)],[.v (.bool true)],[.v (.bool false)],[.v (.bool false)]]],[.s 1 [[.v (.bool true)],[.v (.bool true)],[.v (.bool true)],[.v (.bool true)]]]])),.x (I 0)]
theorem dk5 (h4:FnC Tryz.prog 22 da4 dr4):FnC Tryz.prog 6 da5 dr5:=evF0 (M:=[⟨22,da4,dr4,fun σ=>h4.call (by kernel_rfl) (by kernel_rfl)⟩]) (by kernel_rfl) (by kernel_rfl)
def df5 (h4:FnC Tryz.prog 22 da4 dr4):Fact Tryz.prog:=⟨6,da5,dr5,fun σ=>(dk5 h4).call (by kernel_rfl) (by kernel_rfl)⟩
def da6:List AV:=[.a [I 2,.d (.s 3 [[.v (.int .i64 (5)),.v (.int .i64 (7)),.v (.int .i64 (0))],[.v (.int .i64 (3)),.v (.int .i64 (0)),.v (.int .i64 (1))],[.v (.int .i64 (3)),.v (.int .i64 (3)),.v (.int .i64 (2))],[.v (.int .i64 (1)),.v (.int .i64 (0)),.v (.int .i64 (1))],[.v (.int .i64 (1)),.v (.int .i64 (3)),.v (.int .i64 (2))],[.v (.int .i64 (2)),.v (.int .i64 (5)),.v (.int .i64 (6))]]),.d (.s 1 [i 4])],.x (.d (.s 2 [[.v (.int .i64 (7)),.v (.int .i64 (0))],[.v (.int .i64 (2)),.v (.int .i64 (1))],[.v (.int .i64 (6)),.v (.int .i64 (0))],[.v (.int .i64 (4)),.v (.int .i64 (0))]])),.x (.d (.s 1 [[.s 1 [i 3,i 0]],[.s 1 [i 0]],[.s 1 [i 3,i 1,i 0]]]))]
def dr6:AV:=.t [.x (.d (.s 1 [i 0,i 2])),.x (I 0)]
theorem dk6 (h4:FnC Tryz.prog 22 da4 dr4):FnC Tryz.prog 40 da6 dr6:=evF0 (M:=[⟨22,da4,dr4,fun σ=>h4.call (by kernel_rfl) (by kernel_rfl)⟩]) (by kernel_rfl) (by kernel_rfl)
def df6 (h4:FnC Tryz.prog 22 da4 dr4):Fact Tryz.prog:=⟨40,da6,dr6,fun σ=>(dk6 h4).call (by kernel_rfl) (by kernel_rfl)⟩
end Go.Proofs.YtpfiejadigkgaaaGreatDoor
namespace Go.Proofs.YtpfiejadigkgaaaGreatDoor
open Go Go.QL FoT
set_option maxRecDepth 1000000
def da7:List AV:=[.a [I 2,.d (.s 3 [[.v (.int .i64 (5)),.v (.int .i64 (7)),.v (.int .i64 (0))],[.v (.int .i64 (3)),.v (.int .i64 (0)),.v (.int .i64 (1))],[.v (.int .i64 (3)),.v (.int .i64 (3)),.v (.int .i64 (2))],[.v (.int .i64 (1)),.v (.int .i64 (0)),.v (.int .i64 (1))],[.v (.int .i64 (1)),.v (.int .i64 (3)),.v (.int .i64 (2))],[.v (.int .i64 (2)),.v (.int .i64 (5)),.v (.int .i64 (6))]]),.d (.s 1 [i 4])],.a [I 2,.d (.s 3 [[.v (.int .i64 (5)),.v (.int .i64 (7)),.v (.int .i64 (0))],[.v (.int .i64 (3)),.v (.int .i64 (0)),.v (.int .i64 (1))],[.v (.int .i64 (3)),.v (.int .i64 (3)),.v (.int .i64 (2))],[.v (.int .i64 (1)),.v (.int .i64 (0)),.v (.int .i64 (1))],[.v (.int .i64 (1)),.v (.int .i64 (3)),.v (.int .i64 (2))],[.v (.int .i64 (2)),.v (.int .i64 (5)),.v (.int .i64 (6))]]),.d (.s 1 [i 4])]]
def dr7:AV:=.t [.x (.d (.v (.slice none 0 0))),.x (I 9)]
theorem dk7:FnC Tryz.prog 41 da7 dr7:=evF0 (M:=[df0]) (by kernel_rfl) (by kernel_rfl)
def df7:Fact Tryz.prog:=⟨41,da7,dr7,fun σ=>dk7.call (by kernel_rfl) (by kernel_rfl)⟩
def da8:List AV:=[.x (I 2)]
def dr8:AV:=.x (.d (.v (.string ⟨#[50]⟩)))
theorem dk8:FnC Tryz.prog 108 da8 dr8:=itoa_fact (by kernel_rfl)
def df8:Fact Tryz.prog:=⟨108,da8,dr8,fun σ=>dk8.call (by kernel_rfl) (by kernel_rfl)⟩
def da9:List AV:=[.x (I 7)]
def dr9:AV:=.x (.d (.v (.string ⟨#[55]⟩)))
theorem dk9:FnC Tryz.prog 108 da9 dr9:=itoa_fact (by kernel_rfl)
def df9:Fact Tryz.prog:=⟨108,da9,dr9,fun σ=>dk9.call (by kernel_rfl) (by kernel_rfl)⟩
def da10:List AV:=[.x (I 0)]
def dr10:AV:=.x (.d (.v (.string ⟨#[48]⟩)))
theorem dk10:FnC Tryz.prog 108 da10 dr10:=itoa_fact (by kernel_rfl)
def df10:Fact Tryz.prog:=⟨108,da10,dr10,fun σ=>dk10.call (by kernel_rfl) (by kernel_rfl)⟩
def da11:List AV:=[.x (I 1)]
def dr11:AV:=.x (.d (.v (.string ⟨#[49]⟩)))
theorem dk11:FnC Tryz.prog 108 da11 dr11:=itoa_fact (by kernel_rfl)
def df11:Fact Tryz.prog:=⟨108,da11,dr11,fun σ=>dk11.call (by kernel_rfl) (by kernel_rfl)⟩
def da12:List AV:=[.x (I 3)]
def dr12:AV:=.x (.d (.v (.string ⟨#[51]⟩)))
theorem dk12:FnC Tryz.prog 108 da12 dr12:=itoa_fact (by kernel_rfl)
def df12:Fact Tryz.prog:=⟨108,da12,dr12,fun σ=>dk12.call (by kernel_rfl) (by kernel_rfl)⟩
def da13:List AV:=[.x (I 5)]
def dr13:AV:=.x (.d (.v (.string ⟨#[53]⟩)))
theorem dk13:FnC Tryz.prog 108 da13 dr13:=itoa_fact (by kernel_rfl)
def df13:Fact Tryz.prog:=⟨108,da13,dr13,fun σ=>dk13.call (by kernel_rfl) (by kernel_rfl)⟩
def da14:List AV:=[.x (I 6)]
def dr14:AV:=.x (.d (.v (.string ⟨#[54]⟩)))
theorem dk14:FnC Tryz.prog 108 da14 dr14:=itoa_fact (by kernel_rfl)
def df14:Fact Tryz.prog:=⟨108,da14,dr14,fun σ=>dk14.call (by kernel_rfl) (by kernel_rfl)⟩
def da15:List AV:=[.x (I 4)]
def dr15:AV:=.x (.d (.v (.string ⟨#[52]⟩)))
theorem dk15:FnC Tryz.prog 108 da15 dr15:=itoa_fact (by kernel_rfl)
def df15:Fact Tryz.prog:=⟨108,da15,dr15,fun σ=>dk15.call (by kernel_rfl) (by kernel_rfl)⟩
end Go.Proofs.YtpfiejadigkgaaaGreatDoor
namespace Go.Proofs.YtpfiejadigkgaaaGreatDoor
open Go Go.QL FoT
set_option maxRecDepth 1000000
def da16:List AV:=[.a [I 2,.d (.s 3 [[.v (.int .i64 (5)),.v (.int .i64 (7)),.v (.int .i64 (0))],[.v (.int .i64 (3)),.v (.int .i64 (0)),.v (.int .i64 (1))],[.v (.int .i64 (3)),.v (.int .i64 (3)),.v (.int .i64 (2))],[.v (.int .i64 (1)),.v (.int .i64 (0)),.v (.int .i64 (1))],[.v (.int .i64 (1)),.v (.int .i64 (3)),.v (.int .i64 (2))],[.v (.int .i64 (2)),.v (.int .i64 (5)),.v (.int .i64 (6))]]),.d (.s 1 [i 4])]]
def dr16:AV:=.t [.x (.d (.v (.string ⟨#[105,110,112,117,116,115,32,50,10,100,101,108,97,121,32,55,10,120,111,114,32,48,32,49,10,120,111,114,32,51,32,50,10,97,110,100,32,48,32,49,10,97,110,100,32,51,32,50,10,111,114,32,53,32,54,10,111,117,116,112,117,116,115,32,52,10]⟩))),.x (I 0)]
theorem dk16:FnC Tryz.prog 42 da16 dr16:=evF0 (M:=[df0,df8,df9,df10,df11,df12,df13,df14,df15]) (by kernel_rfl) (by kernel_rfl)
def df16:Fact Tryz.prog:=⟨42,da16,dr16,fun σ=>dk16.call (by kernel_rfl) (by kernel_rfl)⟩
def da17:List AV:=[]
def dr17:AV:=.x (.d (.v (.bool true)))
theorem dk17 (h4:FnC Tryz.prog 22 da4 dr4):FnC Tryz.prog 12 da17 dr17:=evF0 (M:=[df1,df2,df3,df5 h4,df6 h4,df7,df16]) (by kernel_rfl) (by kernel_rfl)
end Go.Proofs.YtpfiejadigkgaaaGreatDoor
namespace Go.Proofs.YtpfiejadigkgaaaGreatDoor
open Go Go.QL Go.RowKit FoT
set_option maxHeartbeats 1600000
set_option maxRecDepth 20000
attribute [local irreducible] ACall FnC YC
theorem run_why (F:Option FltT) {s:OrS} (h:s.why≠0):∀ n k,runM F n k s=s
 | 0,_=>rfl
 | n+1,k=>by
  rw [runM];have:doM F k s=s:=by
   unfold doM hitM;cases F with
   | none=>exact run_stop 1 h
   | some f=>
    dsimp only;rw [if_neg (fun e=>h e.2),run_stop 1 h]
  rw [this,run_why F h n]
def sameB (f:FltT) (s:OrS):Bool:=((List.range 14).all fun i=>decide (runM (some f) (i+1) 0 s=runM none (i+1) 0 s)) && decide ((runM none 14 0 s).why≠0)
theorem sameB_ok {f:FltT} {s:OrS} (h:sameB f s=true) (i:Nat):runM (some f) (i+1) 0 s=runM none (i+1) 0 s:=by
 unfold sameB at h;rw [Bool.and_eq_true,List.all_eq_true] at h;have key:∀ i,i < 14→runM (some f) (i+1) 0 s=runM none (i+1) 0 s:=fun i hi=>of_decide_eq_true (h.1 i (List.mem_range.2 hi))
 rcases Nat.lt_or_ge i 14 with hi|hi
 ·exact key i hi
 ·have hw:(runM none 14 0 s).why≠0:=of_decide_eq_true h.2;rw [show i+1=14+(i - 13) by omega,runM_add,runM_add,key 13 (by decide),run_why _ hw,run_why _ hw]
theorem first_fact {cs:List SV} {a b c:Int} {r:AV} (h:(match stOf cs with|some s=>goodB s && decide ((0≤a∧a≤1000)∧(0≤b∧b≤127)∧(1≤c∧c≤16777215)) && sameB ⟨a,b,c⟩ s && eqAV (.t [iv .i64 0,.a zStep,iv .i64 9]) r|none=>false)=true) :
  FnC Tryz.prog 11 [.a cs,fltsAV [⟨a,b,c⟩],iv .i64 100] r:=by
 split at h
 ·rename_i s hs;simp only [Bool.and_eq_true,decide_eq_true_eq] at h;rw [← eqAV_ok h.2];obtain⟨⟨hg,hf⟩,hsm⟩:=h.1;have h1:=first_same s (goodB_ok hg) ⟨a,b,c⟩ hf 100 (by decide) fun i _=>sameB_ok hsm i
  unfold FnC at h1 ⊢;refine⟨h1.1,fun K w vs hL hK hs' hv=>h1.2 K w vs hL hK hs' fun i x v hi hv'=>?_⟩
  match i with
  | 0=>cases hi;exact LeW1.ok (stOf_ok hs) (hv 0 (.a cs) v rfl hv')
  | i+1=>exact hv (i+1) x v hi hv'
 ·cases h
end Go.Proofs.YtpfiejadigkgaaaGreatDoor
end
