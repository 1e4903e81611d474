/- What the functions that this law reaches return: part 0. No condition. -/
import Derived.Test.YtidkoikjdghlmaaGreatDoorB05
import Derived.Shelf.Strings.Cut
import Derived.Shelf.Lays
import Derived.Test.YtidkoikjdghlmaaGreatDoorProg
import Derived.Lib.IndexMore
set_option linter.all false
noncomputable section
namespace Go.Proofs.YtidkoikjdghlmaaGreatDoor
open Go Go.QL FoT
set_option maxHeartbeats 1600000
attribute [local irreducible] ACall FnC
def bs (l:Bs8):ByteArray:=⟨l.toArray⟩
theorem zbj (l:Bs8):(bs l).size=l.length:=List.size_toArray ..
theorem zco (l:Bs8):(bs l).data.toList=l:=by simp [bs]
theorem zsc (s:ByteArray):bs s.data.toList=s:=by
 apply ByteArray.ext;simp [bs]
theorem zrs {a b:Bs8} (h:bs a=bs b):a=b:=by
 have:=congrArg (fun s:ByteArray=>s.data.toList) h;simpa [bs] using this
theorem zdf (a b:Bs8):((bs a).toList == (bs b).toList)=decide (a=b):=by
 rw [Bool.eq_iff_iff,Lib.bytes_beq_iff,decide_eq_true_iff];exact⟨zrs,congrArg bs⟩
def zaa (s:Bs8):List PV:=[.v (.string (bs s))]
def zac (V:List Bs8):PV:=.s 1 (V.map zaa)
theorem outB_true {n lo hi:Int}:outB n lo hi=true↔¬ (lo≤n∧n≤hi):=by rw [← zQ];simp
theorem zcE (n lo hi:Int):outB n lo hi=decide (¬ (lo≤n∧n≤hi)):=by
 rw [Bool.eq_iff_iff,outB_true,decide_eq_true_iff]
theorem zpQ (n lo hi:Int):FnC Tryz.prog 48 [iv .i64 n,iv .i64 lo,iv .i64 hi] (bv (outB n lo hi)):=by
 refine hdC Tryz.func48 Tryz.ntmps48 (res:=[.tmp 6]) fun w0 K0=>?_
 repeat' first|refine zd ?_|((first|refine zi ?_|refine regA ?_|refine andA ?_|fail);conv=>whnf)|fail
 rfl
theorem zpj {a c:UInt8}:(a≤c)↔(a.toNat:Int)≤c.toNat:=by rw [UInt8.le_iff_toNat_le];omega
abbrev zoe (c:UInt8):Bool:=bif decide ((c.toNat:Int) ≥ 97) then decide ((c.toNat:Int)≤122) else false
abbrev zkW (i:Nat) (c:UInt8):Bool:=bif decide ((i:Int) > 0) then (bif ((c.toNat:Int) == 95) then true else bif decide ((c.toNat:Int) ≥ 48) then decide ((c.toNat:Int)≤57) else false) else false
theorem zmB (c:UInt8):zoe c=(97≤c && c≤122):=by
 rw [Bool.eq_iff_iff];simp [zoe,zpj]
theorem zmA (i:Nat) (c:UInt8):zkW i c=(!(decide (i=0)) && ((48≤c && c≤57) || c == 95)):=by
 rw [Bool.eq_iff_iff];have e:(c == 95)=((c.toNat:Int) == 95):=by
  rw [Bool.eq_iff_iff,beq_iff_eq,beq_iff_eq,← UInt8.toNat_inj];show c.toNat=95↔_
  omega
 rw [e];simp only [zkW,Bool.cond_eq_ite];simp [zpj,Nat.pos_iff_ne_zero];grind
theorem zg1 (i:Nat) (c:UInt8):zg2 (decide (i=0)) c=(zoe c || zkW i c):=by
 rw [zmB,zmA];rfl
theorem zkd {l:Bs8} (h:1≤l.length):l[l.length - 1]?=some (l.getLastD 0):=by
 rw [List.getLastD_eq_getLast?,List.getLast?_eq_getElem?];rw [List.getElem?_eq_getElem (by omega)];rfl
abbrev zpT (l:Bs8):Bool:=((l.getLastD 0).toNat:Int) == 95
theorem zeo (l:Bs8):zpT l=(l.getLastD 0 == 95):=by
 rw [Bool.eq_iff_iff,beq_iff_eq,beq_iff_eq,← UInt8.toNat_inj];show _↔(l.getLastD 0).toNat=95
 omega
theorem zl3 (l:Bs8):FnC Tryz.prog 26 [sv (bs l)] (bv (zbb l)):=by
 have hsz:=zbj l;have hli:=zco l;have o:=zpQ (bs l).size 1 20;by_cases h1:1≤l.length∧l.length≤20
 ·have ho:outB (bs l).size 1 20=false:=zQ.2 (by omega);rw [ho] at o;have hg:(bs l).data.toList[((bs l).size - 1:Int).toNat]?=some (l.getLastD 0):=by
   rw [hli,show ((bs l).size - 1:Int).toNat=l.length - 1 by omega];exact zkd h1.1
  cases h2:zpT l with
  | true=>
   have hr:zbb l=false:=by
    unfold zbb;rw [← zeo,h2];simp
   rw [hr];refine hdC Tryz.func26 Tryz.ntmps26 (res:=[.tmp 2]) fun w0 K0=>?_
   repeat' first|refine zd ?_|((first|refine zi ?_|refine regA ?_|refine zsn (o) ?_|refine⟨_,ze ⟨by omega,hg⟩,?_⟩|fail);conv=>whnf)|(refine za rfl (fun _=>?_) (zaf h2))|((first|refine zsq ?_|refine andA ?_|fail);conv=>whnf)|fail
   rfl
  | false=>
   have hr:zbb l=z7 true l:=by
    unfold zbb;rw [← zeo,h2,decide_eq_true h1.1,decide_eq_true h1.2];rfl
   rw [hr];have hlen:((bs l).data.toList.map fun c=>[PV.v (.int .u8 c.toNat)]).length=l.length:=by rw [hli,List.length_map]
   have hmax:(bs l).size≤maxLen:=by unfold maxLen;omega
   refine hdC Tryz.func26 Tryz.ntmps26 (res:=[.tmp 2]) fun w0 K0=>?_
   repeat' first|refine zd ?_|refine zc ?_|((first|refine zf ?_|refine regA ?_|refine zsn (o) ?_|refine⟨_,ze ⟨by omega,hg⟩,?_⟩|fail);conv=>whnf)|(refine za rfl (zM h2) (fun _=>?_))|((first|refine And.intro hmax ?_|refine zsq ?_|refine andA ?_|fail);conv=>whnf)|(refine lnA fun hln=>?_;conv=>whnf)|fail
   refine zJ (fun i:Nat=>[(19,iv .i64 i),(18,iv .i64 l.length),(17,.x (.d (.s 1 (l.map fun c=>[.v (.int .u8 c.toNat)]))))]) (fun _=>[])
    (fun i=>i≤l.length∧z7 true l=z7 (decide (i=0)) (l.drop i)) (fun i=>l.length - i) 0 ⟨Nat.zero_le _,rfl⟩
    (Imp.slots ⟨rfl,congrArg (fun k:Nat=>some (iv .i64 k)) hlen,congrArg (fun q:Bs8=>some (AV.x (.d (.s 1 (q.map fun c:UInt8=>[PV.v (.int .u8 (c.toNat:Int))]))))) hli,trivial⟩) ?_
   rintro i ⟨hi,hn⟩;rcases Nat.lt_or_ge i l.length with hil|hil
   ·rw [List.drop_eq_getElem_cons hil,z7,zg1] at hn;cases ha:zoe l[i] with
    | true=>
     rw [ha] at hn;have hn:z7 true l=z7 false (l.drop (i+1)):=hn;repeat' first|refine zd ?_|refine zc ?_|((first|refine zf ?_|refine zk ?_|refine zi ?_|refine regA ?_|fail);conv=>whnf)|exact abA hb|(refine za rfl (fun _=>?_) (zaf ha))|((refine pkA ?_);conv=>whnf)|(refine zso rfl (fun hb=>?_) (fun hb=>?_))|((first|refine zsq ?_|refine andA ?_|with_reducible refine exA fun _=>?_|fail);conv=>whnf)|fail
     exact⟨i+1,⟨by omega,hn⟩,by omega,impA⟩
    | false=>
     rw [ha] at hn;cases hc:zkW i l[i] with
     | true=>
      rw [hc] at hn;have hn:z7 true l=z7 false (l.drop (i+1)):=hn;repeat' first|refine zd ?_|refine zc ?_|((first|refine zf ?_|refine zk ?_|refine zi ?_|refine regA ?_|fail);conv=>whnf)|exact abA hb|(refine za rfl (zM ha) (fun _=>?_))|((refine pkA ?_);conv=>whnf)|(refine za rfl (fun _=>?_) (zaf hc))|(refine zso rfl (fun hb=>?_) (fun hb=>?_))|((first|refine zsq ?_|refine andA ?_|with_reducible refine exA fun _=>?_|fail);conv=>whnf)|fail
      exact⟨i+1,⟨by omega,hn⟩,by omega,impA⟩
     | false=>
      rw [hc] at hn;have hn:z7 true l=false:=hn;rw [hn];repeat' first|refine zd ?_|refine zc ?_|((first|refine zf ?_|refine zk ?_|refine zi ?_|refine regA ?_|fail);conv=>whnf)|exact abA hb|(refine za rfl (zM ha) (fun _=>?_))|((refine pkA ?_);conv=>whnf)|(refine za rfl (zM hc) (fun _=>?_))|(refine zso rfl (fun hb=>?_) (fun hb=>?_))|((first|refine andA ?_|with_reducible refine exA fun _=>?_|fail);conv=>whnf)|fail
      rfl
   ·rw [List.drop_eq_nil_of_le hil] at hn;have hn:z7 true l=true:=hn;rw [hn];repeat' first|refine zd ?_|refine zc ?_|((first|refine zf ?_|refine zk ?_|refine zi ?_|refine regA ?_|fail);conv=>whnf)|exact abA hb|(refine zso rfl (fun hb=>?_) (fun hb=>?_))|fail
    rfl
 ·have ho:outB (bs l).size 1 20=true:=outB_true.2 (by omega);rw [ho] at o;have hr:zbb l=false:=by
   unfold zbb;have:(decide (1≤l.length) && decide (l.length≤20))=false:=by
    rw [Bool.eq_false_iff];simp;omega
   rw [this];rfl
  rw [hr];refine hdC Tryz.func26 Tryz.ntmps26 (res:=[.tmp 2]) fun w0 K0=>?_
  repeat' first|refine zd ?_|((first|refine zi ?_|refine regA ?_|refine zsn (o) ?_|refine⟨95,zax (fun h=>absurd h (by decide)),?_⟩|fail);conv=>whnf)|(refine zsu rfl ?_)|((first|refine⟨IntKind.wrap _ _,rfl,?_⟩|refine andA ?_|fail);conv=>whnf)|fail
  rfl
def idxV (t:Bs8):List Bs8→Nat→Int
 | [],_=>-1
 | v::r,i=>if v=t then i else idxV t r (i+1)
theorem zp8 (V:List Bs8) (t:Bs8):FnC Tryz.prog 49 [.x (.d (zac V)),sv (bs t)] (iv .i64 (idxV t V 0)):=by
 refine hdC Tryz.func49 Tryz.ntmps49 (res:=[.tmp 4]) fun w0 K0=>?_
 repeat' first|refine zd ?_|refine zc ?_|((refine regA ?_);conv=>whnf)|(refine lnA fun hln=>?_;conv=>whnf)|fail
 refine zJ (fun i:Nat=>[(8,iv .i64 i),(7,iv .i64 V.length),(0,.x (.d (zac V))),(1,sv (bs t))]) (fun _=>[]) (fun i=>i≤V.length∧idxV t V 0=idxV t (V.drop i) i) (fun i=>V.length - i) 0 ⟨Nat.zero_le _,rfl⟩
  (Imp.slots ⟨rfl,congrArg (fun k:Nat=>some (iv .i64 k)) (List.length_map _),rfl,rfl,trivial⟩) ?_
 rintro i ⟨hi,hfo⟩;rcases Nat.lt_or_ge i V.length with hil|hil
 ·rw [List.drop_eq_getElem_cons hil,idxV] at hfo;by_cases e:V[i]=t
  ·rw [if_pos e] at hfo;have hq:((bs t).toList == (bs V[i]).toList)=true:=by rw [zdf,e];exact decide_eq_true rfl
   repeat' first|refine zd ?_|refine zc ?_|((first|refine zf ?_|refine zk ?_|refine zi ?_|refine regA ?_|fail);conv=>whnf)|exact abA hb|(refine za rfl (fun _=>?_) (zaf hq))|(refine zso rfl (fun hb=>?_) (fun hb=>?_))|((first|refine andA ?_|with_reducible refine exA fun _=>?_|fail);conv=>whnf)|fail
   exact congrArg some (congrArg (iv .i64) hfo.symm)
  ·rw [if_neg e] at hfo;have hq:((bs t).toList == (bs V[i]).toList)=false:=by rw [zdf];exact decide_eq_false (fun h=>e h.symm)
   repeat' first|refine zd ?_|refine zc ?_|((first|refine zf ?_|refine zk ?_|refine zi ?_|refine regA ?_|fail);conv=>whnf)|exact abA hb|(refine za rfl (zM hq) (fun _=>?_))|(refine zso rfl (fun hb=>?_) (fun hb=>?_))|((first|refine zsq ?_|refine andA ?_|with_reducible refine exA fun _=>?_|fail);conv=>whnf)|fail
   exact⟨i+1,⟨by omega,hfo⟩,by omega,impA⟩
 ·rw [List.drop_eq_nil_of_le hil,idxV] at hfo;repeat' first|refine zd ?_|refine zc ?_|((first|refine zf ?_|refine zk ?_|refine zi ?_|refine regA ?_|fail);conv=>whnf)|exact abA hb|(refine zso rfl (fun hb=>?_) (fun hb=>?_))|fail
  exact congrArg some (congrArg (iv .i64) hfo.symm)
theorem zkl (t:Bs8):∀ (V:List Bs8) (i:Nat),(t ∈ V→0≤idxV t V i)∧(t ∉ V→idxV t V i = -1)
 | [],i=>⟨fun h=>(by cases h),fun _=>rfl⟩
 | v::r,i=>by
  rw [idxV];by_cases e:v=t
  ·rw [if_pos e];exact⟨fun _=>by omega,fun h=>absurd (by simp [e]) h⟩
  ·rw [if_neg e];obtain⟨h1,h2⟩:=zkl t r (i+1);refine⟨fun h=>h1 ?_,fun h=>h2 ?_⟩
   ·rcases List.mem_cons.1 h with h|h
    ·exact absurd h.symm e
    ·exact h
   ·exact fun hm=>h (List.mem_cons_of_mem _ hm)
theorem zdW (V:List Bs8) (t:Bs8):FnC Tryz.prog 27 [.x (.d (zac V)),sv (bs t)] (bv (decide (t ∈ V))):=by
 have hc:=zp8 V t;have hr:decide (idxV t V 0 ≥ 0)=decide (t ∈ V):=by
  obtain⟨h1,h2⟩:=zkl t V 0;rw [Bool.eq_iff_iff,decide_eq_true_iff,decide_eq_true_iff];refine⟨fun h=>?_,h1⟩
  by_cases hm:t ∈ V
  ·exact hm
  ·rw [h2 hm] at h;omega
 rw [← hr];generalize idxV t V 0=k at hc;refine hdC Tryz.func27 Tryz.ntmps27 (res:=[.tmp 4]) fun w0 K0=>?_
 repeat' first|refine zd ?_|((first|refine zi ?_|refine regA ?_|refine zsn (hc) ?_|fail);conv=>whnf)|fail
 rfl
theorem zjG (n lo hi:Int):(bif decide (lo≤n) then decide (n≤hi) else false)=decide (lo≤n∧n≤hi):=by
 rw [Bool.eq_iff_iff,decide_eq_true_iff,Bool.cond_eq_ite];by_cases h:lo≤n <;> simp [h]
theorem zpE (n lo hi:Int):FnC Tryz.prog 52 [iv .i64 n,iv .i64 lo,iv .i64 hi] (bv (decide (lo≤n∧n≤hi))):=by
 rw [← zjG];refine hdC Tryz.func52 Tryz.ntmps52 (res:=[.tmp 6]) fun w0 K0=>?_
 repeat' first|refine zd ?_|((first|refine zi ?_|refine regA ?_|refine pkA ?_|fail);conv=>whnf)|fail
 rfl
abbrev rLet (c:UInt8):Bool:=bif decide ((c.toNat:Int) ≥ 97) then decide ((c.toNat:Int)≤122) else false
abbrev rOth (c:UInt8):Bool:=bif (bif decide ((c.toNat:Int) ≥ 48) then decide ((c.toNat:Int)≤57) else false) then true else ((c.toNat:Int) == 95)
theorem znw (i:Nat) (c:UInt8):(bif (!rLet c) then (bif ((i:Int) == 0) then true else !rOth c) else false) = !zg2 (decide (i=0)) c:=by
 rw [zg1];show _ = !(rLet c || zkW i c)
 cases rLet c with
 | true=>rfl
 | false=>
  rw [Bool.false_or,Bool.not_false,cond_true];unfold zkW rOth;by_cases hi:i=0
  ·subst hi;rfl
  ·rw [beq_eq_false_iff_ne.2 (by omega),decide_eq_true (show (i:Int) > 0 by omega),cond_false,cond_true];cases decide ((c.toNat:Int) ≥ 48) <;> cases decide ((c.toNat:Int)≤57) <;> cases ((c.toNat:Int) == 95) <;> rfl
theorem znv (l:Bs8):FnC Tryz.prog 31 [sv (bs l)] (bv (zbb l)):=by
 have hsz:=zbj l;have hli:=zco l;have o:=zpE (bs l).size 1 20;by_cases h1:1≤l.length∧l.length≤20
 ·have ho:decide ((1:Int)≤(bs l).size∧((bs l).size:Int)≤20)=true:=decide_eq_true (by omega);rw [ho] at o;have hg:(bs l).data.toList[((bs l).size - 1:Int).toNat]?=some (l.getLastD 0):=by
   rw [hli,show ((bs l).size - 1:Int).toNat=l.length - 1 by omega];exact zkd h1.1
  cases h2:zpT l with
  | true=>
   have hr:zbb l=false:=by
    unfold zbb;rw [← zeo,h2];simp
   rw [hr];refine hdC Tryz.func31 Tryz.ntmps31 (res:=[.tmp 2]) fun w0 K0=>?_
   repeat' first|refine zd ?_|((first|refine zi ?_|refine regA ?_|refine zsn (o) ?_|refine⟨_,ze ⟨by omega,hg⟩,?_⟩|fail);conv=>whnf)|(refine za rfl (fun _=>?_) (zaf h2))|((first|refine zsq ?_|refine andA ?_|fail);conv=>whnf)|fail
   rfl
  | false=>
   have hr:zbb l=z7 true l:=by
    unfold zbb;rw [← zeo,h2,decide_eq_true h1.1,decide_eq_true h1.2];rfl
   rw [hr];refine hdC Tryz.func31 Tryz.ntmps31 (res:=[.tmp 2]) fun w0 K0=>?_
   repeat' first|refine zd ?_|refine zc ?_|((first|refine zf ?_|refine regA ?_|refine zsn (o) ?_|refine⟨_,ze ⟨by omega,hg⟩,?_⟩|fail);conv=>whnf)|(refine za rfl (zM h2) (fun _=>?_))|((first|refine zsq ?_|refine andA ?_|fail);conv=>whnf)|fail
   refine zJ (fun i:Nat=>[(3,iv .i64 i),(0,sv (bs l))]) (fun _=>[])
    (fun i=>i≤l.length∧z7 true l=z7 (decide (i=0)) (l.drop i)) (fun i=>l.length - i) 0 ⟨Nat.zero_le _,rfl⟩ impA ?_
   rintro i ⟨hi,hn⟩;rcases Nat.lt_or_ge i l.length with hil|hil
   ·rw [List.drop_eq_getElem_cons hil,z7] at hn;have hgi:(bs l).data.toList[(i:Int).toNat]?=some l[i]:=by rw [hli,Int.toNat_natCast,List.getElem?_eq_getElem hil]
    have hq:=znw i l[i];cases ha:zg2 (decide (i=0)) l[i] with
    | true=>
     rw [ha] at hn hq;have hn:z7 true l=z7 (decide (i+1=0)) (l.drop (i+1)):=hn;repeat' first|refine zd ?_|refine zc ?_|((first|refine zf ?_|refine zk ?_|refine zi ?_|refine regA ?_|refine drA (id:=6) 27 false [0,0,3,7,15,31,31,127,255,511,0,0,3072,7168,15391,31775,31775,130079,261151,523295,1047583,2096159,2096159,8387615,16776223,33553439,2097151,134217727] ?_|fail);conv=>whnf)|exact abA hb|(refine za rfl (zM hq) (fun _=>?_))|((first|refine pkA ?_|refine⟨_,ze ⟨by omega,hgi⟩,?_⟩|fail);conv=>whnf)|(refine zso rfl (fun hb=>?_) (fun hb=>?_))|((first|refine zsq ?_|refine andA ?_|fail);conv=>whnf)|fail
     exact⟨i+1,⟨by omega,hn⟩,by omega,impA⟩
    | false=>
     rw [ha] at hn hq;have hn:z7 true l=false:=hn;rw [hn];repeat' first|refine zd ?_|refine zc ?_|((first|refine zf ?_|refine zk ?_|refine zi ?_|refine regA ?_|refine drA (id:=6) 27 false [0,0,3,7,15,31,31,127,255,511,0,0,3072,7168,15391,31775,31775,130079,261151,523295,1047583,2096159,2096159,8387615,16776223,33553439,2097151,134217727] ?_|fail);conv=>whnf)|exact abA hb|(refine za rfl (fun _=>?_) (zaf hq))|((first|refine pkA ?_|refine⟨_,ze ⟨by omega,hgi⟩,?_⟩|fail);conv=>whnf)|(refine zso rfl (fun hb=>?_) (fun hb=>?_))|((refine andA ?_);conv=>whnf)|fail
     rfl
   ·rw [List.drop_eq_nil_of_le hil] at hn;have hn:z7 true l=true:=hn;rw [hn];repeat' first|refine zd ?_|refine zc ?_|((first|refine zf ?_|refine zk ?_|refine zi ?_|refine regA ?_|refine drA (id:=6) 27 false [0,0,3,7,15,31,31,127,255,511,0,0,3072,7168,15391,31775,31775,130079,261151,523295,1047583,2096159,2096159,8387615,16776223,33553439,2097151,134217727] ?_|fail);conv=>whnf)|exact abA hb|(refine zso rfl (fun hb=>?_) (fun hb=>?_))|fail
    rfl
 ·have ho:decide ((1:Int)≤(bs l).size∧((bs l).size:Int)≤20)=false:=decide_eq_false (by omega);rw [ho] at o;have hr:zbb l=false:=by
   unfold zbb;have:(decide (1≤l.length) && decide (l.length≤20))=false:=by
    rw [Bool.eq_false_iff];simp;omega
   rw [this];rfl
  rw [hr];refine hdC Tryz.func31 Tryz.ntmps31 (res:=[.tmp 2]) fun w0 K0=>?_
  repeat' first|refine zd ?_|((first|refine zi ?_|refine regA ?_|refine zsn (o) ?_|refine⟨95,zax (fun h=>absurd h (by decide)),?_⟩|fail);conv=>whnf)|(refine zsu rfl ?_)|((first|refine⟨IntKind.wrap _ _,rfl,?_⟩|refine andA ?_|fail);conv=>whnf)|fail
  rfl
theorem r03in_fn (n lo hi:Int):FnC Tryz.prog 37 [iv .i64 n,iv .i64 lo,iv .i64 hi] (bv (decide (lo≤n∧n≤hi))):=by
 rw [← zjG];refine hdC Tryz.func37 Tryz.ntmps37 (res:=[.tmp 6]) fun w0 K0=>?_
 repeat' first|refine zd ?_|((first|refine zi ?_|refine regA ?_|refine pkA ?_|fail);conv=>whnf)|fail
 rfl
theorem r11in_fn (n lo hi:Int):FnC Tryz.prog 51 [iv .i64 n,iv .i64 lo,iv .i64 hi] (bv (decide (lo≤n∧n≤hi))):=by
 rw [← zjG];refine hdC Tryz.func51 Tryz.ntmps51 (res:=[.tmp 6]) fun w0 K0=>?_
 repeat' first|refine zd ?_|((first|refine zi ?_|refine regA ?_|refine pkA ?_|fail);conv=>whnf)|fail
 rfl
theorem r13in_fn (n lo hi:Int):FnC Tryz.prog 30 [iv .i64 n,iv .i64 lo,iv .i64 hi] (bv (decide (lo≤n∧n≤hi))):=by
 rw [← zjG];refine hdC Tryz.func30 Tryz.ntmps30 (res:=[.tmp 6]) fun w0 K0=>?_
 repeat' first|refine zd ?_|((first|refine zi ?_|refine regA ?_|refine pkA ?_|fail);conv=>whnf)|fail
 rfl
theorem qout_fn (n lo hi:Int):FnC Tryz.prog 47 [iv .i64 n,iv .i64 lo,iv .i64 hi] (bv (outB n lo hi)):=by
 refine hdC Tryz.func47 Tryz.ntmps47 (res:=[.tmp 6]) fun w0 K0=>?_
 repeat' first|refine zd ?_|((first|refine zi ?_|refine regA ?_|refine andA ?_|fail);conv=>whnf)|fail
 rfl
theorem pout_fn (n lo hi:Int):FnC Tryz.prog 25 [iv .i64 n,iv .i64 lo,iv .i64 hi] (bv (outB n lo hi)):=by
 refine hdC Tryz.func25 Tryz.ntmps25 (res:=[.tmp 6]) fun w0 K0=>?_
 repeat' first|refine zd ?_|((first|refine zi ?_|refine regA ?_|refine andA ?_|fail);conv=>whnf)|fail
 rfl
theorem mout1_fn (hi x:Int):ACall Tryz.prog 77 [iv .i64 x,.x (.b 2 0)] [(2,.box [.d (.v (.int .i64 hi))])]
  (fun r σ'=>r=bv (outB x 0 hi)∧σ'=[(2,.box [.d (.v (.int .i64 hi))])]):=by
 refine zcN hTt Tryz.func77 rfl (by kernel_rfl) (res:=[.tmp 3]) rfl Tryz.ntmps77 (by simp) fun w0 K0 B=>?_
 dsimp only [entry];repeat' first|refine zd ?_|((first|refine zi ?_|refine regA ?_|refine andA ?_|fail);conv=>whnf)|fail
 exact⟨_,rfl,rfl,rfl⟩
theorem mout_fn (hi:Int) (xs:List Int):FnC Tryz.prog 50 [iv .i64 hi,sl xs] (bv (xs.any fun x=>outB x 0 hi)):=by
 have hc:=zdc 77 [.b 2 0] (fun x=>outB x 0 hi) xs _ (fun x _=>mout1_fn hi x);generalize (xs.any fun x=>outB x 0 hi)=b at hc;refine hdC Tryz.func50 Tryz.ntmps50 (res:=[.tmp 4]) fun w0 K0=>?_
 repeat' first|refine zd ?_|((first|refine zi ?_|refine regA ?_|((refine⟨_,hc,?_⟩);(rintro _ _ ⟨rfl,rfl⟩))|fail);conv=>whnf)|fail
 rfl
theorem mout1 (hi x:Int):FnC Tryz.prog 50 [iv .i64 hi,sl [x]] (bv (outB x 0 hi)):=by
 have:=mout_fn hi [x];rw [List.any_cons,List.any_nil,Bool.or_false] at this;exact this
theorem mout2 (hi x y:Int):FnC Tryz.prog 50 [iv .i64 hi,sl [x,y]] (bv (outB x 0 hi || outB y 0 hi)):=by
 have:=mout_fn hi [x,y];rw [List.any_cons,List.any_cons,List.any_nil,Bool.or_false] at this;exact this
end Go.Proofs.YtidkoikjdghlmaaGreatDoor
namespace Go.Proofs.YtidkoikjdghlmaaGreatDoor
open Go Go.QL FoT
set_option maxHeartbeats 1600000
set_option maxRecDepth 20000
attribute [local irreducible] ACall FnC YC
abbrev u8PV (c:UInt8):List PV:=[.v (.int .u8 (c.toNat:Int))]
abbrev bytAV (l:Bs8):AV:=.x (.d (.s 1 (l.map u8PV)))
theorem idxb_fn (fid:FuncId) (p:UInt8→Bool) (xs:Bs8) (σ:Sg)
  (hf:∀ x ∈ xs,ACall Tryz.prog fid ([].map AV.x ++ [iv .u8 x.toNat] ++ [].map .x) σ (fun r σ'=>r=bv (p x)∧σ'=σ)) :
  ACall Tryz.prog 109 [bytAV xs,.x (.f (.func fid) [] [])] σ (fun r σ'=>r=iv .i64 (idxI p xs)∧σ'=σ):=by
 refine zcN hTt Tryz.func109 rfl (by kernel_rfl) (res:=[.tmp 4]) rfl Tryz.ntmps109 (by simp) fun w0 K0 B=>?_
 dsimp only [entry];repeat' first|refine zd ?_|refine zc ?_|((refine regA ?_);conv=>whnf)|(refine lnA fun hln=>?_;conv=>whnf)|fail
 refine zJ (fun i:Nat=>[(8,iv .i64 i),(7,iv .i64 xs.length),(0,bytAV xs),(1,.x (.f (.func fid) [] []))]) (fun _=>σ)
  (fun i=>i≤xs.length∧fstI p xs 0=fstI p (xs.drop i) i) (fun i=>xs.length - i) 0 (by simp) (Imp.slots ⟨rfl,congrArg (fun k:Nat=>some (iv .i64 k)) (List.length_map _),rfl,rfl,trivial⟩) ?_
 rintro i ⟨hi,hfo⟩;rcases Nat.lt_or_ge i xs.length with hil|hil
 ·have hc:=hf xs[i] (List.getElem_mem hil);rw [List.drop_eq_getElem_cons hil] at hfo;simp only [fstI] at hfo;generalize p xs[i]=b at hc hfo;cases b with
  | true=>
   rw [if_pos rfl] at hfo;repeat' first|refine zd ?_|refine zc ?_|((first|refine zf ?_|refine zk ?_|refine zi ?_|refine regA ?_|fail);conv=>whnf)|exact abA hb|((refine⟨_,hc,?_⟩);(rintro _ _ ⟨rfl,rfl⟩);conv=>whnf)|(refine zsu rfl ?_)|(refine zso rfl (fun hb=>?_) (fun hb=>?_))|((first|refine andA ?_|with_reducible refine exA fun _=>?_|fail);conv=>whnf)|fail
   exact⟨_,rfl,by unfold idxI;rw [hfo],rfl⟩
  | false=>
   rw [if_neg (by decide)] at hfo;repeat' first|refine zd ?_|refine zc ?_|((first|refine zf ?_|refine zk ?_|refine zi ?_|refine regA ?_|fail);conv=>whnf)|exact abA hb|((refine⟨_,hc,?_⟩);(rintro _ _ ⟨rfl,rfl⟩);conv=>whnf)|(refine zsv rfl ?_)|(refine zso rfl (fun hb=>?_) (fun hb=>?_))|((first|refine zsq ?_|refine andA ?_|with_reducible refine exA fun _=>?_|fail);conv=>whnf)|fail
   exact⟨i+1,⟨by omega,hfo⟩,by omega,Imp.slots ⟨rfl,rfl,rfl,rfl,trivial⟩⟩
 ·rw [List.drop_eq_nil_of_le hil] at hfo;repeat' first|refine zd ?_|refine zc ?_|((first|refine zf ?_|refine zk ?_|refine zi ?_|refine regA ?_|fail);conv=>whnf)|exact abA hb|(refine zso rfl (fun hb=>?_) (fun hb=>?_))|fail
  exact⟨_,rfl,by unfold idxI;rw [hfo];rfl,rfl⟩
theorem containsb_fn (fid:FuncId) (p:UInt8→Bool) (xs:Bs8) (σ:Sg)
  (hf:∀ x ∈ xs,ACall Tryz.prog fid ([].map AV.x ++ [iv .u8 x.toNat] ++ [].map .x) σ (fun r σ'=>r=bv (p x)∧σ'=σ)) :
  ACall Tryz.prog 72 [bytAV xs,.x (.f (.func fid) [] [])] σ (fun r σ'=>r=bv (xs.any p)∧σ'=σ):=by
 have hc:=idxb_fn fid p xs σ hf;rw [← zoh];refine zcN hTt Tryz.func72 rfl (by kernel_rfl) (res:=[.tmp 4]) rfl Tryz.ntmps72 (by simp) fun w0 K0 B=>?_
 dsimp only [entry];repeat' first|refine zd ?_|((first|refine zi ?_|refine regA ?_|((refine⟨_,hc,?_⟩);(rintro _ _ ⟨rfl,rfl⟩))|fail);conv=>whnf)|fail
 exact⟨_,rfl,rfl,rfl⟩
abbrev oddB (c:UInt8):Bool:=bif decide ((c.toNat:Int) < 32) then true else decide (126 < (c.toNat:Int))
def plainS (s:ByteArray):Bool:=!(s.data.toList.any oddB)
theorem plain1_fn (c:UInt8):FnC Tryz.prog 73 [iv .u8 c.toNat] (bv (oddB c)):=by
 refine hdC Tryz.func73 Tryz.ntmps73 (res:=[.tmp 2]) fun w0 K0=>?_
 repeat' first|refine zd ?_|((first|refine zi ?_|refine regA ?_|refine pkA ?_|fail);conv=>whnf)|fail
 rfl
theorem znH (s:ByteArray) (hs:s.size≤140737488355328):FnC Tryz.prog 40 [sv s] (bv (plainS s)):=by
 have hmax:s.size≤maxLen:=by unfold maxLen;omega
 have hc:=containsb_fn 73 oddB s.data.toList [] (fun x _=>(plain1_fn x).call rfl rfl);unfold plainS;generalize (s.data.toList.any oddB)=b at hc;refine hdC Tryz.func40 Tryz.ntmps40 (res:=[.tmp 2]) fun w0 K0=>?_
 repeat' first|refine zd ?_|((first|refine zi ?_|refine regA ?_|refine And.intro hmax ?_|((refine⟨_,hc,?_⟩);(rintro _ _ ⟨rfl,rfl⟩))|fail);conv=>whnf)|fail
 rfl
end Go.Proofs.YtidkoikjdghlmaaGreatDoor
namespace Go.Proofs
open Go.Shelf
def Tryz.lays145_ren:Go.Shelf.Ren:=⟨fun|145=>44|217=>169|219=>111|220=>75|224=>171|225=>170|266=>225|267=>172|314=>226|n=>n,fun|3=>3|4=>4|5=>5|9=>9|46=>305|51=>363|59=>119|146=>364|n=>n,fun|1=>0|n=>n⟩
theorem Tryz.lays145:Go.Proofs.Lays.n145 Tryz.prog Tryz.lays145_ren:={
 mixed:=by kernel_rfl
 f145:=Tryz.func44.trans (congrArg some (by kernel_rfl))
 f217:=Tryz.func169.trans (congrArg some (by kernel_rfl))
 f219:=Tryz.func111.trans (congrArg some (by kernel_rfl))
 f220:=Tryz.func75.trans (congrArg some (by kernel_rfl))
 f224:=Tryz.func171.trans (congrArg some (by kernel_rfl))
 f225:=Tryz.func170.trans (congrArg some (by kernel_rfl))
 f266:=Tryz.func225.trans (congrArg some (by kernel_rfl))
 f267:=Tryz.func172.trans (congrArg some (by kernel_rfl))
 f314:=Tryz.func226.trans (congrArg some (by kernel_rfl))
 t3:=Tryz.underlying3
 a3:=Tryz.isAgg3
 z3:=Tryz.sizeOf3
 v3:=Tryz.zeroValue3
 t4:=Tryz.underlying4
 a4:=Tryz.isAgg4
 z4:=Tryz.sizeOf4
 v4:=Tryz.zeroValue4
 t5:=Tryz.underlying5
 a5:=Tryz.isAgg5
 z5:=Tryz.sizeOf5
 v5:=Tryz.zeroValue5
 t9:=Tryz.underlying9
 a9:=Tryz.isAgg9
 z9:=Tryz.sizeOf9
 v9:=Tryz.zeroValue9
 t46:=Tryz.underlying305
 a46:=Tryz.isAgg305
 z46:=Tryz.sizeOf305
 v46:=Tryz.zeroValue305
 t51:=Tryz.underlying363
 a51:=Tryz.isAgg363
 z51:=Tryz.sizeOf363
 v51:=Tryz.zeroValue363
 t59:=Tryz.underlying119
 a59:=Tryz.isAgg119
 z59:=Tryz.sizeOf119
 v59:=Tryz.zeroValue119
 t146:=Tryz.underlying364
 a146:=Tryz.isAgg364
 z146:=Tryz.sizeOf364
 v146:=Tryz.zeroValue364
 g1:=by kernel_rfl }
end Go.Proofs
namespace Go.QL
open Go FoT
def cut1 (b:UInt8):Bs8→Option (Bs8 × Bs8)
 | []=>none
 | c::r=>if c=b then some ([],r) else match cut1 b r with
  | some (x,y)=>some (c::x,y)
  | none=>none
theorem index1 (b c:UInt8) (r:Bs8):Lib.index (c::r) [b]=if c=b then 0 else if Lib.index r [b] == -1 then -1 else Lib.index r [b]+1:=by
 rw [Lib.index];by_cases h:c=b
 ·subst h;simp
 ·rw [if_neg h];have:[b].isPrefixOf (c::r)=false:=by
   simp [List.isPrefixOf];exact fun e=>h e.symm
  rw [this];simp
theorem cut1_index (b:UInt8):∀ l:Bs8,match cut1 b l with
  | some (x,y)=>Lib.index l [b]=x.length∧l=x ++ b::y
  | none=>Lib.index l [b] = -1
 | []=>by show Lib.index [] [b] = -1;rfl
 | c::r=>by
  have ih:=cut1_index b r;unfold cut1;rw [index1];by_cases h:c=b
  ·rw [if_pos h,if_pos h,h];exact⟨rfl,rfl⟩
  ·rw [if_neg h,if_neg h];cases hc:cut1 b r with
   | none=>
    rw [hc] at ih;have ih:Lib.index r [b] = -1:=ih;show (if (Lib.index r [b] == -1)=true then (-1:Int) else Lib.index r [b]+1) = -1
    rw [ih];rfl
   | some p=>
    obtain⟨x,y⟩:=p;rw [hc] at ih;obtain⟨h1,h2⟩:Lib.index r [b]=x.length∧r=x ++ b::y:=ih;show (if (Lib.index r [b] == -1)=true then (-1:Int) else Lib.index r [b]+1)=(c::x).length∧c::r=(c::x) ++ b::y
    rw [h1,if_neg (by simp)];exact⟨by simp,by rw [h2];rfl⟩
theorem cut_is (b:UInt8) (l:Bs8):Lib.cut l [b]=match cut1 b l with
  | some (x,y)=>(x,y,true)
  | none=>(l,[],false):=by
 have h:=cut1_index b l;unfold Lib.cut;cases hc:cut1 b l with
 | none=>
  rw [hc] at h;have h:Lib.index l [b] = -1:=h;rw [h];rfl
 | some p=>
  obtain⟨x,y⟩:=p;rw [hc] at h;obtain⟨h1,h2⟩:Lib.index l [b]=x.length∧l=x ++ b::y:=h;rw [h1,if_pos (by omega)];show (l.take x.length,l.drop (x.length+1),true)=(x,y,true)
  rw [h2];simp
theorem cut1_some {b:UInt8} {l x y:Bs8} (h:cut1 b l=some (x,y)):l=x ++ b::y:=by
 have:=cut1_index b l;rw [h] at this;exact this.2
theorem cut1_at {b:UInt8}:∀ {x y:Bs8},b ∉ x→cut1 b (x ++ b::y)=some (x,y)
 | [],y,_=>by show (if b=b then _ else _)=_;rw [if_pos rfl]
 | c::x,y,h=>by
  have h1:c≠b:=fun e=>h (by simp [e])
  have h2:b ∉ x:=fun e=>h (by simp [e])
  show (if c=b then _ else _)=_
  rw [if_neg h1];show (match cut1 b (x ++ b::y) with|some (x,y)=>some (c::x,y)|none=>none)=_
  rw [cut1_at h2]
abbrev Rw:=Bs8 × Bs8
abbrev odB (c:UInt8):Bool:=bif decide ((c.toNat:Int) < 32) then true else decide (126 < (c.toNat:Int))
def plnL (l:Bs8):Bool:=!(l.any odB)
def lnL (r:Rw):Bs8:=r.1 ++ 9::(r.2 ++ [10])
def txtL (rows:List Rw):Bs8:=rows.flatMap lnL
def plnR (r:Rw):Prop:=plnL r.1=true∧plnL r.2=true
theorem pln_not {l:Bs8} {b:UInt8} (h:plnL l=true) (hb:odB b=true):b ∉ l:=by
 intro hm;unfold plnL at h;rw [Bool.not_eq_true',List.any_eq_false] at h;exact h b hm hb
theorem txt_cons (r:Rw) (l:List Rw):txtL (r::l)=lnL r ++ txtL l:=rfl
theorem txt_app (l m:List Rw):txtL (l ++ m)=txtL l ++ txtL m:=by unfold txtL;rw [List.flatMap_append]
theorem txt_one (r:Rw):txtL [r]=lnL r:=by rw [txt_cons];show lnL r ++ []=_;rw [List.append_nil]
theorem cut_line {r:Rw} {t:Bs8} (h:plnR r):cut1 10 (lnL r ++ t)=some (r.1 ++ 9::r.2,t)∧cut1 9 (r.1 ++ 9::r.2)=some (r.1,r.2):=by
 have h10:(10:UInt8) ∉ r.1 ++ 9::r.2:=by
  rw [List.mem_append,List.mem_cons];rintro (e|e|e)
  ·exact pln_not h.1 (by decide) e
  ·exact absurd e (by decide)
  ·exact pln_not h.2 (by decide) e
 refine⟨?_,cut1_at (pln_not h.1 (by decide))⟩
 have:lnL r ++ t=(r.1 ++ 9::r.2) ++ 10::t:=by unfold lnL;simp
 rw [this];exact cut1_at h10
theorem line_of {t row rest c a:Bs8} (h1:cut1 10 t=some (row,rest)) (h2:cut1 9 row=some (c,a)):t=lnL (c,a) ++ rest:=by
 rw [cut1_some h1,cut1_some h2];unfold lnL;simp
theorem txt_take {rows:List Rw} {i:Nat} (h:i < rows.length):txtL (rows.drop i)=lnL rows[i] ++ txtL (rows.drop (i+1)):=by
 rw [List.drop_eq_getElem_cons h,txt_cons]
theorem ln_pos (r:Rw) (t:Bs8):lnL r ++ t≠[]:=by unfold lnL;simp
end Go.QL
namespace Go.Proofs.YtidkoikjdghlmaaGreatDoor
open Go Go.QL Go.RowKit FoT
set_option maxHeartbeats 1600000
set_option maxRecDepth 20000
attribute [local irreducible] ACall FnC YC
theorem tup3 {σ:Sg} {g:Gh} {w:World} {a b c:Value} (ha:a.oneCell'=true) (hb:b.oneCell'=true) (hc:c.oneCell'=true):VR2 σ g w (.t [.x (.d (.v a)),.x (.d (.v b)),.x (.d (.v c))]) (.tuple #[a,b,c]):=by
 refine⟨#[a,b,c],rfl,rfl,fun i x v hi hv=>?_⟩
 match i with
 | 0=>cases hi;cases hv;exact zL (σ:=σ) (g:=g) (w:=w) _ ha
 | 1=>cases hi;cases hv;exact zL (σ:=σ) (g:=g) (w:=w) _ hb
 | 2=>cases hi;cases hv;exact zL (σ:=σ) (g:=g) (w:=w) _ hc
 | i+3=>simp at hi
theorem cut_fn (l:Bs8) (b:UInt8) (hs:l.length < 4294967281):FnC Tryz.prog 44 [sv (bs l),sv (bs [b])] (match cut1 b l with
  | some (x,y)=>.t [sv (bs x),sv (bs y),bv true]
  | none=>.t [sv (bs l),sv (bs []),bv false]):=by
 unfold FnC;refine⟨⟨_,Tryz.func44,rfl,rfl⟩,fun K w vs hL hK hs' hv=>?_⟩
 obtain⟨u,v,rfl⟩:∃ u v,vs = #[u,v]:=by
  match vs,hs' with
  | ⟨[u,v]⟩,_=>exact⟨u,v,rfl⟩
 have h2:=zm (hv 0 (sv (bs l)) u rfl rfl);have h3:=zm (hv 1 (sv (bs [b])) v rfl rfl);subst h2;subst h3;obtain⟨m,hm⟩:=hL.len (nm:= "internal/bytealg.MaxLen") (by decide +kernel) (by kernel_rfl:_=some 0);refine Calls.mono (show Calls Tryz.prog 44 #[.string (bs l),.string (bs [b])] w _ from Any.strings_Cut Tryz.lays145 (bs l) (bs [b]) m w (by rw [zbj];exact hs) hm) ?_
 rintro e w' ⟨rfl,n,rfl⟩;have hb:Below w.heap.size w (w.drewN n):=(Below.refl _ w).trans ⟨rfl,rfl,rfl,Nat.le_refl _,fun _ _=>rfl⟩;refine⟨_,K,rfl,hb,⟨fun _ _ h=>h,fun b o hk=>hb.cell (hK b o hk)⟩,fun _ _ _ h=>h,fun b o hk=>Nat.lt_of_lt_of_le (hK b o hk) hb.size,?_⟩
 rw [zco,zco,cut_is];cases cut1 b l with
 | none=>exact tup3 rfl rfl rfl
 | some p=>exact tup3 rfl rfl rfl
end Go.Proofs.YtidkoikjdghlmaaGreatDoor
namespace Go.Proofs.YtidkoikjdghlmaaGreatDoor
open Go Go.QL FoT
set_option maxHeartbeats 1600000
set_option maxRecDepth 20000
attribute [local irreducible] ACall FnC YC
def rwPV (r:Rw):List PV:=[.v (.string (bs r.1)),.v (.string (bs r.2))]
abbrev rwsAV (l:List Rw):AV:=.x (.d (.s 2 (l.map rwPV)))
def okRws (l:List Rw):Prop:=l.length≤60∧∀ r ∈ l,plnR r
theorem pln_fn (l:Bs8) (h:l.length≤140737488355328):FnC Tryz.prog 40 [sv (bs l)] (bv (plnL l)):=by
 have:=znH (bs l) (by rw [zbj];exact h);unfold plainS at this;rw [zco] at this;exact this
theorem read_long (t:Bs8) (h:30000 < t.length):FnC Tryz.prog 22 [sv (bs t)] (.t [.x (.d (.v (.slice none 0 0))),iv .i64 3]):=by
 have hz:=zbj t;refine hdC Tryz.func22 Tryz.ntmps22 (res:=[.tmp 2,.tmp 3]) fun w0 K0=>?_
 repeat' first|refine zd ?_|refine zc ?_|((first|refine zf ?_|refine zi ?_|refine regA ?_|fail);conv=>whnf)|exact abA hb|(refine zso rfl (fun hb=>?_) (fun hb=>?_))|fail
 rfl
theorem read_ok (rows:List Rw) (hr:okRws rows) (h:(txtL rows).length≤30000):FnC Tryz.prog 22 [sv (bs (txtL rows))] (.t [rwsAV rows,iv .i64 0]):=by
 have hz:=zbj (txtL rows);refine zg7 hTt Tryz.func22 rfl (by kernel_rfl) (res:=[.tmp 2,.tmp 3]) rfl Tryz.ntmps22 (by simp) fun w0 K0=>?_
 dsimp only [entry];repeat' first|refine zd ?_|refine zc ?_|((first|refine zf ?_|refine zi ?_|refine regA ?_|fail);conv=>whnf)|exact abA hb|(refine zso rfl (fun hb=>?_) (fun hb=>?_))|fail
 refine zaq (Imp.nil 2 36 2 (fr':=[(2,.x (.o 2 0 0)),(0,sv (bs (txtL rows)))]) (σ':=[]) rfl ?_ trivial rfl rfl) ?_
 ·exact⟨⟨_,rfl,.inr ⟨rfl,rfl⟩⟩,⟨_,rfl,.inl rfl⟩,trivial⟩
 refine zJ (fun p:Nat × Nat=>[(2,.x (.o 2 p.2 p.1)),(0,sv (bs (txtL (rows.drop p.1))))])
  (fun p=>[(2,.chain 36 2 p.2 ((rows.take p.1).map rwPV))]) (fun p=>p.1≤rows.length) (fun p=>rows.length - p.1) (0,0) (Nat.zero_le _) impA ?_
 rintro⟨i,st⟩ hi;dsimp only at hi;rcases Nat.lt_or_ge i rows.length with hil|hil
 ·have ht:=txt_take hil;have hp:=hr.2 rows[i] (List.getElem_mem hil);have hle:(txtL (rows.drop i)).length≤30000:=by
   have:txtL rows=txtL (rows.take i) ++ txtL (rows.drop i):=by rw [← txt_app,List.take_append_drop]
   rw [this,List.length_append] at h;omega
  have c1:=cut_fn (txtL (rows.drop i)) 10 (by omega);have hl1:rows[i].1.length≤30000:=by rw [ht] at hle;unfold lnL at hle;simp at hle;omega
  have hl2:rows[i].2.length≤30000:=by rw [ht] at hle;unfold lnL at hle;simp at hle;omega
  have c2:=cut_fn (rows[i].1 ++ 9::rows[i].2) 9 (by simp;omega);rw [ht,(cut_line hp).1] at c1;rw [(cut_line (t:=[]) hp).2] at c2;have p1:=pln_fn rows[i].1 (by omega);have p2:=pln_fn rows[i].2 (by omega);rw [hp.1] at p1;rw [hp.2] at p2;have hne:(!((bs (lnL rows[i] ++ txtL (rows.drop (i+1)))).toList == (bs []).toList))=true:=by rw [zdf,decide_eq_false (ln_pos _ _)];rfl
  have h60:=hr.1;have hn60:(((i:Nat):Int) == 60)=false:=beq_eq_false_iff_ne.2 (by omega);rw [ht];have e2:((rows.take i).map rwPV).take i ++ [rwPV rows[i]]=(rows.take (i+1)).map rwPV:=by
   rw [List.take_of_length_le (by simp;omega),List.take_succ_eq_append_getElem hil,List.map_append];rfl
  repeat' first|refine zd ?_|refine zc ?_|((first|refine zf ?_|refine zi ?_|refine regA ?_|fail);conv=>whnf)|exact abA hb|((first|refine zsn (c1) ?_|refine zsn (c2) ?_|refine zsp (p1) ?_|refine zsp (p2) ?_|refine pkA ?_|fail);conv=>whnf)|(refine za rfl (fun _=>?_) (zaf hne))|(refine zso rfl (fun hb=>?_) (fun hb=>?_))|((refine andA ?_);conv=>whnf)|((refine And.intro (by refine⟨?_,?_,?_⟩ <;> simp [zO,maxLen] <;> omega) ?_);conv=>whnf)|fail
  exact⟨(i+1,st+1),by show i+1≤_;omega,by show _ - (i+1) < _ - i;omega,Imp.forget ⟨rfl,rfl,trivial⟩ ⟨congrArg (fun l=>some (Ob.chain 36 2 (st+1) l)) e2,trivial⟩ rfl⟩
 ·obtain rfl:i=rows.length:=by omega
  have hne:(!((bs []).toList == (bs []).toList))=false:=by rw [zdf,decide_eq_true rfl];rfl
  have e3:((rows.take rows.length).map rwPV).take rows.length=rows.map rwPV:=by
   rw [List.take_length,List.take_of_length_le (by simp)]
  rw [List.drop_length,show txtL []=[] from rfl];repeat' first|refine zd ?_|((first|refine zk ?_|refine zi ?_|refine regA ?_|fail);conv=>whnf)|(refine za rfl (zM hne) (fun _=>?_))|fail
  refine⟨.t [rwsAV rows,iv .i64 0],?_,LeAV.refl _⟩
  simp [za6,zbY,zhp,zr,zd1,zbW,zbV,zbq];exact List.take_of_length_le (by simp)
theorem cut_ex (l:Bs8) (b:UInt8) (hs:l.length < 4294967281):∃ x y q,FnC Tryz.prog 44 [sv (bs l),sv (bs [b])] (.t [sv (bs x),sv (bs y),bv q])∧(q=true→cut1 b l=some (x,y))∧x.length≤l.length∧y.length≤l.length:=by
 have h:=cut_fn l b hs;cases hc:cut1 b l with
 | none=>
  rw [hc] at h;exact⟨l,[],false,h,(fun e=>by cases e),Nat.le_refl _,Nat.zero_le _⟩
 | some p=>
  obtain⟨x,y⟩:=p;rw [hc] at h;have e:=cut1_some hc;have e2:l.length=x.length+(y.length+1):=by rw [e];simp
  exact⟨x,y,true,h,fun _=>rfl,by omega,by omega⟩
theorem read_bad (t:Bs8) (hno:∀ rows,okRws rows→txtL rows≠t) (h:t.length≤30000):FnC Tryz.prog 22 [sv (bs t)] (.t [.x (.d (.v (.slice none 0 0))),iv .i64 6]):=by
 have hz:=zbj t;refine hdC Tryz.func22 Tryz.ntmps22 (res:=[.tmp 2,.tmp 3]) fun w0 K0=>?_
 repeat' first|refine zd ?_|refine zc ?_|((first|refine zf ?_|refine zi ?_|refine regA ?_|fail);conv=>whnf)|exact abA hb|(refine zso rfl (fun hb=>?_) (fun hb=>?_))|fail
 refine zaq (Imp.nil 2 36 2 (fr':=[(2,.x (.o 2 0 0)),(0,sv (bs t))]) (σ':=[]) rfl ?_ trivial rfl rfl) ?_
 ·exact⟨⟨_,rfl,.inr ⟨rfl,rfl⟩⟩,⟨_,rfl,.inl rfl⟩,trivial⟩
 refine zJ (fun p:List Rw × Bs8 × Nat=>[(2,.x (.o 2 p.2.2 p.1.length)),(0,sv (bs p.2.1))])
  (fun p=>[(2,.chain 36 2 p.2.2 (p.1.map rwPV))]) (fun p=>okRws p.1∧t=txtL p.1 ++ p.2.1) (fun p=>p.2.1.length) ([],t,0) ⟨⟨Nat.zero_le _,fun r hr=>by cases hr⟩,rfl⟩ impA ?_
 rintro⟨acc,rest,st⟩ ⟨hok,ht⟩;dsimp only at hok ht;have hk60:=hok.1;by_cases hr:rest=[]
 ·subst hr;exact absurd (by rw [ht,List.append_nil]) (hno acc hok)
 ·have hrl:rest.length≤30000:=by rw [ht,List.length_append] at h;omega
  have hne:(!((bs rest).toList == (bs []).toList))=true:=by rw [zdf,decide_eq_false hr];rfl
  obtain⟨row,rest',is1,c1,f1,r1,r2⟩:=cut_ex rest 10 (by omega);obtain⟨c,a,is2,c2,f2,r3,r4⟩:=cut_ex row 9 (by omega);have p1:=pln_fn c (by omega);have p2:=pln_fn a (by omega);cases hbad:(bif (bif (bif (bif !is1 then true else !is2) then true else !plnL c) then true else !plnL a) then true else ((acc.length:Int) == 60)) with
  | true=>
   generalize plnL c=q1 at *;generalize plnL a=q2 at *;repeat' first|refine zd ?_|refine zc ?_|((first|refine zf ?_|refine zi ?_|refine regA ?_|refine zsn (c1) ?_|refine zsn (c2) ?_|refine zsp (p1) ?_|refine zsp (p2) ?_|refine pkA ?_|fail);conv=>whnf)|(refine za rfl (fun _=>?_) (zaf hne))|(refine za rfl (fun _=>?_) (zaf hbad))|((refine andA ?_);conv=>whnf)|fail
   rfl
  | false=>
   have hall:∀ b1 b2 b3 b4 b5:Bool,(bif (bif (bif (bif !b1 then true else !b2) then true else !b3) then true else !b4) then true else b5)=false→b1=true∧b2=true∧b3=true∧b4=true∧b5=false:=by decide
   obtain⟨e1,e2,e3,e4,e5⟩:=hall _ _ _ _ _ hbad;have hl:=line_of (f1 e1) (f2 e2);rw [beq_eq_false_iff_ne] at e5;have e6:(acc.map rwPV).take acc.length ++ [rwPV (c,a)]=(acc ++ [(c,a)]).map rwPV:=by
    rw [List.take_of_length_le (by simp),List.map_append];rfl
   have hok':okRws (acc ++ [(c,a)]):=⟨by have:=hok.1;simp;omega,fun r hr=>by
    rcases List.mem_append.1 hr with h1|h1
    ·exact hok.2 r h1
    ·rw [List.mem_singleton.1 h1];exact⟨e3,e4⟩⟩
   generalize plnL c=q1 at *;generalize plnL a=q2 at *;repeat' first|refine zd ?_|refine zc ?_|((first|refine zf ?_|refine regA ?_|refine zsn (c1) ?_|refine zsn (c2) ?_|refine zsp (p1) ?_|refine zsp (p2) ?_|refine pkA ?_|fail);conv=>whnf)|(refine za rfl (fun _=>?_) (zaf hne))|(refine za rfl (zM hbad) (fun _=>?_))|((refine andA ?_);conv=>whnf)|((refine And.intro (by refine⟨?_,?_,?_⟩ <;> simp [zO,maxLen] <;> omega) ?_);conv=>whnf)|fail
   refine⟨(acc ++ [(c,a)],rest',st+1),⟨hok',?_⟩,?_,Imp.forget ⟨congrArg (fun k=>some (AV.x (.o 2 (st+1) k))) (by simp [zO]),rfl,trivial⟩ ⟨congrArg (fun l=>some (Ob.chain 36 2 (st+1) l)) e6,trivial⟩ rfl⟩
   ·show t=txtL (acc ++ [(c,a)]) ++ rest'
    rw [txt_app,txt_one,ht,hl,List.append_assoc]
   ·show rest'.length < rest.length
    rw [hl];unfold lnL;simp;omega
end Go.Proofs.YtidkoikjdghlmaaGreatDoor
namespace Go.Proofs.YtidkoikjdghlmaaGreatDoor
open Go Go.QL Go.RowKit FoT
set_option maxHeartbeats 3200000
set_option maxRecDepth 20000
attribute [local irreducible] ACall FnC YC
theorem plain_kq {s:ByteArray} {q:Bool} (h:FnC Tryz.prog 40 [sv s] (bv q)) (K:Nat→Nat→Prop) (w:World) (hL:Laid Tryz.prog K w) (hK:∀ b o,K b o→b < w.heap.size) :
  Calls Tryz.prog 40 #[.string s] w fun e w'=>e=.returned (.bool q)∧Below w.heap.size w w':=by
 unfold FnC at h;refine (h.2 K w #[.string s] hL hK rfl (fun i x v hx hv=>?_)).mono ?_
 ·match i with
  | 0=>cases hx;cases hv;exact zL _ rfl
  | i+1=>simp at hx
 ·rintro e w' ⟨v,K',rfl,hb,_,_,_,hv⟩;exact⟨by rw [zm hv],hb⟩
abbrev emptyB:ByteArray:=⟨#[]⟩
def wrA (rows:List Row) (N:Nat):AV:=if N < rows.length then .t [sv emptyB,iv .i64 6] else if 30000 < (textL rows).length then .t [sv emptyB,iv .i64 3] else .t [sv ⟨(textL rows).toArray⟩,iv .i64 0]
theorem write_long (rows:List Row) (h:60 < rows.length):FnC Tryz.prog 21 [.x (.d (.s 2 (rows.map zlu)))] (.t [sv emptyB,iv .i64 3]):=by
 have hl:(rows.map zlu).length=rows.length:=List.length_map _;refine hdC Tryz.func21 Tryz.ntmps21 (res:=[.tmp 2,.tmp 3]) fun w0 K0=>?_
 repeat' first|refine zd ?_|((first|refine zf ?_|refine zi ?_|refine regA ?_|fail);conv=>whnf)|exact abA hb|(refine zso rfl (fun hb=>?_) (fun hb=>?_))|(refine lnA fun hln=>?_;conv=>whnf)|fail
 rfl
theorem write_gen (rows:List Row) (h60:rows.length≤60) (hsz:(textL rows).length≤1099511627776) (N:Nat) (hN:N≤rows.length)
  (hpl:∀ i (h:i < rows.length),i < N→FnC Tryz.prog 40 [sv rows[i].1] (bv true)∧FnC Tryz.prog 40 [sv rows[i].2] (bv true))
  (hbd:∀ h:N < rows.length,∃ q1 q2,FnC Tryz.prog 40 [sv rows[N].1] (bv q1)∧FnC Tryz.prog 40 [sv rows[N].2] (bv q2)∧(q1 && q2)=false) :
  FnC Tryz.prog 21 [.x (.d (.s 2 (rows.map zlu)))] (wrA rows N):=by
 have hxl:(rows.map zlu).length=rows.length:=List.length_map _;have hxi:∀ i (h:i < rows.length),(rows.map zlu)[i]?=some (zlu rows[i]):=fun i h=>by simp [h]
 obtain⟨xs,hxs⟩:∃ xs,xs=rows.map zlu:=⟨_,rfl⟩;rw [← hxs] at hxl hxi ⊢;clear hxs;have hx60:xs.length≤60:=by omega
 refine zg7 hTt Tryz.func21 rfl (by kernel_rfl) (res:=[.tmp 2,.tmp 3]) rfl Tryz.ntmps21 (by simp) fun w0 K0=>?_
 dsimp only [entry];repeat' first|(with_reducible refine StW.at3 ?_)|refine zd ?_|((first|refine zf ?_|refine zi ?_|refine regA ?_|fail);conv=>whnf)|exact abA hb|(refine zso rfl (fun hb=>?_) (fun hb=>?_))|(refine lnA fun hln=>?_;conv=>whnf)|fail
 unfold StW;refine zaq (fr':=[(0,.x (.d (.s 2 xs)))]) (σ':=[]) impA ?_
 refine AW.mk fun hL g a w hr=>?_
 have f0:SR [] g w (.d (.s 2 xs)) (a.tmps.getD 0 undef):=(hr.fr 0 _ rfl).2;have hsz38:=hr.size;have hgo:=hr.hp;have hdf:=hr.defers.nil;obtain⟨tmps,dfs⟩:=a;dsimp only at hdf hsz38 f0;subst hdf;obtain⟨v0,hv0⟩:∃ v0,v0=tmps.getD 0 undef:=⟨_,rfl⟩;rw [← hv0] at f0;obtain⟨av,cap,rfl⟩:∃ av cap,v0=.slice av xs.length cap:=by
  cases f0 with
  | d _ _ h=>cases h with
   | s _ _ a cap=>exact⟨a,cap,rfl⟩
 obtain⟨v1,v2,v3,v4,v5,v6,v7,v8,v9,v10,v11,v12,v13,v14,v15,v16,v17,v18,v19,v20,v21,v22,v23,v24,v25,v26,v27,v28,v29,v30,v31,v32,v33,v34,v35,v36,v37,rfl⟩:=arr38a tmps hsz38 hv0.symm;have hL1:Laid Tryz.prog g.K w:=hL.mono hgo.ext;have hxl2:xs.length=rows.length∧True:=⟨hxl,trivial⟩;clear hxl;refine (wpIn_wide (n:=0)).2 ?_
 go_wp2
 have hxl:=hxl2.1;obtain⟨W0,hW0⟩:∃ W0,W0=w.alloc (.cells #[.pointer none,.slice none 0 0] 112):=⟨_,rfl⟩;rw [← hW0];rename_i Kk hKk;have hPR:PR g.K w (.s 2 xs) (.slice av rows.length cap):=by
  rw [← hxl];cases f0 with
  | d _ _ h=>exact h
 clear hr hsz38 hv0 hln f0;refine (wpIn_wide (n:=0)).1 ?_
 refine wpIn_loop (fun (a':Act) (w':World)=>a'.tmps.size=38∧a'.defers=[]∧a'.tmps.getD 4 undef=.pointer (some ⟨w.heap.size,0,none⟩)∧a'.tmps.getD 10 undef=.slice av rows.length cap∧a'.tmps.getD 11 undef=.int .i64 rows.length∧Below w.heap.size w w' ∧
   ∃ i:Nat,i≤N∧a'.tmps.getD 12 undef=.int .i64 i∧Lib.IsBuilderF 112 5 w.heap.size w.heap.size (Lib.byteCells (textL (rows.take i))) w')
  (fun a' _=>msr rows.length a') ⟨rfl,rfl,rfl,rfl,rfl,?_,0,Nat.zero_le _,rfl,?_⟩ ?_
 ·rw [hW0];exact (Below.refl _ w).alloc (Nat.le_refl _) _
 ·rw [hW0];exact Lib.IsBuilderF.of (Lib.fresh_isBuilder 112 5 w)
 clear hW0 W0;rintro a1 w1 ⟨s1,d1,t4,t10,t11,hb1,i,hi,t12,hI⟩;obtain⟨tmps,dfs⟩:=a1;dsimp only at s1 d1 t4 t10 t11 t12;subst d1;obtain⟨v0,v1,v2,v3,v5,v6,v7,v8,v9,v13,v14,v15,v16,v17,v18,v19,v20,v21,v22,v23,v24,v25,v26,v27,v28,v29,v30,v31,v32,v33,v34,v35,v36,v37,rfl⟩:=arr38d tmps s1 t4 t10 t11 t12;clear s1 t4 t10 t11 t12 hxl2 hx60 hb;have hE:Ext g.K w g.K w1:=⟨fun _ _ h=>h,fun b o hk=>hb1.cell (hgo.val b o hk)⟩;have hL2:Laid Tryz.prog g.K w1:=hL1.mono hE;have hP1:=hPR.mono hE;have fin0:∀ (a':Act) (w':World) (s:ByteArray) (z:Int),Below w.heap.size w w'→a'.tmps.size=38→a'.tmps.getD 2 undef=.string s→a'.tmps.getD 3 undef=.int .i64 z→a'.defers=[] →
   Lift (Cx.lone w0 K0 38) (zsk Tt [ResultVar.tmp 2,ResultVar.tmp 3] (.t [sv s,iv .i64 z])) .ret a' w':=by
  intro a' w' s z hb h1 h2 h3 h4;have hw:=(hgo.weaken (σ':=[]) (fun t v h=>by cases h) rfl).grow (K':=g.K) hb ⟨fun _ _ h=>h,fun b o hk=>hb.cell (hgo.val b o hk)⟩ (fun _ _ _ h=>h) (fun b o hk=>Nat.lt_of_lt_of_le (hgo.val b o hk) hb.size);refine⟨[(2,sv s),(3,iv .i64 z)],[],_,⟨hw.hp,fun t v ht=>?_,h1,by rw [h4];exact DRb.empty,fun s v h=>h.elim⟩,?_⟩
  ·rw [zr] at ht;by_cases e2:2=t
   ·subst e2;rw [if_pos rfl] at ht;cases ht;exact⟨(show 2 < 38 by decide),by rw [h2];exact zZ (zL _ rfl)⟩
   ·rw [if_neg e2,zr] at ht;by_cases e3:3=t
    ·subst e3;rw [if_pos rfl] at ht;cases ht;exact⟨(show 3 < 38 by decide),by rw [h3];exact zZ (zL _ rfl)⟩
    ·rw [if_neg e3] at ht;cases ht
  ·exact⟨_,rfl,LeAV.refl _⟩
 by_cases hir:i < rows.length
 ·have hx:=hxi i hir;have hT:=textL_take hir;have hT2:=@textL_le rows (i+1);rw [hT,List.length_append] at hT2;have hpb:(∃ q1 q2,FnC Tryz.prog 40 [sv rows[i].1] (bv q1)∧FnC Tryz.prog 40 [sv rows[i].2] (bv q2)∧(if i < N then q1=true∧q2=true else (q1 && q2)=false)):=by
   by_cases hiN:i < N
   ·obtain⟨p1,p2⟩:=hpl i hir hiN;exact⟨true,true,p1,p2,by rw [if_pos hiN];exact⟨rfl,rfl⟩⟩
   ·obtain rfl:i=N:=by omega
    obtain⟨q1,q2,p1,p2,h⟩:=hbd hir;exact⟨q1,q2,p1,p2,by rw [if_neg hiN];exact h⟩
  obtain⟨q1,q2,p1,p2,hq⟩:=hpb;unfold lineB at hT hT2;unfold zlu at hx;generalize rows[i].1=ra at *;generalize rows[i].2=rb at *;obtain⟨b0,off,rfl,hc0,hc1⟩:∃ b0 off,av=some ⟨b0,off,none⟩∧w1.cell? ⟨b0,off+i * 2,none⟩=some (.string ra)∧w1.cell? ⟨b0,off+i * 2+1,none⟩=some (.string rb):=by
   have hP2:PR g.K w1 (.s 2 xs) (.slice av xs.length cap):=by rw [hxl];exact hP1
   cases hP2 with
   | s _ _ _ _ b0 off vs hcap hmax hsz' ha hK hc hr=>
    have hne:xs≠[]:=fun e=>by rw [e] at hx;cases hx
    have h1:=zm (show VR2 [] ⟨g.K,fun _=>undef⟩ w1 (.x (.d (.v (.string ra)))) _ from SR.d _ _ (hr i _ hx 0 _ rfl));have h2:=zm (show VR2 [] ⟨g.K,fun _=>undef⟩ w1 (.x (.d (.v (.string rb)))) _ from SR.d _ _ (hr i _ hx 1 _ rfl));refine⟨b0,off,ha hne,?_,?_⟩
    ·rw [← h1];exact hc i _ hx 0 (Nat.zero_lt_succ _)
    ·rw [← h2];exact hc i _ hx 1 (Nat.lt_succ_self _)
  have hil:(i:Int) < rows.length:=by omega
  have hLq:∀ W,Below w1.heap.size w1 W→Laid Tryz.prog g.K W∧∀ b o,g.K b o→b < W.heap.size:=fun W hb=>
   ⟨hL2.mono ⟨fun _ _ h=>h,fun b o hk=>hb.cell (Nat.lt_of_lt_of_le (hgo.val b o hk) hb1.size)⟩,fun b o hk=>Nat.lt_of_lt_of_le (Nat.lt_of_lt_of_le (hgo.val b o hk) hb1.size) hb.size⟩
  have hbA:Below w1.heap.size w1 (w1.alloc (.cells #[.string ra,.string rb] 36)):=(Below.refl _ w1).alloc (Nat.le_refl _) _;have hz1:(w1.alloc (.cells #[.string ra,.string rb] 36)).heap.size=w1.heap.size+1:=by simp
  have hq1:(w1.alloc (.cells #[.string ra,.string rb] 36)).heap[w1.heap.size]?=some (.cells #[.string ra,.string rb] 36 (0,0)):=by unfold World.alloc;exact Array.getElem?_push_size
  cases q1 with
  | false=>
   have hiN:¬ i < N:=fun e=>by rw [if_pos e] at hq;cases hq.1
   have hwr:wrA rows N=.t [sv emptyB,iv .i64 6]:=by unfold wrA;rw [if_pos (by omega)]
   rw [hwr];refine (wpIn_wide (n:=0)).2 ?_
   go_wp2_with (go_at_call 40;refine (plain_kq p1 g.K _ (hLq _ hbA).1 (hLq _ hbA).2).mono ?_)
   first|(rintro _ W2 rfl b2)|(rintro _ W2 ⟨rfl,b2⟩)
   go_wp2
   refine fin0 _ _ emptyB 6 (hb1.trans ((hbA.trans (b2.mono (by omega))).mono hb1.size)) ?_ ?_ ?_ ?_ <;> rfl
  | true=>
   cases q2 with
   | false=>
    have hiN:¬ i < N:=fun e=>by rw [if_pos e] at hq;cases hq.2
    have hwr:wrA rows N=.t [sv emptyB,iv .i64 6]:=by unfold wrA;rw [if_pos (by omega)]
    rw [hwr];refine (wpIn_wide (n:=0)).2 ?_
    go_wp2_with (go_at_call 40;refine (plain_kq p1 g.K _ (hLq _ hbA).1 (hLq _ hbA).2).mono ?_)
    first|(rintro _ W2 rfl b2)|(rintro _ W2 ⟨rfl,b2⟩)
    have hB2:Below w1.heap.size w1 W2:=hbA.trans (b2.mono (by omega));have hq2:W2.heap[w1.heap.size]?=some (.cells #[.string ra,.string rb] 36 (0,0)):=(b2.block _ (by omega)).trans hq1;have c20:W2.cell? ⟨w1.heap.size,0,none⟩=some (.string ra):=by unfold World.cell?;dsimp only;rw [hq2];rfl
    have c21:W2.cell? ⟨w1.heap.size,1,none⟩=some (.string rb):=by unfold World.cell?;dsimp only;rw [hq2];rfl
    go_wp2_with (go_at_call 40;refine (plain_kq p2 g.K _ (hLq _ hB2).1 (hLq _ hB2).2).mono ?_)
    first|(rintro _ W3 rfl b3)|(rintro _ W3 ⟨rfl,b3⟩)
    go_wp2
    refine fin0 _ _ emptyB 6 (hb1.trans ((hB2.trans (b3.mono hB2.size)).mono hb1.size)) ?_ ?_ ?_ ?_ <;> rfl
   | true=>
    have hiN:i < N:=by
     rcases Nat.lt_or_ge i N with h|h
     ·exact h
     ·rw [if_neg (by omega)] at hq;cases hq
    refine (wpIn_wide (n:=0)).2 ?_
    go_wp2_with (go_at_call 40;refine (plain_kq p1 g.K _ (hLq _ hbA).1 (hLq _ hbA).2).mono ?_)
    first|(rintro _ W2 rfl b2)|(rintro _ W2 ⟨rfl,b2⟩)
    have hB2:Below w1.heap.size w1 W2:=hbA.trans (b2.mono (by omega));have hq2:W2.heap[w1.heap.size]?=some (.cells #[.string ra,.string rb] 36 (0,0)):=(b2.block _ (by omega)).trans hq1;have c20:W2.cell? ⟨w1.heap.size,0,none⟩=some (.string ra):=by unfold World.cell?;dsimp only;rw [hq2];rfl
    have c21:W2.cell? ⟨w1.heap.size,1,none⟩=some (.string rb):=by unfold World.cell?;dsimp only;rw [hq2];rfl
    go_wp2_with (go_at_call 40;refine (plain_kq p2 g.K _ (hLq _ hB2).1 (hLq _ hB2).2).mono ?_)
    first|(rintro _ W3 rfl b3)|(rintro _ W3 ⟨rfl,b3⟩)
    have hB3:Below w1.heap.size w1 W3:=hB2.trans (b3.mono hB2.size);have hz2:w1.heap.size < W2.heap.size:=by have:=b2.size;omega
    have hq3:W3.heap[w1.heap.size]?=some (.cells #[.string ra,.string rb] 36 (0,0)):=(b3.block _ hz2).trans hq2;have c30:W3.cell? ⟨w1.heap.size,0,none⟩=some (.string ra):=by unfold World.cell?;dsimp only;rw [hq3];rfl
    have c31:W3.cell? ⟨w1.heap.size,1,none⟩=some (.string rb):=by unfold World.cell?;dsimp only;rw [hq3];rfl
    have hI3:=isB_below hI hB3;have hl1:(lineB (ra,rb)).size=ra.size+rb.size+2:=by
     unfold lineB;simp only [ByteArray.size_append];have e1:(⟨#[9]⟩:ByteArray).size=1:=rfl;have e2:(⟨#[10]⟩:ByteArray).size=1:=rfl;omega
    have hl2:(lineB (ra,rb)).data.toList.length=(lineB (ra,rb)).size:=Array.length_toList;have hl3:(textL (rows.take i)).length+(ra.size+rb.size+2)≤1099511627776:=by
     have:(textL (rows.take i)).length+(lineB (ra,rb)).data.toList.length≤(textL rows).length:=hT2;omega
    have hcall:∀ (E:Ending→World→Prop),(∀ W,Lib.BuilderAtF 112 5 w.heap.size w.heap.size (.pointer (some ⟨w.heap.size,0,none⟩)) (Lib.byteCells (textL (rows.take i)) ++ Lib.strCells (lineB (ra,rb))) W→Below w.heap.size W3 W→E (.returned (.tuple #[.int .i64 (lineB (ra,rb)).size,.nilIface])) W) →
      Calls Tryz.prog 41 #[.pointer (some ⟨w.heap.size,0,none⟩),.string (lineB (ra,rb))] W3 E:=fun E hE=>by
     refine (wstring_k w.heap.size w.heap.size _ (lineB (ra,rb)) _ hI3 (by rw [Lib.byteCells_length];omega) (by have:=hb1.size;have:=hB3.size;omega)).mono ?_
     rintro _ W ⟨rfl,h,b,_⟩;exact hE W h b
    have hszr:ra.size+rb.size+2≤1099511627776:=by omega
    have hW3:w.heap.size≤W3.heap.size:=by have:=hb1.size;have:=hB3.size;omega
    clear b2 b3 c20 c21 hq1 hq2 hq3 hbA;go_wp2_with (go_at_call 41;refine hcall _ ?_)
    all_goals first
     | (exfalso;omega)
     | skip
    intro W4 h4 b4;go_wp2
    refine⟨⟨rfl,trivial,rfl,rfl,rfl,?_,i+1,by omega,?_,?_⟩,?_⟩
    ·exact (hb1.trans (hB3.mono hb1.size)).trans b4
    ·rfl
    ·refine .inr ?_
     have e:Lib.byteCells (textL (rows.take (i+1)))=Lib.byteCells (textL (rows.take i)) ++ Lib.strCells (lineB (ra,rb)):=by
      rw [hT];unfold Lib.byteCells;rw [List.map_append];rfl
     rw [e];exact h4
    ·rw [msr_of (i:=i+1) rfl,msr_of (i:=i) rfl];omega
 ·obtain rfl:i=rows.length:=by omega
  have hNr:¬ N < rows.length:=by omega
  rw [List.take_length] at hI;have hlen:(Lib.byteCells (textL rows)).length≤1099511627776:=by rw [Lib.byteCells_length];exact hsz
  have hle:(Lib.byteCells (textL rows)).length=(textL rows).length:=Lib.byteCells_length _;have cl:=blen_k w.heap.size w.heap.size (Lib.byteCells (textL rows)) w1 hI;have cs:=bstring_k w.heap.size w.heap.size (textL rows) w1 hI hb1.size;by_cases hbig:30000 < (textL rows).length
  ·have hwr:wrA rows N=.t [sv emptyB,iv .i64 3]:=by unfold wrA;rw [if_neg hNr,if_pos hbig]
   refine (wpIn_wide (n:=0)).2 ?_
   go_wp2_with (go_at_call 42;refine cl.mono ?_)
   rintro _ _ ⟨rfl,rfl⟩;have hlen2:((Lib.byteCells (textL rows)).length:Int) > 30000:=by omega
   go_wp2_with (go_at_call 43;refine cs.mono ?_)
   all_goals first
    | (exfalso;omega)
    | skip
   rw [hwr];refine fin0 _ _ emptyB 3 hb1 ?_ ?_ ?_ ?_ <;> rfl
  ·have hwr:wrA rows N=.t [sv ⟨(textL rows).toArray⟩,iv .i64 0]:=by unfold wrA;rw [if_neg hNr,if_neg hbig]
   refine (wpIn_wide (n:=0)).2 ?_
   go_wp2_with (go_at_call 42;refine cl.mono ?_)
   rintro _ _ ⟨rfl,rfl⟩;have hlen2:¬ ((Lib.byteCells (textL rows)).length:Int) > 30000:=by omega
   go_wp2_with (go_at_call 43;refine cs.mono ?_)
   all_goals first
    | (exfalso;omega)
    | skip
   rintro _ W ⟨rfl,_,b,_⟩;go_wp2
   rw [hwr];refine fin0 _ _ _ 0 (hb1.trans b) ?_ ?_ ?_ ?_ <;> rfl
end Go.Proofs.YtidkoikjdghlmaaGreatDoor
namespace Go.Proofs.YtidkoikjdghlmaaGreatDoor
open Go Go.QL FoT
set_option maxHeartbeats 1600000
set_option maxRecDepth 20000
attribute [local irreducible] ACall FnC YC
theorem za7 (a b:Bs8):bs a ++ bs b=bs (a ++ b):=by
 apply ByteArray.ext;rw [ByteArray.data_append];simp [bs]
theorem rows_pv (l:List Rw):(l.map fun r=>((bs r.1,bs r.2):Row)).map zlu=l.map rwPV:=by
 rw [List.map_map];rfl
theorem rows_txt (l:List Rw):textL (l.map fun r=>((bs r.1,bs r.2):Row))=txtL l:=by
 induction l with
 | nil=>rfl
 | cons r l ih=>
  rw [List.map_cons,txt_cons,← ih];show (lineB (bs r.1,bs r.2)).data.toList ++ textL _=_
  congr 1
  unfold lineB lnL;have e:bs r.1 ++ ⟨#[9]⟩ ++ bs r.2 ++ ⟨#[10]⟩=bs (r.1 ++ [9] ++ r.2 ++ [10]):=by
   have e9:(⟨#[9]⟩:ByteArray)=bs [9]:=rfl;have e10:(⟨#[10]⟩:ByteArray)=bs [10]:=rfl;rw [e9,e10,za7,za7,za7]
  show (bs r.1 ++ ⟨#[9]⟩ ++ bs r.2 ++ ⟨#[10]⟩).data.toList=_
  rw [e,zco];simp
theorem txt_small {l:List Rw} {B:Nat} (hb:∀ r ∈ l,r.1.length≤B∧r.2.length≤B):(txtL l).length≤l.length * (2 * B+2):=by
 induction l with
 | nil=>exact Nat.zero_le _
 | cons r l ih=>
  have h1:=hb r List.mem_cons_self;have h2:=ih fun x hx=>hb x (List.mem_cons_of_mem _ hx)
  rw [txt_cons,List.length_append,List.length_cons,Nat.succ_mul];have h3:(lnL r).length=r.1.length+r.2.length+2:=by unfold lnL;simp;omega
  omega
theorem first_bad:∀ {l:List Rw},¬ (∀ r ∈ l,plnR r)→∃ N,∃ h:N < l.length,¬ plnR l[N]∧∀ i (hi:i < N),plnR (l[i]'(Nat.lt_trans hi h))
 | [],h=>absurd (fun r hr=>by cases hr) h
 | r::l,h=>by
  by_cases hr:plnR r
  ·have h2:¬ (∀ x ∈ l,plnR x):=fun e=>h fun x hx=>by
    rcases List.mem_cons.1 hx with rfl|hx
    ·exact hr
    ·exact e x hx
   obtain⟨N,hN,h3,h4⟩:=first_bad h2;refine⟨N+1,by simp;omega,h3,fun i hi=>?_⟩
   cases i with
   | zero=>exact hr
   | succ i=>exact h4 i (by omega)
  ·exact⟨0,by simp,hr,fun i hi=>absurd hi (Nat.not_lt_zero _)⟩
abbrev Bnd (l:List Rw):Prop:=∀ r ∈ l,r.1.length≤1048576∧r.2.length≤1048576
theorem write_at (l:List Rw) (h60:l.length≤60) (hb:Bnd l) (N:Nat) (hN:N≤l.length) (hg:∀ i (h:i < l.length),i < N→plnR l[i]) (hbad:∀ h:N < l.length,¬ plnR l[N]) :
  FnC Tryz.prog 21 [rwsAV l] (wrA (l.map fun r=>(bs r.1,bs r.2)) N):=by
 have hs:=txt_small hb;have hm:l.length * (2 * 1048576+2)≤60 * (2 * 1048576+2):=Nat.mul_le_mul_right _ h60;have hpl:∀ r ∈ l,FnC Tryz.prog 40 [sv (bs r.1)] (bv (plnL r.1))∧FnC Tryz.prog 40 [sv (bs r.2)] (bv (plnL r.2)):=fun r hr=>
  ⟨pln_fn r.1 (by have:=(hb r hr).1;omega),pln_fn r.2 (by have:=(hb r hr).2;omega)⟩
 have:=write_gen (l.map fun r=>(bs r.1,bs r.2)) (by rw [List.length_map];exact h60) (by rw [rows_txt];omega) N (by rw [List.length_map];exact hN)
  (fun i h hi=>by
   rw [List.length_map] at h;rw [List.getElem_map];obtain⟨p1,p2⟩:=hpl l[i] (List.getElem_mem h);have hp:=hg i h hi;rw [hp.1] at p1;rw [hp.2] at p2;exact⟨p1,p2⟩)
  (fun h=>by
   rw [List.length_map] at h;rw [List.getElem_map];obtain⟨p1,p2⟩:=hpl l[N] (List.getElem_mem h);refine⟨_,_,p1,p2,?_⟩
   have:=hbad h;unfold plnR at this;cases h1:plnL l[N].1 <;> cases h2:plnL l[N].2 <;> simp_all)
 rw [rows_pv] at this;exact this
theorem zg9 (l:List Rw) (h:okRws l) (hb:Bnd l) (hz:(txtL l).length≤30000):FnC Tryz.prog 21 [rwsAV l] (.t [sv (bs (txtL l)),iv .i64 0]):=by
 have:=write_at l h.1 hb l.length (Nat.le_refl _) (fun i hi _=>h.2 _ (List.getElem_mem hi)) (fun e=>absurd e (Nat.lt_irrefl _));unfold wrA at this;rw [if_neg (by rw [List.length_map];exact Nat.lt_irrefl _),rows_txt,if_neg (by omega)] at this;exact this
theorem write_ex (l:List Rw) (hb:Bnd l):∃ s e,FnC Tryz.prog 21 [rwsAV l] (.t [sv s,iv .i64 e])∧(e=0→s=bs (txtL l)∧okRws l∧(txtL l).length≤30000):=by
 by_cases h60:l.length≤60
 ·by_cases hall:∀ r ∈ l,plnR r
  ·by_cases hz:(txtL l).length≤30000
   ·exact⟨_,0,zg9 l ⟨h60,hall⟩ hb hz,fun _=>⟨rfl,⟨h60,hall⟩,hz⟩⟩
   ·have:=write_at l h60 hb l.length (Nat.le_refl _) (fun i hi _=>hall _ (List.getElem_mem hi)) (fun e=>absurd e (Nat.lt_irrefl _));unfold wrA at this;rw [if_neg (by rw [List.length_map];exact Nat.lt_irrefl _),rows_txt,if_pos (by omega)] at this;exact⟨_,3,this,fun e=>by cases e⟩
  ·obtain⟨N,hN,h1,h2⟩:=first_bad hall;have:=write_at l h60 hb N (Nat.le_of_lt hN) (fun i hi hi2=>h2 i hi2) (fun _=>h1);unfold wrA at this;rw [if_pos (by rw [List.length_map];exact hN)] at this;exact⟨_,6,this,fun e=>by cases e⟩
 ·have:=write_long (l.map fun r=>(bs r.1,bs r.2)) (by rw [List.length_map];omega);rw [rows_pv] at this;exact⟨_,3,this,fun e=>by cases e⟩
theorem logs_fn (l:List Rw):FnC Tryz.prog 23 [rwsAV l,rwsAV l] (bv true):=by
 have hll:(l.map rwPV).length=l.length:=List.length_map _;have hq0:(((l.map rwPV).length:Int) != ((l.map rwPV).length:Int))=false:=by simp
 refine hdC Tryz.func23 Tryz.ntmps23 (res:=[.tmp 4]) fun w0 K0=>?_
 repeat' first|refine zd ?_|refine zc ?_|((first|refine zf ?_|refine regA ?_|fail);conv=>whnf)|(refine za rfl (zM hq0) (fun _=>?_))|(refine lnA fun hln=>?_;conv=>whnf)|fail
 refine zJ (fun i:Nat=>[(5,iv .i64 i),(0,rwsAV l),(1,rwsAV l)]) (fun _=>[]) (fun i=>i≤l.length) (fun i=>l.length - i) 0 (Nat.zero_le _) impA ?_
 intro i hi;rcases Nat.lt_or_ge i l.length with hil|hil
 ·have hq:(!(eqL [Value.string (bs l[i].1),Value.string (bs l[i].2)] [Value.string (bs l[i].1),Value.string (bs l[i].2)]))=false:=by simp [eqL,eqV]
  repeat' first|refine zd ?_|refine zc ?_|((first|refine zf ?_|refine zk ?_|refine zi ?_|refine regA ?_|refine drA (id:=6) 8 false [0,0,3,7,0,0,48,112,255] ?_|fail);conv=>whnf)|exact abA hb|(refine za rfl (zM hq) (fun _=>?_))|(refine zso rfl (fun hb=>?_) (fun hb=>?_))|((first|refine zsq ?_|refine andA ?_|with_reducible refine exA fun _=>?_|fail);conv=>whnf)|(refine lnA fun hln=>?_;conv=>whnf)|fail
  exact⟨i+1,by omega,by omega,impA⟩
 ·repeat' first|refine zd ?_|refine zc ?_|((first|refine zf ?_|refine zk ?_|refine zi ?_|refine regA ?_|refine drA (id:=6) 8 false [0,0,3,7,0,0,48,112,255] ?_|fail);conv=>whnf)|exact abA hb|(refine zso rfl (fun hb=>?_) (fun hb=>?_))|(refine lnA fun hln=>?_;conv=>whnf)|fail
  rfl
theorem round_fn (l:List Rw) (t:Bs8) (hb:Bnd l) (ht:t.length≤1048576):FnC Tryz.prog 6 [rwsAV l,sv (bs t)] (bv true):=by
 have ha:=awake13_fn;obtain⟨s,e,w1,we⟩:=write_ex l hb;have key:∃ (rv:AV) (z:Int),FnC Tryz.prog 22 [sv (bs t)] (.t [rv,iv .i64 z])∧((z≠0∧rv=.x (.d (.v (.slice none 0 0))))∨(z=0∧∃ rows,rv=rwsAV rows∧FnC Tryz.prog 21 [rwsAV rows] (.t [sv (bs t),iv .i64 0]))):=by
  by_cases hlong:30000 < t.length
  ·exact⟨_,3,read_long t hlong,.inl ⟨by decide,rfl⟩⟩
  ·by_cases hex:∃ rows,okRws rows∧txtL rows=t
   ·obtain⟨rows,hok,rfl⟩:=hex;have hbr:Bnd rows:=fun r hr=>by
     have hle:(lnL r).length≤(txtL rows).length:=by
      obtain⟨a,b,rfl⟩:=List.append_of_mem hr;rw [txt_app,txt_cons,List.length_append,List.length_append];omega
     have h3:(lnL r).length=r.1.length+r.2.length+2:=by unfold lnL;simp;omega
     omega
    exact⟨_,0,read_ok rows hok (by omega),.inr ⟨rfl,rows,rfl,zg9 rows hok hbr (by omega)⟩⟩
   ·exact⟨_,6,read_bad t (fun rows h1 h2=>hex ⟨rows,h1,h2⟩) (by omega),.inl ⟨by decide,rfl⟩⟩
 obtain⟨rv,z,r1,hz⟩:=key;have hfin:(bif (bif ((0:Int) == 0) then ((bs t).toList == (bs t).toList) else false) then true else false)=true:=by simp
 by_cases he:e=0
 ·obtain⟨rfl,hok,hsz⟩:=we he;subst he;have r2:=read_ok l hok hsz;have lg:=logs_fn l;rcases hz with ⟨hz,rfl⟩|⟨rfl,rows,rfl,w2⟩
  ·have hzb:(z != 0)=true:=by simpa using hz
   refine hdC Tryz.func6 Tryz.ntmps6 (res:=[.tmp 4]) fun w0 K0=>?_
   repeat' first|refine zd ?_|((first|refine zf ?_|refine zi ?_|refine regA ?_|refine zsn (w1) ?_|refine zsn (r2) ?_|refine zsp (lg) ?_|refine zsn (r1) ?_|refine zsp (ha) ?_|refine pkA ?_|fail);conv=>whnf)|(refine za rfl (fun _=>?_) (zaf hzb))|(refine zsu rfl ?_)|(refine zsv rfl ?_)|fail
   rfl
  ·refine hdC Tryz.func6 Tryz.ntmps6 (res:=[.tmp 4]) fun w0 K0=>?_
   repeat' first|refine zd ?_|((first|refine zf ?_|refine zi ?_|refine regA ?_|refine zsn (w1) ?_|refine zsn (r2) ?_|refine zsp (lg) ?_|refine zsn (r1) ?_|refine zsn (w2) ?_|refine zsp (ha) ?_|refine pkA ?_|fail);conv=>whnf)|(refine zsu rfl ?_)|(refine zsv rfl ?_)|fail
   exact congrArg (fun b=>some (bv b)) hfin
 ·have heb:(e == 0)=false:=by simpa using he
  rcases hz with ⟨hz,rfl⟩|⟨rfl,rows,rfl,w2⟩
  ·have hzb:(z != 0)=true:=by simpa using hz
   refine hdC Tryz.func6 Tryz.ntmps6 (res:=[.tmp 4]) fun w0 K0=>?_
   repeat' first|refine zd ?_|((first|refine zf ?_|refine zi ?_|refine regA ?_|refine zsn (w1) ?_|refine zsn (r1) ?_|refine zsp (ha) ?_|refine pkA ?_|fail);conv=>whnf)|(refine za rfl (fun _=>?_) (zaf hzb))|(refine za rfl (zM heb) (fun _=>?_))|fail
   rfl
  ·refine hdC Tryz.func6 Tryz.ntmps6 (res:=[.tmp 4]) fun w0 K0=>?_
   repeat' first|refine zd ?_|((first|refine zf ?_|refine zi ?_|refine regA ?_|refine zsn (w1) ?_|refine zsn (r1) ?_|refine zsn (w2) ?_|refine zsp (ha) ?_|refine pkA ?_|fail);conv=>whnf)|(refine za rfl (zM heb) (fun _=>?_))|(refine zsv rfl ?_)|fail
   exact congrArg (fun b=>some (bv b)) hfin
end Go.Proofs.YtidkoikjdghlmaaGreatDoor
end
