/- What the functions that this law reaches return: part 0. No condition. -/
import Derived.Test.YtidkoikjdghlmaaGreatDoorB05
set_option linter.all false
noncomputable section
namespace Go.Proofs.YtidkoikjdghlmaaGreatDoor
open Go Go.QL FoT
set_option maxHeartbeats 1600000
attribute [local irreducible] ACall FnC
def bs (l:Bs8):ByteArray:=⟨l.toArray⟩
theorem zbj (l:Bs8):(bs l).size=l.length:=List.size_toArray ..
theorem zco (l:Bs8):(bs l).data.toList=l:=by simp [bs]
theorem zsc (s:ByteArray):bs s.data.toList=s:=by
 apply ByteArray.ext;simp [bs]
theorem zrs {a b:Bs8} (h:bs a=bs b):a=b:=by
 have:=congrArg (fun s:ByteArray=>s.data.toList) h;simpa [bs] using this
theorem zdf (a b:Bs8):((bs a).toList == (bs b).toList)=decide (a=b):=by
 rw [Bool.eq_iff_iff,Lib.bytes_beq_iff,decide_eq_true_iff];exact⟨zrs,congrArg bs⟩
def zaa (s:Bs8):List PV:=[.v (.string (bs s))]
def zac (V:List Bs8):PV:=.s 1 (V.map zaa)
theorem outB_true {n lo hi:Int}:outB n lo hi=true↔¬ (lo≤n∧n≤hi):=by rw [← zQ];simp
theorem zcE (n lo hi:Int):outB n lo hi=decide (¬ (lo≤n∧n≤hi)):=by
 rw [Bool.eq_iff_iff,outB_true,decide_eq_true_iff]
theorem zpQ (n lo hi:Int):FnC Tryz.prog 48 [iv .i64 n,iv .i64 lo,iv .i64 hi] (bv (outB n lo hi)):=by
 refine hdC Tryz.func48 Tryz.ntmps48 (res:=[.tmp 6]) fun w0 K0=>?_
 repeat' first|refine zd ?_|((first|refine zi ?_|refine regA ?_|refine andA ?_|fail);conv=>whnf)|fail
 rfl
theorem zpj {a c:UInt8}:(a≤c)↔(a.toNat:Int)≤c.toNat:=by rw [UInt8.le_iff_toNat_le];omega
abbrev zoe (c:UInt8):Bool:=bif decide ((c.toNat:Int) ≥ 97) then decide ((c.toNat:Int)≤122) else false
abbrev zkW (i:Nat) (c:UInt8):Bool:=bif decide ((i:Int) > 0) then (bif ((c.toNat:Int) == 95) then true else bif decide ((c.toNat:Int) ≥ 48) then decide ((c.toNat:Int)≤57) else false) else false
theorem zmB (c:UInt8):zoe c=(97≤c && c≤122):=by
 rw [Bool.eq_iff_iff];simp [zoe,zpj]
theorem zmA (i:Nat) (c:UInt8):zkW i c=(!(decide (i=0)) && ((48≤c && c≤57) || c == 95)):=by
 rw [Bool.eq_iff_iff];have e:(c == 95)=((c.toNat:Int) == 95):=by
  rw [Bool.eq_iff_iff,beq_iff_eq,beq_iff_eq,← UInt8.toNat_inj];show c.toNat=95↔_
  omega
 rw [e];simp only [zkW,Bool.cond_eq_ite];simp [zpj,Nat.pos_iff_ne_zero];grind
theorem zg1 (i:Nat) (c:UInt8):zg2 (decide (i=0)) c=(zoe c || zkW i c):=by
 rw [zmB,zmA];rfl
theorem zkd {l:Bs8} (h:1≤l.length):l[l.length - 1]?=some (l.getLastD 0):=by
 rw [List.getLastD_eq_getLast?,List.getLast?_eq_getElem?];rw [List.getElem?_eq_getElem (by omega)];rfl
abbrev zpT (l:Bs8):Bool:=((l.getLastD 0).toNat:Int) == 95
theorem zeo (l:Bs8):zpT l=(l.getLastD 0 == 95):=by
 rw [Bool.eq_iff_iff,beq_iff_eq,beq_iff_eq,← UInt8.toNat_inj];show _↔(l.getLastD 0).toNat=95
 omega
theorem zl3 (l:Bs8):FnC Tryz.prog 26 [sv (bs l)] (bv (zbb l)):=by
 have hsz:=zbj l;have hli:=zco l;have o:=zpQ (bs l).size 1 20;by_cases h1:1≤l.length∧l.length≤20
 ·have ho:outB (bs l).size 1 20=false:=zQ.2 (by omega);rw [ho] at o;have hg:(bs l).data.toList[((bs l).size - 1:Int).toNat]?=some (l.getLastD 0):=by
   rw [hli,show ((bs l).size - 1:Int).toNat=l.length - 1 by omega];exact zkd h1.1
  cases h2:zpT l with
  | true=>
   have hr:zbb l=false:=by
    unfold zbb;rw [← zeo,h2];simp
   rw [hr];refine hdC Tryz.func26 Tryz.ntmps26 (res:=[.tmp 2]) fun w0 K0=>?_
   repeat' first|refine zd ?_|((first|refine zi ?_|refine regA ?_|refine zsn (o) ?_|refine⟨_,ze ⟨by omega,hg⟩,?_⟩|fail);conv=>whnf)|(refine za rfl (fun _=>?_) (zaf h2))|((first|refine zsq ?_|refine andA ?_|fail);conv=>whnf)|fail
   rfl
  | false=>
   have hr:zbb l=z7 true l:=by
    unfold zbb;rw [← zeo,h2,decide_eq_true h1.1,decide_eq_true h1.2];rfl
   rw [hr];have hlen:((bs l).data.toList.map fun c=>[PV.v (.int .u8 c.toNat)]).length=l.length:=by rw [hli,List.length_map]
   have hmax:(bs l).size≤maxLen:=by unfold maxLen;omega
   refine hdC Tryz.func26 Tryz.ntmps26 (res:=[.tmp 2]) fun w0 K0=>?_
   repeat' first|refine zd ?_|refine zc ?_|((first|refine zf ?_|refine regA ?_|refine zsn (o) ?_|refine⟨_,ze ⟨by omega,hg⟩,?_⟩|fail);conv=>whnf)|(refine za rfl (zM h2) (fun _=>?_))|((first|refine And.intro hmax ?_|refine zsq ?_|refine andA ?_|fail);conv=>whnf)|(refine lnA fun hln=>?_;conv=>whnf)|fail
   refine zJ (fun i:Nat=>[(19,iv .i64 i),(18,iv .i64 l.length),(17,.x (.d (.s 1 (l.map fun c=>[.v (.int .u8 c.toNat)]))))]) (fun _=>[])
    (fun i=>i≤l.length∧z7 true l=z7 (decide (i=0)) (l.drop i)) (fun i=>l.length - i) 0 ⟨Nat.zero_le _,rfl⟩
    (Imp.slots ⟨rfl,congrArg (fun k:Nat=>some (iv .i64 k)) hlen,congrArg (fun q:Bs8=>some (AV.x (.d (.s 1 (q.map fun c:UInt8=>[PV.v (.int .u8 (c.toNat:Int))]))))) hli,trivial⟩) ?_
   rintro i ⟨hi,hn⟩;rcases Nat.lt_or_ge i l.length with hil|hil
   ·rw [List.drop_eq_getElem_cons hil,z7,zg1] at hn;cases ha:zoe l[i] with
    | true=>
     rw [ha] at hn;have hn:z7 true l=z7 false (l.drop (i+1)):=hn;repeat' first|refine zd ?_|refine zc ?_|((first|refine zf ?_|refine zk ?_|refine zi ?_|refine regA ?_|fail);conv=>whnf)|exact abA hb|(refine za rfl (fun _=>?_) (zaf ha))|((refine pkA ?_);conv=>whnf)|(refine zso rfl (fun hb=>?_) (fun hb=>?_))|((first|refine zsq ?_|refine andA ?_|with_reducible refine exA fun _=>?_|fail);conv=>whnf)|fail
     exact⟨i+1,⟨by omega,hn⟩,by omega,impA⟩
    | false=>
     rw [ha] at hn;cases hc:zkW i l[i] with
     | true=>
      rw [hc] at hn;have hn:z7 true l=z7 false (l.drop (i+1)):=hn;repeat' first|refine zd ?_|refine zc ?_|((first|refine zf ?_|refine zk ?_|refine zi ?_|refine regA ?_|fail);conv=>whnf)|exact abA hb|(refine za rfl (zM ha) (fun _=>?_))|((refine pkA ?_);conv=>whnf)|(refine za rfl (fun _=>?_) (zaf hc))|(refine zso rfl (fun hb=>?_) (fun hb=>?_))|((first|refine zsq ?_|refine andA ?_|with_reducible refine exA fun _=>?_|fail);conv=>whnf)|fail
      exact⟨i+1,⟨by omega,hn⟩,by omega,impA⟩
     | false=>
      rw [hc] at hn;have hn:z7 true l=false:=hn;rw [hn];repeat' first|refine zd ?_|refine zc ?_|((first|refine zf ?_|refine zk ?_|refine zi ?_|refine regA ?_|fail);conv=>whnf)|exact abA hb|(refine za rfl (zM ha) (fun _=>?_))|((refine pkA ?_);conv=>whnf)|(refine za rfl (zM hc) (fun _=>?_))|(refine zso rfl (fun hb=>?_) (fun hb=>?_))|((first|refine andA ?_|with_reducible refine exA fun _=>?_|fail);conv=>whnf)|fail
      rfl
   ·rw [List.drop_eq_nil_of_le hil] at hn;have hn:z7 true l=true:=hn;rw [hn];repeat' first|refine zd ?_|refine zc ?_|((first|refine zf ?_|refine zk ?_|refine zi ?_|refine regA ?_|fail);conv=>whnf)|exact abA hb|(refine zso rfl (fun hb=>?_) (fun hb=>?_))|fail
    rfl
 ·have ho:outB (bs l).size 1 20=true:=outB_true.2 (by omega);rw [ho] at o;have hr:zbb l=false:=by
   unfold zbb;have:(decide (1≤l.length) && decide (l.length≤20))=false:=by
    rw [Bool.eq_false_iff];simp;omega
   rw [this];rfl
  rw [hr];refine hdC Tryz.func26 Tryz.ntmps26 (res:=[.tmp 2]) fun w0 K0=>?_
  repeat' first|refine zd ?_|((first|refine zi ?_|refine regA ?_|refine zsn (o) ?_|refine⟨95,zax (fun h=>absurd h (by decide)),?_⟩|fail);conv=>whnf)|(refine zsu rfl ?_)|((first|refine⟨IntKind.wrap _ _,rfl,?_⟩|refine andA ?_|fail);conv=>whnf)|fail
  rfl
def idxV (t:Bs8):List Bs8→Nat→Int
 | [],_=>-1
 | v::r,i=>if v=t then i else idxV t r (i+1)
theorem zp8 (V:List Bs8) (t:Bs8):FnC Tryz.prog 49 [.x (.d (zac V)),sv (bs t)] (iv .i64 (idxV t V 0)):=by
 refine hdC Tryz.func49 Tryz.ntmps49 (res:=[.tmp 4]) fun w0 K0=>?_
 repeat' first|refine zd ?_|refine zc ?_|((refine regA ?_);conv=>whnf)|(refine lnA fun hln=>?_;conv=>whnf)|fail
 refine zJ (fun i:Nat=>[(8,iv .i64 i),(7,iv .i64 V.length),(0,.x (.d (zac V))),(1,sv (bs t))]) (fun _=>[]) (fun i=>i≤V.length∧idxV t V 0=idxV t (V.drop i) i) (fun i=>V.length - i) 0 ⟨Nat.zero_le _,rfl⟩
  (Imp.slots ⟨rfl,congrArg (fun k:Nat=>some (iv .i64 k)) (List.length_map _),rfl,rfl,trivial⟩) ?_
 rintro i ⟨hi,hfo⟩;rcases Nat.lt_or_ge i V.length with hil|hil
 ·rw [List.drop_eq_getElem_cons hil,idxV] at hfo;by_cases e:V[i]=t
  ·rw [if_pos e] at hfo;have hq:((bs t).toList == (bs V[i]).toList)=true:=by rw [zdf,e];exact decide_eq_true rfl
   repeat' first|refine zd ?_|refine zc ?_|((first|refine zf ?_|refine zk ?_|refine zi ?_|refine regA ?_|fail);conv=>whnf)|exact abA hb|(refine za rfl (fun _=>?_) (zaf hq))|(refine zso rfl (fun hb=>?_) (fun hb=>?_))|((first|refine andA ?_|with_reducible refine exA fun _=>?_|fail);conv=>whnf)|fail
   exact congrArg some (congrArg (iv .i64) hfo.symm)
  ·rw [if_neg e] at hfo;have hq:((bs t).toList == (bs V[i]).toList)=false:=by rw [zdf];exact decide_eq_false (fun h=>e h.symm)
   repeat' first|refine zd ?_|refine zc ?_|((first|refine zf ?_|refine zk ?_|refine zi ?_|refine regA ?_|fail);conv=>whnf)|exact abA hb|(refine za rfl (zM hq) (fun _=>?_))|(refine zso rfl (fun hb=>?_) (fun hb=>?_))|((first|refine zsq ?_|refine andA ?_|with_reducible refine exA fun _=>?_|fail);conv=>whnf)|fail
   exact⟨i+1,⟨by omega,hfo⟩,by omega,impA⟩
 ·rw [List.drop_eq_nil_of_le hil,idxV] at hfo;repeat' first|refine zd ?_|refine zc ?_|((first|refine zf ?_|refine zk ?_|refine zi ?_|refine regA ?_|fail);conv=>whnf)|exact abA hb|(refine zso rfl (fun hb=>?_) (fun hb=>?_))|fail
  exact congrArg some (congrArg (iv .i64) hfo.symm)
theorem zkl (t:Bs8):∀ (V:List Bs8) (i:Nat),(t ∈ V→0≤idxV t V i)∧(t ∉ V→idxV t V i = -1)
 | [],i=>⟨fun h=>(by cases h),fun _=>rfl⟩
 | v::r,i=>by
  rw [idxV];by_cases e:v=t
  ·rw [if_pos e];exact⟨fun _=>by omega,fun h=>absurd (by simp [e]) h⟩
  ·rw [if_neg e];obtain⟨h1,h2⟩:=zkl t r (i+1);refine⟨fun h=>h1 ?_,fun h=>h2 ?_⟩
   ·rcases List.mem_cons.1 h with h|h
    ·exact absurd h.symm e
    ·exact h
   ·exact fun hm=>h (List.mem_cons_of_mem _ hm)
theorem zdW (V:List Bs8) (t:Bs8):FnC Tryz.prog 27 [.x (.d (zac V)),sv (bs t)] (bv (decide (t ∈ V))):=by
 have hc:=zp8 V t;have hr:decide (idxV t V 0 ≥ 0)=decide (t ∈ V):=by
  obtain⟨h1,h2⟩:=zkl t V 0;rw [Bool.eq_iff_iff,decide_eq_true_iff,decide_eq_true_iff];refine⟨fun h=>?_,h1⟩
  by_cases hm:t ∈ V
  ·exact hm
  ·rw [h2 hm] at h;omega
 rw [← hr];generalize idxV t V 0=k at hc;refine hdC Tryz.func27 Tryz.ntmps27 (res:=[.tmp 4]) fun w0 K0=>?_
 repeat' first|refine zd ?_|((first|refine zi ?_|refine regA ?_|refine zsn (hc) ?_|fail);conv=>whnf)|fail
 rfl
theorem zjG (n lo hi:Int):(bif decide (lo≤n) then decide (n≤hi) else false)=decide (lo≤n∧n≤hi):=by
 rw [Bool.eq_iff_iff,decide_eq_true_iff,Bool.cond_eq_ite];by_cases h:lo≤n <;> simp [h]
theorem zpE (n lo hi:Int):FnC Tryz.prog 52 [iv .i64 n,iv .i64 lo,iv .i64 hi] (bv (decide (lo≤n∧n≤hi))):=by
 rw [← zjG];refine hdC Tryz.func52 Tryz.ntmps52 (res:=[.tmp 6]) fun w0 K0=>?_
 repeat' first|refine zd ?_|((first|refine zi ?_|refine regA ?_|refine pkA ?_|fail);conv=>whnf)|fail
 rfl
abbrev rLet (c:UInt8):Bool:=bif decide ((c.toNat:Int) ≥ 97) then decide ((c.toNat:Int)≤122) else false
abbrev rOth (c:UInt8):Bool:=bif (bif decide ((c.toNat:Int) ≥ 48) then decide ((c.toNat:Int)≤57) else false) then true else ((c.toNat:Int) == 95)
theorem znw (i:Nat) (c:UInt8):(bif (!rLet c) then (bif ((i:Int) == 0) then true else !rOth c) else false) = !zg2 (decide (i=0)) c:=by
 rw [zg1];show _ = !(rLet c || zkW i c)
 cases rLet c with
 | true=>rfl
 | false=>
  rw [Bool.false_or,Bool.not_false,cond_true];unfold zkW rOth;by_cases hi:i=0
  ·subst hi;rfl
  ·rw [beq_eq_false_iff_ne.2 (by omega),decide_eq_true (show (i:Int) > 0 by omega),cond_false,cond_true];cases decide ((c.toNat:Int) ≥ 48) <;> cases decide ((c.toNat:Int)≤57) <;> cases ((c.toNat:Int) == 95) <;> rfl
theorem znv (l:Bs8):FnC Tryz.prog 31 [sv (bs l)] (bv (zbb l)):=by
 have hsz:=zbj l;have hli:=zco l;have o:=zpE (bs l).size 1 20;by_cases h1:1≤l.length∧l.length≤20
 ·have ho:decide ((1:Int)≤(bs l).size∧((bs l).size:Int)≤20)=true:=decide_eq_true (by omega);rw [ho] at o;have hg:(bs l).data.toList[((bs l).size - 1:Int).toNat]?=some (l.getLastD 0):=by
   rw [hli,show ((bs l).size - 1:Int).toNat=l.length - 1 by omega];exact zkd h1.1
  cases h2:zpT l with
  | true=>
   have hr:zbb l=false:=by
    unfold zbb;rw [← zeo,h2];simp
   rw [hr];refine hdC Tryz.func31 Tryz.ntmps31 (res:=[.tmp 2]) fun w0 K0=>?_
   repeat' first|refine zd ?_|((first|refine zi ?_|refine regA ?_|refine zsn (o) ?_|refine⟨_,ze ⟨by omega,hg⟩,?_⟩|fail);conv=>whnf)|(refine za rfl (fun _=>?_) (zaf h2))|((first|refine zsq ?_|refine andA ?_|fail);conv=>whnf)|fail
   rfl
  | false=>
   have hr:zbb l=z7 true l:=by
    unfold zbb;rw [← zeo,h2,decide_eq_true h1.1,decide_eq_true h1.2];rfl
   rw [hr];refine hdC Tryz.func31 Tryz.ntmps31 (res:=[.tmp 2]) fun w0 K0=>?_
   repeat' first|refine zd ?_|refine zc ?_|((first|refine zf ?_|refine regA ?_|refine zsn (o) ?_|refine⟨_,ze ⟨by omega,hg⟩,?_⟩|fail);conv=>whnf)|(refine za rfl (zM h2) (fun _=>?_))|((first|refine zsq ?_|refine andA ?_|fail);conv=>whnf)|fail
   refine zJ (fun i:Nat=>[(3,iv .i64 i),(0,sv (bs l))]) (fun _=>[])
    (fun i=>i≤l.length∧z7 true l=z7 (decide (i=0)) (l.drop i)) (fun i=>l.length - i) 0 ⟨Nat.zero_le _,rfl⟩ impA ?_
   rintro i ⟨hi,hn⟩;rcases Nat.lt_or_ge i l.length with hil|hil
   ·rw [List.drop_eq_getElem_cons hil,z7] at hn;have hgi:(bs l).data.toList[(i:Int).toNat]?=some l[i]:=by rw [hli,Int.toNat_natCast,List.getElem?_eq_getElem hil]
    have hq:=znw i l[i];cases ha:zg2 (decide (i=0)) l[i] with
    | true=>
     rw [ha] at hn hq;have hn:z7 true l=z7 (decide (i+1=0)) (l.drop (i+1)):=hn;repeat' first|refine zd ?_|refine zc ?_|((first|refine zf ?_|refine zk ?_|refine zi ?_|refine regA ?_|refine drA (id:=6) 27 false [0,0,3,7,15,31,31,127,255,511,0,0,3072,7168,15391,31775,31775,130079,261151,523295,1047583,2096159,2096159,8387615,16776223,33553439,2097151,134217727] ?_|fail);conv=>whnf)|exact abA hb|(refine za rfl (zM hq) (fun _=>?_))|((first|refine pkA ?_|refine⟨_,ze ⟨by omega,hgi⟩,?_⟩|fail);conv=>whnf)|(refine zso rfl (fun hb=>?_) (fun hb=>?_))|((first|refine zsq ?_|refine andA ?_|fail);conv=>whnf)|fail
     exact⟨i+1,⟨by omega,hn⟩,by omega,impA⟩
    | false=>
     rw [ha] at hn hq;have hn:z7 true l=false:=hn;rw [hn];repeat' first|refine zd ?_|refine zc ?_|((first|refine zf ?_|refine zk ?_|refine zi ?_|refine regA ?_|refine drA (id:=6) 27 false [0,0,3,7,15,31,31,127,255,511,0,0,3072,7168,15391,31775,31775,130079,261151,523295,1047583,2096159,2096159,8387615,16776223,33553439,2097151,134217727] ?_|fail);conv=>whnf)|exact abA hb|(refine za rfl (fun _=>?_) (zaf hq))|((first|refine pkA ?_|refine⟨_,ze ⟨by omega,hgi⟩,?_⟩|fail);conv=>whnf)|(refine zso rfl (fun hb=>?_) (fun hb=>?_))|((refine andA ?_);conv=>whnf)|fail
     rfl
   ·rw [List.drop_eq_nil_of_le hil] at hn;have hn:z7 true l=true:=hn;rw [hn];repeat' first|refine zd ?_|refine zc ?_|((first|refine zf ?_|refine zk ?_|refine zi ?_|refine regA ?_|refine drA (id:=6) 27 false [0,0,3,7,15,31,31,127,255,511,0,0,3072,7168,15391,31775,31775,130079,261151,523295,1047583,2096159,2096159,8387615,16776223,33553439,2097151,134217727] ?_|fail);conv=>whnf)|exact abA hb|(refine zso rfl (fun hb=>?_) (fun hb=>?_))|fail
    rfl
 ·have ho:decide ((1:Int)≤(bs l).size∧((bs l).size:Int)≤20)=false:=decide_eq_false (by omega);rw [ho] at o;have hr:zbb l=false:=by
   unfold zbb;have:(decide (1≤l.length) && decide (l.length≤20))=false:=by
    rw [Bool.eq_false_iff];simp;omega
   rw [this];rfl
  rw [hr];refine hdC Tryz.func31 Tryz.ntmps31 (res:=[.tmp 2]) fun w0 K0=>?_
  repeat' first|refine zd ?_|((first|refine zi ?_|refine regA ?_|refine zsn (o) ?_|refine⟨95,zax (fun h=>absurd h (by decide)),?_⟩|fail);conv=>whnf)|(refine zsu rfl ?_)|((first|refine⟨IntKind.wrap _ _,rfl,?_⟩|refine andA ?_|fail);conv=>whnf)|fail
  rfl
theorem r03in_fn (n lo hi:Int):FnC Tryz.prog 37 [iv .i64 n,iv .i64 lo,iv .i64 hi] (bv (decide (lo≤n∧n≤hi))):=by
 rw [← zjG];refine hdC Tryz.func37 Tryz.ntmps37 (res:=[.tmp 6]) fun w0 K0=>?_
 repeat' first|refine zd ?_|((first|refine zi ?_|refine regA ?_|refine pkA ?_|fail);conv=>whnf)|fail
 rfl
theorem r11in_fn (n lo hi:Int):FnC Tryz.prog 51 [iv .i64 n,iv .i64 lo,iv .i64 hi] (bv (decide (lo≤n∧n≤hi))):=by
 rw [← zjG];refine hdC Tryz.func51 Tryz.ntmps51 (res:=[.tmp 6]) fun w0 K0=>?_
 repeat' first|refine zd ?_|((first|refine zi ?_|refine regA ?_|refine pkA ?_|fail);conv=>whnf)|fail
 rfl
theorem r13in_fn (n lo hi:Int):FnC Tryz.prog 30 [iv .i64 n,iv .i64 lo,iv .i64 hi] (bv (decide (lo≤n∧n≤hi))):=by
 rw [← zjG];refine hdC Tryz.func30 Tryz.ntmps30 (res:=[.tmp 6]) fun w0 K0=>?_
 repeat' first|refine zd ?_|((first|refine zi ?_|refine regA ?_|refine pkA ?_|fail);conv=>whnf)|fail
 rfl
theorem qout_fn (n lo hi:Int):FnC Tryz.prog 47 [iv .i64 n,iv .i64 lo,iv .i64 hi] (bv (outB n lo hi)):=by
 refine hdC Tryz.func47 Tryz.ntmps47 (res:=[.tmp 6]) fun w0 K0=>?_
 repeat' first|refine zd ?_|((first|refine zi ?_|refine regA ?_|refine andA ?_|fail);conv=>whnf)|fail
 rfl
theorem pout_fn (n lo hi:Int):FnC Tryz.prog 25 [iv .i64 n,iv .i64 lo,iv .i64 hi] (bv (outB n lo hi)):=by
 refine hdC Tryz.func25 Tryz.ntmps25 (res:=[.tmp 6]) fun w0 K0=>?_
 repeat' first|refine zd ?_|((first|refine zi ?_|refine regA ?_|refine andA ?_|fail);conv=>whnf)|fail
 rfl
theorem mout1_fn (hi x:Int):ACall Tryz.prog 77 [iv .i64 x,.x (.b 2 0)] [(2,.box [.d (.v (.int .i64 hi))])]
  (fun r σ'=>r=bv (outB x 0 hi)∧σ'=[(2,.box [.d (.v (.int .i64 hi))])]):=by
 refine zcN hTt Tryz.func77 rfl (by kernel_rfl) (res:=[.tmp 3]) rfl Tryz.ntmps77 (by simp) fun w0 K0 B=>?_
 dsimp only [entry];repeat' first|refine zd ?_|((first|refine zi ?_|refine regA ?_|refine andA ?_|fail);conv=>whnf)|fail
 exact⟨_,rfl,rfl,rfl⟩
theorem mout_fn (hi:Int) (xs:List Int):FnC Tryz.prog 50 [iv .i64 hi,sl xs] (bv (xs.any fun x=>outB x 0 hi)):=by
 have hc:=zdc 77 [.b 2 0] (fun x=>outB x 0 hi) xs _ (fun x _=>mout1_fn hi x);generalize (xs.any fun x=>outB x 0 hi)=b at hc;refine hdC Tryz.func50 Tryz.ntmps50 (res:=[.tmp 4]) fun w0 K0=>?_
 repeat' first|refine zd ?_|((first|refine zi ?_|refine regA ?_|((refine⟨_,hc,?_⟩);(rintro _ _ ⟨rfl,rfl⟩))|fail);conv=>whnf)|fail
 rfl
theorem mout1 (hi x:Int):FnC Tryz.prog 50 [iv .i64 hi,sl [x]] (bv (outB x 0 hi)):=by
 have:=mout_fn hi [x];rw [List.any_cons,List.any_nil,Bool.or_false] at this;exact this
theorem mout2 (hi x y:Int):FnC Tryz.prog 50 [iv .i64 hi,sl [x,y]] (bv (outB x 0 hi || outB y 0 hi)):=by
 have:=mout_fn hi [x,y];rw [List.any_cons,List.any_cons,List.any_nil,Bool.or_false] at this;exact this
end Go.Proofs.YtidkoikjdghlmaaGreatDoor
namespace Go.Proofs.YtidkoikjdghlmaaGreatDoor
open Go Go.QL FoT
set_option maxHeartbeats 1600000
attribute [local irreducible] ACall FnC
structure KindT where
 new:Int
 lo:Int
 hi:Int
 steps:List (Int × Int)
structure SetT where
 sl:Int
 ld:Int
 du:Int
 pa:Int
 ra:Int
 users:List Bs8
 valves:List KindT
def stepPV (s:Int × Int):List PV:=[.v (.int .i64 s.1),.v (.int .i64 s.2)]
def kindPV (k:KindT):List PV:=[.v (.int .i64 k.new),.v (.int .i64 k.lo),.v (.int .i64 k.hi),.s 2 (k.steps.map stepPV)]
def kindAV (k:KindT):AV:=.a [.d (.v (.int .i64 k.new)),.d (.v (.int .i64 k.lo)),.d (.v (.int .i64 k.hi)),.d (.s 2 (k.steps.map stepPV))]
abbrev setC (s:SetT):List SV:=[.d (.v (.int .i64 s.sl)),.d (.v (.int .i64 s.ld)),.d (.v (.int .i64 s.du)),.d (.v (.int .i64 s.pa)),.d (.v (.int .i64 s.ra)),.d (zac s.users),.d (.s 4 (s.valves.map kindPV))]
def setAV (s:SetT):AV:=.a (setC s)
abbrev rulesC (s:SetT):List SV:=[.d (.v (.int .i64 s.sl)),.d (.v (.int .i64 s.ld)),.d (.v (.int .i64 s.du)),.d (.v (.int .i64 s.pa)),.d (.v (.int .i64 s.ra))]
def KindOK (k:KindT):Prop:=i64 k.new∧i64 k.lo∧i64 k.hi
def badS:Option (Int × Int)→Int × Int→Bool
 | none,s=>decide (s.1≠1000)
 | some q,s=>decide (q.1≤s.1∨s.2 < q.2)
def stepsE:Option (Int × Int)→List (Int × Int)→Int
 | _,[]=>0
 | p,s::r=>if ¬ ((0≤s.1∧s.1≤1000)∧(0≤s.2∧s.2≤1000000)) then 7 else if badS p s=true then 2 else stepsE (some s) r
def kindE (k:KindT):Int:=
 if ¬ ((1≤k.new∧k.new≤1000000)∧(0≤k.lo∧k.lo≤1000)∧(0≤k.hi∧k.hi≤1000)) then 7
 else if k.hi < k.lo then 2 else if ¬ (1≤k.steps.length∧k.steps.length≤8) then 3 else stepsE none k.steps
def rulesB (s:SetT):Bool:=decide (1≤s.sl∧s.sl≤600) && (decide (0≤s.ld∧s.ld≤30) && (decide (0≤s.du∧s.du≤30) && (decide (0≤s.pa∧s.pa≤5000) && decide (0≤s.ra∧s.ra≤1000))))
def usersE (V:List Bs8):List Bs8→Nat→Option (Int × Int)
 | [],_=>none
 | u::r,i=>if zbb u=false then some (i,6) else if u ∈ V.take i then some (i,5) else usersE V r (i+1)
def valvesE:List KindT→Nat→Option (Int × Int)
 | [],_=>none
 | k::r,i=>if kindE k=0 then valvesE r (i+1) else some (i,kindE k)
def checkS (s:SetT):Int × Int × Int:=
 if rulesB s=false then (1,0,7) else if ¬ (1≤s.users.length∧s.users.length≤6)∨6 < s.valves.length then (1,0,3) else
 match usersE s.users s.users 0 with
 | some (i,e)=>(2,i,e)
 | none=>match valvesE s.valves 0 with
  | some (i,e)=>(3,i,e)
  | none=>(0,0,0)
def res3 (x:Int × Int × Int):AV:=.t [iv .i64 x.1,iv .i64 x.2.1,iv .i64 x.2.2]
end Go.Proofs.YtidkoikjdghlmaaGreatDoor
namespace Go.Proofs.YtidkoikjdghlmaaGreatDoor
open Go Go.QL FoT
set_option maxHeartbeats 1600000
set_option maxRecDepth 20000
attribute [local irreducible] ACall FnC
theorem wrap_new {n:Int} (h:i64 n):∃ w,IntKind.i64.wrap (n - 1)=w∧outB w 0 999999=outB n 1 1000000:=by
 unfold i64 at h;by_cases e:n = -9223372036854775808
 ·subst e;exact⟨_,rfl,by decide⟩
 ·refine⟨n - 1,zg (by omega),?_⟩
  rw [zcE,zcE];rw [Bool.eq_iff_iff,decide_eq_true_iff,decide_eq_true_iff];omega
theorem mcheck_raw (new lo hi:Int) (st:List (Int × Int)) (h1:i64 new) (h2:i64 lo) (h3:i64 hi):FnC Tryz.prog 28 [.a [.d (.v (.int .i64 new)),.d (.v (.int .i64 lo)),.d (.v (.int .i64 hi)),.d (.s 2 (st.map stepPV))]] (iv .i64 (kindE ⟨new,lo,hi,st⟩)):=by
 have hls:(st.map stepPV).length=st.length:=List.length_map _;obtain⟨w,hw,hwo⟩:=wrap_new h1;have o1:=mout1 999999 w;have o2:=mout2 1000 lo hi;have o3:=mout1 7 ((st.map stepPV).length - 1:Int);rw [hwo] at o1;unfold kindE;dsimp only;by_cases c1:1≤new∧new≤1000000
 ·rw [zQ.2 c1] at o1;by_cases c2:(0≤lo∧lo≤1000)∧(0≤hi∧hi≤1000)
  ·rw [zQ.2 c2.1,zQ.2 c2.2,Bool.or_false] at o2;rw [if_neg (fun e=>e ⟨c1,c2⟩)];by_cases c3:hi < lo
   ·rw [if_pos c3];refine hdC Tryz.func28 Tryz.ntmps28 (res:=[.tmp 2]) fun w0 K0=>?_
    repeat' first|refine zd ?_|refine zc ?_|((first|refine zi ?_|refine regA ?_|refine pkA ?_|refine zsn (o1) ?_|refine zsp (o2) ?_|refine⟨_,hw,?_⟩|fail);conv=>whnf)|exact abA hb|(refine zsv rfl ?_)|(refine zso rfl (fun hb=>?_) (fun hb=>?_))|fail
    rfl
   ·rw [if_neg c3];by_cases c4:1≤st.length∧st.length≤8
    ·rw [zQ.2 (by omega)] at o3;rw [if_neg (fun e=>e c4)];refine hdC Tryz.func28 Tryz.ntmps28 (res:=[.tmp 2]) fun w0 K0=>?_
     repeat' first|refine zd ?_|refine zc ?_|((first|refine zf ?_|refine zi ?_|refine regA ?_|refine pkA ?_|refine zsn (o1) ?_|refine zsp (o2) ?_|refine zsn (o3) ?_|refine⟨_,hw,?_⟩|fail);conv=>whnf)|exact abA hb|(refine zsv rfl ?_)|(refine zso rfl (fun hb=>?_) (fun hb=>?_))|((refine zsq ?_);conv=>whnf)|(refine lnA fun hln=>?_;conv=>whnf)|fail
     refine zJ (fun x:Nat × Int × Int=>[(41,iv .i64 x.1),(40,iv .i64 (st.map stepPV).length),(39,.x (.d (.s 2 (st.map stepPV)))),(3,.x (.b 3 0))]) (fun x=>[(3,.box [.d (.v (.int .i64 x.2.1)),.d (.v (.int .i64 x.2.2))])])
      (fun x=>x.1≤st.length∧stepsE none st=stepsE (if x.1=0 then none else some x.2) (st.drop x.1)∧(x.1=0→x.2=(1001,0))) (fun x=>st.length - x.1) (0,1001,0) ⟨Nat.zero_le _,rfl,fun _=>rfl⟩ impA ?_
     rintro⟨i,a,b⟩ ⟨hi',hn,h0⟩;dsimp only at hi' hn h0;rcases Nat.lt_or_ge i st.length with hil|hil
     ·rw [List.drop_eq_getElem_cons hil,stepsE] at hn;have o4:=mout1 1000 st[i].1;have o5:=mout1 1000000 st[i].2;by_cases c5:0≤st[i].1∧st[i].1≤1000
      ·rw [zQ.2 c5] at o4;by_cases c6:0≤st[i].2∧st[i].2≤1000000
       ·rw [zQ.2 c6] at o5;rw [if_neg (fun e=>e ⟨c5,c6⟩)] at hn;have hc:(bif (bif (bif ((i:Int) == 0) then decide (st[i].1 < 1000) else false) then true else decide (st[i].1 ≥ a)) then true else decide (st[i].2 < b))=badS (if i=0 then none else some (a,b)) st[i]:=by
         by_cases e:i=0
         ·subst e;rw [if_pos rfl];obtain⟨rfl,rfl⟩:=Prod.mk.inj (h0 rfl);show _=decide _
          rw [Bool.eq_iff_iff];simp;omega
         ·rw [if_neg e];show _=decide _
          rw [Bool.eq_iff_iff];have:((i:Int) == 0)=false:=beq_eq_false_iff_ne.2 (by omega);simp [this]
        generalize hcc:badS (if i=0 then none else some (a,b)) st[i]=c at hn hc;cases c with
        | true=>
         repeat' first|refine zd ?_|refine zc ?_|((first|refine zf ?_|refine zk ?_|refine zi ?_|refine regA ?_|refine pkA ?_|refine zsn (o4) ?_|refine zsp (o5) ?_|fail);conv=>whnf)|exact abA hb|(refine za rfl (fun _=>?_) (zaf hc))|(refine zsv rfl ?_)|(refine zso rfl (fun hb=>?_) (fun hb=>?_))|((first|refine andA ?_|with_reducible refine exA fun _=>?_|fail);conv=>whnf)|fail
         exact congrArg some (congrArg (iv .i64) (hn.trans (if_pos rfl)).symm)
        | false=>
         repeat' first|refine zd ?_|refine zc ?_|((first|refine zf ?_|refine zk ?_|refine zi ?_|refine regA ?_|refine pkA ?_|refine zsn (o4) ?_|refine zsp (o5) ?_|fail);conv=>whnf)|exact abA hb|(refine za rfl (zM hc) (fun _=>?_))|(refine zsv rfl ?_)|(refine zso rfl (fun hb=>?_) (fun hb=>?_))|((first|refine zsq ?_|refine andA ?_|with_reducible refine exA fun _=>?_|fail);conv=>whnf)|fail
         exact⟨(i+1,st[i]),⟨by omega,hn,fun e=>absurd e (by omega)⟩,by show _ - (i+1) < _ - i;omega,impA⟩
       ·rw [outB_true.2 c6] at o5;rw [if_pos (fun e=>c6 e.2)] at hn;repeat' first|refine zd ?_|refine zc ?_|((first|refine zf ?_|refine zk ?_|refine zi ?_|refine regA ?_|refine pkA ?_|refine zsn (o4) ?_|refine zsp (o5) ?_|fail);conv=>whnf)|exact abA hb|(refine zsu rfl ?_)|(refine zso rfl (fun hb=>?_) (fun hb=>?_))|((first|refine andA ?_|with_reducible refine exA fun _=>?_|fail);conv=>whnf)|fail
        exact congrArg some (congrArg (iv .i64) hn.symm)
      ·rw [outB_true.2 c5] at o4;rw [if_pos (fun e=>c5 e.1)] at hn;repeat' first|refine zd ?_|refine zc ?_|((first|refine zf ?_|refine zk ?_|refine zi ?_|refine regA ?_|refine pkA ?_|refine zsn (o4) ?_|refine zsp (o5) ?_|fail);conv=>whnf)|(refine za rfl (fun _=>?_) (zaf (rfl:(bif true then true else outB st[i].2 0 1000000)=true)))|exact abA hb|(refine zso rfl (fun hb=>?_) (fun hb=>?_))|((first|refine andA ?_|with_reducible refine exA fun _=>?_|fail);conv=>whnf)|fail
       exact congrArg some (congrArg (iv .i64) hn.symm)
     ·rw [List.drop_eq_nil_of_le hil] at hn;have hn:stepsE none st=0:=by rw [hn];rfl
      repeat' first|refine zd ?_|refine zc ?_|((first|refine zf ?_|refine zk ?_|refine zi ?_|refine regA ?_|fail);conv=>whnf)|exact abA hb|(refine zso rfl (fun hb=>?_) (fun hb=>?_))|fail
      exact congrArg some (congrArg (iv .i64) hn.symm)
    ·rw [outB_true.2 (by omega)] at o3;rw [if_pos c4];refine hdC Tryz.func28 Tryz.ntmps28 (res:=[.tmp 2]) fun w0 K0=>?_
     repeat' first|refine zd ?_|refine zc ?_|((first|refine zi ?_|refine regA ?_|refine pkA ?_|refine zsn (o1) ?_|refine zsp (o2) ?_|refine zsn (o3) ?_|refine⟨_,hw,?_⟩|fail);conv=>whnf)|exact abA hb|(refine zsu rfl ?_)|(refine zsv rfl ?_)|(refine zso rfl (fun hb=>?_) (fun hb=>?_))|((refine zsq ?_);conv=>whnf)|(refine lnA fun hln=>?_;conv=>whnf)|fail
     rfl
  ·have e2:(outB lo 0 1000 || outB hi 0 1000)=true:=by
    rw [zcE,zcE];simp only [Bool.or_eq_true,decide_eq_true_eq];exact Decidable.not_and_iff_or_not.1 c2
   rw [e2] at o2;rw [if_pos (fun e=>c2 e.2)];refine hdC Tryz.func28 Tryz.ntmps28 (res:=[.tmp 2]) fun w0 K0=>?_
   repeat' first|refine zd ?_|refine zc ?_|((first|refine zi ?_|refine regA ?_|refine pkA ?_|refine zsn (o1) ?_|refine zsp (o2) ?_|refine⟨_,hw,?_⟩|fail);conv=>whnf)|(refine zsu rfl ?_)|fail
   rfl
 ·rw [outB_true.2 c1] at o1;rw [if_pos (fun e=>c1 e.1)];generalize (outB lo 0 1000 || outB hi 0 1000)=bb at o2;refine hdC Tryz.func28 Tryz.ntmps28 (res:=[.tmp 2]) fun w0 K0=>?_
  repeat' first|refine zd ?_|refine zc ?_|((first|refine zi ?_|refine regA ?_|refine pkA ?_|refine zsn (o1) ?_|refine zsp (o2) ?_|refine⟨_,hw,?_⟩|fail);conv=>whnf)|(refine za rfl (fun _=>?_) (zaf (rfl:(bif true then true else bb)=true)))|fail
  rfl
theorem mcheck_fn (k:KindT) (h:KindOK k):FnC Tryz.prog 28 [kindAV k] (iv .i64 (kindE k)):=mcheck_raw k.new k.lo k.hi k.steps h.1 h.2.1 h.2.2
end Go.Proofs.YtidkoikjdghlmaaGreatDoor
namespace Go.Proofs.YtidkoikjdghlmaaGreatDoor
open Go Go.QL FoT
set_option maxHeartbeats 1600000
set_option maxRecDepth 20000
attribute [local irreducible] ACall FnC
theorem rcheck3_raw (new lo hi:Int) (st:List (Int × Int)):FnC Tryz.prog 15 [.a [.d (.v (.int .i64 new)),.d (.v (.int .i64 lo)),.d (.v (.int .i64 hi)),.d (.s 2 (st.map stepPV))]] (iv .i64 (kindE ⟨new,lo,hi,st⟩)):=by
 have hls:(st.map stepPV).length=st.length:=List.length_map _;have o1:=r03in_fn new 1 1000000;have o2:=r03in_fn lo 0 1000;have o2':=r03in_fn hi 0 1000;have o3:=r03in_fn ((st.map stepPV).length:Int) 1 8;unfold kindE;dsimp only;by_cases c1:(1≤new∧new≤1000000)∧(0≤lo∧lo≤1000)∧(0≤hi∧hi≤1000)
 ·rw [decide_eq_true c1.1] at o1;rw [decide_eq_true c1.2.1] at o2;rw [decide_eq_true c1.2.2] at o2';rw [if_neg (fun e=>e c1)];by_cases c3:hi < lo
  ·rw [if_pos c3];refine hdC Tryz.func15 Tryz.ntmps15 (res:=[.tmp 2]) fun w0 K0=>?_
   repeat' first|refine zd ?_|((first|refine zf ?_|refine zi ?_|refine regA ?_|refine pkA ?_|refine zsn (o1) ?_|refine zsp (o2) ?_|refine zsp (o2') ?_|fail);conv=>whnf)|exact abA hb|(refine zsv rfl ?_)|(refine zso rfl (fun hb=>?_) (fun hb=>?_))|fail
   rfl
  ·rw [if_neg c3];by_cases c4:1≤st.length∧st.length≤8
   ·rw [decide_eq_true (by omega)] at o3;rw [if_neg (fun e=>e c4)];refine hdC Tryz.func15 Tryz.ntmps15 (res:=[.tmp 2]) fun w0 K0=>?_
    repeat' first|refine zd ?_|refine zc ?_|((first|refine zf ?_|refine zi ?_|refine regA ?_|refine pkA ?_|refine zsn (o1) ?_|refine zsp (o2) ?_|refine zsp (o2') ?_|refine zsn (o3) ?_|fail);conv=>whnf)|exact abA hb|(refine zsv rfl ?_)|(refine zso rfl (fun hb=>?_) (fun hb=>?_))|(refine lnA fun hln=>?_;conv=>whnf)|fail
    refine zJ (fun i:Nat=>[(3,iv .i64 i),(1,.x (.b 1 0))]) (fun i=>[(1,.box [.d (.v (.int .i64 new)),.d (.v (.int .i64 lo)),.d (.v (.int .i64 hi)),.d (.s 2 (st.map stepPV))])])
     (fun i=>i≤st.length∧stepsE none st=stepsE (if i=0 then none else some (st.getD (i - 1) (0,0))) (st.drop i)) (fun i=>st.length - i) 0 ⟨Nat.zero_le _,rfl⟩ impA ?_
    rintro i ⟨hi',hn⟩;rcases Nat.lt_or_ge i st.length with hil|hil
    ·rw [List.drop_eq_getElem_cons hil,stepsE] at hn;have o4:=r03in_fn st[i].1 0 1000;have o5:=r03in_fn st[i].2 0 1000000;by_cases c5:(0≤st[i].1∧st[i].1≤1000)∧(0≤st[i].2∧st[i].2≤1000000)
     ·rw [decide_eq_true c5.1] at o4;rw [decide_eq_true c5.2] at o5;rw [if_neg (fun e=>e c5)] at hn;have hg:∀ c:Bool,(c=true→0 < i)→Gd (some c) (0≤(i:Int) - 1∧(st.map stepPV)[((i:Int) - 1).toNat]?=some (stepPV (st.getD (i - 1) (0,0)))):=fun c h=>zax fun hc=>by
       have h0:=h hc;refine⟨by omega,?_⟩
       rw [show ((i:Int) - 1).toNat=i - 1 by omega];simp [List.getElem?_eq_getElem (show i - 1 < st.length by omega)]
      have hc:(bif (bif ((i:Int) == 0) then st[i].1 != 1000 else false) then true else (bif decide (0 < (i:Int)) then (bif decide ((st.getD (i - 1) (0,0)).1≤st[i].1) then true else decide (st[i].2 < (st.getD (i - 1) (0,0)).2)) else false))=badS (if i=0 then none else some (st.getD (i - 1) (0,0))) st[i]:=by
       by_cases e:i=0
       ·subst e;rw [if_pos rfl];show _=decide _
        rw [Bool.eq_iff_iff];simp
       ·rw [if_neg e];show _=decide _
        rw [Bool.eq_iff_iff];have e1:((i:Int) == 0)=false:=beq_eq_false_iff_ne.2 (by omega);have e2:decide (0 < (i:Int))=true:=decide_eq_true (by omega);rw [e1,e2];simp
      generalize hcc:badS (if i=0 then none else some (st.getD (i - 1) (0,0))) st[i]=c at hn hc;cases c with
      | true=>
       repeat' first|refine zd ?_|refine zc ?_|((first|refine zf ?_|refine zk ?_|refine zi ?_|refine regA ?_|refine drA (id:=13) 31 false [0,1,3,7,15,31,63,127,255,511,1023,2047,4095,2047,10239,2047,34815,124927,255999,518143,1048575,2097151,4194303,8388607,4194303,20971519,4194303,71303167,255852543,524287999,1061158911,2147483647,4294967295,8589934591,17179869183] ?_|refine⟨_,hg _ (by intro h;simp at h;omega),?_⟩|refine pkA ?_|refine zsn (o4) ?_|refine zsp (o5) ?_|fail);conv=>whnf)|exact abA hb|(refine za rfl (fun _=>?_) (zaf hc))|(refine zsv rfl ?_)|(refine zso rfl (fun hb=>?_) (fun hb=>?_))|((first|refine zsq ?_|refine andA ?_|with_reducible refine exA fun _=>?_|fail);conv=>whnf)|(refine lnA fun hln=>?_;conv=>whnf)|fail
       exact congrArg some (congrArg (iv .i64) (hn.trans (if_pos rfl)).symm)
      | false=>
       repeat' first|refine zd ?_|refine zc ?_|((first|refine zf ?_|refine zk ?_|refine zi ?_|refine regA ?_|refine drA (id:=13) 31 false [0,1,3,7,15,31,63,127,255,511,1023,2047,4095,2047,10239,2047,34815,124927,255999,518143,1048575,2097151,4194303,8388607,4194303,20971519,4194303,71303167,255852543,524287999,1061158911,2147483647,4294967295,8589934591,17179869183] ?_|refine⟨_,hg _ (by intro h;simp at h;omega),?_⟩|refine pkA ?_|refine zsn (o4) ?_|refine zsp (o5) ?_|fail);conv=>whnf)|exact abA hb|(refine za rfl (zM hc) (fun _=>?_))|(refine zsv rfl ?_)|(refine zso rfl (fun hb=>?_) (fun hb=>?_))|((first|refine zsq ?_|refine andA ?_|with_reducible refine exA fun _=>?_|fail);conv=>whnf)|(refine lnA fun hln=>?_;conv=>whnf)|fail
       refine⟨i+1,⟨by omega,?_⟩,by omega,impA⟩
       rw [if_neg (by omega),show i+1 - 1=i by omega,List.getD_eq_getElem?_getD,List.getElem?_eq_getElem hil,Option.getD_some];exact hn
     ·rw [if_pos c5] at hn;have hc:(bif (!decide (0≤st[i].1∧st[i].1≤1000)) then true else !decide (0≤st[i].2∧st[i].2≤1000000))=true:=by
       by_cases c6:0≤st[i].1∧st[i].1≤1000
       ·rw [decide_eq_true c6,decide_eq_false (fun e=>c5 ⟨c6,e⟩)];rfl
       ·rw [decide_eq_false c6];rfl
      repeat' first|refine zd ?_|refine zc ?_|((first|refine zf ?_|refine zk ?_|refine zi ?_|refine regA ?_|refine pkA ?_|refine zsn (o4) ?_|refine zsp (o5) ?_|fail);conv=>whnf)|(refine za rfl (fun _=>?_) (zaf hc))|exact abA hb|(refine zso rfl (fun hb=>?_) (fun hb=>?_))|((first|refine andA ?_|with_reducible refine exA fun _=>?_|fail);conv=>whnf)|(refine lnA fun hln=>?_;conv=>whnf)|fail
      exact congrArg some (congrArg (iv .i64) hn.symm)
    ·rw [List.drop_eq_nil_of_le hil] at hn;have hn:stepsE none st=0:=by rw [hn];rfl
     repeat' first|refine zd ?_|refine zc ?_|((first|refine zf ?_|refine zk ?_|refine zi ?_|refine regA ?_|fail);conv=>whnf)|exact abA hb|(refine zso rfl (fun hb=>?_) (fun hb=>?_))|((refine andA ?_);conv=>whnf)|(refine lnA fun hln=>?_;conv=>whnf)|fail
     exact congrArg some (congrArg (iv .i64) hn.symm)
   ·rw [decide_eq_false (by omega)] at o3;rw [if_pos c4];refine hdC Tryz.func15 Tryz.ntmps15 (res:=[.tmp 2]) fun w0 K0=>?_
    repeat' first|refine zd ?_|((first|refine zf ?_|refine zi ?_|refine regA ?_|refine pkA ?_|refine zsn (o1) ?_|refine zsp (o2) ?_|refine zsp (o2') ?_|refine zsn (o3) ?_|fail);conv=>whnf)|exact abA hb|(refine zsu rfl ?_)|(refine zsv rfl ?_)|(refine zso rfl (fun hb=>?_) (fun hb=>?_))|(refine lnA fun hln=>?_;conv=>whnf)|fail
    rfl
 ·rw [if_pos c1];have hc:(bif (bif (!decide (1≤new∧new≤1000000)) then true else !decide (0≤lo∧lo≤1000)) then true else !decide (0≤hi∧hi≤1000))=true:=by
   by_cases c6:1≤new∧new≤1000000
   ·by_cases c7:0≤lo∧lo≤1000
    ·rw [decide_eq_true c6,decide_eq_true c7,decide_eq_false (fun e=>c1 ⟨c6,c7,e⟩)];rfl
    ·rw [decide_eq_true c6,decide_eq_false c7];rfl
   ·rw [decide_eq_false c6];rfl
  refine hdC Tryz.func15 Tryz.ntmps15 (res:=[.tmp 2]) fun w0 K0=>?_
  repeat' first|refine zd ?_|((first|refine zi ?_|refine regA ?_|refine pkA ?_|refine zsn (o1) ?_|refine zsp (o2) ?_|refine zsp (o2') ?_|fail);conv=>whnf)|(refine za rfl (fun _=>?_) (zaf hc))|fail
  rfl
theorem rcheck3_fn (k:KindT):FnC Tryz.prog 15 [kindAV k] (iv .i64 (kindE k)):=rcheck3_raw k.new k.lo k.hi k.steps
end Go.Proofs.YtidkoikjdghlmaaGreatDoor
namespace Go.Proofs.YtidkoikjdghlmaaGreatDoor
open Go Go.QL FoT
set_option maxHeartbeats 1600000
set_option maxRecDepth 20000
attribute [local irreducible] ACall FnC
theorem rules_outs (s:SetT):rulesB s=(!(outB s.sl 1 600) && (!(outB s.ld 0 30) && (!(outB s.du 0 30) && (!(outB s.pa 0 5000) && !(outB s.ra 0 1000))))):=by
 unfold rulesB;simp only [zcE,decide_not,Bool.not_not]
theorem odd_fn (s:SetT):FnC Tryz.prog 45 [.a (rulesC s)] (bv (!(rulesB s))):=by
 have o1:=qout_fn s.sl 1 600;have o2:=qout_fn s.ld 0 30;have o3:=qout_fn s.du 0 30;have o4:=qout_fn s.pa 0 5000;have o5:=qout_fn s.ra 0 1000;rw [rules_outs];generalize outB s.sl 1 600=b1 at *;generalize outB s.ld 0 30=b2 at *;generalize outB s.du 0 30=b3 at *;generalize outB s.pa 0 5000=b4 at *;generalize outB s.ra 0 1000=b5 at *;have hr:(!(!b1 && (!b2 && (!b3 && (!b4 && !b5)))))=(bif (bif (bif (bif b1 then true else b2) then true else b3) then true else b4) then true else b5):=by
  cases b1 <;> cases b2 <;> cases b3 <;> cases b4 <;> cases b5 <;> rfl
 rw [hr];refine hdC Tryz.func45 Tryz.ntmps45 (res:=[.tmp 2]) fun w0 K0=>?_
 repeat' first|refine zd ?_|((first|refine zi ?_|refine regA ?_|refine pkA ?_|refine zsn (o1) ?_|refine zsp (o2) ?_|refine zsp (o3) ?_|refine zsp (o4) ?_|refine zsp (o5) ?_|fail);conv=>whnf)|fail
 rfl
theorem rules_fn (s:SetT):FnC Tryz.prog 29 [.a (rulesC s)] (bv (rulesB s)):=by
 have o1:=r11in_fn s.sl 1 600;have o2:=r11in_fn s.ld 0 30;have o3:=r11in_fn s.du 0 30;have o4:=r11in_fn s.pa 0 5000;have o5:=r11in_fn s.ra 0 1000;unfold rulesB;generalize decide (1≤s.sl∧s.sl≤600)=b1 at *;generalize decide (0≤s.ld∧s.ld≤30)=b2 at *;generalize decide (0≤s.du∧s.du≤30)=b3 at *;generalize decide (0≤s.pa∧s.pa≤5000)=b4 at *;generalize decide (0≤s.ra∧s.ra≤1000)=b5 at *;have hr:(b1 && (b2 && (b3 && (b4 && b5))))=(bif (bif (bif (bif b1 then b2 else false) then b3 else false) then b4 else false) then b5 else false):=by
  cases b1 <;> cases b2 <;> cases b3 <;> cases b4 <;> cases b5 <;> rfl
 rw [hr];refine hdC Tryz.func29 Tryz.ntmps29 (res:=[.tmp 2]) fun w0 K0=>?_
 repeat' first|refine zd ?_|((first|refine zi ?_|refine regA ?_|refine pkA ?_|refine zsn (o1) ?_|refine zsp (o2) ?_|refine zsp (o3) ?_|refine zsp (o4) ?_|refine zsp (o5) ?_|fail);conv=>whnf)|fail
 rfl
abbrev nilC:SV:=.d (.v (.slice none 0 0))
theorem qcheck_fn (s:SetT):FnC Tryz.prog 24 [.a (rulesC s ++ [nilC,nilC])] (bif rulesB s then .t [iv .i64 0,iv .i64 0,iv .i64 0] else .t [iv .i64 1,iv .i64 0,iv .i64 7]):=by
 have o:=odd_fn s;cases hb:rulesB s with
 | false=>
  rw [hb] at o;refine hdC Tryz.func24 Tryz.ntmps24 (res:=[.tmp 2,.tmp 3,.tmp 4]) fun w0 K0=>?_
  repeat' first|refine zd ?_|refine zc ?_|((first|refine zi ?_|refine regA ?_|refine pkA ?_|refine zsn (o) ?_|fail);conv=>whnf)|(refine zsu rfl ?_)|fail
  rfl
 | true=>
  rw [hb] at o;refine hdC Tryz.func24 Tryz.ntmps24 (res:=[.tmp 2,.tmp 3,.tmp 4]) fun w0 K0=>?_
  repeat' first|refine zd ?_|refine zc ?_|((first|refine zf ?_|refine regA ?_|refine pkA ?_|refine zsn (o) ?_|fail);conv=>whnf)|(refine zsv rfl ?_)|fail
  refine zJ (fun _:Unit=>[(30,iv .i64 0),(29,iv .i64 0),(1,.x (.b 1 0))]) (fun _=>[(1,.box (rulesC s ++ [nilC,nilC]))]) (fun _=>True) (fun _=>0) () trivial impA ?_
  intro _ _;repeat' first|refine zd ?_|refine zc ?_|((first|refine zk ?_|refine regA ?_|fail);conv=>whnf)|(refine zsv rfl ?_)|((refine andA ?_);conv=>whnf)|fail
  refine zJ (fun _:Unit=>[(58,iv .i64 0),(57,iv .i64 0)]) (fun _=>[]) (fun _=>True) (fun _=>0) () trivial impA ?_
  intro _ _;repeat' first|refine zd ?_|((first|refine zk ?_|refine zi ?_|refine regA ?_|fail);conv=>whnf)|(refine zsv rfl ?_)|fail
  rfl
theorem index_fn (V:List Bs8) (t:Bs8):FnC Tryz.prog 32 [.x (.d (zac V)),sv (bs t)] (iv .i64 (idxV t V 0)):=by
 refine hdC Tryz.func32 Tryz.ntmps32 (res:=[.tmp 4]) fun w0 K0=>?_
 repeat' first|refine zd ?_|refine zc ?_|((refine regA ?_);conv=>whnf)|fail
 refine zJ (fun i:Nat=>[(5,iv .i64 i),(0,.x (.d (zac V))),(1,sv (bs t))]) (fun _=>[]) (fun i=>i≤V.length∧idxV t V 0=idxV t (V.drop i) i) (fun i=>V.length - i) 0 ⟨Nat.zero_le _,rfl⟩
  impA ?_
 rintro i ⟨hi,hfo⟩;have hlv:(V.map zaa).length=V.length:=List.length_map _;rcases Nat.lt_or_ge i V.length with hil|hil
 ·rw [List.drop_eq_getElem_cons hil,idxV] at hfo;by_cases e:V[i]=t
  ·rw [if_pos e] at hfo;have hq:((bs V[i]).toList == (bs t).toList)=true:=by rw [zdf,e];exact decide_eq_true rfl
   repeat' first|refine zd ?_|refine zc ?_|((first|refine zf ?_|refine zk ?_|refine zi ?_|refine regA ?_|fail);conv=>whnf)|exact abA hb|(refine za rfl (fun _=>?_) (zaf hq))|(refine zso rfl (fun hb=>?_) (fun hb=>?_))|((first|refine andA ?_|with_reducible refine exA fun _=>?_|fail);conv=>whnf)|(refine lnA fun hln=>?_;conv=>whnf)|fail
   exact congrArg some (congrArg (iv .i64) hfo.symm)
  ·rw [if_neg e] at hfo;have hq:((bs V[i]).toList == (bs t).toList)=false:=by rw [zdf];exact decide_eq_false e
   repeat' first|refine zd ?_|refine zc ?_|((first|refine zf ?_|refine zk ?_|refine zi ?_|refine regA ?_|fail);conv=>whnf)|exact abA hb|(refine za rfl (zM hq) (fun _=>?_))|(refine zso rfl (fun hb=>?_) (fun hb=>?_))|((first|refine zsq ?_|refine andA ?_|with_reducible refine exA fun _=>?_|fail);conv=>whnf)|(refine lnA fun hln=>?_;conv=>whnf)|fail
   exact⟨i+1,⟨by omega,hfo⟩,by omega,impA⟩
 ·rw [List.drop_eq_nil_of_le hil,idxV] at hfo;repeat' first|refine zd ?_|refine zc ?_|((first|refine zf ?_|refine zk ?_|refine zi ?_|refine regA ?_|fail);conv=>whnf)|exact abA hb|(refine zso rfl (fun hb=>?_) (fun hb=>?_))|(refine lnA fun hln=>?_;conv=>whnf)|fail
  exact congrArg some (congrArg (iv .i64) hfo.symm)
end Go.Proofs.YtidkoikjdghlmaaGreatDoor
namespace Go.Proofs.YtidkoikjdghlmaaGreatDoor
open Go Go.QL FoT
set_option maxHeartbeats 1600000
set_option maxRecDepth 20000
attribute [local irreducible] ACall FnC
theorem users_next {V:List Bs8} {i:Nat} (hil:i < V.length) {r:Option (Int × Int)} (h:usersE V V 0=usersE V (V.drop i) i) (h1:zbb V[i]=true) (h2:V[i] ∉ V.take i):usersE V V 0=usersE V (V.drop (i+1)) (i+1):=by
 rw [h,List.drop_eq_getElem_cons hil,usersE,if_neg (by rw [h1];decide),if_neg h2]
theorem pcheck_fn (s:SetT) (hv:∀ k ∈ s.valves,KindOK k):FnC Tryz.prog 7 [setAV s] (res3 (checkS s)):=by
 have q:=qcheck_fn s;have hlv:(s.users.map zaa).length=s.users.length:=List.length_map _;have hlk:(s.valves.map kindPV).length=s.valves.length:=List.length_map _;have o1:=pout_fn ((s.users.map zaa).length:Int) 1 6;unfold checkS;cases hb:rulesB s with
 | false=>
  rw [hb] at q;rw [if_pos rfl];refine hdC Tryz.func7 Tryz.ntmps7 (res:=[.tmp 2,.tmp 3,.tmp 4]) fun w0 K0=>?_
  repeat' first|refine zd ?_|((first|refine zi ?_|refine regA ?_|refine zsn (q) ?_|refine pkA ?_|fail);conv=>whnf)|(refine zsu rfl ?_)|fail
  rfl
 | true=>
  rw [hb] at q;rw [if_neg (by decide)];by_cases c1:¬ (1≤s.users.length∧s.users.length≤6)∨6 < s.valves.length
  ·rw [if_pos c1];have hc:(bif outB ((s.users.map zaa).length:Int) 1 6 then true else decide (((s.valves.map kindPV).length:Int) > 6))=true:=by
    rw [zcE,Bool.cond_eq_ite];split
    ·rfl
    ·rename_i h;simp only [decide_eq_true_eq] at h;refine decide_eq_true ?_
     omega
   refine hdC Tryz.func7 Tryz.ntmps7 (res:=[.tmp 2,.tmp 3,.tmp 4]) fun w0 K0=>?_
   repeat' first|refine zd ?_|((first|refine zf ?_|refine zi ?_|refine regA ?_|refine zsn (q) ?_|refine pkA ?_|refine zsn (o1) ?_|fail);conv=>whnf)|(refine za rfl (fun _=>?_) (zaf hc))|(refine zsv rfl ?_)|(refine lnA fun hln=>?_;conv=>whnf)|fail
   rfl
  ·rw [if_neg c1];rw [zQ.2 (by omega)] at o1;refine hdC Tryz.func7 Tryz.ntmps7 (res:=[.tmp 2,.tmp 3,.tmp 4]) fun w0 K0=>?_
   repeat' first|refine zd ?_|refine zc ?_|((first|refine zf ?_|refine zi ?_|refine regA ?_|refine zsn (q) ?_|refine pkA ?_|refine zsn (o1) ?_|fail);conv=>whnf)|exact abA hb|(refine zsv rfl ?_)|(refine zso rfl (fun hb=>?_) (fun hb=>?_))|(refine lnA fun hln=>?_;conv=>whnf)|fail
   refine zJ (fun i:Nat=>[(34,iv .i64 i),(33,iv .i64 s.users.length),(32,.x (.d (zac s.users))),(1,.x (.b 1 0))]) (fun _=>[(1,.box (setC s))]) (fun i=>i≤s.users.length∧usersE s.users s.users 0=usersE s.users (s.users.drop i) i)
    (fun i=>s.users.length - i) 0 ⟨Nat.zero_le _,rfl⟩ (Imp.slots ⟨rfl,congrArg (fun k:Nat=>some (iv .i64 k)) hlv,rfl,rfl,trivial⟩) ?_
   rintro i ⟨hi,hn⟩;rcases Nat.lt_or_ge i s.users.length with hil|hil
   ·have n1:=zl3 s.users[i];have n2:FnC Tryz.prog 27 [.x (.d (.s 1 (List.drop (Int.toNat 0) (List.take ((i:Int)).toNat (s.users.map zaa))))),sv (bs s.users[i])] (bv (decide (s.users[i] ∈ s.users.take i))):=by
     have e:List.drop (Int.toNat 0) (List.take ((i:Int)).toNat (s.users.map zaa))=(s.users.take i).map zaa:=by simp [List.map_take]
     rw [e];exact zdW _ _
    rw [List.drop_eq_getElem_cons hil,usersE] at hn;cases h1:zbb s.users[i] with
    | false=>
     rw [h1] at n1;rw [if_pos h1] at hn;rw [hn];repeat' first|refine zd ?_|refine zc ?_|((first|refine zf ?_|refine zk ?_|refine zi ?_|refine regA ?_|fail);conv=>whnf)|exact abA hb|((refine zsn (n1) ?_);conv=>whnf)|(refine zsu rfl ?_)|(refine zso rfl (fun hb=>?_) (fun hb=>?_))|((first|refine andA ?_|with_reducible refine exA fun _=>?_|fail);conv=>whnf)|fail
     rfl
    | true=>
     rw [h1] at n1;rw [if_neg (by rw [h1];decide)] at hn;by_cases h2:s.users[i] ∈ s.users.take i
     ·rw [if_pos h2] at hn;rw [decide_eq_true h2] at n2;rw [hn];repeat' first|refine zd ?_|refine zc ?_|((first|refine zf ?_|refine zk ?_|refine zi ?_|refine regA ?_|fail);conv=>whnf)|exact abA hb|((first|refine zsn (n1) ?_|refine zsn (n2) ?_|refine pkA ?_|fail);conv=>whnf)|(refine zsu rfl ?_)|(refine zsv rfl ?_)|(refine zso rfl (fun hb=>?_) (fun hb=>?_))|((first|refine andA ?_|with_reducible refine exA fun _=>?_|fail);conv=>whnf)|fail
      rfl
     ·rw [if_neg h2] at hn;rw [decide_eq_false h2] at n2;repeat' first|refine zd ?_|refine zc ?_|((first|refine zf ?_|refine zk ?_|refine regA ?_|fail);conv=>whnf)|exact abA hb|((first|refine zsn (n1) ?_|refine zsn (n2) ?_|refine pkA ?_|fail);conv=>whnf)|(refine zsv rfl ?_)|(refine zso rfl (fun hb=>?_) (fun hb=>?_))|((first|refine zsq ?_|refine andA ?_|with_reducible refine exA fun _=>?_|fail);conv=>whnf)|fail
      exact⟨i+1,⟨by omega,hn⟩,by omega,impA⟩
   ·rw [List.drop_eq_nil_of_le hil,usersE] at hn;rw [hn];repeat' first|refine zd ?_|refine zc ?_|((first|refine zf ?_|refine zk ?_|refine regA ?_|fail);conv=>whnf)|exact abA hb|(refine zso rfl (fun hb=>?_) (fun hb=>?_))|((refine andA ?_);conv=>whnf)|(refine lnA fun hln=>?_;conv=>whnf)|fail
    refine zJ (fun i:Nat=>[(56,iv .i64 i),(55,iv .i64 s.valves.length),(54,.x (.d (.s 4 (s.valves.map kindPV))))]) (fun _=>[(1,.box (setC s))]) (fun i=>i≤s.valves.length∧valvesE s.valves 0=valvesE (s.valves.drop i) i)
     (fun i=>s.valves.length - i) 0 ⟨Nat.zero_le _,rfl⟩ (Imp.slots ⟨rfl,congrArg (fun k:Nat=>some (iv .i64 k)) hlk,rfl,trivial⟩) ?_
    rintro j ⟨hj,hm⟩;rcases Nat.lt_or_ge j s.valves.length with hjl|hjl
    ·have m1:=mcheck_fn s.valves[j] (hv _ (List.getElem_mem hjl));rw [List.drop_eq_getElem_cons hjl,valvesE] at hm;by_cases h3:kindE s.valves[j]=0
     ·rw [h3] at m1;rw [if_pos h3] at hm;repeat' first|refine zd ?_|refine zc ?_|((first|refine zf ?_|refine zk ?_|refine zi ?_|refine regA ?_|fail);conv=>whnf)|exact abA hb|((refine zsn (m1) ?_);conv=>whnf)|(refine zsv rfl ?_)|(refine zso rfl (fun hb=>?_) (fun hb=>?_))|((first|refine zsq ?_|refine andA ?_|with_reducible refine exA fun _=>?_|fail);conv=>whnf)|fail
      exact⟨j+1,⟨by omega,hm⟩,by omega,impA⟩
     ·rw [if_neg h3] at hm;rw [hm];generalize kindE s.valves[j]=e at *;repeat' first|refine zd ?_|refine zc ?_|((first|refine zf ?_|refine zk ?_|refine zi ?_|refine regA ?_|fail);conv=>whnf)|exact abA hb|((refine zsn (m1) ?_);conv=>whnf)|(refine zso rfl (fun hb=>?_) (fun hb=>?_))|((first|refine andA ?_|with_reducible refine exA fun _=>?_|fail);conv=>whnf)|fail
      rfl
    ·rw [List.drop_eq_nil_of_le hjl,valvesE] at hm;rw [hm];repeat' first|refine zd ?_|refine zc ?_|((first|refine zf ?_|refine zk ?_|refine zi ?_|refine regA ?_|fail);conv=>whnf)|exact abA hb|(refine zso rfl (fun hb=>?_) (fun hb=>?_))|fail
     rfl
end Go.Proofs.YtidkoikjdghlmaaGreatDoor
namespace Go.Proofs.YtidkoikjdghlmaaGreatDoor
open Go Go.QL FoT
set_option maxHeartbeats 1600000
set_option maxRecDepth 20000
attribute [local irreducible] ACall FnC
theorem idx_dec (t:Bs8) (V:List Bs8):decide (idxV t V 0 ≥ 0)=decide (t ∈ V):=by
 obtain⟨h1,h2⟩:=zkl t V 0;rw [Bool.eq_iff_iff,decide_eq_true_iff,decide_eq_true_iff];refine⟨fun h=>?_,h1⟩
 by_cases hm:t ∈ V
 ·exact hm
 ·rw [h2 hm] at h;omega
theorem rcheck13_fn (s:SetT):FnC Tryz.prog 8 [setAV s] (res3 (checkS s)):=by
 have q:=rules_fn s;have hlv:(s.users.map zaa).length=s.users.length:=List.length_map _;have hlk:(s.valves.map kindPV).length=s.valves.length:=List.length_map _;have o1:=r13in_fn ((s.users.map zaa).length:Int) 1 6;unfold checkS;cases hb:rulesB s with
 | false=>
  rw [hb] at q;rw [if_pos rfl];refine hdC Tryz.func8 Tryz.ntmps8 (res:=[.tmp 2,.tmp 3,.tmp 4]) fun w0 K0=>?_
  repeat' first|refine zd ?_|((first|refine zi ?_|refine regA ?_|refine zsn (q) ?_|refine pkA ?_|fail);conv=>whnf)|(refine zsu rfl ?_)|fail
  rfl
 | true=>
  rw [hb] at q;rw [if_neg (by decide)];by_cases c1:¬ (1≤s.users.length∧s.users.length≤6)∨6 < s.valves.length
  ·rw [if_pos c1];have hc:(bif (!decide (1≤((s.users.map zaa).length:Int)∧((s.users.map zaa).length:Int)≤6)) then true else decide (((s.valves.map kindPV).length:Int) > 6))=true:=by
    rw [Bool.cond_eq_ite];split
    ·rfl
    ·rename_i h;simp only [Bool.not_eq_true',decide_eq_false_iff_not,Decidable.not_not] at h;refine decide_eq_true ?_
     omega
   refine hdC Tryz.func8 Tryz.ntmps8 (res:=[.tmp 2,.tmp 3,.tmp 4]) fun w0 K0=>?_
   repeat' first|refine zd ?_|((first|refine zf ?_|refine zi ?_|refine regA ?_|refine zsn (q) ?_|refine pkA ?_|refine zsn (o1) ?_|fail);conv=>whnf)|(refine za rfl (fun _=>?_) (zaf hc))|(refine zsv rfl ?_)|(refine lnA fun hln=>?_;conv=>whnf)|fail
   rfl
  ·rw [if_neg c1];rw [decide_eq_true (by omega)] at o1;refine hdC Tryz.func8 Tryz.ntmps8 (res:=[.tmp 2,.tmp 3,.tmp 4]) fun w0 K0=>?_
   repeat' first|refine zd ?_|refine zc ?_|((first|refine zf ?_|refine zi ?_|refine regA ?_|refine zsn (q) ?_|refine pkA ?_|refine zsn (o1) ?_|fail);conv=>whnf)|exact abA hb|(refine zsv rfl ?_)|(refine zso rfl (fun hb=>?_) (fun hb=>?_))|(refine lnA fun hln=>?_;conv=>whnf)|fail
   refine zJ (fun i:Nat=>[(5,iv .i64 i),(1,.x (.b 1 0))]) (fun _=>[(1,.box (setC s))]) (fun i=>i≤s.users.length∧usersE s.users s.users 0=usersE s.users (s.users.drop i) i)
    (fun i=>s.users.length - i) 0 ⟨Nat.zero_le _,rfl⟩ impA ?_
   rintro i ⟨hi,hn⟩;rcases Nat.lt_or_ge i s.users.length with hil|hil
   ·have n1:=znv s.users[i];have n2:FnC Tryz.prog 32 [.x (.d (.s 1 (List.drop (Int.toNat 0) (List.take ((i:Int)).toNat (s.users.map zaa))))),sv (bs s.users[i])] (iv .i64 (idxV s.users[i] (s.users.take i) 0)):=by
     have e:List.drop (Int.toNat 0) (List.take ((i:Int)).toNat (s.users.map zaa))=(s.users.take i).map zaa:=by simp [List.map_take]
     rw [e];exact index_fn _ _
    have hd:=idx_dec s.users[i] (s.users.take i);rw [List.drop_eq_getElem_cons hil,usersE] at hn;cases h1:zbb s.users[i] with
    | false=>
     rw [h1] at n1;rw [if_pos h1] at hn;rw [hn];repeat' first|refine zd ?_|refine zc ?_|((first|refine zf ?_|refine zk ?_|refine zi ?_|refine regA ?_|fail);conv=>whnf)|exact abA hb|((first|refine zsn (n1) ?_|refine pkA ?_|fail);conv=>whnf)|(refine zsu rfl ?_)|(refine zso rfl (fun hb=>?_) (fun hb=>?_))|((first|refine andA ?_|with_reducible refine exA fun _=>?_|fail);conv=>whnf)|(refine lnA fun hln=>?_;conv=>whnf)|fail
     rfl
    | true=>
     rw [h1] at n1;rw [if_neg (by rw [h1];decide)] at hn;generalize idxV s.users[i] (s.users.take i) 0=z at *;by_cases h2:s.users[i] ∈ s.users.take i
     ·rw [if_pos h2] at hn;rw [decide_eq_true h2] at hd;rw [hn];repeat' first|refine zd ?_|refine zc ?_|((first|refine zf ?_|refine zk ?_|refine zi ?_|refine regA ?_|refine drA (id:=10) 9 false [0,1,0,7,0,16,0,112,240,511,1023] ?_|fail);conv=>whnf)|exact abA hb|((first|refine zsn (n1) ?_|refine zsn (n2) ?_|refine pkA ?_|fail);conv=>whnf)|(refine za rfl (fun _=>?_) (zaf hd))|(refine zsv rfl ?_)|(refine zso rfl (fun hb=>?_) (fun hb=>?_))|((first|refine andA ?_|with_reducible refine exA fun _=>?_|fail);conv=>whnf)|(refine lnA fun hln=>?_;conv=>whnf)|fail
      rfl
     ·rw [if_neg h2] at hn;rw [decide_eq_false h2] at hd;repeat' first|refine zd ?_|refine zc ?_|((first|refine zf ?_|refine zk ?_|refine regA ?_|refine drA (id:=10) 9 false [0,1,0,7,0,16,0,112,240,511,1023] ?_|fail);conv=>whnf)|exact abA hb|((first|refine zsn (n1) ?_|refine zsn (n2) ?_|refine pkA ?_|fail);conv=>whnf)|(refine za rfl (zM hd) (fun _=>?_))|(refine zsv rfl ?_)|(refine zso rfl (fun hb=>?_) (fun hb=>?_))|((first|refine zsq ?_|refine andA ?_|with_reducible refine exA fun _=>?_|fail);conv=>whnf)|(refine lnA fun hln=>?_;conv=>whnf)|fail
      exact⟨i+1,⟨by omega,hn⟩,by omega,impA⟩
   ·rw [List.drop_eq_nil_of_le hil,usersE] at hn;rw [hn];repeat' first|refine zd ?_|refine zc ?_|((first|refine zf ?_|refine zk ?_|refine regA ?_|fail);conv=>whnf)|exact abA hb|(refine zso rfl (fun hb=>?_) (fun hb=>?_))|((refine andA ?_);conv=>whnf)|(refine lnA fun hln=>?_;conv=>whnf)|fail
    refine zJ (fun i:Nat=>[(6,iv .i64 i),(1,.x (.b 1 0))]) (fun _=>[(1,.box (setC s))]) (fun i=>i≤s.valves.length∧valvesE s.valves 0=valvesE (s.valves.drop i) i)
     (fun i=>s.valves.length - i) 0 ⟨Nat.zero_le _,rfl⟩ impA ?_
    rintro j ⟨hj,hm⟩;rcases Nat.lt_or_ge j s.valves.length with hjl|hjl
    ·have m1:=rcheck3_fn s.valves[j];rw [List.drop_eq_getElem_cons hjl,valvesE] at hm;by_cases h3:kindE s.valves[j]=0
     ·rw [h3] at m1;rw [if_pos h3] at hm;repeat' first|refine zd ?_|refine zc ?_|((first|refine zf ?_|refine zk ?_|refine zi ?_|refine regA ?_|fail);conv=>whnf)|exact abA hb|((first|refine zsn (m1) ?_|refine pkA ?_|fail);conv=>whnf)|(refine zsv rfl ?_)|(refine zso rfl (fun hb=>?_) (fun hb=>?_))|((first|refine zsq ?_|refine andA ?_|with_reducible refine exA fun _=>?_|fail);conv=>whnf)|(refine lnA fun hln=>?_;conv=>whnf)|fail
      exact⟨j+1,⟨by omega,hm⟩,by omega,impA⟩
     ·rw [if_neg h3] at hm;rw [hm];generalize kindE s.valves[j]=e at *;repeat' first|refine zd ?_|refine zc ?_|((first|refine zf ?_|refine zk ?_|refine zi ?_|refine regA ?_|fail);conv=>whnf)|exact abA hb|((first|refine zsn (m1) ?_|refine pkA ?_|fail);conv=>whnf)|(refine zso rfl (fun hb=>?_) (fun hb=>?_))|((first|refine andA ?_|with_reducible refine exA fun _=>?_|fail);conv=>whnf)|(refine lnA fun hln=>?_;conv=>whnf)|fail
      rfl
    ·rw [List.drop_eq_nil_of_le hjl,valvesE] at hm;rw [hm];repeat' first|refine zd ?_|refine zc ?_|((first|refine zf ?_|refine zk ?_|refine zi ?_|refine regA ?_|fail);conv=>whnf)|exact abA hb|(refine zso rfl (fun hb=>?_) (fun hb=>?_))|((refine andA ?_);conv=>whnf)|(refine lnA fun hln=>?_;conv=>whnf)|fail
     rfl
end Go.Proofs.YtidkoikjdghlmaaGreatDoor
namespace Go.Proofs.YtidkoikjdghlmaaGreatDoor
open Go Go.QL FoT
set_option maxHeartbeats 1600000
set_option maxRecDepth 20000
attribute [local irreducible] ACall FnC
theorem checks_fn (s:SetT) (hv:∀ k ∈ s.valves,KindOK k):FnC Tryz.prog 3 [setAV s] (bv true):=by
 have h1:=pcheck_fn s hv;have h2:=rcheck13_fn s;have h3:=awake13_fn;generalize checkS s=x at *;obtain⟨a,b,c⟩:=x;unfold res3 at h1 h2;have hc:(bif (bif (bif (a == a) then (b == b) else false) then (c == c) else false) then true else false)=true:=by simp
 refine hdC Tryz.func3 Tryz.ntmps3 (res:=[.tmp 2]) fun w0 K0=>?_
 repeat' first|refine zd ?_|((first|refine zi ?_|refine regA ?_|refine zsn (h1) ?_|refine zsn (h2) ?_|refine zsp (h3) ?_|refine pkA ?_|fail);conv=>whnf)|fail
 exact congrArg (fun b=>some (bv b)) hc
end Go.Proofs.YtidkoikjdghlmaaGreatDoor
end
