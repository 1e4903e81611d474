/- What the functions that this law reaches return: part 0. No condition. -/
import Derived.Test.YtnkhljdifljdbaaGreatDoorB04
set_option linter.all false
noncomputable section
namespace Go.Proofs.YtnkhljdifljdbaaGreatDoor
open Go Go.QL FoT
set_option maxHeartbeats 1600000
attribute [local irreducible] ACall FnC
def bs (l:Bs8):ByteArray:=⟨l.toArray⟩
theorem zbj (l:Bs8):(bs l).size=l.length:=List.size_toArray ..
theorem zco (l:Bs8):(bs l).data.toList=l:=by simp [bs]
theorem zrs {a b:Bs8} (h:bs a=bs b):a=b:=by
 have:=congrArg (fun s:ByteArray=>s.data.toList) h;simpa [bs] using this
theorem zdf (a b:Bs8):((bs a).toList == (bs b).toList)=decide (a=b):=by
 rw [Bool.eq_iff_iff,Lib.bytes_beq_iff,decide_eq_true_iff];exact⟨zrs,congrArg bs⟩
def zaa (s:Bs8):List PV:=[.v (.string (bs s))]
def zac (V:List Bs8):PV:=.s 1 (V.map zaa)
theorem outB_true {n lo hi:Int}:outB n lo hi=true↔¬ (lo≤n∧n≤hi):=by rw [← zQ];simp
theorem zcE (n lo hi:Int):outB n lo hi=decide (¬ (lo≤n∧n≤hi)):=by
 rw [Bool.eq_iff_iff,outB_true,decide_eq_true_iff]
theorem zpQ (n lo hi:Int):FnC Tryz.prog 93 [iv .i64 n,iv .i64 lo,iv .i64 hi] (bv (outB n lo hi)):=by
 refine hdC Tryz.func93 Tryz.ntmps93 (res:=[.tmp 6]) fun w0 K0=>?_
 repeat' first|refine zd ?_|((first|refine zi ?_|refine regA ?_|refine andA ?_|fail);conv=>whnf)|fail
 rfl
theorem zpj {a c:UInt8}:(a≤c)↔(a.toNat:Int)≤c.toNat:=by rw [UInt8.le_iff_toNat_le];omega
abbrev zoe (c:UInt8):Bool:=bif decide ((c.toNat:Int) ≥ 97) then decide ((c.toNat:Int)≤122) else false
abbrev zkW (i:Nat) (c:UInt8):Bool:=bif decide ((i:Int) > 0) then (bif ((c.toNat:Int) == 95) then true else bif decide ((c.toNat:Int) ≥ 48) then decide ((c.toNat:Int)≤57) else false) else false
theorem zmB (c:UInt8):zoe c=(97≤c && c≤122):=by
 rw [Bool.eq_iff_iff];simp [zoe,zpj]
theorem zmA (i:Nat) (c:UInt8):zkW i c=(!(decide (i=0)) && ((48≤c && c≤57) || c == 95)):=by
 rw [Bool.eq_iff_iff];have e:(c == 95)=((c.toNat:Int) == 95):=by
  rw [Bool.eq_iff_iff,beq_iff_eq,beq_iff_eq,← UInt8.toNat_inj];show c.toNat=95↔_
  omega
 rw [e];simp only [zkW,Bool.cond_eq_ite];simp [zpj,Nat.pos_iff_ne_zero];grind
theorem zg1 (i:Nat) (c:UInt8):zg2 (decide (i=0)) c=(zoe c || zkW i c):=by
 rw [zmB,zmA];rfl
theorem zkd {l:Bs8} (h:1≤l.length):l[l.length - 1]?=some (l.getLastD 0):=by
 rw [List.getLastD_eq_getLast?,List.getLast?_eq_getElem?];rw [List.getElem?_eq_getElem (by omega)];rfl
abbrev zpT (l:Bs8):Bool:=((l.getLastD 0).toNat:Int) == 95
theorem zeo (l:Bs8):zpT l=(l.getLastD 0 == 95):=by
 rw [Bool.eq_iff_iff,beq_iff_eq,beq_iff_eq,← UInt8.toNat_inj];show _↔(l.getLastD 0).toNat=95
 omega
theorem zl3 (l:Bs8):FnC Tryz.prog 53 [sv (bs l)] (bv (zbb l)):=by
 have hsz:=zbj l;have hli:=zco l;have o:=zpQ (bs l).size 1 20;by_cases h1:1≤l.length∧l.length≤20
 ·have ho:outB (bs l).size 1 20=false:=zQ.2 (by omega);rw [ho] at o;have hg:(bs l).data.toList[((bs l).size - 1:Int).toNat]?=some (l.getLastD 0):=by
   rw [hli,show ((bs l).size - 1:Int).toNat=l.length - 1 by omega];exact zkd h1.1
  cases h2:zpT l with
  | true=>
   have hr:zbb l=false:=by
    unfold zbb;rw [← zeo,h2];simp
   rw [hr];refine hdC Tryz.func53 Tryz.ntmps53 (res:=[.tmp 2]) fun w0 K0=>?_
   repeat' first|refine zd ?_|((first|refine zi ?_|refine regA ?_|refine zsn (o) ?_|refine⟨_,ze ⟨by omega,hg⟩,?_⟩|fail);conv=>whnf)|(refine za rfl (fun _=>?_) (zaf h2))|((first|refine zsq ?_|refine andA ?_|fail);conv=>whnf)|fail
   rfl
  | false=>
   have hr:zbb l=z7 true l:=by
    unfold zbb;rw [← zeo,h2,decide_eq_true h1.1,decide_eq_true h1.2];rfl
   rw [hr];have hlen:((bs l).data.toList.map fun c=>[PV.v (.int .u8 c.toNat)]).length=l.length:=by rw [hli,List.length_map]
   have hmax:(bs l).size≤maxLen:=by unfold maxLen;omega
   refine hdC Tryz.func53 Tryz.ntmps53 (res:=[.tmp 2]) fun w0 K0=>?_
   repeat' first|refine zd ?_|refine zc ?_|((first|refine zf ?_|refine regA ?_|refine zsn (o) ?_|refine⟨_,ze ⟨by omega,hg⟩,?_⟩|fail);conv=>whnf)|(refine za rfl (zM h2) (fun _=>?_))|((first|refine And.intro hmax ?_|refine zsq ?_|refine andA ?_|fail);conv=>whnf)|(refine lnA fun hln=>?_;conv=>whnf)|fail
   refine zJ (fun i:Nat=>[(19,iv .i64 i),(18,iv .i64 l.length),(17,.x (.d (.s 1 (l.map fun c=>[.v (.int .u8 c.toNat)]))))]) (fun _=>[])
    (fun i=>i≤l.length∧z7 true l=z7 (decide (i=0)) (l.drop i)) (fun i=>l.length - i) 0 ⟨Nat.zero_le _,rfl⟩
    (Imp.slots ⟨rfl,congrArg (fun k:Nat=>some (iv .i64 k)) hlen,congrArg (fun q:Bs8=>some (AV.x (.d (.s 1 (q.map fun c:UInt8=>[PV.v (.int .u8 (c.toNat:Int))]))))) hli,trivial⟩) ?_
   rintro i ⟨hi,hn⟩;rcases Nat.lt_or_ge i l.length with hil|hil
   ·rw [List.drop_eq_getElem_cons hil,z7,zg1] at hn;cases ha:zoe l[i] with
    | true=>
     rw [ha] at hn;have hn:z7 true l=z7 false (l.drop (i+1)):=hn;repeat' first|refine zd ?_|refine zc ?_|((first|refine zf ?_|refine zk ?_|refine zi ?_|refine regA ?_|fail);conv=>whnf)|exact abA hb|(refine za rfl (fun _=>?_) (zaf ha))|((refine pkA ?_);conv=>whnf)|(refine zso rfl (fun hb=>?_) (fun hb=>?_))|((first|refine zsq ?_|refine andA ?_|with_reducible refine exA fun _=>?_|fail);conv=>whnf)|fail
     exact⟨i+1,⟨by omega,hn⟩,by omega,impA⟩
    | false=>
     rw [ha] at hn;cases hc:zkW i l[i] with
     | true=>
      rw [hc] at hn;have hn:z7 true l=z7 false (l.drop (i+1)):=hn;repeat' first|refine zd ?_|refine zc ?_|((first|refine zf ?_|refine zk ?_|refine zi ?_|refine regA ?_|fail);conv=>whnf)|exact abA hb|(refine za rfl (zM ha) (fun _=>?_))|((refine pkA ?_);conv=>whnf)|(refine za rfl (fun _=>?_) (zaf hc))|(refine zso rfl (fun hb=>?_) (fun hb=>?_))|((first|refine zsq ?_|refine andA ?_|with_reducible refine exA fun _=>?_|fail);conv=>whnf)|fail
      exact⟨i+1,⟨by omega,hn⟩,by omega,impA⟩
     | false=>
      rw [hc] at hn;have hn:z7 true l=false:=hn;rw [hn];repeat' first|refine zd ?_|refine zc ?_|((first|refine zf ?_|refine zk ?_|refine zi ?_|refine regA ?_|fail);conv=>whnf)|exact abA hb|(refine za rfl (zM ha) (fun _=>?_))|((refine pkA ?_);conv=>whnf)|(refine za rfl (zM hc) (fun _=>?_))|(refine zso rfl (fun hb=>?_) (fun hb=>?_))|((first|refine andA ?_|with_reducible refine exA fun _=>?_|fail);conv=>whnf)|fail
      rfl
   ·rw [List.drop_eq_nil_of_le hil] at hn;have hn:z7 true l=true:=hn;rw [hn];repeat' first|refine zd ?_|refine zc ?_|((first|refine zf ?_|refine zk ?_|refine zi ?_|refine regA ?_|fail);conv=>whnf)|exact abA hb|(refine zso rfl (fun hb=>?_) (fun hb=>?_))|fail
    rfl
 ·have ho:outB (bs l).size 1 20=true:=outB_true.2 (by omega);rw [ho] at o;have hr:zbb l=false:=by
   unfold zbb;have:(decide (1≤l.length) && decide (l.length≤20))=false:=by
    rw [Bool.eq_false_iff];simp;omega
   rw [this];rfl
  rw [hr];refine hdC Tryz.func53 Tryz.ntmps53 (res:=[.tmp 2]) fun w0 K0=>?_
  repeat' first|refine zd ?_|((first|refine zi ?_|refine regA ?_|refine zsn (o) ?_|refine⟨95,zax (fun h=>absurd h (by decide)),?_⟩|fail);conv=>whnf)|(refine zsu rfl ?_)|((first|refine⟨IntKind.wrap _ _,rfl,?_⟩|refine andA ?_|fail);conv=>whnf)|fail
  rfl
def idxV (t:Bs8):List Bs8→Nat→Int
 | [],_=>-1
 | v::r,i=>if v=t then i else idxV t r (i+1)
theorem zp8 (V:List Bs8) (t:Bs8):FnC Tryz.prog 58 [.x (.d (zac V)),sv (bs t)] (iv .i64 (idxV t V 0)):=by
 refine hdC Tryz.func58 Tryz.ntmps58 (res:=[.tmp 4]) fun w0 K0=>?_
 repeat' first|refine zd ?_|refine zc ?_|((refine regA ?_);conv=>whnf)|(refine lnA fun hln=>?_;conv=>whnf)|fail
 refine zJ (fun i:Nat=>[(8,iv .i64 i),(7,iv .i64 V.length),(0,.x (.d (zac V))),(1,sv (bs t))]) (fun _=>[]) (fun i=>i≤V.length∧idxV t V 0=idxV t (V.drop i) i) (fun i=>V.length - i) 0 ⟨Nat.zero_le _,rfl⟩
  (Imp.slots ⟨rfl,congrArg (fun k:Nat=>some (iv .i64 k)) (List.length_map _),rfl,rfl,trivial⟩) ?_
 rintro i ⟨hi,hfo⟩;rcases Nat.lt_or_ge i V.length with hil|hil
 ·rw [List.drop_eq_getElem_cons hil,idxV] at hfo;by_cases e:V[i]=t
  ·rw [if_pos e] at hfo;have hq:((bs t).toList == (bs V[i]).toList)=true:=by rw [zdf,e];exact decide_eq_true rfl
   repeat' first|refine zd ?_|refine zc ?_|((first|refine zf ?_|refine zk ?_|refine zi ?_|refine regA ?_|fail);conv=>whnf)|exact abA hb|(refine za rfl (fun _=>?_) (zaf hq))|(refine zso rfl (fun hb=>?_) (fun hb=>?_))|((first|refine andA ?_|with_reducible refine exA fun _=>?_|fail);conv=>whnf)|fail
   exact congrArg some (congrArg (iv .i64) hfo.symm)
  ·rw [if_neg e] at hfo;have hq:((bs t).toList == (bs V[i]).toList)=false:=by rw [zdf];exact decide_eq_false (fun h=>e h.symm)
   repeat' first|refine zd ?_|refine zc ?_|((first|refine zf ?_|refine zk ?_|refine zi ?_|refine regA ?_|fail);conv=>whnf)|exact abA hb|(refine za rfl (zM hq) (fun _=>?_))|(refine zso rfl (fun hb=>?_) (fun hb=>?_))|((first|refine zsq ?_|refine andA ?_|with_reducible refine exA fun _=>?_|fail);conv=>whnf)|fail
   exact⟨i+1,⟨by omega,hfo⟩,by omega,impA⟩
 ·rw [List.drop_eq_nil_of_le hil,idxV] at hfo;repeat' first|refine zd ?_|refine zc ?_|((first|refine zf ?_|refine zk ?_|refine zi ?_|refine regA ?_|fail);conv=>whnf)|exact abA hb|(refine zso rfl (fun hb=>?_) (fun hb=>?_))|fail
  exact congrArg some (congrArg (iv .i64) hfo.symm)
theorem zkl (t:Bs8):∀ (V:List Bs8) (i:Nat),(t ∈ V→0≤idxV t V i)∧(t ∉ V→idxV t V i = -1)
 | [],i=>⟨fun h=>(by cases h),fun _=>rfl⟩
 | v::r,i=>by
  rw [idxV];by_cases e:v=t
  ·rw [if_pos e];exact⟨fun _=>by omega,fun h=>absurd (by simp [e]) h⟩
  ·rw [if_neg e];obtain⟨h1,h2⟩:=zkl t r (i+1);refine⟨fun h=>h1 ?_,fun h=>h2 ?_⟩
   ·rcases List.mem_cons.1 h with h|h
    ·exact absurd h.symm e
    ·exact h
   ·exact fun hm=>h (List.mem_cons_of_mem _ hm)
theorem zdW (V:List Bs8) (t:Bs8):FnC Tryz.prog 34 [.x (.d (zac V)),sv (bs t)] (bv (decide (t ∈ V))):=by
 have hc:=zp8 V t;have hr:decide (idxV t V 0 ≥ 0)=decide (t ∈ V):=by
  obtain⟨h1,h2⟩:=zkl t V 0;rw [Bool.eq_iff_iff,decide_eq_true_iff,decide_eq_true_iff];refine⟨fun h=>?_,h1⟩
  by_cases hm:t ∈ V
  ·exact hm
  ·rw [h2 hm] at h;omega
 rw [← hr];generalize idxV t V 0=k at hc;refine hdC Tryz.func34 Tryz.ntmps34 (res:=[.tmp 4]) fun w0 K0=>?_
 repeat' first|refine zd ?_|((first|refine zi ?_|refine regA ?_|refine zsn (hc) ?_|fail);conv=>whnf)|fail
 rfl
theorem zjG (n lo hi:Int):(bif decide (lo≤n) then decide (n≤hi) else false)=decide (lo≤n∧n≤hi):=by
 rw [Bool.eq_iff_iff,decide_eq_true_iff,Bool.cond_eq_ite];by_cases h:lo≤n <;> simp [h]
theorem r03in_fn (n lo hi:Int):FnC Tryz.prog 13 [iv .i64 n,iv .i64 lo,iv .i64 hi] (bv (decide (lo≤n∧n≤hi))):=by
 rw [← zjG];refine hdC Tryz.func13 Tryz.ntmps13 (res:=[.tmp 6]) fun w0 K0=>?_
 repeat' first|refine zd ?_|((first|refine zi ?_|refine regA ?_|refine pkA ?_|fail);conv=>whnf)|fail
 rfl
theorem qout_fn (n lo hi:Int):FnC Tryz.prog 92 [iv .i64 n,iv .i64 lo,iv .i64 hi] (bv (outB n lo hi)):=by
 refine hdC Tryz.func92 Tryz.ntmps92 (res:=[.tmp 6]) fun w0 K0=>?_
 repeat' first|refine zd ?_|((first|refine zi ?_|refine regA ?_|refine andA ?_|fail);conv=>whnf)|fail
 rfl
theorem pout_fn (n lo hi:Int):FnC Tryz.prog 52 [iv .i64 n,iv .i64 lo,iv .i64 hi] (bv (outB n lo hi)):=by
 refine hdC Tryz.func52 Tryz.ntmps52 (res:=[.tmp 6]) fun w0 K0=>?_
 repeat' first|refine zd ?_|((first|refine zi ?_|refine regA ?_|refine andA ?_|fail);conv=>whnf)|fail
 rfl
theorem mout1_fn (hi x:Int):ACall Tryz.prog 152 [iv .i64 x,.x (.b 2 0)] [(2,.box [.d (.v (.int .i64 hi))])]
  (fun r σ'=>r=bv (outB x 0 hi)∧σ'=[(2,.box [.d (.v (.int .i64 hi))])]):=by
 refine zcN hTt Tryz.func152 rfl (by kernel_rfl) (res:=[.tmp 3]) rfl Tryz.ntmps152 (by simp) fun w0 K0 B=>?_
 dsimp only [entry];repeat' first|refine zd ?_|((first|refine zi ?_|refine regA ?_|refine andA ?_|fail);conv=>whnf)|fail
 exact⟨_,rfl,rfl,rfl⟩
theorem mout_fn (hi:Int) (xs:List Int):FnC Tryz.prog 94 [iv .i64 hi,sl xs] (bv (xs.any fun x=>outB x 0 hi)):=by
 have hc:=zdc 152 [.b 2 0] (fun x=>outB x 0 hi) xs _ (fun x _=>mout1_fn hi x);generalize (xs.any fun x=>outB x 0 hi)=b at hc;refine hdC Tryz.func94 Tryz.ntmps94 (res:=[.tmp 4]) fun w0 K0=>?_
 repeat' first|refine zd ?_|((first|refine zi ?_|refine regA ?_|((refine⟨_,hc,?_⟩);(rintro _ _ ⟨rfl,rfl⟩))|fail);conv=>whnf)|fail
 rfl
theorem mout1 (hi x:Int):FnC Tryz.prog 94 [iv .i64 hi,sl [x]] (bv (outB x 0 hi)):=by
 have:=mout_fn hi [x];rw [List.any_cons,List.any_nil,Bool.or_false] at this;exact this
theorem mout2 (hi x y:Int):FnC Tryz.prog 94 [iv .i64 hi,sl [x,y]] (bv (outB x 0 hi || outB y 0 hi)):=by
 have:=mout_fn hi [x,y];rw [List.any_cons,List.any_cons,List.any_nil,Bool.or_false] at this;exact this
end Go.Proofs.YtnkhljdifljdbaaGreatDoor
namespace Go.Proofs.YtnkhljdifljdbaaGreatDoor
open Go Go.QL FoT
set_option maxHeartbeats 1600000
attribute [local irreducible] ACall FnC
structure KindT where
 new:Int
 lo:Int
 hi:Int
 steps:List (Int × Int)
structure SetT where
 sl:Int
 ld:Int
 du:Int
 pa:Int
 ra:Int
 users:List Bs8
 valves:List KindT
def stepPV (s:Int × Int):List PV:=[.v (.int .i64 s.1),.v (.int .i64 s.2)]
def kindPV (k:KindT):List PV:=[.v (.int .i64 k.new),.v (.int .i64 k.lo),.v (.int .i64 k.hi),.s 2 (k.steps.map stepPV)]
def kindAV (k:KindT):AV:=.a [.d (.v (.int .i64 k.new)),.d (.v (.int .i64 k.lo)),.d (.v (.int .i64 k.hi)),.d (.s 2 (k.steps.map stepPV))]
abbrev setC (s:SetT):List SV:=[.d (.v (.int .i64 s.sl)),.d (.v (.int .i64 s.ld)),.d (.v (.int .i64 s.du)),.d (.v (.int .i64 s.pa)),.d (.v (.int .i64 s.ra)),.d (zac s.users),.d (.s 4 (s.valves.map kindPV))]
def setAV (s:SetT):AV:=.a (setC s)
abbrev rulesC (s:SetT):List SV:=[.d (.v (.int .i64 s.sl)),.d (.v (.int .i64 s.ld)),.d (.v (.int .i64 s.du)),.d (.v (.int .i64 s.pa)),.d (.v (.int .i64 s.ra))]
def KindOK (k:KindT):Prop:=i64 k.new∧i64 k.lo∧i64 k.hi
def badS:Option (Int × Int)→Int × Int→Bool
 | none,s=>decide (s.1≠1000)
 | some q,s=>decide (q.1≤s.1∨s.2 < q.2)
def stepsE:Option (Int × Int)→List (Int × Int)→Int
 | _,[]=>0
 | p,s::r=>if ¬ ((0≤s.1∧s.1≤1000)∧(0≤s.2∧s.2≤1000000)) then 7 else if badS p s=true then 2 else stepsE (some s) r
def kindE (k:KindT):Int:=
 if ¬ ((1≤k.new∧k.new≤1000000)∧(0≤k.lo∧k.lo≤1000)∧(0≤k.hi∧k.hi≤1000)) then 7
 else if k.hi < k.lo then 2 else if ¬ (1≤k.steps.length∧k.steps.length≤8) then 3 else stepsE none k.steps
def rulesB (s:SetT):Bool:=decide (1≤s.sl∧s.sl≤600) && (decide (0≤s.ld∧s.ld≤30) && (decide (0≤s.du∧s.du≤30) && (decide (0≤s.pa∧s.pa≤5000) && decide (0≤s.ra∧s.ra≤1000))))
def usersE (V:List Bs8):List Bs8→Nat→Option (Int × Int)
 | [],_=>none
 | u::r,i=>if zbb u=false then some (i,6) else if u ∈ V.take i then some (i,5) else usersE V r (i+1)
def valvesE:List KindT→Nat→Option (Int × Int)
 | [],_=>none
 | k::r,i=>if kindE k=0 then valvesE r (i+1) else some (i,kindE k)
def checkS (s:SetT):Int × Int × Int:=
 if rulesB s=false then (1,0,7) else if ¬ (1≤s.users.length∧s.users.length≤6)∨6 < s.valves.length then (1,0,3) else
 match usersE s.users s.users 0 with
 | some (i,e)=>(2,i,e)
 | none=>match valvesE s.valves 0 with
  | some (i,e)=>(3,i,e)
  | none=>(0,0,0)
def res3 (x:Int × Int × Int):AV:=.t [iv .i64 x.1,iv .i64 x.2.1,iv .i64 x.2.2]
end Go.Proofs.YtnkhljdifljdbaaGreatDoor
namespace Go.Proofs.YtnkhljdifljdbaaGreatDoor
def spanW (lo hi:Int) (s:Int × Int) (d:Int):Int × Int:=(max 0 (s.1 - d * hi),max 0 (s.2 - d * lo))
def spanR (need:Int) (s:Int × Int) (p:Bool):Int × Int:=bif p then (max s.1 need,s.2) else (s.1,min s.2 (need - 1))
def inSpan (x:Int) (s:Int × Int):Prop:=s.1≤x∧x≤s.2
theorem spanW_zero {lo hi:Int} {s:Int × Int} (h:0≤s.1∧0≤s.2):spanW lo hi s 0=s:=by
 unfold spanW;rw [Int.zero_mul,Int.zero_mul];ext <;> dsimp only <;> omega
theorem max_sub (a d e:Int) (he:0≤e):max 0 (max 0 (a - d) - e)=max 0 (a - (d+e)):=by omega
theorem spanW_add {lo hi:Int} (hl:0≤lo) (hh:0≤hi) (s:Int × Int) {d e:Int} (he:0≤e):spanW lo hi (spanW lo hi s d) e=spanW lo hi s (d+e):=by
 unfold spanW;dsimp only;rw [max_sub _ _ _ (Int.mul_nonneg he hh),max_sub _ _ _ (Int.mul_nonneg he hl),Int.add_mul,Int.add_mul]
theorem hour_in {lo hi x w:Int} {s:Int × Int} (h:inSpan x s) (hw:0≤w∧w≤hi - lo):inSpan (max 0 (x - lo - w)) (spanW lo hi s 1):=by
 unfold inSpan spanW at *;dsimp only;omega
theorem check_in {need x:Int} {s:Int × Int} (h:inSpan x s):inSpan x (spanR need s (decide (need≤x))):=by
 unfold inSpan spanR at *;by_cases hn:need≤x
 ·rw [decide_eq_true hn];dsimp only [cond_true];omega
 ·rw [decide_eq_false hn];dsimp only [cond_false];omega
theorem span_le {x:Int} {s:Int × Int} (h:inSpan x s):s.1≤s.2:=by unfold inSpan at h;omega
def firstV (need hour strength wear:Int):Int:=if strength < need then hour else if need=0∨wear=0 then -1 else hour+(strength - need) / wear+1
theorem early {lo hi need now x:Int} {s:Int × Int} {d:Nat} (hh:0≤hi) (h:inSpan x (spanW lo hi s d)) (hx:x < need) :
  now≤firstV need now s.1 hi∧firstV need now s.1 hi≤now+d:=by
 unfold inSpan spanW at h;dsimp only at h;unfold firstV;split
 ·omega
 ·rename_i h1;have hnd:0 < need:=by omega
  have hhp:hi≠0:=by
   intro e;subst e;rw [Int.mul_zero] at h;omega
  rw [if_neg (by omega)];have h2:(s.1 - need) < d * hi:=by omega
  have h3:(s.1 - need) / hi < d:=Int.ediv_lt_of_lt_mul (by omega) h2;have h4:0≤(s.1 - need) / hi:=Int.ediv_nonneg (by omega) hh;omega
theorem late_at {lo hi need now x:Int} {s:Int × Int} {d:Nat} (hl:0≤lo) (hs:0≤s.2) (hnd:0≤need) (h0:inSpan x (spanW lo hi s d)) (hx:need≤x) :
  firstV need now s.2 lo < 0∨now+d < firstV need now s.2 lo:=by
 unfold inSpan spanW at h0;dsimp only at h0;unfold firstV;have hdl:0≤d * lo:=Int.mul_nonneg (by omega) hl;split
 ·omega
 ·rename_i h1;split
  ·left;decide
  ·rename_i h2;right
   have hlp:0 < lo:=by omega
   have h4:d * lo≤s.2 - need:=by omega
   have h5:(d:Int)≤(s.2 - need) / lo:=Int.le_ediv_of_mul_le hlp h4;omega
theorem firstV_ge {need now st wear:Int} (hw:0≤wear):firstV need now st wear = -1∨now≤firstV need now st wear:=by
 unfold firstV;split
 ·right;exact Int.le_refl _
 ·split
  ·exact .inl rfl
  ·right
   have:=Int.ediv_nonneg (a:=st - need) (b:=wear) (by omega) hw;omega
end Go.Proofs.YtnkhljdifljdbaaGreatDoor
namespace Go.Proofs.YtnkhljdifljdbaaGreatDoor
open Go Go.QL FoT
set_option maxHeartbeats 1600000
attribute [local irreducible] ACall FnC
structure ChkT where
 hour:Int
 volt:Int
 ok:Bool
def chkPV (c:ChkT):List PV:=[.v (.int .i64 c.hour),.v (.int .i64 c.volt),.v (.bool c.ok)]
def chksPV (l:List ChkT):PV:=.s 3 (l.map chkPV)
def needL:List (Int × Int)→Int→Int
 | [],_=>0
 | s::r,v=>if s.1≤v then s.2 else needL r v
def idxL:List (Int × Int)→Int→Int→Int
 | [],_,_=>-1
 | s::r,v,i=>if s.1≤v then i else idxL r v (i+1)
def leastV (k:KindT):Int:=(k.steps.getLastD (0,0)).1
structure KGood (k:KindT):Prop where
 new:1≤k.new∧k.new≤1000000
 lo:0≤k.lo∧k.lo≤k.hi
 hi:k.hi≤1000
 len:1≤k.steps.length∧k.steps.length≤8
 steps:∀ s ∈ k.steps,(0≤s.1∧s.1≤1000)∧(0≤s.2∧s.2≤1000000)
theorem stepsE_in:∀ {l:List (Int × Int)} {p:Option (Int × Int)},stepsE p l=0→∀ s ∈ l,(0≤s.1∧s.1≤1000)∧(0≤s.2∧s.2≤1000000)
 | [],_,_,s,hs=>by cases hs
 | t::r,p,h,s,hs=>by
  unfold stepsE at h;split at h
  ·cases h
  ·rename_i h1;split at h
   ·cases h
   ·rcases List.mem_cons.1 hs with rfl|hs
    ·exact Decidable.not_not.1 h1
    ·exact stepsE_in h s hs
theorem KGood.of {k:KindT} (h:kindE k=0):KGood k:=by
 unfold kindE at h;split at h
 ·cases h
 ·rename_i h1;split at h
  ·cases h
  ·rename_i h2;split at h
   ·cases h
   ·rename_i h3;have h1:=Decidable.not_not.1 h1;exact⟨h1.1,⟨h1.2.1.1,by omega⟩,h1.2.2.2,Decidable.not_not.1 h3,stepsE_in h⟩
theorem KGood.ok {k:KindT} (h:KGood k):KindOK k:=by
 have:=h.new;have:=h.lo;have:=h.hi;unfold KindOK i64;omega
theorem needL_in {l:List (Int × Int)} (h:∀ s ∈ l,(0≤s.1∧s.1≤1000)∧(0≤s.2∧s.2≤1000000)) (v:Int):0≤needL l v∧needL l v≤1000000:=by
 induction l with
 | nil=>exact⟨Int.le_refl _,show (0:Int)≤1000000 by decide⟩
 | cons s r ih=>
  unfold needL;split
  ·exact (h s (by simp)).2
  ·exact ih fun t ht=>h t (by simp [ht])
theorem idxL_get:∀ (l:List (Int × Int)) (v i:Int),(∃ s ∈ l,s.1≤v)→∃ (j:Nat) (s:Int × Int),idxL l v i=i+j∧l[j]?=some s∧s.2=needL l v
 | [],v,i,⟨s,hs,_⟩=>by cases hs
 | t::r,v,i,h=>by
  unfold idxL needL;by_cases ht:t.1≤v
  ·rw [if_pos ht,if_pos ht];exact⟨0,t,by omega,rfl,rfl⟩
  ·rw [if_neg ht,if_neg ht];obtain⟨s,hs,hv⟩:=h;have hs':s ∈ r:=by
    rcases List.mem_cons.1 hs with rfl|hs
    ·exact absurd hv ht
    ·exact hs
   obtain⟨j,s',h1,h2,h3⟩:=idxL_get r v (i+1) ⟨s,hs',hv⟩;exact⟨j+1,s',by omega,by simpa using h2,h3⟩
theorem least_mem {k:KindT} (h:KGood k) {v:Int} (hv:leastV k≤v):∃ s ∈ k.steps,s.1≤v:=by
 have hl:=h.len.1;unfold leastV at hv;refine⟨k.steps.getLastD (0,0),?_,hv⟩
 rw [List.getLastD_eq_getLast?,List.getLast?_eq_getElem?,List.getElem?_eq_getElem (by omega)];exact List.getElem_mem _
abbrev SpanQ:=Int × Int
def nonneg (s:SpanQ):Prop:=(0≤s.1∧s.1≤1000000)∧(0≤s.2∧s.2≤1000000)
def runC (k:KindT):List ChkT→Int→SpanQ→Option (SpanQ × Int)
 | [],h,s=>some (s,h)
 | c::r,h,s=>
  let t:=spanR (needL k.steps c.volt) (spanW k.lo k.hi s (c.hour - h)) c.ok
  if t.1≤t.2 then runC k r c.hour t else none
theorem runC_snoc (k:KindT) (c:ChkT):∀ (l:List ChkT) (h:Int) (s:SpanQ),runC k (l ++ [c]) h s=(runC k l h s).bind fun p=>runC k [c] p.2 p.1
 | [],h,s=>rfl
 | d::r,h,s=>by
  simp only [List.cons_append,runC];split
  ·exact runC_snoc k c r _ _
  ·rfl
end Go.Proofs.YtnkhljdifljdbaaGreatDoor
namespace Go.Proofs.YtnkhljdifljdbaaGreatDoor
open Go Go.QL FoT
set_option maxHeartbeats 1600000
set_option maxRecDepth 20000
attribute [local irreducible] ACall FnC
theorem wrap_new {n:Int} (h:i64 n):∃ w,IntKind.i64.wrap (n - 1)=w∧outB w 0 999999=outB n 1 1000000:=by
 unfold i64 at h;by_cases e:n = -9223372036854775808
 ·subst e;exact⟨_,rfl,by decide⟩
 ·refine⟨n - 1,zg (by omega),?_⟩
  rw [zcE,zcE];rw [Bool.eq_iff_iff,decide_eq_true_iff,decide_eq_true_iff];omega
theorem mcheck_raw (new lo hi:Int) (st:List (Int × Int)) (h1:i64 new) (h2:i64 lo) (h3:i64 hi):FnC Tryz.prog 54 [.a [.d (.v (.int .i64 new)),.d (.v (.int .i64 lo)),.d (.v (.int .i64 hi)),.d (.s 2 (st.map stepPV))]] (iv .i64 (kindE ⟨new,lo,hi,st⟩)):=by
 have hls:(st.map stepPV).length=st.length:=List.length_map _;obtain⟨w,hw,hwo⟩:=wrap_new h1;have o1:=mout1 999999 w;have o2:=mout2 1000 lo hi;have o3:=mout1 7 ((st.map stepPV).length - 1:Int);rw [hwo] at o1;unfold kindE;dsimp only;by_cases c1:1≤new∧new≤1000000
 ·rw [zQ.2 c1] at o1;by_cases c2:(0≤lo∧lo≤1000)∧(0≤hi∧hi≤1000)
  ·rw [zQ.2 c2.1,zQ.2 c2.2,Bool.or_false] at o2;rw [if_neg (fun e=>e ⟨c1,c2⟩)];by_cases c3:hi < lo
   ·rw [if_pos c3];refine hdC Tryz.func54 Tryz.ntmps54 (res:=[.tmp 2]) fun w0 K0=>?_
    repeat' first|refine zd ?_|refine zc ?_|((first|refine zi ?_|refine regA ?_|refine pkA ?_|refine zsn (o1) ?_|refine zsp (o2) ?_|refine⟨_,hw,?_⟩|fail);conv=>whnf)|exact abA hb|(refine zsv rfl ?_)|(refine zso rfl (fun hb=>?_) (fun hb=>?_))|fail
    rfl
   ·rw [if_neg c3];by_cases c4:1≤st.length∧st.length≤8
    ·rw [zQ.2 (by omega)] at o3;rw [if_neg (fun e=>e c4)];refine hdC Tryz.func54 Tryz.ntmps54 (res:=[.tmp 2]) fun w0 K0=>?_
     repeat' first|refine zd ?_|refine zc ?_|((first|refine zf ?_|refine zi ?_|refine regA ?_|refine pkA ?_|refine zsn (o1) ?_|refine zsp (o2) ?_|refine zsn (o3) ?_|refine⟨_,hw,?_⟩|fail);conv=>whnf)|exact abA hb|(refine zsv rfl ?_)|(refine zso rfl (fun hb=>?_) (fun hb=>?_))|((refine zsq ?_);conv=>whnf)|(refine lnA fun hln=>?_;conv=>whnf)|fail
     refine zJ (fun x:Nat × Int × Int=>[(41,iv .i64 x.1),(40,iv .i64 (st.map stepPV).length),(39,.x (.d (.s 2 (st.map stepPV)))),(3,.x (.b 3 0))]) (fun x=>[(3,.box [.d (.v (.int .i64 x.2.1)),.d (.v (.int .i64 x.2.2))])])
      (fun x=>x.1≤st.length∧stepsE none st=stepsE (if x.1=0 then none else some x.2) (st.drop x.1)∧(x.1=0→x.2=(1001,0))) (fun x=>st.length - x.1) (0,1001,0) ⟨Nat.zero_le _,rfl,fun _=>rfl⟩ impA ?_
     rintro⟨i,a,b⟩ ⟨hi',hn,h0⟩;dsimp only at hi' hn h0;rcases Nat.lt_or_ge i st.length with hil|hil
     ·rw [List.drop_eq_getElem_cons hil,stepsE] at hn;have o4:=mout1 1000 st[i].1;have o5:=mout1 1000000 st[i].2;by_cases c5:0≤st[i].1∧st[i].1≤1000
      ·rw [zQ.2 c5] at o4;by_cases c6:0≤st[i].2∧st[i].2≤1000000
       ·rw [zQ.2 c6] at o5;rw [if_neg (fun e=>e ⟨c5,c6⟩)] at hn;have hc:(bif (bif (bif ((i:Int) == 0) then decide (st[i].1 < 1000) else false) then true else decide (st[i].1 ≥ a)) then true else decide (st[i].2 < b))=badS (if i=0 then none else some (a,b)) st[i]:=by
         by_cases e:i=0
         ·subst e;rw [if_pos rfl];obtain⟨rfl,rfl⟩:=Prod.mk.inj (h0 rfl);show _=decide _
          rw [Bool.eq_iff_iff];simp;omega
         ·rw [if_neg e];show _=decide _
          rw [Bool.eq_iff_iff];have:((i:Int) == 0)=false:=beq_eq_false_iff_ne.2 (by omega);simp [this]
        generalize hcc:badS (if i=0 then none else some (a,b)) st[i]=c at hn hc;cases c with
        | true=>
         repeat' first|refine zd ?_|refine zc ?_|((first|refine zf ?_|refine zk ?_|refine zi ?_|refine regA ?_|refine pkA ?_|refine zsn (o4) ?_|refine zsp (o5) ?_|fail);conv=>whnf)|exact abA hb|(refine za rfl (fun _=>?_) (zaf hc))|(refine zsv rfl ?_)|(refine zso rfl (fun hb=>?_) (fun hb=>?_))|((first|refine andA ?_|with_reducible refine exA fun _=>?_|fail);conv=>whnf)|fail
         exact congrArg some (congrArg (iv .i64) (hn.trans (if_pos rfl)).symm)
        | false=>
         repeat' first|refine zd ?_|refine zc ?_|((first|refine zf ?_|refine zk ?_|refine zi ?_|refine regA ?_|refine pkA ?_|refine zsn (o4) ?_|refine zsp (o5) ?_|fail);conv=>whnf)|exact abA hb|(refine za rfl (zM hc) (fun _=>?_))|(refine zsv rfl ?_)|(refine zso rfl (fun hb=>?_) (fun hb=>?_))|((first|refine zsq ?_|refine andA ?_|with_reducible refine exA fun _=>?_|fail);conv=>whnf)|fail
         exact⟨(i+1,st[i]),⟨by omega,hn,fun e=>absurd e (by omega)⟩,by show _ - (i+1) < _ - i;omega,impA⟩
       ·rw [outB_true.2 c6] at o5;rw [if_pos (fun e=>c6 e.2)] at hn;repeat' first|refine zd ?_|refine zc ?_|((first|refine zf ?_|refine zk ?_|refine zi ?_|refine regA ?_|refine pkA ?_|refine zsn (o4) ?_|refine zsp (o5) ?_|fail);conv=>whnf)|exact abA hb|(refine zsu rfl ?_)|(refine zso rfl (fun hb=>?_) (fun hb=>?_))|((first|refine andA ?_|with_reducible refine exA fun _=>?_|fail);conv=>whnf)|fail
        exact congrArg some (congrArg (iv .i64) hn.symm)
      ·rw [outB_true.2 c5] at o4;rw [if_pos (fun e=>c5 e.1)] at hn;repeat' first|refine zd ?_|refine zc ?_|((first|refine zf ?_|refine zk ?_|refine zi ?_|refine regA ?_|refine pkA ?_|refine zsn (o4) ?_|refine zsp (o5) ?_|fail);conv=>whnf)|(refine za rfl (fun _=>?_) (zaf (rfl:(bif true then true else outB st[i].2 0 1000000)=true)))|exact abA hb|(refine zso rfl (fun hb=>?_) (fun hb=>?_))|((first|refine andA ?_|with_reducible refine exA fun _=>?_|fail);conv=>whnf)|fail
       exact congrArg some (congrArg (iv .i64) hn.symm)
     ·rw [List.drop_eq_nil_of_le hil] at hn;have hn:stepsE none st=0:=by rw [hn];rfl
      repeat' first|refine zd ?_|refine zc ?_|((first|refine zf ?_|refine zk ?_|refine zi ?_|refine regA ?_|fail);conv=>whnf)|exact abA hb|(refine zso rfl (fun hb=>?_) (fun hb=>?_))|fail
      exact congrArg some (congrArg (iv .i64) hn.symm)
    ·rw [outB_true.2 (by omega)] at o3;rw [if_pos c4];refine hdC Tryz.func54 Tryz.ntmps54 (res:=[.tmp 2]) fun w0 K0=>?_
     repeat' first|refine zd ?_|refine zc ?_|((first|refine zi ?_|refine regA ?_|refine pkA ?_|refine zsn (o1) ?_|refine zsp (o2) ?_|refine zsn (o3) ?_|refine⟨_,hw,?_⟩|fail);conv=>whnf)|exact abA hb|(refine zsu rfl ?_)|(refine zsv rfl ?_)|(refine zso rfl (fun hb=>?_) (fun hb=>?_))|((refine zsq ?_);conv=>whnf)|(refine lnA fun hln=>?_;conv=>whnf)|fail
     rfl
  ·have e2:(outB lo 0 1000 || outB hi 0 1000)=true:=by
    rw [zcE,zcE];simp only [Bool.or_eq_true,decide_eq_true_eq];exact Decidable.not_and_iff_or_not.1 c2
   rw [e2] at o2;rw [if_pos (fun e=>c2 e.2)];refine hdC Tryz.func54 Tryz.ntmps54 (res:=[.tmp 2]) fun w0 K0=>?_
   repeat' first|refine zd ?_|refine zc ?_|((first|refine zi ?_|refine regA ?_|refine pkA ?_|refine zsn (o1) ?_|refine zsp (o2) ?_|refine⟨_,hw,?_⟩|fail);conv=>whnf)|(refine zsu rfl ?_)|fail
   rfl
 ·rw [outB_true.2 c1] at o1;rw [if_pos (fun e=>c1 e.1)];generalize (outB lo 0 1000 || outB hi 0 1000)=bb at o2;refine hdC Tryz.func54 Tryz.ntmps54 (res:=[.tmp 2]) fun w0 K0=>?_
  repeat' first|refine zd ?_|refine zc ?_|((first|refine zi ?_|refine regA ?_|refine pkA ?_|refine zsn (o1) ?_|refine zsp (o2) ?_|refine⟨_,hw,?_⟩|fail);conv=>whnf)|(refine za rfl (fun _=>?_) (zaf (rfl:(bif true then true else bb)=true)))|fail
  rfl
theorem mcheck_fn (k:KindT) (h:KindOK k):FnC Tryz.prog 54 [kindAV k] (iv .i64 (kindE k)):=mcheck_raw k.new k.lo k.hi k.steps h.1 h.2.1 h.2.2
end Go.Proofs.YtnkhljdifljdbaaGreatDoor
namespace Go.Proofs.YtnkhljdifljdbaaGreatDoor
open Go Go.QL FoT
set_option maxHeartbeats 3200000
attribute [local irreducible] ACall FnC YC
def fstG {α : Type} (p : α→Bool):List α→Int→Int
 | [],_=>-1
 | x::r,i=>if p x=true then i else fstG p r (i+1)
abbrev stepsPV (l:List (Int × Int)):PV:=.s 2 (l.map stepPV)
theorem idxq_fn (fid:FuncId) (cs:List SV) (p:Int × Int→Bool) (xs:List (Int × Int)) (σ:Sg)
  (hf:∀ x ∈ xs,ACall Tryz.prog fid ([].map AV.x ++ [.a [iC x.1,iC x.2]] ++ cs.map .x) σ (fun r σ'=>r=bv (p x)∧σ'=σ)) :
  ACall Tryz.prog 182 [.x (.d (stepsPV xs)),.x (.f (.func fid) [] cs)] σ (fun r σ'=>r=iv .i64 (fstG p xs 0)∧σ'=σ):=by
 refine zcN hTt Tryz.func182 rfl (by kernel_rfl) (res:=[.tmp 4]) rfl Tryz.ntmps182 (by simp) fun w0 K0 B=>?_
 dsimp only [entry];repeat' first|refine zd ?_|refine zc ?_|((refine regA ?_);conv=>whnf)|(refine lnA fun hln=>?_;conv=>whnf)|fail
 refine zJ (fun i:Nat=>[(8,iv .i64 i),(7,iv .i64 xs.length),(0,.x (.d (stepsPV xs))),(1,.x (.f (.func fid) [] cs))]) (fun _=>σ)
  (fun i=>i≤xs.length∧fstG p xs 0=fstG p (xs.drop i) i) (fun i=>xs.length - i) 0 (by simp) (Imp.slots ⟨rfl,congrArg (fun k:Nat=>some (iv .i64 k)) (List.length_map _),rfl,rfl,trivial⟩) ?_
 rintro i ⟨hi,hfo⟩;rcases Nat.lt_or_ge i xs.length with hil|hil
 ·have hc:=hf xs[i] (List.getElem_mem hil);have hg:(xs.map stepPV)[(i:Int).toNat]?=some (stepPV xs[i]):=by rw [Int.toNat_natCast,List.getElem?_map,List.getElem?_eq_getElem hil];rfl
  rw [List.drop_eq_getElem_cons hil] at hfo;simp only [fstG] at hfo;generalize p xs[i]=b at hc hfo;generalize xs[i]=x at *;cases b with
  | true=>
   rw [if_pos rfl] at hfo;repeat' first|refine zd ?_|refine zc ?_|((first|refine zf ?_|refine zk ?_|refine zi ?_|refine regA ?_|fail);conv=>whnf)|exact abA hb|((first|refine⟨_,ze ⟨by omega,hg⟩,?_⟩|((refine⟨_,hc,?_⟩);(rintro _ _ ⟨rfl,rfl⟩))|fail);conv=>whnf)|(refine zsu rfl ?_)|(refine zso rfl (fun hb=>?_) (fun hb=>?_))|((refine andA ?_);conv=>whnf)|fail
   exact⟨_,rfl,by rw [hfo],rfl⟩
  | false=>
   rw [if_neg (by decide)] at hfo;repeat' first|refine zd ?_|refine zc ?_|((first|refine zf ?_|refine zk ?_|refine zi ?_|refine regA ?_|fail);conv=>whnf)|exact abA hb|((first|refine⟨_,ze ⟨by omega,hg⟩,?_⟩|((refine⟨_,hc,?_⟩);(rintro _ _ ⟨rfl,rfl⟩))|fail);conv=>whnf)|(refine zsv rfl ?_)|(refine zso rfl (fun hb=>?_) (fun hb=>?_))|((first|refine zsq ?_|refine andA ?_|fail);conv=>whnf)|fail
   exact⟨i+1,⟨by omega,hfo⟩,by omega,Imp.slots ⟨rfl,rfl,rfl,rfl,trivial⟩⟩
 ·rw [List.drop_eq_nil_of_le hil] at hfo;repeat' first|refine zd ?_|refine zc ?_|((first|refine zf ?_|refine zk ?_|refine zi ?_|refine regA ?_|fail);conv=>whnf)|exact abA hb|(refine zso rfl (fun hb=>?_) (fun hb=>?_))|fail
  exact⟨_,rfl,by rw [hfo];rfl,rfl⟩
theorem idxc_fn (fid:FuncId) (cs:List SV) (p:ChkT→Bool) (xs:List (ChkT)) (σ:Sg)
  (hf:∀ x ∈ xs,ACall Tryz.prog fid ([].map AV.x ++ [.a [iC x.hour,iC x.volt,.d (.v (.bool x.ok))]] ++ cs.map .x) σ (fun r σ'=>r=bv (p x)∧σ'=σ)) :
  ACall Tryz.prog 202 [.x (.d (chksPV xs)),.x (.f (.func fid) [] cs)] σ (fun r σ'=>r=iv .i64 (fstG p xs 0)∧σ'=σ):=by
 refine zcN hTt Tryz.func202 rfl (by kernel_rfl) (res:=[.tmp 4]) rfl Tryz.ntmps202 (by simp) fun w0 K0 B=>?_
 dsimp only [entry];repeat' first|refine zd ?_|refine zc ?_|((refine regA ?_);conv=>whnf)|(refine lnA fun hln=>?_;conv=>whnf)|fail
 refine zJ (fun i:Nat=>[(8,iv .i64 i),(7,iv .i64 xs.length),(0,.x (.d (chksPV xs))),(1,.x (.f (.func fid) [] cs))]) (fun _=>σ)
  (fun i=>i≤xs.length∧fstG p xs 0=fstG p (xs.drop i) i) (fun i=>xs.length - i) 0 (by simp) (Imp.slots ⟨rfl,congrArg (fun k:Nat=>some (iv .i64 k)) (List.length_map _),rfl,rfl,trivial⟩) ?_
 rintro i ⟨hi,hfo⟩;rcases Nat.lt_or_ge i xs.length with hil|hil
 ·have hc:=hf xs[i] (List.getElem_mem hil);have hg:(xs.map chkPV)[(i:Int).toNat]?=some (chkPV xs[i]):=by rw [Int.toNat_natCast,List.getElem?_map,List.getElem?_eq_getElem hil];rfl
  rw [List.drop_eq_getElem_cons hil] at hfo;simp only [fstG] at hfo;generalize p xs[i]=b at hc hfo;generalize xs[i]=x at *;cases b with
  | true=>
   rw [if_pos rfl] at hfo;repeat' first|refine zd ?_|refine zc ?_|((first|refine zf ?_|refine zk ?_|refine zi ?_|refine regA ?_|fail);conv=>whnf)|exact abA hb|((first|refine⟨_,ze ⟨by omega,hg⟩,?_⟩|((refine⟨_,hc,?_⟩);(rintro _ _ ⟨rfl,rfl⟩))|fail);conv=>whnf)|(refine zsu rfl ?_)|(refine zso rfl (fun hb=>?_) (fun hb=>?_))|((refine andA ?_);conv=>whnf)|fail
   exact⟨_,rfl,by rw [hfo],rfl⟩
  | false=>
   rw [if_neg (by decide)] at hfo;repeat' first|refine zd ?_|refine zc ?_|((first|refine zf ?_|refine zk ?_|refine zi ?_|refine regA ?_|fail);conv=>whnf)|exact abA hb|((first|refine⟨_,ze ⟨by omega,hg⟩,?_⟩|((refine⟨_,hc,?_⟩);(rintro _ _ ⟨rfl,rfl⟩))|fail);conv=>whnf)|(refine zsv rfl ?_)|(refine zso rfl (fun hb=>?_) (fun hb=>?_))|((first|refine zsq ?_|refine andA ?_|fail);conv=>whnf)|fail
   exact⟨i+1,⟨by omega,hfo⟩,by omega,Imp.slots ⟨rfl,rfl,rfl,rfl,trivial⟩⟩
 ·rw [List.drop_eq_nil_of_le hil] at hfo;repeat' first|refine zd ?_|refine zc ?_|((first|refine zf ?_|refine zk ?_|refine zi ?_|refine regA ?_|fail);conv=>whnf)|exact abA hb|(refine zso rfl (fun hb=>?_) (fun hb=>?_))|fail
  exact⟨_,rfl,by rw [hfo];rfl,rfl⟩
abbrev vB (k:KindT) (s:SpanQ) (h:Int):Ob:=.box [iC k.new,iC k.lo,iC k.hi,.d (.s 2 (k.steps.map stepPV)),iC s.1,iC s.2,iC h]
theorem mopen_fn (k:KindT) (hk:KindOK k) (h:kindE k=0):ACall Tryz.prog 125 [kindAV k] [] (fun r σ'=>r=.t [.x (.b 17 0),iv .i64 0]∧σ'=[(17,vB k (k.new,k.new) 0)]):=by
 have ck:=mcheck_fn k hk;rw [h] at ck;unfold kindAV at *;refine hdD Tryz.func125 Tryz.ntmps125 (res:=[.tmp 2,.tmp 3]) fun w0 K0 B=>?_
 repeat' first|refine zd ?_|((first|refine zf ?_|refine zi ?_|refine regA ?_|refine zsn (ck) ?_|fail);conv=>whnf)|(refine zsv rfl ?_)|((refine andA ?_);conv=>whnf)|fail
 exact⟨_,[(17,vB k (k.new,k.new) 0)],⟨rfl,trivial⟩,rfl,rfl,rfl,rfl⟩
theorem silent_fn (k:KindT) (hk:KGood k) (s:SpanQ) (h volt:Int) (hv:leastV k≤volt∧volt≤1000) :
  ACall Tryz.prog 126 [.x (.b 900 0),iv .i64 volt] [(900,vB k s h)] (fun r σ'=>r=bv false∧σ'=[(900,vB k s h)]):=by
 have hl:=hk.len;have hml:(k.steps.map stepPV).length=k.steps.length:=List.length_map _;have hw:IntKind.i64.wrap (((k.steps.map stepPV).length:Int) - 1)=((k.steps.length - 1:Nat):Int):=by rw [hml,zg (by omega)];omega
 obtain⟨q,hq,hqv⟩:∃ q:Int × Int,(k.steps.map stepPV)[((k.steps.length - 1:Nat):Int).toNat]?=some (stepPV q)∧q.1≤volt:=by
  refine⟨k.steps.getLastD (0,0),?_,hv.1⟩
  rw [Int.toNat_natCast,List.getElem?_map,List.getLastD_eq_getLast?,List.getLast?_eq_getElem?,List.getElem?_eq_getElem (by omega)];rfl
 have hc:(bif decide (volt < q.1) then true else decide (volt > 1000))=false:=by
  rw [decide_eq_false (by omega),decide_eq_false (show ¬ volt > 1000 by omega)];rfl
 refine hdD Tryz.func126 Tryz.ntmps126 (res:=[.tmp 4]) fun w0 K0 B=>?_
 repeat' first|refine zd ?_|((first|refine zi ?_|refine regA ?_|refine drA (id:=1) 16 false [0,0,2,6,14,30,0,64,192,448,960,1984,4032,8190,16382,32766,65535,131071,262143,524287,1048575,2097151] ?_|refine pkA ?_|refine⟨_,hw,?_⟩|refine⟨_,ze ⟨by omega,hq⟩,?_⟩|refine andA ?_|fail);conv=>whnf)|fail
 exact⟨_,[(900,vB k s h)],⟨rfl,trivial⟩,rfl,rfl,congrArg bv hc,rfl⟩
theorem need1_fn (a:Int × Int) (volt:Int):ACall Tryz.prog 183 [.a [iC a.1,iC a.2],.x (.b 3 0)] [(3,.box [iC volt])] (fun r σ'=>r=bv (decide (a.1≤volt))∧σ'=[(3,.box [iC volt])]):=by
 refine hdD Tryz.func183 Tryz.ntmps183 (res:=[.tmp 3]) fun w0 K0 B=>?_
 repeat' first|refine zd ?_|((first|refine zi ?_|refine regA ?_|refine andA ?_|fail);conv=>whnf)|fail
 exact⟨_,[(3,.box [iC volt])],⟨rfl,trivial⟩,rfl,rfl,rfl,rfl⟩
end Go.Proofs.YtnkhljdifljdbaaGreatDoor
namespace Go.Proofs.YtnkhljdifljdbaaGreatDoor
open Go Go.QL FoT
set_option maxHeartbeats 3200000
attribute [local irreducible] ACall FnC YC
theorem mxA (a b:Int):(if b > a then b else a)=max a b:=by split <;> omega
theorem mnA (a b:Int):(if b < a then b else a)=min a b:=by split <;> omega
theorem fst_idx (v:Int):∀ (l:List (Int × Int)) (i:Int),fstG (fun a:Int × Int=>decide (a.1≤v)) l i=idxL l v i
 | [],_=>rfl
 | s::r,i=>by
  unfold fstG idxL;rw [fst_idx v r];simp only [decide_eq_true_eq]
theorem need_fn (k:KindT) (hk:KGood k) (s:SpanQ) (h volt:Int) (hv:leastV k≤volt) :
  ACall Tryz.prog 127 [.x (.b 900 0),iv .i64 volt] [(900,vB k s h)] (fun r σ'=>r=iv .i64 (needL k.steps volt)∧σ'=[(900,vB k s h)]):=by
 have hc:=idxq_fn 183 [.b 3 0] (fun a=>decide (a.1≤volt)) k.steps [(3,.box [iC volt]),(900,vB k s h)] fun x _=>((need1_fn x volt).frame (asc []) (σ:=[(3,.box [iC volt]),(900,vB k s h)]) (by repeat (first|exact trivial|refine⟨rfl,?_⟩)) rfl (by rintro _ _ ⟨rfl,rfl⟩;rfl)).mono (by rintro _ _ ⟨_,_,⟨rfl,rfl⟩,rfl,rfl⟩;exact⟨rfl,rfl⟩)
 obtain⟨j,q,hj1,hj2,hj3⟩:=idxL_get k.steps volt 0 (least_mem hk hv);have hg:fstG (fun a:Int × Int=>decide (a.1≤volt)) k.steps 0=(j:Int):=by
  rw [fst_idx,hj1,Int.zero_add]
 rw [hg] at hc;have hq:(k.steps.map stepPV)[((j:Int)).toNat]?=some (stepPV q):=by rw [Int.toNat_natCast,List.getElem?_map,hj2];rfl
 rw [← hj3];refine hdD Tryz.func127 Tryz.ntmps127 (res:=[.tmp 4]) fun w0 K0 B=>?_
 repeat' first|refine zd ?_|((first|refine zi ?_|refine regA ?_|((refine⟨_,hc,?_⟩);(rintro _ _ ⟨rfl,rfl⟩))|refine⟨_,ze ⟨by omega,hq⟩,?_⟩|refine andA ?_|fail);conv=>whnf)|fail
 exact⟨_,[(900,vB k s h)],⟨rfl,trivial⟩,rfl,rfl,rfl,rfl⟩
theorem wait_fn (k:KindT) (hk:KGood k) (s:SpanQ) (hs:nonneg s) (h t:Int) (ht:0≤t - h∧t - h≤200000) (h1:0≤h∧h≤100000) :
  ACall Tryz.prog 149 [.x (.b 900 0),iv .i64 t] [(900,vB k s h)] (fun r σ'=>r=.t []∧σ'=[(900,vB k (spanW k.lo k.hi s (t - h)) t)]):=by
 have hlo:=hk.lo;have hhi:=hk.hi;unfold nonneg at hs;have e0:IntKind.i64.wrap (t - h)=t - h:=zg (by omega);unfold spanW;have b1:0≤(t - h) * k.hi∧(t - h) * k.hi≤200000 * 1000:=⟨Int.mul_nonneg ht.1 (by omega),Int.mul_le_mul ht.2 hhi (by omega) (by decide)⟩;have b2:0≤(t - h) * k.lo∧(t - h) * k.lo≤200000 * 1000:=⟨Int.mul_nonneg ht.1 hlo.1,Int.mul_le_mul ht.2 (by omega) hlo.1 (by decide)⟩;have e1:IntKind.i64.wrap ((t - h) * k.hi)=(t - h) * k.hi:=zg (by omega);have e2:IntKind.i64.wrap ((t - h) * k.lo)=(t - h) * k.lo:=zg (by omega);have e3:IntKind.i64.wrap (s.1 - (t - h) * k.hi)=s.1 - (t - h) * k.hi:=zg (by omega);have e4:IntKind.i64.wrap (s.2 - (t - h) * k.lo)=s.2 - (t - h) * k.lo:=zg (by omega);refine hdD Tryz.func149 Tryz.ntmps149 (res:=[]) fun w0 K0 B=>?_
 repeat' first|((refine zkA hTt hMix (id:=1) 42 [0,1,2,3,4,5,6,7,8,9,10,11,12,13,14,15,16,17,18,19,20,21,22,23,24,25,26,27,28,29,30,31,32,33,34,35,36] [⟨37,false,false,[1,2,23,30,31,32,33],[38,39,40]⟩,⟨41,false,false,[2,33],[]⟩] [0,0,0,0,8,24,56,120,0,0,512,1536,3584,7680,15872,32512,65528,131064,0,262144,786432,1835008,3932160,0,0,16777216,50331648,117440512,251658240,520093696,1065353216,2147221504,4294705152,0,1065353209,18245222393,52604960761,121324437497,266287972347,541165879291,1090921693179,2190433320955,4398046511103,8796093022207,17592186044415] (by kernel_rfl) rfl (by kernel_rfl) (by kernel_rfl) (by kernel_rfl) ?_);conv=>whnf)|refine zd ?_|((first|refine regA ?_|refine LateGo.mk ⟨.x .j,rfl,?_⟩|refine⟨_,e0,?_⟩|refine⟨_,e1,?_⟩|refine⟨_,e2,?_⟩|refine⟨_,e3,?_⟩|refine⟨_,e4,?_⟩|refine andA ?_|fail);conv=>whnf)|fail
 have hb:(some (Ob.box [iC k.new,iC k.lo,iC k.hi,.d (.s 2 (k.steps.map stepPV)),iC (if s.1 - (t - h) * k.hi > 0 then s.1 - (t - h) * k.hi else 0),iC (if s.2 - (t - h) * k.lo > 0 then s.2 - (t - h) * k.lo else 0),iC t]):Option Ob)=some (vB k (max 0 (s.1 - (t - h) * k.hi),max 0 (s.2 - (t - h) * k.lo)) t):=by rw [mxA,mxA]
 exact⟨_,[(900,vB k (max 0 (s.1 - (t - h) * k.hi),max 0 (s.2 - (t - h) * k.lo)) t)],⟨hb,trivial⟩,rfl,rfl,rfl,rfl⟩
theorem result_fn (k:KindT) (hk:KGood k) (s:SpanQ) (h volt:Int) (hv:leastV k≤volt) (p:Bool) :
  ACall Tryz.prog 150 [.x (.b 900 0),iv .i64 volt,bv p] [(900,vB k s h)] (fun r σ'=>r=.a [iC (spanR (needL k.steps volt) s p).1,iC (spanR (needL k.steps volt) s p).2]∧σ'=[(900,vB k s h)]):=by
 have nd:=need_fn k hk s h volt hv;have hn:=needL_in hk.steps volt;generalize needL k.steps volt=n at *;have e1:IntKind.i64.wrap (n - 1)=n - 1:=zg (by omega);cases p with
 | true=>
  refine hdD Tryz.func150 Tryz.ntmps150 (res:=[.cell 6 23]) fun w0 K0 B=>?_
  repeat' first|refine zd ?_|((first|refine zi ?_|refine regA ?_|refine frA (nd) [(900,900)] ?_|fail);conv=>whnf)|(refine zsu rfl ?_)|((refine andA ?_);conv=>whnf)|fail
  exact⟨_,[(900,vB k s h)],⟨rfl,trivial⟩,rfl,rfl,congrArg (fun z=>AV.a [iC z,iC s.2]) (mxA s.1 n),rfl⟩
 | false=>
  refine hdD Tryz.func150 Tryz.ntmps150 (res:=[.cell 6 23]) fun w0 K0 B=>?_
  repeat' first|refine zd ?_|((first|refine zi ?_|refine regA ?_|refine frA (nd) [(900,900)] ?_|refine⟨_,e1,?_⟩|fail);conv=>whnf)|(refine zsv rfl ?_)|((refine andA ?_);conv=>whnf)|fail
  exact⟨_,[(900,vB k s h)],⟨rfl,trivial⟩,rfl,rfl,congrArg (fun z=>AV.a [iC s.1,iC z]) (mnA s.2 (n - 1)),rfl⟩
theorem fails1_fn (k:KindT) (s:SpanQ) (h need st wear:Int) (h0:0≤h∧h≤100000) (h1:0≤need∧need≤1000000) (h2:0≤st∧st≤1000000) (h3:0≤wear∧wear≤1000) :
  ACall Tryz.prog 151 [iv .i64 st,iv .i64 wear,.x (.b 3 0),.x (.b 1 0)] [(3,.box [iC need]),(1,.box [.b 900 0]),(900,vB k s h)]
   (fun r σ'=>r=iv .i64 (firstV need h st wear)∧σ'=[(3,.box [iC need]),(1,.box [.b 900 0]),(900,vB k s h)]):=by
 unfold firstV;by_cases c1:st < need
 ·rw [if_pos c1];refine hdD Tryz.func151 Tryz.ntmps151 (res:=[.tmp 6]) fun w0 K0 B=>?_
  repeat' first|refine zd ?_|refine zc ?_|((first|refine zi ?_|refine regA ?_|fail);conv=>whnf)|(refine za rfl (fun _=>?_) (zaf (decide_eq_true c1)))|((refine andA ?_);conv=>whnf)|fail
  exact⟨_,[(3,.box [iC need]),(1,.box [.b 900 0]),(900,vB k s h)],⟨rfl,rfl,rfl,trivial⟩,rfl,rfl,rfl,rfl⟩
 ·rw [if_neg c1];by_cases c2:need=0∨wear=0
  ·rw [if_pos c2];have hc:(bif need == 0 then true else wear == 0)=true:=by rcases c2 with rfl|rfl <;> simp
   refine hdD Tryz.func151 Tryz.ntmps151 (res:=[.tmp 6]) fun w0 K0 B=>?_
   repeat' first|refine zd ?_|refine zc ?_|((first|refine zi ?_|refine regA ?_|fail);conv=>whnf)|(refine za rfl (zM (decide_eq_false c1)) (fun _=>?_))|(refine za rfl (fun _=>?_) (zaf hc))|((refine pkA ?_);conv=>whnf)|fail
   exact⟨_,[(3,.box [iC need]),(1,.box [.b 900 0]),(900,vB k s h)],⟨rfl,rfl,rfl,trivial⟩,rfl,rfl,rfl,rfl⟩
  ·rw [if_neg c2];have hc:(bif need == 0 then true else wear == 0)=false:=by
    rw [Bool.cond_eq_ite];simp;omega
   have hw:wear≠0:=by omega
   have q0:0≤(st - need) / wear:=Int.ediv_nonneg (by omega) h3.1;have q1:(st - need) / wear≤st - need:=Int.ediv_le_self _ (by omega);have e1:IntKind.i64.wrap (st - need)=st - need:=zg (by omega);have e2:IntKind.i64.wrap ((st - need).tdiv wear)=(st - need) / wear:=by rw [Int.tdiv_eq_ediv_of_nonneg (by omega)];exact zg (by omega)
   generalize (st - need) / wear=q at *;have e3:IntKind.i64.wrap (h+q)=h+q:=zg (by omega);have e4:IntKind.i64.wrap (h+q+1)=h+q+1:=zg (by omega);refine hdD Tryz.func151 Tryz.ntmps151 (res:=[.tmp 6]) fun w0 K0 B=>?_
   repeat' first|refine zd ?_|refine zc ?_|((first|refine zf ?_|refine zi ?_|refine regA ?_|refine drA (id:=5) 9 false [0,1,3,7,0,0,48,0,240,511,1023,2047] ?_|fail);conv=>whnf)|(refine za rfl (zM (decide_eq_false c1)) (fun _=>?_))|(refine za rfl (zM hc) (fun _=>?_))|((first|refine pkA ?_|refine⟨_,e1,?_⟩|refine⟨_,e2,?_⟩|refine⟨_,e3,?_⟩|refine⟨_,e4,?_⟩|refine andA ?_|fail);conv=>whnf)|fail
   exact⟨_,[(3,.box [iC need]),(1,.box [.b 900 0]),(900,vB k s h)],⟨rfl,rfl,rfl,trivial⟩,rfl,rfl,rfl,rfl⟩
end Go.Proofs.YtnkhljdifljdbaaGreatDoor
namespace Go.Proofs.YtnkhljdifljdbaaGreatDoor
open Go Go.QL FoT
set_option maxHeartbeats 3200000
attribute [local irreducible] ACall FnC YC
theorem least_le {k:KindT} (hk:KGood k):leastV k≤1000:=by
 have hl:=hk.len;unfold leastV;have hm:k.steps.getLastD (0,0) ∈ k.steps:=by
  rw [List.getLastD_eq_getLast?,List.getLast?_eq_getElem?,List.getElem?_eq_getElem (by omega)];exact List.getElem_mem _
 exact (hk.steps _ hm).1.2
def failsK (k:KindT) (s:SpanQ) (h:Int):Int × Int:=(firstV (needL k.steps 1000) h s.1 k.hi,firstV (needL k.steps 1000) h s.2 k.lo)
theorem fails_fn (k:KindT) (hk:KGood k) (s:SpanQ) (hs:nonneg s) (h:Int) (h0:0≤h∧h≤100000) :
  ACall Tryz.prog 87 [.x (.b 900 0)] [(900,vB k s h)] (fun r σ'=>r=.a [iC (failsK k s h).1,iC (failsK k s h).2]∧σ'=[(900,vB k s h)]):=by
 have hlo:=hk.lo;have hhi:=hk.hi;have nd:=need_fn k hk s h 1000 (least_le hk);have hn:=needL_in hk.steps 1000;unfold failsK nonneg at *;generalize needL k.steps 1000=n at *;have f1:=fails1_fn k s h n s.1 k.hi h0 hn hs.1 ⟨by omega,hhi⟩;have f2:=fails1_fn k s h n s.2 k.lo h0 hn hs.2 ⟨by omega,by omega⟩;generalize firstV n h s.1 k.hi=u at *;generalize firstV n h s.2 k.lo=v at *;refine hdD Tryz.func87 Tryz.ntmps87 (res:=[.cell 2 60]) fun w0 K0 B=>?_
 repeat' first|((first|refine zkA hTt hMix (id:=3) 25 [0,1,2,3,4,5,6,7,8,9,10,11,13,14,15,16,17,18,19,20,21,22,23,24] [⟨12,false,false,[13,14,15,16,17,18,19,20,21,22,23,24],[]⟩] [0,0,2,6,14,30,0,64,192,448,960,1984,4095,0,0,16384,49152,114688,245760,0,524288,1572864,3670016,7864320,16252928,33554431,67108863,134217727] (by kernel_rfl) rfl (by kernel_rfl) (by kernel_rfl) (by kernel_rfl) ?_|refine LateGo.mk ⟨_,rfl,?_⟩|fail);conv=>whnf)|refine zd ?_|((first|refine zi ?_|refine regA ?_|refine frA (nd) [(900,900)] ?_|refine frA (f1) [] ?_|refine frA (f2) [] ?_|refine andA ?_|fail);conv=>whnf)|fail
 exact⟨_,[(900,vB k s h)],⟨rfl,trivial⟩,rfl,rfl,rfl,rfl⟩
theorem silent3_fn (k:KindT) (hk:KGood k) (s:SpanQ) (h:Int) (c:ChkT) (volt:Int) (hv:leastV k≤volt∧volt≤1000) :
  ACall Tryz.prog 126 [.x (.b 900 0),iv .i64 volt] [(2,.box [iC c.hour,iC c.volt,.d (.v (.bool c.ok))]),(8,.box [.b 900 0]),(900,vB k s h)] (fun r σ'=>r=bv false∧σ'=[(2,.box [iC c.hour,iC c.volt,.d (.v (.bool c.ok))]),(8,.box [.b 900 0]),(900,vB k s h)]):=by
 have hl:=hk.len;have hml:(k.steps.map stepPV).length=k.steps.length:=List.length_map _;have hw:IntKind.i64.wrap (((k.steps.map stepPV).length:Int) - 1)=((k.steps.length - 1:Nat):Int):=by rw [hml,zg (by omega)];omega
 obtain⟨q,hq,hqv⟩:∃ q:Int × Int,(k.steps.map stepPV)[((k.steps.length - 1:Nat):Int).toNat]?=some (stepPV q)∧q.1≤volt:=by
  refine⟨k.steps.getLastD (0,0),?_,hv.1⟩
  rw [Int.toNat_natCast,List.getElem?_map,List.getLastD_eq_getLast?,List.getLast?_eq_getElem?,List.getElem?_eq_getElem (by omega)];rfl
 have hc:(bif decide (volt < q.1) then true else decide (volt > 1000))=false:=by
  rw [decide_eq_false (by omega),decide_eq_false (show ¬ volt > 1000 by omega)];rfl
 refine hdD Tryz.func126 Tryz.ntmps126 (res:=[.tmp 4]) fun w0 K0 B=>?_
 repeat' first|refine zd ?_|((first|refine zi ?_|refine regA ?_|refine drA (id:=1) 16 false [0,0,2,6,14,30,0,64,192,448,960,1984,4032,8190,16382,32766,65535,131071,262143,524287,1048575,2097151] ?_|refine pkA ?_|refine⟨_,hw,?_⟩|refine⟨_,ze ⟨by omega,hq⟩,?_⟩|refine andA ?_|fail);conv=>whnf)|fail
 exact⟨_,[(2,.box [iC c.hour,iC c.volt,.d (.v (.bool c.ok))]),(8,.box [.b 900 0]),(900,vB k s h)],⟨rfl,rfl,rfl,trivial⟩,rfl,rfl,congrArg bv hc,rfl⟩
theorem lookq_fn (k:KindT) (hk:KGood k) (s:SpanQ) (h:Int) (c:ChkT) (hc:0≤c.hour∧c.hour≤100000) (hv:leastV k≤c.volt∧c.volt≤1000) :
  ACall Tryz.prog 146 [.a [iC c.hour,iC c.volt,.d (.v (.bool c.ok))],.x (.b 8 0)] [(8,.box [.b 900 0]),(900,vB k s h)] (fun r σ'=>r=bv false∧σ'=[(8,.box [.b 900 0]),(900,vB k s h)]):=by
 have m1:=mout1 100000 c.hour;have ho:outB c.hour 0 100000=false:=zQ.2 hc;rw [ho] at m1;have s2:=silent3_fn k hk s h c c.volt hv;refine hdD Tryz.func146 Tryz.ntmps146 (res:=[.tmp 3]) fun w0 K0 B=>?_
 repeat' first|refine zd ?_|((first|refine zi ?_|refine regA ?_|refine zsn (m1) ?_|refine⟨_,fun _=>s2,?_⟩|refine pkA ?_|fail);conv=>whnf)|fail
 exact⟨_,[(8,.box [.b 900 0]),(900,vB k s h)],⟨rfl,rfl,trivial⟩,rfl,rfl,rfl,rfl⟩
theorem clone_fn (c:ChkT) (r:List ChkT) (hl:r.length≤1000):ACall Tryz.prog 203 [.x (.d (chksPV (c::r)))] [] (fun q σ'=>q=.x (.o 5 1 (r.length+1))∧σ'=[(5,.chain 177 3 1 ((c::r).map chkPV))]):=by
 have hml:((c::r).map chkPV).length=r.length+1:=by simp
 unfold chksPV;refine hdD Tryz.func203 Tryz.ntmps203 (res:=[.tmp 2]) fun w0 K0 B=>?_
 repeat' first|((refine fun (b:Bool) (hln:b=true→_)=>?_);conv=>whnf)|refine zd ?_|((first|refine zf ?_|refine zi ?_|refine regA ?_|fail);conv=>whnf)|(exact absurd (hln hb) (by simp))|(refine zso rfl (fun hb=>?_) (fun hb=>?_))|((refine andA ?_);conv=>whnf)|((refine And.intro (by refine⟨?_,?_,?_⟩ <;> simp [zO,maxLen] <;> omega) ?_);conv=>whnf)|fail
 exact⟨_,[(5,.chain 177 3 1 ((c::r).map chkPV))],⟨rfl,trivial⟩,rfl,rfl,congrArg (fun n=>AV.x (.o 5 1 n)) (by rw [Nat.zero_add,hml]),rfl⟩
end Go.Proofs.YtnkhljdifljdbaaGreatDoor
namespace Go.Proofs.YtnkhljdifljdbaaGreatDoor
open Go Go.QL FoT
set_option maxHeartbeats 3200000
attribute [local irreducible] ACall FnC YC
abbrev chkAV (c:ChkT):AV:=.a [iC c.hour,iC c.volt,.d (.v (.bool c.ok))]
theorem hour_fn (c:ChkT):FnC Tryz.prog 148 [chkAV c] (iv .i64 c.hour):=by
 refine hdC Tryz.func148 Tryz.ntmps148 (res:=[.tmp 2]) fun w0 K0=>?_
 repeat' first|refine zd ?_|((first|refine zi ?_|refine regA ?_|refine andA ?_|fail);conv=>whnf)|fail
 rfl
abbrev byF:SV:=.f (.func 148) [] []
abbrev chOb (st:Nat) (l:List ChkT):Ob:=.chain 177 3 st (l.map chkPV)
theorem cmp_fn (st:Nat) (l:List ChkT) (a b:ChkT) (ha:0≤a.hour∧a.hour≤100000) (hb':0≤b.hour∧b.hour≤100000) (d:Int) (hd:a.hour - b.hour=d) :
  ACall Tryz.prog 205 [chkAV a,chkAV b,.x (.b 2 0)] [(900,chOb st l),(2,.box [byF])] (fun r σ'=>r=iv .i64 d∧σ'=[(900,chOb st l),(2,.box [byF])]):=by
 have h1:=hour_fn a;have h2:=hour_fn b;have e1:IntKind.i64.wrap (a.hour - b.hour)=d:=by rw [← hd];exact zg (by omega)
 refine hdD Tryz.func205 Tryz.ntmps205 (res:=[.tmp 5]) fun w0 K0 B=>?_
 repeat' first|refine zd ?_|((first|refine zi ?_|refine regA ?_|refine drA (id:=1) 7 false [0,1,0,7,0,16,0,127,255,511] ?_|refine zsp (h1) ?_|refine zsn (h2) ?_|refine⟨_,e1,?_⟩|refine andA ?_|fail);conv=>whnf)|fail
 exact⟨_,[(900,chOb st l),(2,.box [byF])],⟨rfl,rfl,trivial⟩,rfl,rfl,rfl,rfl⟩
def sortedC (l:List ChkT):Prop:=∀ i (a b:ChkT),l[i]?=some a→l[i+1]?=some b→a.hour≤b.hour
def hoursIn (l:List ChkT):Prop:=∀ c ∈ l,0≤c.hour∧c.hour≤100000
theorem ins_fn (l:List ChkT) (hl:1≤l.length∧l.length≤20) (hs:sortedC l) (hh:hoursIn l) (st:Nat) :
  ACall Tryz.prog 276 [.x (.o 900 st l.length),iv .i64 0,iv .i64 l.length,.x (.f (.func 205) [] [.b 2 0])] [(900,chOb st l),(2,.box [byF])]
   (fun r σ'=>r=.t []∧σ'=[(900,chOb st l),(2,.box [byF])]):=by
 have hml:(l.map chkPV).length=l.length:=List.length_map _;refine hdD Tryz.func276 Tryz.ntmps276 (res:=[]) fun w0 K0 B=>?_
 repeat' first|refine zd ?_|refine zc ?_|((first|refine regA ?_|refine zsq ?_|fail);conv=>whnf)|fail
 refine zJ (fun i:Nat=>[(8,iv .i64 i),(0,.x (.o 900 st l.length)),(1,iv .i64 0),(2,iv .i64 l.length),(3,.x (.f (.func 205) [] [.b 2 0]))]) (fun _=>[(900,chOb st l),(2,.box [byF])])
  (fun i=>1≤i∧i≤l.length) (fun i=>l.length - i) 1 ⟨Nat.le_refl _,hl.1⟩ impA ?_
 rintro i ⟨hi1,hi⟩;rcases Nat.lt_or_ge i l.length with hil|hil
 ·have hle:=hs (i - 1) l[i - 1] l[i] (List.getElem?_eq_getElem (by omega)) (by rw [show i - 1+1=i by omega];exact List.getElem?_eq_getElem hil);have h1:=hh l[i] (List.getElem_mem hil);have h2:=hh l[i - 1] (List.getElem_mem _);obtain⟨d,hd⟩:∃ d,l[i].hour - l[i - 1].hour=d:=⟨_,rfl⟩;have cm:=cmp_fn st l l[i] l[i - 1] h1 h2 d hd;have hw:IntKind.i64.wrap ((i:Int) - 1)=((i - 1:Nat):Int):=by rw [zg (by omega)];omega
  have hgt:decide ((i:Int) > 0)=true:=decide_eq_true (by omega);have hlt:(bif decide ((0:Int) < i) then decide (d < 0) else false)=false:=by rw [decide_eq_false (by omega:¬ d < 0)];cases decide ((0:Int) < i) <;> rfl
  repeat' first|refine zd ?_|refine zc ?_|((first|refine zf ?_|refine zk ?_|refine regA ?_|fail);conv=>whnf)|exact abA hb|(refine zso rfl (fun hb=>?_) (fun hb=>?_))|fail
  refine AW_rounds 1 (Rnd.mk ?_)
  repeat' first|refine zd ?_|((first|refine zk ?_|refine regA ?_|refine drA (id:=4) 14 false [0,0,3,7,15,15,15,111,239,15,15,1039,3599,7695,16383,32767,65535] ?_|refine⟨_,fun _=>cm,?_⟩|refine pkA ?_|refine⟨_,hw,?_⟩|fail);conv=>whnf)|(refine za rfl (zM hlt) (fun _=>?_))|((first|refine zsq ?_|refine andA ?_|with_reducible refine Exists.intro _ (And.intro (ze (zh (by omega) (by omega))) (And.intro (And.intro (Nat.le_of_ble_eq_true rfl) rfl) ?_))|fail);conv=>whnf)|fail
  exact⟨i+1,⟨by omega,hil⟩,by omega,impA⟩
 ·obtain rfl:i=l.length:=by omega
  repeat' first|refine zd ?_|refine zc ?_|((first|refine zf ?_|refine zk ?_|refine regA ?_|fail);conv=>whnf)|exact abA hb|(refine zso rfl (fun hb=>?_) (fun hb=>?_))|fail
  exact⟨_,[(900,chOb st l),(2,.box [byF])],⟨rfl,rfl,trivial⟩,rfl,rfl,rfl,rfl⟩
theorem stable_fn (l:List ChkT) (hl:1≤l.length∧l.length≤19) (hs:sortedC l) (hh:hoursIn l) (st:Nat) :
  ACall Tryz.prog 251 [.x (.o 900 st l.length),iv .i64 l.length,.x (.f (.func 205) [] [.b 2 0])] [(900,chOb st l),(2,.box [byF])]
   (fun r σ'=>r=.t []∧σ'=[(900,chOb st l),(2,.box [byF])]):=by
 have hi:=ins_fn l ⟨hl.1,by omega⟩ hs hh st;refine hdD Tryz.func251 Tryz.ntmps251 (res:=[]) fun w0 K0 B=>?_
 repeat' first|refine zd ?_|refine zc ?_|((refine regA ?_);conv=>whnf)|fail
 refine AW_rounds 1 (Rnd.mk ?_)
 repeat' first|refine zd ?_|refine zc ?_|((first|refine zf ?_|refine zk ?_|refine regA ?_|fail);conv=>whnf)|exact abA hb|((refine frA (hi) [(900,900),(2,2)] ?_);conv=>whnf)|(refine zso rfl (fun hb=>?_) (fun hb=>?_))|fail
 refine AW_rounds 1 (Rnd.mk ?_)
 repeat' first|refine zd ?_|refine zc ?_|((first|refine zf ?_|refine zk ?_|refine regA ?_|fail);conv=>whnf)|exact abA hb|(refine zso rfl (fun hb=>?_) (fun hb=>?_))|fail
 exact⟨_,[(900,chOb st l),(2,.box [byF])],⟨rfl,rfl,trivial⟩,rfl,rfl,rfl,rfl⟩
theorem sorts_fn (l:List ChkT) (hl:1≤l.length∧l.length≤19) (hs:sortedC l) (hh:hoursIn l) (st:Nat) :
  ACall Tryz.prog 204 [.x (.o 900 st l.length),.x (.f (.func 205) [] [.b 2 0])] [(900,chOb st l),(2,.box [byF])]
   (fun r σ'=>r=.t []∧σ'=[(900,chOb st l),(2,.box [byF])]):=by
 have hi:=stable_fn l hl hs hh st;refine hdD Tryz.func204 Tryz.ntmps204 (res:=[]) fun w0 K0 B=>?_
 repeat' first|((first|refine regA ?_|refine frA (hi) [(900,900),(2,2)] ?_|refine andA ?_|fail);conv=>whnf)|(refine lnA fun hln=>?_;conv=>whnf)|fail
 exact⟨_,[(900,chOb st l),(2,.box [byF])],⟨rfl,rfl,trivial⟩,rfl,rfl,rfl,rfl⟩
theorem keepOne {tt:TT} {res:List ResultVar} {fr:Fr} {σ σ':Sg} {x x':AV} (h:zbY tt σ fr res=some [x]) (h1:zc5 σ σ' x=some x'):zb0 tt res fr σ σ'=some x':=by
 unfold zb0;rw [h];exact h1
theorem keepO {σ:Sg} {c e sz st n:Nat} {xs:List (List PV)} (h:lk c σ=some (.chain e sz st xs)) (hn:n=xs.length):zc5 σ [] (.x (.o c st n))=some (.x (.d (.s sz xs))):=by
 subst hn;have hv:zbq σ (.o c st xs.length)=some (.d (.s sz xs)):=by simp [zbq,h]
 have hk:zcy σ [] (.o c st xs.length)=zbq σ (.o c st xs.length):=rfl;unfold zc5;dsimp only;rw [hk,hv]
theorem sorted_fn (c:ChkT) (r:List ChkT) (hl:r.length≤18) (hs:sortedC (c::r)) (hh:hoursIn (c::r)) :
  FnC Tryz.prog 147 [.a [byF],.x (.d (chksPV (c::r)))] (.x (.d (chksPV (c::r)))):=by
 have cl:=clone_fn c r (by omega);have so:=sorts_fn (c::r) ⟨by simp,by simp;omega⟩ hs hh 1;rw [List.length_cons] at so;refine FnC.of_ACall ?_ rfl
 refine hdD Tryz.func147 Tryz.ntmps147 (res:=[.tmp 4]) fun w0 K0 B=>?_
 repeat' first|refine zd ?_|((first|refine zi ?_|refine regA ?_|refine frA (cl) [(5,900)] ?_|refine frA (so) [(900,900),(2,2)] ?_|fail);conv=>whnf)|fail
 exact⟨_,[],trivial,rfl,keepOne (x:=.x (.o 900 1 (r.length+1))) rfl (keepO (xs:=(c::r).map chkPV) rfl (by simp)),rfl,rfl⟩
end Go.Proofs.YtnkhljdifljdbaaGreatDoor
namespace Go.Proofs.YtnkhljdifljdbaaGreatDoor
open Go Go.QL FoT
set_option maxHeartbeats 3200000
attribute [local irreducible] ACall FnC YC
theorem spanW_nn {k:KindT} (hk:KGood k) {s:SpanQ} (hs:nonneg s) {d:Int} (hd:0≤d):nonneg (spanW k.lo k.hi s d):=by
 have h1:=Int.mul_nonneg hd (show 0≤k.hi by have:=hk.lo;omega);have h2:=Int.mul_nonneg hd hk.lo.1;unfold nonneg spanW at *;dsimp only;omega
theorem spanR_nn {n:Int} {s:SpanQ} (hn:0≤n∧n≤1000000) (hs:nonneg s) {p:Bool} (h:(spanR n s p).1≤(spanR n s p).2):nonneg (spanR n s p):=by
 unfold nonneg spanR at *;cases p <;> simp only [cond_true,cond_false] at h ⊢ <;> omega
def okC (k:KindT):Int→List ChkT→Prop
 | _,[]=>True
 | h,c::r=>h≤c.hour∧c.hour≤100000∧leastV k≤c.volt∧c.volt≤1000∧okC k c.hour r
theorem okC_mem {k:KindT}:∀ {l:List ChkT} {h:Int},okC k h l→∀ c ∈ l,h≤c.hour∧c.hour≤100000∧leastV k≤c.volt∧c.volt≤1000
 | c::r,h,⟨h1,h2,h3,h4,h5⟩,d,hd=>by
  rcases List.mem_cons.1 hd with rfl|hd
  ·exact⟨h1,h2,h3,h4⟩
  ·have:=okC_mem h5 d hd;exact⟨by omega,this.2⟩
theorem okC_sorted {k:KindT}:∀ {l:List ChkT} {h:Int},okC k h l→sortedC l
 | [],_,_,i,a,b,ha,_=>by cases ha
 | c::r,h,⟨_,_,_,_,h5⟩,i,a,b,ha,hb=>by
  cases i with
  | zero=>
   cases ha;cases r with
   | nil=>cases hb
   | cons d r=>cases hb;exact h5.1
  | succ i=>exact okC_sorted h5 i a b ha hb
theorem look_fn (k:KindT) (hk:KGood k) (hE:kindE k=0) (c0:ChkT) (r0:List ChkT) (hl:r0.length≤18) (hc:okC k 0 (c0::r0)) (fs:SpanQ) (fh hour:Int) (hf:runC k (c0::r0) 0 (k.new,k.new)=some (fs,fh)) (hh:fh≤hour∧hour≤100000) (h0:0≤hour) :
  ACall Tryz.prog 86 [kindAV k,.x (.d (chksPV (c0::r0))),iv .i64 hour] [] (fun r σ'=>r=.t [.x (.b 900 0),iv .i64 0]∧σ'=[(900,vB k (spanW k.lo k.hi fs (hour - fh)) hour)]):=by
 have op:=mopen_fn k hk.ok hE;have so:=sorted_fn c0 r0 hl (okC_sorted hc) (fun c h=>⟨(okC_mem hc c h).1,(okC_mem hc c h).2.1⟩);have iq:=idxc_fn 146 [.b 8 0] (fun _=>false) (c0::r0) [(8,.box [.b 900 0]),(900,vB k (k.new,k.new) 0)] fun c h=>lookq_fn k hk (k.new,k.new) 0 c ⟨(okC_mem hc c h).1,(okC_mem hc c h).2.1⟩ (okC_mem hc c h).2.2
 have hfa:∀ (l:List ChkT) (i:Int),fstG (fun _:ChkT=>false) l i = -1:=by
  intro l;induction l with
  | nil=>intro i;rfl
  | cons c r ih=>intro i;unfold fstG;rw [if_neg (by decide),ih]
 rw [hfa] at iq;have hln:((c0::r0).map chkPV).length=(c0::r0).length:=List.length_map _;have hl30:(c0::r0).length≤19:=by simp;omega
 have cq:ACall Tryz.prog 145 [.x (.d (chksPV (c0::r0))),.x (.f (.func 146) [] [.b 8 0])] [(8,.box [.b 900 0]),(900,vB k (k.new,k.new) 0)] (fun r σ'=>r=bv false∧σ'=[(8,.box [.b 900 0]),(900,vB k (k.new,k.new) 0)]):=by
  generalize c0::r0=L at *;refine hdD Tryz.func145 Tryz.ntmps145 (res:=[.tmp 4]) fun w0 K0 B=>?_
  repeat' first|refine zd ?_|((first|refine zi ?_|refine regA ?_|((refine⟨_,iq,?_⟩);(rintro _ _ ⟨rfl,rfl⟩))|fail);conv=>whnf)|fail
  exact⟨_,[(8,.box [.b 900 0]),(900,vB k (k.new,k.new) 0)],⟨rfl,rfl,trivial⟩,rfl,rfl,rfl,rfl⟩
 have hnew:nonneg (k.new,k.new):=by have:=hk.new;unfold nonneg;dsimp only;omega
 have m1:=mout1 100000 hour;rw [zQ.2 ⟨h0,hh.2⟩] at m1;generalize c0::r0=L at *;refine hdD Tryz.func86 Tryz.ntmps86 (res:=[.tmp 6,.tmp 7]) fun w0 K0 B=>?_
 repeat' first|refine zd ?_|refine zc ?_|((first|refine zf ?_|refine zi ?_|refine regA ?_|refine frA (op) [(17,900)] ?_|refine frA (cq) [(8,8),(900,900)] ?_|refine zsn (so) ?_|fail);conv=>whnf)|exact abA hb|(refine zsv rfl ?_)|(refine zso rfl (fun hb=>?_) (fun hb=>?_))|(refine lnA fun hln=>?_;conv=>whnf)|fail
 have hL:(L.map chkPV).length=L.length:=List.length_map _;refine zJ (X:=Nat × SpanQ × Int) (fun x=>[(33,iv .i64 x.1),(32,iv .i64 L.length),(31,.x (.d (chksPV L))),(8,.x (.b 8 0)),(2,iv .i64 hour)]) (fun x=>[(8,.box [.b 900 0]),(900,vB k x.2.1 x.2.2)])
  (fun x=>x.1≤L.length∧nonneg x.2.1∧(0≤x.2.2∧x.2.2≤100000)∧okC k x.2.2 (L.drop x.1)∧runC k (L.drop x.1) x.2.2 x.2.1=some (fs,fh)) (fun x=>L.length - x.1) (0,(k.new,k.new),0) ⟨Nat.zero_le _,hnew,by dsimp only;omega,hc,hf⟩ (Imp.forget ⟨rfl,congrArg (fun k:Nat=>some (iv .i64 k)) hL,rfl,rfl,rfl,trivial⟩ ⟨rfl,rfl,trivial⟩ rfl) ?_
 rintro⟨i,s,h⟩ ⟨hi,hs,hhr,hoc,hrc⟩;dsimp only at hi hs hhr hoc hrc ⊢;rcases Nat.lt_or_ge i L.length with hil|hil
 ·rw [List.drop_eq_getElem_cons hil] at hoc hrc;have hg:(L.map chkPV)[(i:Int).toNat]?=some (chkPV L[i]):=by rw [Int.toNat_natCast,List.getElem?_map,List.getElem?_eq_getElem hil];rfl
  generalize L[i]=c at *;obtain⟨o1,o2,o3,o4,o5⟩:=hoc;unfold runC at hrc;dsimp only at hrc;split at hrc
  ·rename_i hle;have w1:=wait_fn k hk s hs h c.hour (by omega) hhr;have nn1:=spanW_nn hk hs (d:=c.hour - h) (by omega);generalize spanW k.lo k.hi s (c.hour - h)=s1 at *;have q1:=result_fn k hk s1 c.hour c.volt o3 c.ok;have nn2:=spanR_nn (needL_in hk.steps c.volt) nn1 hle;generalize spanR (needL k.steps c.volt) s1 c.ok=s2 at *;have hcf:decide (s2.1 > s2.2)=false:=decide_eq_false (by omega);clear iq cq so op;repeat' first|((first|refine zkA hTt hMix (id:=12) 7 [0,1,2,3,4,5] [⟨6,false,false,[0],[]⟩] [0,0,0,4,0,16,62,127,255,511] (by kernel_rfl) rfl (by kernel_rfl) (by kernel_rfl) (by kernel_rfl) ?_|refine LateGo.mk ⟨_,rfl,?_⟩|fail);conv=>whnf)|refine zd ?_|refine zc ?_|((first|refine zf ?_|refine zk ?_|refine regA ?_|refine drA (id:=13) 10 false [0,1,3,7,15,0,32,96,224,480,1023] ?_|fail);conv=>whnf)|exact abA hb|((first|refine⟨_,ze ⟨by omega,hg⟩,?_⟩|refine frA (w1) [(900,900)] ?_|refine frA (q1) [(900,900)] ?_|fail);conv=>whnf)|(refine za rfl (zM hcf) (fun _=>?_))|(refine zso rfl (fun hb=>?_) (fun hb=>?_))|((first|refine zsq ?_|refine andA ?_|fail);conv=>whnf)|fail
   exact⟨(i+1,s2,c.hour),⟨hil,nn2,⟨by dsimp only;omega,by dsimp only;omega⟩,o5,hrc⟩,by dsimp only;omega,Imp.forget ⟨rfl,rfl,rfl,rfl,rfl,trivial⟩ ⟨rfl,rfl,trivial⟩ rfl⟩
  ·cases hrc
 ·rw [List.drop_eq_nil_of_le hil] at hrc;cases hrc;have w1:=wait_fn k hk fs hs fh hour (by omega) hhr;have hlt:decide (hour < fh)=false:=decide_eq_false (by omega);repeat' first|refine zd ?_|refine zc ?_|((first|refine zf ?_|refine zk ?_|refine zi ?_|refine regA ?_|fail);conv=>whnf)|exact abA hb|((refine zsn (m1) ?_);conv=>whnf)|(refine za rfl (zM hlt) (fun _=>?_))|((refine frA (w1) [(900,900)] ?_);conv=>whnf)|(refine zsv rfl ?_)|(refine zso rfl (fun hb=>?_) (fun hb=>?_))|((refine andA ?_);conv=>whnf)|fail
  exact⟨_,[(900,vB k (spanW k.lo k.hi fs (hour - fh)) hour)],⟨rfl,trivial⟩,rfl,rfl,rfl,rfl⟩
end Go.Proofs.YtnkhljdifljdbaaGreatDoor
namespace Go.Proofs.YtnkhljdifljdbaaGreatDoor
open Go Go.QL FoT
set_option maxHeartbeats 3200000
attribute [local irreducible] ACall FnC YC
abbrev nilQ:AV:=.x (.d (.v (.slice none 0 0)))
abbrev emQ:AV:=.x (.d (chksPV []))
theorem ins0_fn:ACall Tryz.prog 276 [emQ,iv .i64 0,iv .i64 0,.x (.f (.func 205) [] [.b 2 0])] [(2,.box [byF])] (fun r σ'=>r=.t []∧σ'=[(2,.box [byF])]):=by
 refine hdD Tryz.func276 Tryz.ntmps276 (res:=[]) fun w0 K0 B=>?_
 repeat' first|refine zd ?_|refine zc ?_|((first|refine regA ?_|refine zsq ?_|fail);conv=>whnf)|fail
 refine AW_rounds 1 (Rnd.mk ?_)
 repeat' first|refine zd ?_|((first|refine zk ?_|refine regA ?_|fail);conv=>whnf)|(refine zsv rfl ?_)|fail
 exact⟨_,[(2,.box [byF])],⟨rfl,trivial⟩,rfl,rfl,rfl,rfl⟩
theorem sorts0_fn:ACall Tryz.prog 204 [emQ,.x (.f (.func 205) [] [.b 2 0])] [(2,.box [byF])] (fun r σ'=>r=.t []∧σ'=[(2,.box [byF])]):=by
 have hi:=ins0_fn;have st:ACall Tryz.prog 251 [emQ,iv .i64 0,.x (.f (.func 205) [] [.b 2 0])] [(2,.box [byF])] (fun r σ'=>r=.t []∧σ'=[(2,.box [byF])]):=by
  refine hdD Tryz.func251 Tryz.ntmps251 (res:=[]) fun w0 K0 B=>?_
  repeat' first|refine zd ?_|refine zc ?_|((refine regA ?_);conv=>whnf)|fail
  refine AW_rounds 1 (Rnd.mk ?_)
  repeat' first|refine zd ?_|refine zc ?_|((first|refine zk ?_|refine regA ?_|refine frA (hi) [(2,2)] ?_|fail);conv=>whnf)|(refine zsv rfl ?_)|fail
  refine AW_rounds 1 (Rnd.mk ?_)
  repeat' first|refine zd ?_|((first|refine zk ?_|refine regA ?_|fail);conv=>whnf)|(refine zsv rfl ?_)|fail
  exact⟨_,[(2,.box [byF])],⟨rfl,trivial⟩,rfl,rfl,rfl,rfl⟩
 refine hdD Tryz.func204 Tryz.ntmps204 (res:=[]) fun w0 K0 B=>?_
 repeat' first|((first|refine regA ?_|refine frA (st) [(2,2)] ?_|fail);conv=>whnf)|(refine lnA fun hln=>?_;conv=>whnf)|fail
 exact⟨_,[(2,.box [byF])],⟨rfl,trivial⟩,rfl,rfl,rfl,rfl⟩
theorem sorted0_fn:FnC Tryz.prog 147 [.a [byF],nilQ] emQ:=by
 have so:=sorts0_fn;have cl:FnC Tryz.prog 203 [nilQ] emQ:=by
  refine zg7 hTt Tryz.func203 rfl (by kernel_rfl) (res:=[.tmp 2]) rfl Tryz.ntmps203 (by simp) fun w0 K0=>?_
  dsimp only [entry];repeat' first|((refine fun (b:Bool) (hln:b=true→_)=>?_);conv=>whnf)|refine zd ?_|((first|refine zf ?_|refine zi ?_|refine regA ?_|fail);conv=>whnf)|(refine zso rfl (fun hb=>?_) (fun hb=>?_))|((refine andA ?_);conv=>whnf)|fail
  ·exact⟨_,rfl,LeAV1.nil 3⟩
  ·exact⟨_,rfl,LeAV.refl _⟩
 refine hdC Tryz.func147 Tryz.ntmps147 (res:=[.tmp 4]) fun w0 K0=>?_
 repeat' first|refine zd ?_|((first|refine zi ?_|refine regA ?_|refine zsn (cl) ?_|refine frA (so) [(2,2)] ?_|fail);conv=>whnf)|fail
 rfl
theorem look0_fn (k:KindT) (hk:KGood k) (hE:kindE k=0) (hour:Int) (hh:0≤hour∧hour≤100000) :
  ACall Tryz.prog 86 [kindAV k,nilQ,iv .i64 hour] [] (fun r σ'=>r=.t [.x (.b 900 0),iv .i64 0]∧σ'=[(900,vB k (spanW k.lo k.hi (k.new,k.new) (hour - 0)) hour)]):=by
 have op:=mopen_fn k hk.ok hE;have so:=sorted0_fn;have iq:ACall Tryz.prog 202 [nilQ,.x (.f (.func 146) [] [.b 8 0])] [(8,.box [.b 900 0]),(900,vB k (k.new,k.new) 0)] (fun r σ'=>r=iv .i64 (-1)∧σ'=[(8,.box [.b 900 0]),(900,vB k (k.new,k.new) 0)]):=by
  refine hdD Tryz.func202 Tryz.ntmps202 (res:=[.tmp 4]) fun w0 K0 B=>?_
  repeat' first|refine zd ?_|refine zc ?_|((refine regA ?_);conv=>whnf)|fail
  refine AW_rounds 1 (Rnd.mk ?_)
  repeat' first|refine zd ?_|((first|refine zk ?_|refine zi ?_|refine regA ?_|fail);conv=>whnf)|(refine zsv rfl ?_)|fail
  exact⟨_,[(8,.box [.b 900 0]),(900,vB k (k.new,k.new) 0)],⟨rfl,rfl,trivial⟩,rfl,rfl,rfl,rfl⟩
 have cq:ACall Tryz.prog 145 [nilQ,.x (.f (.func 146) [] [.b 8 0])] [(8,.box [.b 900 0]),(900,vB k (k.new,k.new) 0)] (fun r σ'=>r=bv false∧σ'=[(8,.box [.b 900 0]),(900,vB k (k.new,k.new) 0)]):=by
  refine hdD Tryz.func145 Tryz.ntmps145 (res:=[.tmp 4]) fun w0 K0 B=>?_
  repeat' first|refine zd ?_|((first|refine zi ?_|refine regA ?_|((refine⟨_,iq,?_⟩);(rintro _ _ ⟨rfl,rfl⟩))|fail);conv=>whnf)|fail
  exact⟨_,[(8,.box [.b 900 0]),(900,vB k (k.new,k.new) 0)],⟨rfl,rfl,trivial⟩,rfl,rfl,rfl,rfl⟩
 have hnew:nonneg (k.new,k.new):=by have:=hk.new;unfold nonneg;dsimp only;omega
 have m1:=mout1 100000 hour;rw [zQ.2 hh] at m1;have w1:=wait_fn k hk (k.new,k.new) hnew 0 hour (by omega) (by decide);have hlt:decide (hour < 0)=false:=decide_eq_false (by omega);refine hdD Tryz.func86 Tryz.ntmps86 (res:=[.tmp 6,.tmp 7]) fun w0 K0 B=>?_
 repeat' first|refine zd ?_|refine zc ?_|((first|refine zf ?_|refine regA ?_|refine frA (op) [(17,900)] ?_|refine frA (cq) [(8,8),(900,900)] ?_|refine zsn (so) ?_|fail);conv=>whnf)|(refine zsv rfl ?_)|(refine lnA fun hln=>?_;conv=>whnf)|fail
 refine AW_rounds 1 (Rnd.mk ?_)
 repeat' first|refine zd ?_|refine zc ?_|((first|refine zf ?_|refine zk ?_|refine zi ?_|refine regA ?_|refine zsn (m1) ?_|fail);conv=>whnf)|(refine za rfl (zM hlt) (fun _=>?_))|((refine frA (w1) [(900,900)] ?_);conv=>whnf)|(refine zsv rfl ?_)|((refine andA ?_);conv=>whnf)|fail
 exact⟨_,[(900,vB k (spanW k.lo k.hi (k.new,k.new) (hour - 0)) hour)],⟨rfl,trivial⟩,rfl,rfl,rfl,rfl⟩
def KnownV (k:KindT) (L:List ChkT) (hour:Int) (s:SpanQ):Prop:=
 okC k 0 L∧L.length≤19∧(0≤hour∧hour≤100000)∧∃ fs fh,runC k L 0 (k.new,k.new)=some (fs,fh)∧fh≤hour∧s=spanW k.lo k.hi fs (hour - fh)
def cksAV:List ChkT→AV
 | []=>nilQ
 | c::r=>.x (.d (chksPV (c::r)))
theorem look_known (k:KindT) (hk:KGood k) (hE:kindE k=0) (L:List ChkT) (hour:Int) (s:SpanQ) (h:KnownV k L hour s) :
  ACall Tryz.prog 86 [kindAV k,cksAV L,iv .i64 hour] [] (fun r σ'=>r=.t [.x (.b 900 0),iv .i64 0]∧σ'=[(900,vB k s hour)]):=by
 obtain⟨h1,h2,h3,fs,fh,h4,h5,rfl⟩:=h;cases L with
 | nil=>cases h4;exact look0_fn k hk hE hour h3
 | cons c r=>exact look_fn k hk hE c r (by simp at h2;omega) h1 fs fh hour h4 ⟨h5,h3.2⟩ h3.1
theorem now_fn (k:KindT) (hk:KGood k) (hE:kindE k=0) (L:List ChkT) (hour:Int) (s:SpanQ) (h:KnownV k L hour s) :
  FnC Tryz.prog 77 [kindAV k,cksAV L,iv .i64 hour] (.t [.a [iC s.1,iC s.2],iv .i64 0]):=by
 have lk:=look_known k hk hE L hour s h;cases L with
 | nil=>
  unfold cksAV at *;refine hdC Tryz.func77 Tryz.ntmps77 (res:=[.cell 6 23,.tmp 7]) fun w0 K0=>?_
  repeat' first|refine zd ?_|((first|refine zf ?_|refine zi ?_|refine regA ?_|refine frA (lk) [(900,900)] ?_|fail);conv=>whnf)|(refine zsv rfl ?_)|((refine andA ?_);conv=>whnf)|fail
  rfl
 | cons c r=>
  rw [show cksAV (c::r)=.x (.d (chksPV (c::r))) from rfl] at lk ⊢;clear h;generalize chksPV (c::r)=Q at *;refine hdC Tryz.func77 Tryz.ntmps77 (res:=[.cell 6 23,.tmp 7]) fun w0 K0=>?_
  repeat' first|refine zd ?_|((first|refine zf ?_|refine zi ?_|refine regA ?_|refine frA (lk) [(900,900)] ?_|fail);conv=>whnf)|(refine zsv rfl ?_)|((refine andA ?_);conv=>whnf)|fail
  rfl
theorem mfails_fn (k:KindT) (hk:KGood k) (hE:kindE k=0) (L:List ChkT) (hour:Int) (s:SpanQ) (hs:nonneg s) (h:KnownV k L hour s) :
  FnC Tryz.prog 47 [kindAV k,cksAV L,iv .i64 hour] (.t [.a [iC (failsK k s hour).1,iC (failsK k s hour).2],iv .i64 0]):=by
 have lk:=look_known k hk hE L hour s h;have fl:=fails_fn k hk s hs hour h.2.2.1;cases L with
 | nil=>
  unfold cksAV at *;refine hdC Tryz.func47 Tryz.ntmps47 (res:=[.cell 6 60,.tmp 7]) fun w0 K0=>?_
  repeat' first|refine zd ?_|((first|refine zf ?_|refine zi ?_|refine regA ?_|refine frA (lk) [(900,900)] ?_|refine frA (fl) [(900,900)] ?_|fail);conv=>whnf)|(refine zsv rfl ?_)|fail
  rfl
 | cons c r=>
  rw [show cksAV (c::r)=.x (.d (chksPV (c::r))) from rfl] at lk ⊢;clear hs h;generalize chksPV (c::r)=Q at *;refine hdC Tryz.func47 Tryz.ntmps47 (res:=[.cell 6 60,.tmp 7]) fun w0 K0=>?_
  repeat' first|refine zd ?_|((first|refine zf ?_|refine zi ?_|refine regA ?_|refine frA (lk) [(900,900)] ?_|refine frA (fl) [(900,900)] ?_|fail);conv=>whnf)|(refine zsv rfl ?_)|fail
  rfl
theorem mneed_fn (k:KindT) (hk:KGood k) (hE:kindE k=0) (volt:Int) (hv:leastV k≤volt∧volt≤1000):FnC Tryz.prog 74 [kindAV k,iv .i64 volt] (.t [iv .i64 (needL k.steps volt),iv .i64 0]):=by
 have op:=mopen_fn k hk.ok hE;have si:=silent_fn k hk (k.new,k.new) 0 volt hv;have nd:=need_fn k hk (k.new,k.new) 0 volt hv.1;refine hdC Tryz.func74 Tryz.ntmps74 (res:=[.tmp 4,.tmp 5]) fun w0 K0=>?_
 repeat' first|refine zd ?_|refine zc ?_|((first|refine zf ?_|refine zi ?_|refine regA ?_|refine frA (op) [(17,900)] ?_|refine frA (si) [(900,900)] ?_|refine frA (nd) [(900,900)] ?_|fail);conv=>whnf)|(refine zsv rfl ?_)|fail
 rfl
end Go.Proofs.YtnkhljdifljdbaaGreatDoor
namespace Go.Proofs.YtnkhljdifljdbaaGreatDoor
open Go Go.QL FoT
set_option maxHeartbeats 3200000
set_option maxRecDepth 20000
attribute [local irreducible] ACall FnC YC
theorem must_t (e:Int):FnC Tryz.prog 32 [bv true,iv .i64 e] (.t []):=by
 refine hdC Tryz.func32 Tryz.ntmps32 (res:=[]) fun w0 K0=>?_
 repeat' first|refine zd ?_|((first|refine zf ?_|refine regA ?_|fail);conv=>whnf)|(refine zsv rfl ?_)|fail
 rfl
theorem must_b {b:Bool} (h:b=true) (e:Int):FnC Tryz.prog 32 [bv b,iv .i64 e] (.t []):=by rw [h];exact must_t e
abbrev dig (n:Nat):Bs8:=Lib.itoa n
theorem atoi_all:(List.range 5000).all (fun n=>(match Lib.atoiAll (dig n) with|.ok v=>v == (n:Int)|_=>false) && decide ((dig n).length≤4))=true:=by decide +kernel
theorem atoi_dig (n:Nat) (h:n < 5000):Lib.atoiAll (dig n)=.ok (n:Int)∧(dig n).length≤4:=by
 have:=atoi_all;rw [List.all_eq_true] at this;have:=this n (List.mem_range.2 h);rw [Bool.and_eq_true] at this;refine⟨?_,of_decide_eq_true this.2⟩
 have:=this.1;split at this
 ·rename_i v hv;rw [hv,eq_of_beq this]
 ·cases this
theorem number_fn (n:Nat) (h:n < 5000):FnC Tryz.prog 71 [sv (bs (dig n))] (iv .i64 n):=by
 obtain⟨h1,h2⟩:=atoi_dig n h;have ai:ACall Tryz.prog 121 [sv (bs (dig n))] [] (fun r σ'=>r=.t [iv .i64 n,.x (.d (.v .nilIface))]∧σ'=[]):=by
  have:=atoi_e (bs (dig n)) (by rw [zbj];omega) (σ:=[]);rw [show atoiE (bs (dig n))=.t [iv .i64 n,.x (.d (.v .nilIface))] from by unfold atoiE;rw [zco,h1]] at this;exact this
 have it:=zod n (by omega) (by omega);rw [show (⟨(Lib.itoa n).toArray⟩:ByteArray)=bs (dig n) from rfl] at it;have hbs:=zbj (dig n);have hq:((bs (dig n)).toList == (bs (dig n)).toList)=true:=by rw [zdf];exact decide_eq_true rfl
 have hle:decide (((bs (dig n)).size:Int)≤9)=true:=decide_eq_true (by rw [hbs];omega);have h0:decide ((0:Int)≤n)=true:=decide_eq_true (by omega);generalize bs (dig n)=q at *;have m:=must_b (b:=(bif (bif (bif true then decide ((0:Int)≤n) else false) then decide ((q.size:Int)≤9) else false) then (q.toList == q.toList) else false)) (by rw [h0,hle,hq];rfl) 6;refine hdC Tryz.func71 Tryz.ntmps71 (res:=[.tmp 2]) fun w0 K0=>?_
 repeat' first|refine zd ?_|((first|refine zi ?_|refine regA ?_|((refine⟨_,ai,?_⟩);(rintro _ _ ⟨rfl,rfl⟩))|refine zsn (m) ?_|refine zsp (it) ?_|refine pkA ?_|fail);conv=>whnf)|fail
 rfl
end Go.Proofs.YtnkhljdifljdbaaGreatDoor
namespace Go.Proofs.YtnkhljdifljdbaaGreatDoor
open Go Go.QL FoT
set_option maxHeartbeats 3200000
set_option maxRecDepth 20000
attribute [local irreducible] ACall FnC YC
theorem numbers2_fn (a b:Nat) (ha:a < 5000) (hb':b < 5000):FnC Tryz.prog 73 [.x (.d (.s 1 [[.v (.string (bs (dig a)))],[.v (.string (bs (dig b)))]]))] (sl [(a:Int),(b:Int)]):=by
 have n1:=number_fn a ha;have n2:=number_fn b hb';generalize bs (dig a)=p at *;generalize bs (dig b)=q at *;refine hdC Tryz.func73 Tryz.ntmps73 (res:=[.tmp 2]) fun w0 K0=>?_
 repeat' first|refine zd ?_|refine zc ?_|((refine regA ?_);conv=>whnf)|(refine lnA fun hln=>?_;conv=>whnf)|fail
 refine AW_rounds 3 (Rnd.mk ?_)
 repeat' first|refine zd ?_|refine zc ?_|((first|refine zf ?_|refine zk ?_|refine zi ?_|refine regA ?_|fail);conv=>whnf)|(with_reducible refine Rnd.mk ?_)|(refine za rfl (fun _=>?_) (zaf rfl))|(refine za rfl (zM rfl) (fun _=>?_))|((first|refine zsn (n1) ?_|refine zsn (n2) ?_|refine⟨_,ze ⟨by decide,rfl⟩,?_⟩|refine zsq ?_|refine andA ?_|fail);conv=>whnf)|fail
 rfl
theorem clip_fn (L:List ChkT):FnC Tryz.prog 75 [.x (.d (chksPV L))] (.x (.d (.c 3 (L.map chkPV)))):=by
 unfold chksPV;have hln2:(L.map chkPV).length=L.length:=List.length_map _;refine hdC Tryz.func75 Tryz.ntmps75 (res:=[.tmp 2]) fun w0 K0=>?_
 repeat' first|refine zd ?_|((first|refine zi ?_|refine regA ?_|refine andA ?_|fail);conv=>whnf)|(refine lnA fun hln=>?_;conv=>whnf)|fail
 exact congrArg (fun q=>some (AV.x (.d (.c 3 q)))) (by rw [Int.toNat_natCast];exact List.take_length)
theorem clip0_fn:FnC Tryz.prog 75 [nilQ] nilQ:=by
 refine hdC Tryz.func75 Tryz.ntmps75 (res:=[.tmp 2]) fun w0 K0=>?_
 repeat' first|refine zd ?_|((first|refine zi ?_|refine regA ?_|refine andA ?_|fail);conv=>whnf)|fail
 rfl
theorem goodS_fn (a b:Int):FnC Tryz.prog 76 [.a [iC a,iC b],iv .i64 0] (.a [iC a,iC b]):=by
 have m:=must_b (b:=(0:Int) == 0) rfl 0;refine hdC Tryz.func76 Tryz.ntmps76 (res:=[.cell 4 23]) fun w0 K0=>?_
 repeat' first|refine zd ?_|((first|refine zi ?_|refine regA ?_|refine zsn (m) ?_|fail);conv=>whnf)|fail
 rfl
theorem goodF_fn (a b:Int):FnC Tryz.prog 46 [.a [iC a,iC b],iv .i64 0] (.a [iC a,iC b]):=by
 have m:=must_b (b:=(0:Int) == 0) rfl 0;refine hdC Tryz.func46 Tryz.ntmps46 (res:=[.cell 4 60]) fun w0 K0=>?_
 repeat' first|refine zd ?_|((first|refine zi ?_|refine regA ?_|refine zsn (m) ?_|fail);conv=>whnf)|fail
 rfl
structure DskT where
 now:Int
 idle:Int
 since:Int
 cks:List ChkT
def cksPV:List ChkT→PV
 | []=>.v (.slice none 0 0)
 | c::r=>chksPV (c::r)
abbrev nC:SV:=.d (.v (.slice none 0 0))
abbrev dkC (s:SetT) (d:DskT):List SV:=setC s ++ [iC d.now,nC,nC,nC,nC,.o 902 0 1,iC 0,iC 0,iC 0,iC d.idle]
abbrev dkS (s:SetT) (d:DskT):Sg:=[(901,.box (dkC s d)),(902,.chain 124 2 0 [[.v (.int .i64 d.since),cksPV d.cks]])]
theorem tube_fn (s:SetT) (k:KindT) (hv:s.valves=[k]) (d:DskT) (h:Int) (hn:0≤d.now∧d.now≤1000000) (hh:d.now / 60 - d.since=h) (hs:0≤d.since∧d.since≤1000000) :
  ACall Tryz.prog 45 [.x (.b 901 0),iv .i64 0] (dkS s d) (fun r σ'=>r=.t [.x (.oe 902 0 0 0),kindAV k,iv .i64 h]∧σ'=dkS s d):=by
 have m:=must_b (b:=decide ((0:Int) < 1)) rfl 4;have e1:IntKind.i64.wrap (d.now.tdiv 60)=d.now / 60:=by rw [Int.tdiv_eq_ediv_of_nonneg hn.1];exact zg (by omega)
 have e2:IntKind.i64.wrap (d.now / 60 - d.since)=h:=by rw [hh];exact zg (by omega)
 unfold dkS dkC setC;rw [hv];refine hdD Tryz.func45 Tryz.ntmps45 (res:=[.tmp 4,.cell 5 26,.tmp 6]) fun w0 K0 B=>?_
 repeat' first|refine zd ?_|((first|refine zi ?_|refine regA ?_|refine drM (id:=3) 21 [9,10,11,12,13,14,15,16,17,18,19] false [0,0,2,6,14,30,0,126,254,0,512,1536,3584,7680,15872,0,32768,98304,229376,523776,1,1049087,4194303] ?_|refine LateGo.mk ⟨.x .j,rfl,?_⟩|refine zsn (m) ?_|refine⟨_,e1,?_⟩|refine⟨_,e2,?_⟩|refine⟨_,ze ⟨by decide,rfl⟩,?_⟩|refine⟨_,ze rfl,⟨Nat.le_of_ble_eq_true rfl,rfl⟩,?_⟩|refine andA ?_|fail);conv=>whnf)|(refine lnA fun hln=>?_;conv=>whnf)|fail
 refine⟨_,_,?_,?_,?_,rfl,rfl⟩ <;> first|exact⟨rfl,rfl,trivial⟩|rfl
end Go.Proofs.YtnkhljdifljdbaaGreatDoor
namespace Go.Proofs.YtnkhljdifljdbaaGreatDoor
open Go Go.QL FoT
set_option maxHeartbeats 3200000
set_option maxRecDepth 20000
attribute [local irreducible] ACall FnC YC
def okS:ByteArray:=⟨#[111,107]⟩
def passS (p:Bool):Bs8:=bif p then [112,97,115,115] else [102,97,105,108]
abbrev wdsAV (l:List ByteArray):AV:=.x (.d (.s 1 (l.map fun w=>[.v (.string w)])))
theorem change_fn (s:SetT) (k:KindT) (hv:s.valves=[k]) (d:DskT) (hn:0≤d.now∧d.now≤1000000) (hs:0≤d.since∧d.since≤1000000) :
  ACall Tryz.prog 41 [.x (.b 901 0),wdsAV [bs (dig 0)]] (dkS s d) (fun r σ'=>r=sv okS∧σ'=dkS s ⟨d.now,d.idle,d.now / 60,[]⟩):=by
 have n0:=number_fn 0 (by decide);have tb:=tube_fn s k hv d (d.now / 60 - d.since) hn rfl hs;have m:=must_b (b:=(1:Int) == 1) rfl 6;have e1:IntKind.i64.wrap (d.since+(d.now / 60 - d.since))=d.now / 60:=by rw [zg (by omega)];omega
 generalize d.now / 60 - d.since=h at *;unfold dkS dkC setC wdsAV at *;rw [hv] at *;generalize bs (dig 0)=w at *;refine hdD Tryz.func41 Tryz.ntmps41 (res:=[.tmp 4]) fun w0 K0 B=>?_
 repeat' first|refine zd ?_|((first|refine zi ?_|refine regA ?_|refine zsn (m) ?_|refine zsn (n0) ?_|refine frA (tb) [(901,901),(902,902)] ?_|refine⟨_,e1,?_⟩|refine⟨_,ze ⟨by decide,rfl⟩,?_⟩|refine⟨_,ze rfl,⟨Nat.le_of_ble_eq_true rfl,rfl⟩,?_⟩|refine⟨_,rfl,Nat.le_refl 2,?_⟩|refine andA ?_|fail);conv=>whnf)|(refine lnA fun hln=>?_;conv=>whnf)|fail
 refine⟨_,_,?_,?_,?_,rfl,rfl⟩ <;> first|exact⟨rfl,rfl,trivial⟩|rfl
theorem contains2_fn (p:Bool):FnC Tryz.prog 34 [wdsAV [bs (passS true),bs (passS false)],sv (bs (passS p))] (bv true):=by
 have:=zdW [passS true,passS false] (passS p);rw [decide_eq_true (by cases p <;> decide)] at this;exact this
theorem check_fn (s:SetT) (k:KindT) (hk:KGood k) (hE:kindE k=0) (hv:s.valves=[k]) (d:DskT) (hn:0≤d.now∧d.now≤1000000) (hs:0≤d.since∧d.since≤1000000)
  (v:Nat) (hvt:leastV k≤v∧(v:Int)≤1000) (p:Bool) (h:Int) (hh:d.now / 60 - d.since=h) (c0:ChkT) (r0:List ChkT) (hd:d.cks=c0::r0) (hl:r0.length≤17) (sp:SpanQ) (hK:KnownV k (c0::(r0 ++ [⟨h,v,p⟩])) h sp) :
  ACall Tryz.prog 39 [.x (.b 901 0),wdsAV [bs (dig 0),bs (dig v),bs (passS p)]] (dkS s d) (fun r σ'=>r=sv okS∧σ'=dkS s ⟨d.now,d.idle,d.since,c0::(r0 ++ [⟨h,v,p⟩])⟩):=by
 have n2:=numbers2_fn 0 v (by decide) (by omega);have tb:=tube_fn s k hv d h hn hh hs;have nd:=mneed_fn k hk hE v hvt;have nw:=now_fn k hk hE _ h sp hK;have gs:=goodS_fn sp.1 sp.2;have cp:=clip_fn (c0::r0);have ct:=contains2_fn p;have m6:=must_b (b:=true) rfl 6;have m7:=must_b (b:=(0:Int) == 0) rfl 7;have hlen:((c0::r0).map chkPV).length=r0.length+1:=by simp
 have m3:=must_b (b:=decide ((((c0::r0).map chkPV).length:Int) < 30)) (decide_eq_true (by rw [hlen];omega)) 3;have hpass:((bs (passS p)).toList == (⟨#[112,97,115,115]⟩:ByteArray).toList)=p:=by
  rw [show (⟨#[112,97,115,115]⟩:ByteArray)=bs (passS true) from rfl,zdf];cases p <;> decide
 unfold dkS dkC setC wdsAV cksAV at *;rw [hv,hd] at *;unfold cksPV chksPV at *;have hap:((c0::(r0 ++ [⟨h,v,p⟩])).map chkPV)=(c0::r0).map chkPV ++ [chkPV ⟨h,v,p⟩]:=by simp
 have gA:((c0::r0).map chkPV).length+1≤maxLen∧(((c0::r0).map chkPV).length+1) * 24≤140737488355328:=by rw [hlen];unfold maxLen;omega
 dsimp only at nw ⊢;rw [hap] at nw ⊢;clear hK hap;generalize bs (dig 0)=w0' at *;generalize bs (dig v)=w1 at *;generalize bs (passS p)=w2 at *;subst hpass;refine hdD Tryz.func39 Tryz.ntmps39 (res:=[.tmp 4]) fun w0 K0 B=>?_
 repeat' first|refine zd ?_|((first|refine zi ?_|refine regA ?_|refine drA (id:=4) 9 false [0,0,2,6,15,31,63,63,127,511] ?_|refine drA (id:=7) 15 true [0,1,3,7,15,0,0,64,192,0,512,1536,3584,8160,16352,32767,65535] ?_|refine zsn (m6) ?_|refine zsn (m7) ?_|refine zsn (m3) ?_|refine zsp (ct) ?_|refine zsn (n2) ?_|refine zsp (nd) ?_|refine zsn (nw) ?_|refine zsn (gs) ?_|refine zsp (cp) ?_|refine frA (tb) [(901,901),(902,902)] ?_|refine⟨_,ze ⟨by decide,rfl⟩,?_⟩|refine⟨_,ze rfl,⟨Nat.le_of_ble_eq_true rfl,rfl⟩,?_⟩|refine⟨_,rfl,Nat.le_refl 2,?_⟩|refine And.intro gA ?_|refine andA ?_|fail);conv=>whnf)|(refine lnA fun hln=>?_;conv=>whnf)|fail
 refine⟨_,_,?_,?_,?_,rfl,rfl⟩ <;> first|exact⟨rfl,rfl,trivial⟩|rfl
end Go.Proofs.YtnkhljdifljdbaaGreatDoor
namespace Go.Proofs.YtnkhljdifljdbaaGreatDoor
open Go Go.QL FoT
set_option maxHeartbeats 3200000
set_option maxRecDepth 20000
attribute [local irreducible] ACall FnC YC
theorem wpLk_cat {ro:Option Nat} {P:Program} {all:Array Oper} {E:Exit→Act→World→Prop} {K:Act→World→Prop} (r:List Oper):∀ (l:List Oper) (a:Act) (w:World),wpLk ro P all E (fun a w=>wpLk ro P all E K r a w) l a w=wpLk ro P all E K (l ++ r) a w
 | [],a,w=>rfl
 | o::l,a,w=>by
  have ih:wpLk ro P all E (fun a w=>wpLk ro P all E K r a w) l=wpLk ro P all E K (l ++ r):=funext fun a=>funext fun w=>wpLk_cat r l a w
  show wpLk ro P all E _ (o::l) a w=wpLk ro P all E K (o::(l ++ r)) a w
  unfold wpLk;rw [ih]
def litK (P:Program) (tt:TT) (nt:Nat) (ops:List Oper) (n:Nat) (k:Fr→Sg→Prop) (fr:Fr) (σ:Sg):Prop:=
 match ops[n]? with
 | some o=>(match o.dst with
  | some d=>o.guard=none∧zah P tt nt [{ o with op:=.assign (.tmp d) }] (fun fr σ=>zah P tt nt ops k (ops.drop (n+1)) fr σ) [o] fr σ
  | none=>False)
 | none=>False
theorem AW_lit {P:Program} {Γ:Cx} {tt:TT} (htt:tt.ok P) {id:Nat} {ops:List Oper} {Q:Exit→Fr→Sg→Prop} {fr:Fr} {σ:Sg} (n:Nat) (h:zah P tt Γ.nt ops (litK P tt Γ.nt ops n (Q .normal)) (ops.take n) fr σ) :
  AW P Γ (.region id ops.toArray false) Q fr σ:=AW.mk fun hL g a w hr=>Go.QL.wpIn_region_lit (by
 have h1:=zaJ (Qx:=Lift Γ Q) (K:=fun a w=>wpLk Γ.ro P ops.toArray (Lift Γ Q) (Lift Γ Q .normal) (ops.drop n) a w) htt hL (fun fr σ g a w hr h=>by
  unfold litK at h;split at h
  ·rename_i o ho;split at h
   ·rename_i d hd;obtain⟨hg,h⟩:=h;have h2:=zaJ (Qx:=Lift Γ Q) (K:=fun a w=>wpLk Γ.ro P ops.toArray (Lift Γ Q) (Lift Γ Q .normal) (ops.drop (n+1)) a w) htt hL (fun fr σ g a w hr h=>zaJ htt hL (fun fr σ g _ _ hr h=>⟨fr,σ,g,hr,h⟩) _ fr σ h g a w hr) _ fr σ h g a w hr;have e:ops.drop n=o::ops.drop (n+1):=by
     obtain⟨hn,e⟩:=List.getElem?_eq_some_iff.1 ho;rw [← e];exact List.drop_eq_getElem_cons hn
    rw [e];unfold wpLk at h2 ⊢;rw [if_pos (show Region.wanted o _=true by simp [Region.wanted,hg])] at h2 ⊢;exact⟨fun _ _=>trivial,h2.2⟩
   ·exact h.elim
  ·exact h.elim) _ fr σ h g a w hr
 rw [wpLk_cat,List.take_append_drop] at h1;exact h1)
theorem Stp.at3 {P:Program} {Γ:Cx} {y:Code} {ops:Array Oper} {b:Bool} {Q:Exit→Fr→Sg→Prop} {fr:Fr} {σ:Sg} (h:Stp P Γ (.seq (.region 3 ops b) y) Q fr σ):AW P Γ (.seq (.region 3 ops b) y) Q fr σ:=by unfold Stp at h;exact h
def addN (n s:Int):Int:=if n ≥ 0 then n+s else n
theorem cks_is (L:List ChkT):cksAV L=.x (.d (cksPV L)):=by cases L <;> rfl
theorem dfails_fn (s:SetT) (k:KindT) (hk:KGood k) (hE:kindE k=0) (hv:s.valves=[k]) (d:DskT) (hn:0≤d.now∧d.now≤1000000) (hs:0≤d.since∧d.since≤1000000)
  (h:Int) (hh:d.now / 60 - d.since=h) (sp:SpanQ) (hsp:nonneg sp) (hK:KnownV k d.cks h sp) (e l:Int) (hf:failsK k sp h=(e,l)) (he : -1≤e∧e≤10000000) (hl : -1≤l∧l≤10000000) :
  ACall Tryz.prog 22 [.x (.b 901 0),iv .i64 0] (dkS s d) (fun r σ'=>r=.a [iC (addN e d.since),iC (addN l d.since)]∧σ'=dkS s d):=by
 have tb:=tube_fn s k hv d h hn hh hs;have fl:=mfails_fn k hk hE d.cks h sp hsp hK;rw [hf,cks_is] at fl;have gf:=goodF_fn e l;unfold dkS dkC setC at *;rw [hv] at *;generalize cksPV d.cks=Q at *;clear hK hf;have e1:IntKind.i64.wrap (e+d.since)=e+d.since:=zg (by omega);have e2:IntKind.i64.wrap (l+d.since)=l+d.since:=zg (by omega);have f1:=DS.ACall.anew (fl.call (σ:=[]) rfl rfl) (asc []) (args':=[kindAV k,.x (.d Q),iv .i64 h]) (rv':=.t [.a [iC e,iC l],iv .i64 0]) (nob':=[]) rfl rfl rfl rfl;have f2:=DS.ACall.anew (gf.call (σ:=[]) rfl rfl) (asc []) (args':=[.a [iC e,iC l],iv .i64 0]) (rv':=.a [iC e,iC l]) (nob':=[]) rfl rfl rfl rfl;unfold addN;by_cases c1:e ≥ 0 <;> by_cases c2:l ≥ 0
 ·rw [if_pos c1,if_pos c2];refine hdD Tryz.func22 Tryz.ntmps22 (res:=[.cell 4 60]) fun w0 K0 B=>?_
  repeat' first|(with_reducible refine Stp.at3 ?_)|((first|refine DS.AW_drawT hTt hMix (id:=2) 11 11 true [] [] [0,0,2,6,14,0,63,127,127,511,0,2047] (by kernel_rfl) rfl rfl (by kernel_rfl) rfl ?_|refine And.intro (rfl:DS.okRe _ _=true) ?_|fail);conv=>whnf)|refine zd ?_|((first|refine regA ?_|refine frA (tb) [(901,901),(902,902)] ?_|refine⟨_,_,rfl,fun σE h _=>f1 σE h,?_⟩|refine⟨_,_,rfl,fun σE h _=>f2 σE h,?_⟩|refine⟨_,ze rfl,⟨Nat.le_of_ble_eq_true rfl,rfl⟩,?_⟩|refine andA ?_|fail);conv=>whnf)|fail
  unfold Stp;refine zaq (Imp.forget (fr':=[(8,.x (.b 8 0)),(5,.x (.oe 902 0 0 0)),(4,.x (.b 4 0))]) (σ':=[(8,.box [iC e,iC l]),(4,.box [iC 0,iC 0]),(901,.box ([iC s.sl,iC s.ld,iC s.du,iC s.pa,iC s.ra,.d (zac s.users),.d (.s 4 ([k].map kindPV))] ++ [iC d.now,nC,nC,nC,nC,.o 902 0 1,iC 0,iC 0,iC 0,iC d.idle])),(902,.chain 124 2 0 [[.v (.int .i64 d.since),Q]])]) ⟨rfl,rfl,rfl,trivial⟩ ⟨rfl,rfl,rfl,rfl,trivial⟩ rfl) ?_
  refine zd ?_
  refine AW_lit hTt 2 ?_
  conv=>whnf
  repeat' first|refine zc ?_|((first|refine And.intro (rfl:(none:Option (Nat × Bool))=none) ?_|refine andA ?_|fail);conv=>whnf)|fail
  refine AW_rounds 3 (Rnd.mk ?_)
  repeat' first|refine zd ?_|refine zc ?_|((first|refine zf ?_|refine zk ?_|refine zi ?_|refine regA ?_|refine drA (id:=7) 7 false [0,1,3,0,8,24,56,127,255,511] ?_|fail);conv=>whnf)|(with_reducible refine Rnd.mk ?_)|(refine za rfl (fun _=>?_) (zaf (decide_eq_true c1)))|(refine za rfl (fun _=>?_) (zaf (decide_eq_true c2)))|(refine za rfl (zM rfl) (fun _=>?_))|(refine za rfl (fun _=>?_) (zaf rfl))|((first|refine⟨_,e1,?_⟩|refine⟨_,e2,?_⟩|refine⟨_,ze rfl,⟨Nat.le_of_ble_eq_true rfl,rfl⟩,?_⟩|refine zsq ?_|refine andA ?_|fail);conv=>whnf)|fail
  refine⟨_,_,?_,?_,?_,rfl,rfl⟩ <;> first|exact⟨rfl,rfl,trivial⟩|rfl
 ·rw [if_pos c1,if_neg c2];refine hdD Tryz.func22 Tryz.ntmps22 (res:=[.cell 4 60]) fun w0 K0 B=>?_
  repeat' first|(with_reducible refine Stp.at3 ?_)|((first|refine DS.AW_drawT hTt hMix (id:=2) 11 11 true [] [] [0,0,2,6,14,0,63,127,127,511,0,2047] (by kernel_rfl) rfl rfl (by kernel_rfl) rfl ?_|refine And.intro (rfl:DS.okRe _ _=true) ?_|fail);conv=>whnf)|refine zd ?_|((first|refine regA ?_|refine frA (tb) [(901,901),(902,902)] ?_|refine⟨_,_,rfl,fun σE h _=>f1 σE h,?_⟩|refine⟨_,_,rfl,fun σE h _=>f2 σE h,?_⟩|refine⟨_,ze rfl,⟨Nat.le_of_ble_eq_true rfl,rfl⟩,?_⟩|refine andA ?_|fail);conv=>whnf)|fail
  unfold Stp;refine zaq (Imp.forget (fr':=[(8,.x (.b 8 0)),(5,.x (.oe 902 0 0 0)),(4,.x (.b 4 0))]) (σ':=[(8,.box [iC e,iC l]),(4,.box [iC 0,iC 0]),(901,.box ([iC s.sl,iC s.ld,iC s.du,iC s.pa,iC s.ra,.d (zac s.users),.d (.s 4 ([k].map kindPV))] ++ [iC d.now,nC,nC,nC,nC,.o 902 0 1,iC 0,iC 0,iC 0,iC d.idle])),(902,.chain 124 2 0 [[.v (.int .i64 d.since),Q]])]) ⟨rfl,rfl,rfl,trivial⟩ ⟨rfl,rfl,rfl,rfl,trivial⟩ rfl) ?_
  refine zd ?_
  refine AW_lit hTt 2 ?_
  conv=>whnf
  repeat' first|refine zc ?_|((first|refine And.intro (rfl:(none:Option (Nat × Bool))=none) ?_|refine andA ?_|fail);conv=>whnf)|fail
  refine AW_rounds 3 (Rnd.mk ?_)
  repeat' first|refine zd ?_|refine zc ?_|((first|refine zf ?_|refine zk ?_|refine zi ?_|refine regA ?_|refine drA (id:=7) 7 false [0,1,3,0,8,24,56,127,255,511] ?_|fail);conv=>whnf)|(with_reducible refine Rnd.mk ?_)|(refine za rfl (fun _=>?_) (zaf (decide_eq_true c1)))|(refine za rfl (zM (decide_eq_false c2)) (fun _=>?_))|(refine za rfl (zM rfl) (fun _=>?_))|(refine za rfl (fun _=>?_) (zaf rfl))|((first|refine⟨_,e1,?_⟩|refine⟨_,ze rfl,⟨Nat.le_of_ble_eq_true rfl,rfl⟩,?_⟩|refine zsq ?_|refine andA ?_|fail);conv=>whnf)|fail
  refine⟨_,_,?_,?_,?_,rfl,rfl⟩ <;> first|exact⟨rfl,rfl,trivial⟩|rfl
 ·rw [if_neg c1,if_pos c2];refine hdD Tryz.func22 Tryz.ntmps22 (res:=[.cell 4 60]) fun w0 K0 B=>?_
  repeat' first|(with_reducible refine Stp.at3 ?_)|((first|refine DS.AW_drawT hTt hMix (id:=2) 11 11 true [] [] [0,0,2,6,14,0,63,127,127,511,0,2047] (by kernel_rfl) rfl rfl (by kernel_rfl) rfl ?_|refine And.intro (rfl:DS.okRe _ _=true) ?_|fail);conv=>whnf)|refine zd ?_|((first|refine regA ?_|refine frA (tb) [(901,901),(902,902)] ?_|refine⟨_,_,rfl,fun σE h _=>f1 σE h,?_⟩|refine⟨_,_,rfl,fun σE h _=>f2 σE h,?_⟩|refine⟨_,ze rfl,⟨Nat.le_of_ble_eq_true rfl,rfl⟩,?_⟩|refine andA ?_|fail);conv=>whnf)|fail
  unfold Stp;refine zaq (Imp.forget (fr':=[(8,.x (.b 8 0)),(5,.x (.oe 902 0 0 0)),(4,.x (.b 4 0))]) (σ':=[(8,.box [iC e,iC l]),(4,.box [iC 0,iC 0]),(901,.box ([iC s.sl,iC s.ld,iC s.du,iC s.pa,iC s.ra,.d (zac s.users),.d (.s 4 ([k].map kindPV))] ++ [iC d.now,nC,nC,nC,nC,.o 902 0 1,iC 0,iC 0,iC 0,iC d.idle])),(902,.chain 124 2 0 [[.v (.int .i64 d.since),Q]])]) ⟨rfl,rfl,rfl,trivial⟩ ⟨rfl,rfl,rfl,rfl,trivial⟩ rfl) ?_
  refine zd ?_
  refine AW_lit hTt 2 ?_
  conv=>whnf
  repeat' first|refine zc ?_|((first|refine And.intro (rfl:(none:Option (Nat × Bool))=none) ?_|refine andA ?_|fail);conv=>whnf)|fail
  refine AW_rounds 3 (Rnd.mk ?_)
  repeat' first|refine zd ?_|refine zc ?_|((first|refine zf ?_|refine zk ?_|refine zi ?_|refine regA ?_|refine drA (id:=7) 7 false [0,1,3,0,8,24,56,127,255,511] ?_|fail);conv=>whnf)|(with_reducible refine Rnd.mk ?_)|(refine za rfl (zM (decide_eq_false c1)) (fun _=>?_))|(refine za rfl (fun _=>?_) (zaf (decide_eq_true c2)))|(refine za rfl (zM rfl) (fun _=>?_))|(refine za rfl (fun _=>?_) (zaf rfl))|((first|refine⟨_,e2,?_⟩|refine⟨_,ze rfl,⟨Nat.le_of_ble_eq_true rfl,rfl⟩,?_⟩|refine zsq ?_|refine andA ?_|fail);conv=>whnf)|fail
  refine⟨_,_,?_,?_,?_,rfl,rfl⟩ <;> first|exact⟨rfl,rfl,trivial⟩|rfl
 ·rw [if_neg c1,if_neg c2];refine hdD Tryz.func22 Tryz.ntmps22 (res:=[.cell 4 60]) fun w0 K0 B=>?_
  repeat' first|(with_reducible refine Stp.at3 ?_)|((first|refine DS.AW_drawT hTt hMix (id:=2) 11 11 true [] [] [0,0,2,6,14,0,63,127,127,511,0,2047] (by kernel_rfl) rfl rfl (by kernel_rfl) rfl ?_|refine And.intro (rfl:DS.okRe _ _=true) ?_|fail);conv=>whnf)|refine zd ?_|((first|refine regA ?_|refine frA (tb) [(901,901),(902,902)] ?_|refine⟨_,_,rfl,fun σE h _=>f1 σE h,?_⟩|refine⟨_,_,rfl,fun σE h _=>f2 σE h,?_⟩|refine⟨_,ze rfl,⟨Nat.le_of_ble_eq_true rfl,rfl⟩,?_⟩|refine andA ?_|fail);conv=>whnf)|fail
  unfold Stp;refine zaq (Imp.forget (fr':=[(8,.x (.b 8 0)),(5,.x (.oe 902 0 0 0)),(4,.x (.b 4 0))]) (σ':=[(8,.box [iC e,iC l]),(4,.box [iC 0,iC 0]),(901,.box ([iC s.sl,iC s.ld,iC s.du,iC s.pa,iC s.ra,.d (zac s.users),.d (.s 4 ([k].map kindPV))] ++ [iC d.now,nC,nC,nC,nC,.o 902 0 1,iC 0,iC 0,iC 0,iC d.idle])),(902,.chain 124 2 0 [[.v (.int .i64 d.since),Q]])]) ⟨rfl,rfl,rfl,trivial⟩ ⟨rfl,rfl,rfl,rfl,trivial⟩ rfl) ?_
  refine zd ?_
  refine AW_lit hTt 2 ?_
  conv=>whnf
  repeat' first|refine zc ?_|((first|refine And.intro (rfl:(none:Option (Nat × Bool))=none) ?_|refine andA ?_|fail);conv=>whnf)|fail
  refine AW_rounds 3 (Rnd.mk ?_)
  repeat' first|refine zd ?_|refine zc ?_|((first|refine zf ?_|refine zk ?_|refine zi ?_|refine regA ?_|fail);conv=>whnf)|(with_reducible refine Rnd.mk ?_)|(refine za rfl (zM (decide_eq_false c1)) (fun _=>?_))|(refine za rfl (zM (decide_eq_false c2)) (fun _=>?_))|(refine za rfl (zM rfl) (fun _=>?_))|(refine za rfl (fun _=>?_) (zaf rfl))|((first|refine zsq ?_|refine andA ?_|fail);conv=>whnf)|fail
  refine⟨_,_,?_,?_,?_,rfl,rfl⟩ <;> first|exact⟨rfl,rfl,trivial⟩|rfl
end Go.Proofs.YtnkhljdifljdbaaGreatDoor
namespace Go.Proofs.YtnkhljdifljdbaaGreatDoor
open Go Go.QL FoT
set_option maxHeartbeats 3200000
set_option maxRecDepth 20000
attribute [local irreducible] ACall FnC YC
theorem charges_fn (s:SetT) (k:KindT) (hv:s.valves=[k]) (d:DskT) (u:Int) :
  ACall Tryz.prog 21 [.x (.b 901 0),iv .i64 u] (dkS s d) (fun r σ'=>r=iv .i64 0∧σ'=dkS s d):=by
 unfold dkS dkC setC;rw [hv];refine hdD Tryz.func21 Tryz.ntmps21 (res:=[.tmp 4]) fun w0 K0 B=>?_
 repeat' first|refine zd ?_|refine zc ?_|((first|refine regA ?_|refine andA ?_|fail);conv=>whnf)|fail
 refine AW_rounds 1 (Rnd.mk ?_)
 repeat' first|refine zd ?_|((first|refine zk ?_|refine zi ?_|refine regA ?_|fail);conv=>whnf)|(refine za rfl (zM rfl) (fun _=>?_))|fail
 refine⟨_,_,?_,?_,?_,rfl,rfl⟩ <;> first|exact⟨rfl,rfl,trivial⟩|rfl
theorem dwork_fn (s:SetT) (k:KindT) (hv:s.valves=[k]) (d:DskT) :
  ACall Tryz.prog 124 [.x (.b 901 0)] (dkS s d) (fun r σ'=>r=.a [iC s.sl,iC s.ld,iC s.du,iC s.pa,iC s.ra,nC,nC]∧σ'=dkS s d):=by
 unfold dkS dkC setC;rw [hv];refine hdD Tryz.func124 Tryz.ntmps124 (res:=[.cell 2 133]) fun w0 K0 B=>?_
 repeat' first|refine zd ?_|refine zc ?_|((first|refine regA ?_|refine drA (id:=1) 11 true [0,1,3,7,15,0,32,96,224,511,0,2047] ?_|refine andA ?_|fail);conv=>whnf)|fail
 refine AW_rounds 1 (Rnd.mk ?_)
 repeat' first|refine zd ?_|((first|refine zk ?_|refine zi ?_|refine regA ?_|fail);conv=>whnf)|(refine za rfl (zM rfl) (fun _=>?_))|fail
 refine⟨_,_,?_,?_,?_,rfl,rfl⟩ <;> first|exact⟨rfl,rfl,trivial⟩|rfl
end Go.Proofs.YtnkhljdifljdbaaGreatDoor
namespace Go.Proofs.YtnkhljdifljdbaaGreatDoor
open Go Go.QL FoT
set_option maxHeartbeats 1600000
set_option maxRecDepth 20000
attribute [local irreducible] ACall FnC
theorem rcheck3_raw (new lo hi:Int) (st:List (Int × Int)):FnC Tryz.prog 4 [.a [.d (.v (.int .i64 new)),.d (.v (.int .i64 lo)),.d (.v (.int .i64 hi)),.d (.s 2 (st.map stepPV))]] (iv .i64 (kindE ⟨new,lo,hi,st⟩)):=by
 have hls:(st.map stepPV).length=st.length:=List.length_map _;have o1:=r03in_fn new 1 1000000;have o2:=r03in_fn lo 0 1000;have o2':=r03in_fn hi 0 1000;have o3:=r03in_fn ((st.map stepPV).length:Int) 1 8;unfold kindE;dsimp only;by_cases c1:(1≤new∧new≤1000000)∧(0≤lo∧lo≤1000)∧(0≤hi∧hi≤1000)
 ·rw [decide_eq_true c1.1] at o1;rw [decide_eq_true c1.2.1] at o2;rw [decide_eq_true c1.2.2] at o2';rw [if_neg (fun e=>e c1)];by_cases c3:hi < lo
  ·rw [if_pos c3];refine hdC Tryz.func4 Tryz.ntmps4 (res:=[.tmp 2]) fun w0 K0=>?_
   repeat' first|refine zd ?_|((first|refine zf ?_|refine zi ?_|refine regA ?_|refine pkA ?_|refine zsn (o1) ?_|refine zsp (o2) ?_|refine zsp (o2') ?_|fail);conv=>whnf)|exact abA hb|(refine zsv rfl ?_)|(refine zso rfl (fun hb=>?_) (fun hb=>?_))|fail
   rfl
  ·rw [if_neg c3];by_cases c4:1≤st.length∧st.length≤8
   ·rw [decide_eq_true (by omega)] at o3;rw [if_neg (fun e=>e c4)];refine hdC Tryz.func4 Tryz.ntmps4 (res:=[.tmp 2]) fun w0 K0=>?_
    repeat' first|refine zd ?_|refine zc ?_|((first|refine zf ?_|refine zi ?_|refine regA ?_|refine pkA ?_|refine zsn (o1) ?_|refine zsp (o2) ?_|refine zsp (o2') ?_|refine zsn (o3) ?_|fail);conv=>whnf)|exact abA hb|(refine zsv rfl ?_)|(refine zso rfl (fun hb=>?_) (fun hb=>?_))|(refine lnA fun hln=>?_;conv=>whnf)|fail
    refine zJ (fun i:Nat=>[(3,iv .i64 i),(1,.x (.b 1 0))]) (fun i=>[(1,.box [.d (.v (.int .i64 new)),.d (.v (.int .i64 lo)),.d (.v (.int .i64 hi)),.d (.s 2 (st.map stepPV))])])
     (fun i=>i≤st.length∧stepsE none st=stepsE (if i=0 then none else some (st.getD (i - 1) (0,0))) (st.drop i)) (fun i=>st.length - i) 0 ⟨Nat.zero_le _,rfl⟩ impA ?_
    rintro i ⟨hi',hn⟩;rcases Nat.lt_or_ge i st.length with hil|hil
    ·rw [List.drop_eq_getElem_cons hil,stepsE] at hn;have o4:=r03in_fn st[i].1 0 1000;have o5:=r03in_fn st[i].2 0 1000000;by_cases c5:(0≤st[i].1∧st[i].1≤1000)∧(0≤st[i].2∧st[i].2≤1000000)
     ·rw [decide_eq_true c5.1] at o4;rw [decide_eq_true c5.2] at o5;rw [if_neg (fun e=>e c5)] at hn;have hg:∀ c:Bool,(c=true→0 < i)→Gd (some c) (0≤(i:Int) - 1∧(st.map stepPV)[((i:Int) - 1).toNat]?=some (stepPV (st.getD (i - 1) (0,0)))):=fun c h=>zax fun hc=>by
       have h0:=h hc;refine⟨by omega,?_⟩
       rw [show ((i:Int) - 1).toNat=i - 1 by omega];simp [List.getElem?_eq_getElem (show i - 1 < st.length by omega)]
      have hc:(bif (bif ((i:Int) == 0) then st[i].1 != 1000 else false) then true else (bif decide (0 < (i:Int)) then (bif decide ((st.getD (i - 1) (0,0)).1≤st[i].1) then true else decide (st[i].2 < (st.getD (i - 1) (0,0)).2)) else false))=badS (if i=0 then none else some (st.getD (i - 1) (0,0))) st[i]:=by
       by_cases e:i=0
       ·subst e;rw [if_pos rfl];show _=decide _
        rw [Bool.eq_iff_iff];simp
       ·rw [if_neg e];show _=decide _
        rw [Bool.eq_iff_iff];have e1:((i:Int) == 0)=false:=beq_eq_false_iff_ne.2 (by omega);have e2:decide (0 < (i:Int))=true:=decide_eq_true (by omega);rw [e1,e2];simp
      generalize hcc:badS (if i=0 then none else some (st.getD (i - 1) (0,0))) st[i]=c at hn hc;cases c with
      | true=>
       repeat' first|refine zd ?_|refine zc ?_|((first|refine zf ?_|refine zk ?_|refine zi ?_|refine regA ?_|refine drA (id:=13) 31 false [0,1,3,7,15,31,63,127,255,511,1023,2047,4095,2047,10239,2047,34815,124927,255999,518143,1048575,2097151,4194303,8388607,4194303,20971519,4194303,71303167,255852543,524287999,1061158911,2147483647,4294967295,8589934591,17179869183] ?_|refine⟨_,hg _ (by intro h;simp at h;omega),?_⟩|refine pkA ?_|refine zsn (o4) ?_|refine zsp (o5) ?_|fail);conv=>whnf)|exact abA hb|(refine za rfl (fun _=>?_) (zaf hc))|(refine zsv rfl ?_)|(refine zso rfl (fun hb=>?_) (fun hb=>?_))|((first|refine zsq ?_|refine andA ?_|with_reducible refine exA fun _=>?_|fail);conv=>whnf)|(refine lnA fun hln=>?_;conv=>whnf)|fail
       exact congrArg some (congrArg (iv .i64) (hn.trans (if_pos rfl)).symm)
      | false=>
       repeat' first|refine zd ?_|refine zc ?_|((first|refine zf ?_|refine zk ?_|refine zi ?_|refine regA ?_|refine drA (id:=13) 31 false [0,1,3,7,15,31,63,127,255,511,1023,2047,4095,2047,10239,2047,34815,124927,255999,518143,1048575,2097151,4194303,8388607,4194303,20971519,4194303,71303167,255852543,524287999,1061158911,2147483647,4294967295,8589934591,17179869183] ?_|refine⟨_,hg _ (by intro h;simp at h;omega),?_⟩|refine pkA ?_|refine zsn (o4) ?_|refine zsp (o5) ?_|fail);conv=>whnf)|exact abA hb|(refine za rfl (zM hc) (fun _=>?_))|(refine zsv rfl ?_)|(refine zso rfl (fun hb=>?_) (fun hb=>?_))|((first|refine zsq ?_|refine andA ?_|with_reducible refine exA fun _=>?_|fail);conv=>whnf)|(refine lnA fun hln=>?_;conv=>whnf)|fail
       refine⟨i+1,⟨by omega,?_⟩,by omega,impA⟩
       rw [if_neg (by omega),show i+1 - 1=i by omega,List.getD_eq_getElem?_getD,List.getElem?_eq_getElem hil,Option.getD_some];exact hn
     ·rw [if_pos c5] at hn;have hc:(bif (!decide (0≤st[i].1∧st[i].1≤1000)) then true else !decide (0≤st[i].2∧st[i].2≤1000000))=true:=by
       by_cases c6:0≤st[i].1∧st[i].1≤1000
       ·rw [decide_eq_true c6,decide_eq_false (fun e=>c5 ⟨c6,e⟩)];rfl
       ·rw [decide_eq_false c6];rfl
      repeat' first|refine zd ?_|refine zc ?_|((first|refine zf ?_|refine zk ?_|refine zi ?_|refine regA ?_|refine pkA ?_|refine zsn (o4) ?_|refine zsp (o5) ?_|fail);conv=>whnf)|(refine za rfl (fun _=>?_) (zaf hc))|exact abA hb|(refine zso rfl (fun hb=>?_) (fun hb=>?_))|((first|refine andA ?_|with_reducible refine exA fun _=>?_|fail);conv=>whnf)|(refine lnA fun hln=>?_;conv=>whnf)|fail
      exact congrArg some (congrArg (iv .i64) hn.symm)
    ·rw [List.drop_eq_nil_of_le hil] at hn;have hn:stepsE none st=0:=by rw [hn];rfl
     repeat' first|refine zd ?_|refine zc ?_|((first|refine zf ?_|refine zk ?_|refine zi ?_|refine regA ?_|fail);conv=>whnf)|exact abA hb|(refine zso rfl (fun hb=>?_) (fun hb=>?_))|((refine andA ?_);conv=>whnf)|(refine lnA fun hln=>?_;conv=>whnf)|fail
     exact congrArg some (congrArg (iv .i64) hn.symm)
   ·rw [decide_eq_false (by omega)] at o3;rw [if_pos c4];refine hdC Tryz.func4 Tryz.ntmps4 (res:=[.tmp 2]) fun w0 K0=>?_
    repeat' first|refine zd ?_|((first|refine zf ?_|refine zi ?_|refine regA ?_|refine pkA ?_|refine zsn (o1) ?_|refine zsp (o2) ?_|refine zsp (o2') ?_|refine zsn (o3) ?_|fail);conv=>whnf)|exact abA hb|(refine zsu rfl ?_)|(refine zsv rfl ?_)|(refine zso rfl (fun hb=>?_) (fun hb=>?_))|(refine lnA fun hln=>?_;conv=>whnf)|fail
    rfl
 ·rw [if_pos c1];have hc:(bif (bif (!decide (1≤new∧new≤1000000)) then true else !decide (0≤lo∧lo≤1000)) then true else !decide (0≤hi∧hi≤1000))=true:=by
   by_cases c6:1≤new∧new≤1000000
   ·by_cases c7:0≤lo∧lo≤1000
    ·rw [decide_eq_true c6,decide_eq_true c7,decide_eq_false (fun e=>c1 ⟨c6,c7,e⟩)];rfl
    ·rw [decide_eq_true c6,decide_eq_false c7];rfl
   ·rw [decide_eq_false c6];rfl
  refine hdC Tryz.func4 Tryz.ntmps4 (res:=[.tmp 2]) fun w0 K0=>?_
  repeat' first|refine zd ?_|((first|refine zi ?_|refine regA ?_|refine pkA ?_|refine zsn (o1) ?_|refine zsp (o2) ?_|refine zsp (o2') ?_|fail);conv=>whnf)|(refine za rfl (fun _=>?_) (zaf hc))|fail
  rfl
theorem rcheck3_fn (k:KindT):FnC Tryz.prog 4 [kindAV k] (iv .i64 (kindE k)):=rcheck3_raw k.new k.lo k.hi k.steps
end Go.Proofs.YtnkhljdifljdbaaGreatDoor
namespace Go.Proofs.YtnkhljdifljdbaaGreatDoor
open Go Go.QL FoT
set_option maxHeartbeats 1600000
set_option maxRecDepth 20000
attribute [local irreducible] ACall FnC
theorem rules_outs (s:SetT):rulesB s=(!(outB s.sl 1 600) && (!(outB s.ld 0 30) && (!(outB s.du 0 30) && (!(outB s.pa 0 5000) && !(outB s.ra 0 1000))))):=by
 unfold rulesB;simp only [zcE,decide_not,Bool.not_not]
theorem odd_fn (s:SetT):FnC Tryz.prog 90 [.a (rulesC s)] (bv (!(rulesB s))):=by
 have o1:=qout_fn s.sl 1 600;have o2:=qout_fn s.ld 0 30;have o3:=qout_fn s.du 0 30;have o4:=qout_fn s.pa 0 5000;have o5:=qout_fn s.ra 0 1000;rw [rules_outs];generalize outB s.sl 1 600=b1 at *;generalize outB s.ld 0 30=b2 at *;generalize outB s.du 0 30=b3 at *;generalize outB s.pa 0 5000=b4 at *;generalize outB s.ra 0 1000=b5 at *;have hr:(!(!b1 && (!b2 && (!b3 && (!b4 && !b5)))))=(bif (bif (bif (bif b1 then true else b2) then true else b3) then true else b4) then true else b5):=by
  cases b1 <;> cases b2 <;> cases b3 <;> cases b4 <;> cases b5 <;> rfl
 rw [hr];refine hdC Tryz.func90 Tryz.ntmps90 (res:=[.tmp 2]) fun w0 K0=>?_
 repeat' first|refine zd ?_|((first|refine zi ?_|refine regA ?_|refine pkA ?_|refine zsn (o1) ?_|refine zsp (o2) ?_|refine zsp (o3) ?_|refine zsp (o4) ?_|refine zsp (o5) ?_|fail);conv=>whnf)|fail
 rfl
abbrev nilC:SV:=.d (.v (.slice none 0 0))
theorem qcheck_fn (s:SetT):FnC Tryz.prog 51 [.a (rulesC s ++ [nilC,nilC])] (bif rulesB s then .t [iv .i64 0,iv .i64 0,iv .i64 0] else .t [iv .i64 1,iv .i64 0,iv .i64 7]):=by
 have o:=odd_fn s;cases hb:rulesB s with
 | false=>
  rw [hb] at o;refine hdC Tryz.func51 Tryz.ntmps51 (res:=[.tmp 2,.tmp 3,.tmp 4]) fun w0 K0=>?_
  repeat' first|refine zd ?_|refine zc ?_|((first|refine zi ?_|refine regA ?_|refine pkA ?_|refine zsn (o) ?_|fail);conv=>whnf)|(refine zsu rfl ?_)|fail
  rfl
 | true=>
  rw [hb] at o;refine hdC Tryz.func51 Tryz.ntmps51 (res:=[.tmp 2,.tmp 3,.tmp 4]) fun w0 K0=>?_
  repeat' first|refine zd ?_|refine zc ?_|((first|refine zf ?_|refine regA ?_|refine pkA ?_|refine zsn (o) ?_|fail);conv=>whnf)|(refine zsv rfl ?_)|fail
  refine zJ (fun _:Unit=>[(30,iv .i64 0),(29,iv .i64 0),(1,.x (.b 1 0))]) (fun _=>[(1,.box (rulesC s ++ [nilC,nilC]))]) (fun _=>True) (fun _=>0) () trivial impA ?_
  intro _ _;repeat' first|refine zd ?_|refine zc ?_|((first|refine zk ?_|refine regA ?_|fail);conv=>whnf)|(refine zsv rfl ?_)|((refine andA ?_);conv=>whnf)|fail
  refine zJ (fun _:Unit=>[(58,iv .i64 0),(57,iv .i64 0)]) (fun _=>[]) (fun _=>True) (fun _=>0) () trivial impA ?_
  intro _ _;repeat' first|refine zd ?_|((first|refine zk ?_|refine zi ?_|refine regA ?_|fail);conv=>whnf)|(refine zsv rfl ?_)|fail
  rfl
end Go.Proofs.YtnkhljdifljdbaaGreatDoor
namespace Go.Proofs.YtnkhljdifljdbaaGreatDoor
open Go Go.QL FoT
set_option maxHeartbeats 3200000
set_option maxRecDepth 20000
attribute [local irreducible] ACall FnC YC
abbrev eQ:AV:=.x (.d (.s 5 []))
abbrev fW:AV:=.x (.f (.func 231) [] [])
theorem qidx_fn:FnC Tryz.prog 265 [eQ,fW] (iv .i64 (-1)):=by
 refine hdC Tryz.func265 Tryz.ntmps265 (res:=[.tmp 4]) fun w0 K0=>?_
 repeat' first|refine zd ?_|refine zc ?_|((refine regA ?_);conv=>whnf)|(refine lnA fun hln=>?_;conv=>whnf)|fail
 refine AW_rounds 1 (Rnd.mk ?_)
 repeat' first|refine zd ?_|((first|refine zk ?_|refine zi ?_|refine regA ?_|fail);conv=>whnf)|(refine za rfl (zM rfl) (fun _=>?_))|fail
 rfl
theorem qcont_fn:FnC Tryz.prog 230 [eQ,fW] (bv false):=by
 have i:=qidx_fn;refine hdC Tryz.func230 Tryz.ntmps230 (res:=[.tmp 4]) fun w0 K0=>?_
 repeat' first|refine zd ?_|((first|refine zi ?_|refine regA ?_|refine zsn (i) ?_|fail);conv=>whnf)|fail
 rfl
theorem qclone_fn:FnC Tryz.prog 179 [.x nC] eQ:=by
 refine zg7 hTt Tryz.func179 rfl (by kernel_rfl) (res:=[.tmp 2]) rfl Tryz.ntmps179 (by simp) fun w0 K0=>?_
 dsimp only [entry];repeat' first|((refine fun (b:Bool) (hln:b=true→_)=>?_);conv=>whnf)|refine zd ?_|((first|refine zf ?_|refine zi ?_|refine regA ?_|fail);conv=>whnf)|(refine zso rfl (fun hb=>?_) (fun hb=>?_))|((refine andA ?_);conv=>whnf)|fail
 ·exact⟨_,rfl,LeAV1.nil 5⟩
 ·exact⟨_,rfl,LeAV.refl _⟩
theorem waits_fn (n:Int) (s:SetT):ACall Tryz.prog 180 [.x (.b 98 7)] [(98,.box (rulesC s ++ [nilC,nilC,iC n,.d (.s 5 [])]))] (fun r σ'=>r=bv false∧σ'=[(98,.box (rulesC s ++ [nilC,nilC,iC n,.d (.s 5 [])]))]):=by
 have i:=qcont_fn;refine hdD Tryz.func180 Tryz.ntmps180 (res:=[.tmp 2]) fun w0 K0 B=>?_
 repeat' first|refine zd ?_|((first|refine zi ?_|refine regA ?_|refine zsn (i) ?_|refine andA ?_|fail);conv=>whnf)|fail
 refine⟨_,_,?_,?_,?_,rfl,rfl⟩ <;> first|exact⟨rfl,trivial⟩|rfl
theorem qnext_fn (s:SetT) (hs:rulesB s=true) (n:Int) (hn:0≤n∧n≤1000000):FnC Tryz.prog 123 [.a (rulesC s ++ [nilC,nilC]),.a [iC n,nC]] (.t [.a [iC 0,iC 0,iC 0,iC 0],.a [iC 0,nC],iv .i64 9]):=by
 have c:=qcheck_fn s;rw [hs] at c;have o:=qout_fn n 0 1000000;rw [show outB n 0 1000000=false by unfold outB;simp;omega] at o;have l:=qclone_fn;have w:=waits_fn n s;refine hdC Tryz.func123 Tryz.ntmps123 (res:=[.cell 4 170,.cell 5 78,.tmp 6]) fun w0 K0=>?_
 repeat' first|refine zd ?_|refine zc ?_|((first|refine zf ?_|refine regA ?_|refine zsn (c) ?_|refine zsn (o) ?_|fail);conv=>whnf)|(refine zsv rfl ?_)|((refine andA ?_);conv=>whnf)|fail
 refine AW_rounds 1 (Rnd.mk ?_)
 repeat' first|refine zd ?_|((first|refine zk ?_|refine zi ?_|refine regA ?_|refine drM (id:=18) 2 [1] false [0,0,1,7,15] ?_|refine LateGo.mk ⟨.x .j,rfl,?_⟩|fail);conv=>whnf)|(refine za rfl (zM rfl) (fun _=>?_))|(refine za rfl (fun _=>?_) (zaf rfl))|((first|refine zsn (l) ?_|refine frA (w) [(98,98)] ?_|refine andA ?_|fail);conv=>whnf)|fail
 rfl
end Go.Proofs.YtnkhljdifljdbaaGreatDoor
namespace Go.Proofs.YtnkhljdifljdbaaGreatDoor
open Go Go.QL FoT
set_option maxHeartbeats 3200000
set_option maxRecDepth 20000
attribute [local irreducible] ACall FnC YC
def atB:ByteArray:=⟨#[97,116]⟩
abbrev sayC (n:Int):List (List PV):=[[.v (.iface 9 (.string atB))],[.v (.iface 3 (.int .i64 n))]]
abbrev numQ (n:Int):ByteArray:=⟨(Lib.itoa n).toArray⟩
abbrev sayB (n:Int):ByteArray:=⟨(Lib.join ([atB,numQ n].map (·.data.toList)) [32]).toArray⟩
theorem Stp.at10 {P:Program} {Γ:Cx} {y:Code} {ops:Array Oper} {b:Bool} {Q:Exit→Fr→Sg→Prop} {fr:Fr} {σ:Sg} (h:Stp P Γ (.seq (.region 10 ops b) y) Q fr σ):AW P Γ (.seq (.region 10 ops b) y) Q fr σ:=by unfold Stp at h;exact h
theorem say_fn (n:Int) (hn:0≤n∧n≤10000000):ACall Tryz.prog 31 [.x (.o 9 1 2)] [(9,.chain 20 1 1 (sayC n))] (fun r σ'=>r=sv (sayB n)∧σ'=[(9,.chain 20 1 1 (sayC n))]):=by
 have cI:zhH Tryz.prog 3:=⟨_,rfl,rfl⟩;have cS:zhH Tryz.prog 9:=⟨_,rfl,rfl⟩;have it:=zod n (by omega) (by omega);have j:=join_fn [atB,numQ n] ⟨#[32]⟩ (by simp) (by simp) (by have:=Lib.itoa_length_le n (by omega) (by omega);simp [Lib.join,List.intercalate,List.intersperse,atB] <;> omega);refine hdD Tryz.func31 Tryz.ntmps31 (res:=[.tmp 2]) fun w0 K0 B=>?_
 repeat' first|refine zd ?_|refine zc ?_|((first|refine regA ?_|refine andA ?_|fail);conv=>whnf)|(refine lnA fun hln=>?_;conv=>whnf)|fail
 refine AW_rounds 3 (Rnd.mk ?_)
 repeat' first|(with_reducible refine Stp.at10 ?_)|((first|with_reducible refine And.intro cI ?_|with_reducible refine And.intro cS ?_|with_reducible refine And.intro (fun h=>absurd h (by decide)) (fun _=>?_)|with_reducible refine And.intro (fun _=>And.intro rfl ?_) (fun h=>absurd rfl h)|with_reducible refine zH hTt (id:=5) ?_|with_reducible refine zH hTt (id:=7) ?_|with_reducible refine zH hTt (id:=8) ?_|fail);conv=>whnf)|refine zd ?_|refine zc ?_|((first|refine zf ?_|refine zk ?_|refine regA ?_|fail);conv=>whnf)|(with_reducible refine Rnd.mk ?_)|(refine za rfl (zM rfl) (fun _=>?_))|(refine za rfl (fun _=>?_) (zaf rfl))|((first|refine⟨_,ze rfl,⟨Nat.le_of_ble_eq_true rfl,rfl⟩,?_⟩|((refine⟨_,_,(it.call (σ:=_) rfl rfl).toP,?_,fun v σ' h=>h.elim⟩);(rintro _ _ ⟨rfl,rfl⟩))|refine zsq ?_|refine andA ?_|fail);conv=>whnf)|fail
 unfold Stp;refine zaq (Imp.freeze 10 (fr':=[(3,.x (.d (.s 1 (strsPV [atB,numQ n]))))]) (σ':=[(9,.chain 20 1 1 (sayC n))]) rfl ⟨⟨_,rfl,.inr ⟨_,rfl,Nat.le_refl 2,rfl⟩⟩,trivial⟩ ⟨rfl,trivial⟩ rfl rfl) ?_
 repeat' first|refine zd ?_|((first|refine zi ?_|refine regA ?_|refine zsn (j) ?_|fail);conv=>whnf)|fail
 refine⟨_,_,?_,?_,?_,rfl,rfl⟩ <;> first|exact⟨rfl,trivial⟩|rfl
end Go.Proofs.YtnkhljdifljdbaaGreatDoor
namespace Go.Proofs.YtnkhljdifljdbaaGreatDoor
open Go Go.QL FoT
set_option maxHeartbeats 3200000
set_option maxRecDepth 20000
attribute [local irreducible] ACall FnC YC PCall AWx EndX zm8
theorem zmC:∃ ms,Tryz.prog.underlying 20=some (.interface ms):=⟨_,Tryz.underlying20⟩
theorem zlB (σ:Sg) (hs:SubS σ σ) (hc:(rsSg σ σ && zbC (σ.map (·.1)) σ)=true):zm8 Tryz.prog 30 ([].map AV.x ++ [SV.b 4 0].map .x) σ .returning (fun u' σ'=>u'=.returning∧σ'=σ):=by
 refine zcR hTt .none rfl Tryz.func30 rfl rfl rfl (by kernel_rfl) (res:=[]) rfl Tryz.ntmps30 (by simp) fun w0 K0 B=>?_
 conv=>whnf
 repeat' first|((with_reducible refine zH hTt (id:=1) ?_);conv=>whnf)|refine zd ?_|((refine zf ?_);conv=>whnf)|(refine And.intro zmC ?_;conv=>whnf)|(refine zsv rfl ?_)|fail
 exact⟨_,σ,hs,hc,rfl,rfl,rfl⟩
def neS:Value→ByteArray→Bool
 | .string s,k=>!(s.data.toList == k.data.toList)
 | _,_=>false
theorem upd_s {kvs:List (Value × AV)} {k:ByteArray} {x:AV} (h:kvs.all (fun p=>neS p.1 k)=true):zk5 kvs (.string k) x (kvs ++ [(.string k,x)]):=
 .inr ⟨fun i y hi=>by
  have:=List.all_eq_true.1 h _ (List.mem_of_getElem? hi);simp [neS] at this,rfl⟩
abbrev runW:Bs8:=[114,117,110]
abbrev chgW:Bs8:=[99,104,97,110,103,101]
abbrev chkW:Bs8:=[99,104,101,99,107]
abbrev DoR (t:ByteArray) (τ : Sg) (r:AV) (σ':Sg):Prop:=r=sv t∧σ' = τ
theorem do_run (s:SetT) (d d':DskT) (text:ByteArray) (ht:text.size≤200) (w:Bs8) (hw:w≠[]) (hsp:Lib.splitB ⟨#[32]⟩ 0 (Lib.countB text ⟨#[32]⟩) text=[bs runW,bs w]) (t:ByteArray)
  (hr:ACall Tryz.prog 37 [.x (.b 901 0),wdsAV [bs w]] (dkS s d) (fun r σ'=>r=sv t∧σ'=dkS s d')) :
  ACall Tryz.prog 20 [.x (.b 901 0),sv text] (dkS s d) (DoR t (dkS s d')):=by
 have m3:=must_b (b:=decide ((text.size:Int)≤200)) (decide_eq_true (by omega)) 3;have sp:=split_fn text ⟨#[32]⟩ (by omega) (by decide);rw [hsp] at sp;have ct:=zdW [runW,w] [];rw [decide_eq_false (by simp [Ne.symm hw])] at ct;have m6:=must_b (b:=!false) rfl 6;have m6':=must_b (b:=true) rfl 6;refine zi0 [] Tryz.func20 rfl (by kernel_rfl) Tryz.ntmps20 (by simp) fun w0 K0 g w hL=>?_
 dsimp only [entry];refine zm9 (Q:=zk6 Tt [.cell 4 9] [901,902] [] (DoR t (dkS s d'))) ?_ (fun e fr τ g' a' w' hr hq=>zg8 (σ:=dkS s d) (res:=[.cell 4 9]) (dfs:=[]) hTt (by rfl) hr hq)
 repeat' first|((refine regA ?_);conv=>whnf)|fail
 refine zna hTt rfl ?_
 conv=>whnf
 refine⟨rfl,?_⟩
 conv=>whnf
 refine⟨rfl,fun B' d hd=>?_⟩
 conv=>whnf
 refine zrx (Q:=zpc Tryz.prog Tt [.cell 4 9] [901,902] [4,901,902] [] (DoR t (dkS s d')) 30 [] [.b 4 0]) ?_ (fun e fr τ g' a' w' hr hq=>zoJ (σ:=dkS s _) (res:=[.cell 4 9]) hTt hL (by rfl) hd hr hq)
 repeat' first|refine zd ?_|((first|refine zi ?_|refine regA ?_|refine zsn (m3) ?_|refine zsn (sp) ?_|refine zsn (ct) ?_|refine zsn (m6) ?_|refine frA (hr) [(901,901),(902,902)] ?_|refine⟨_,upd_s rfl,?_⟩|refine⟨_,true,.inl ⟨rfl,2,rfl⟩,?_⟩|refine⟨_,ze ⟨by decide,rfl⟩,?_⟩|refine andA ?_|fail);conv=>whnf)|fail
 refine⟨[(4,.x (.b 4 0))],(4,.box [.d (.v (.string t))])::dkS s d',⟨rfl,trivial⟩,⟨rfl,rfl,rfl,trivial⟩,by rfl,_,zlB _ ⟨rfl,rfl,rfl,trivial⟩ rfl,?_⟩
 rintro _ _ ⟨rfl,rfl⟩;exact⟨rfl,sv t,dkS s d',⟨rfl,rfl,trivial⟩,rfl,rfl,rfl,rfl⟩
theorem do_change (s:SetT) (d d':DskT) (text:ByteArray) (ht:text.size≤200) (w:Bs8) (hw:w≠[]) (hsp:Lib.splitB ⟨#[32]⟩ 0 (Lib.countB text ⟨#[32]⟩) text=[bs chgW,bs w]) (t:ByteArray)
  (hr:ACall Tryz.prog 41 [.x (.b 901 0),wdsAV [bs w]] (dkS s d) (fun r σ'=>r=sv t∧σ'=dkS s d')) :
  ACall Tryz.prog 20 [.x (.b 901 0),sv text] (dkS s d) (DoR t (dkS s d')):=by
 have m3:=must_b (b:=decide ((text.size:Int)≤200)) (decide_eq_true (by omega)) 3;have sp:=split_fn text ⟨#[32]⟩ (by omega) (by decide);rw [hsp] at sp;have ct:=zdW [chgW,w] [];rw [decide_eq_false (by simp [Ne.symm hw])] at ct;have m6:=must_b (b:=!false) rfl 6;have m6':=must_b (b:=true) rfl 6;refine zi0 [] Tryz.func20 rfl (by kernel_rfl) Tryz.ntmps20 (by simp) fun w0 K0 g w hL=>?_
 dsimp only [entry];refine zm9 (Q:=zk6 Tt [.cell 4 9] [901,902] [] (DoR t (dkS s d'))) ?_ (fun e fr τ g' a' w' hr hq=>zg8 (σ:=dkS s d) (res:=[.cell 4 9]) (dfs:=[]) hTt (by rfl) hr hq)
 repeat' first|((refine regA ?_);conv=>whnf)|fail
 refine zna hTt rfl ?_
 conv=>whnf
 refine⟨rfl,?_⟩
 conv=>whnf
 refine⟨rfl,fun B' d hd=>?_⟩
 conv=>whnf
 refine zrx (Q:=zpc Tryz.prog Tt [.cell 4 9] [901,902] [4,901,902] [] (DoR t (dkS s d')) 30 [] [.b 4 0]) ?_ (fun e fr τ g' a' w' hr hq=>zoJ (σ:=dkS s _) (res:=[.cell 4 9]) hTt hL (by rfl) hd hr hq)
 repeat' first|refine zd ?_|((first|refine zi ?_|refine regA ?_|refine zsn (m3) ?_|refine zsn (sp) ?_|refine zsn (ct) ?_|refine zsn (m6) ?_|refine frA (hr) [(901,901),(902,902)] ?_|refine⟨_,upd_s rfl,?_⟩|refine⟨_,true,.inl ⟨rfl,6,rfl⟩,?_⟩|refine⟨_,ze ⟨by decide,rfl⟩,?_⟩|refine andA ?_|fail);conv=>whnf)|fail
 refine⟨[(4,.x (.b 4 0))],(4,.box [.d (.v (.string t))])::dkS s d',⟨rfl,trivial⟩,⟨rfl,rfl,rfl,trivial⟩,by rfl,_,zlB _ ⟨rfl,rfl,rfl,trivial⟩ rfl,?_⟩
 rintro _ _ ⟨rfl,rfl⟩;exact⟨rfl,sv t,dkS s d',⟨rfl,rfl,trivial⟩,rfl,rfl,rfl,rfl⟩
theorem do_check (s:SetT) (d d':DskT) (text:ByteArray) (ht:text.size≤200) (w0:Bs8) (hw0:w0≠[]) (w1:Bs8) (hw1:w1≠[]) (w2:Bs8) (hw2:w2≠[]) (hsp:Lib.splitB ⟨#[32]⟩ 0 (Lib.countB text ⟨#[32]⟩) text=[bs chkW,bs w0,bs w1,bs w2]) (t:ByteArray)
  (hr:ACall Tryz.prog 39 [.x (.b 901 0),wdsAV [bs w0,bs w1,bs w2]] (dkS s d) (fun r σ'=>r=sv t∧σ'=dkS s d')) :
  ACall Tryz.prog 20 [.x (.b 901 0),sv text] (dkS s d) (DoR t (dkS s d')):=by
 have m3:=must_b (b:=decide ((text.size:Int)≤200)) (decide_eq_true (by omega)) 3;have sp:=split_fn text ⟨#[32]⟩ (by omega) (by decide);rw [hsp] at sp;have ct:=zdW [chkW,w0,w1,w2] [];rw [decide_eq_false (by simp [Ne.symm hw0,Ne.symm hw1,Ne.symm hw2])] at ct;have m6:=must_b (b:=!false) rfl 6;have m6':=must_b (b:=true) rfl 6;refine zi0 [] Tryz.func20 rfl (by kernel_rfl) Tryz.ntmps20 (by simp) fun w0 K0 g w hL=>?_
 dsimp only [entry];refine zm9 (Q:=zk6 Tt [.cell 4 9] [901,902] [] (DoR t (dkS s d'))) ?_ (fun e fr τ g' a' w' hr hq=>zg8 (σ:=dkS s d) (res:=[.cell 4 9]) (dfs:=[]) hTt (by rfl) hr hq)
 repeat' first|((refine regA ?_);conv=>whnf)|fail
 refine zna hTt rfl ?_
 conv=>whnf
 refine⟨rfl,?_⟩
 conv=>whnf
 refine⟨rfl,fun B' d hd=>?_⟩
 conv=>whnf
 refine zrx (Q:=zpc Tryz.prog Tt [.cell 4 9] [901,902] [4,901,902] [] (DoR t (dkS s d')) 30 [] [.b 4 0]) ?_ (fun e fr τ g' a' w' hr hq=>zoJ (σ:=dkS s _) (res:=[.cell 4 9]) hTt hL (by rfl) hd hr hq)
 repeat' first|refine zd ?_|((first|refine zi ?_|refine regA ?_|refine zsn (m3) ?_|refine zsn (sp) ?_|refine zsn (ct) ?_|refine zsn (m6) ?_|refine frA (hr) [(901,901),(902,902)] ?_|refine⟨_,upd_s rfl,?_⟩|refine⟨_,true,.inl ⟨rfl,4,rfl⟩,?_⟩|refine⟨_,ze ⟨by decide,rfl⟩,?_⟩|refine andA ?_|fail);conv=>whnf)|fail
 refine⟨[(4,.x (.b 4 0))],(4,.box [.d (.v (.string t))])::dkS s d',⟨rfl,trivial⟩,⟨rfl,rfl,rfl,trivial⟩,by rfl,_,zlB _ ⟨rfl,rfl,rfl,trivial⟩ rfl,?_⟩
 rintro _ _ ⟨rfl,rfl⟩;exact⟨rfl,sv t,dkS s d',⟨rfl,rfl,trivial⟩,rfl,rfl,rfl,rfl⟩
end Go.Proofs.YtnkhljdifljdbaaGreatDoor
namespace Go.QL.DS
open Go Go.RowKit Go.QL
theorem ACall.same {P:Program} {f:FuncId} {args:List AV} {σ:Sg} {R R':AV→Sg→Prop} (h:ACall P f args σ R) (hr:∀ r σ',R r σ'→∃ σ2,Sup σ' σ2∧Sup σ2 σ'∧R' r σ2):ACall P f args σ R':=
 ⟨h.1,fun w0 K0 g w vs hL hp hs hv=>(h.2 w0 K0 g w vs hL hp hs hv).mono fun e w' ⟨v,g',σ',r,a,b,c,d⟩=>by
  obtain⟨σ2,h1,h2,hR⟩:=hr r σ' d;have keep:∀ s v,SR σ' g' w' s v→SR σ2 g' w' s v:=fun s v hv=>hv.sup h1
  refine⟨v,g',σ2,r,a,⟨⟨b.hp.kept,b.hp.flt,b.hp.ext,b.hp.old,b.hp.val,fun id ob hid=>?_,fun i b' hi hb=>b.hp.own i b' ?_ hb,fun i j b' hi hj=>b.hp.inj i j b' ?_ ?_⟩,fun s v hv=>keep s v (b.keep s v hv)⟩,c.keep keep,hR⟩
  ·have hO:=b.hp.obs id ob (h2 _ _ hid);exact hO.keep keep (Ext.refl _ _) rfl (fun _ _=>rfl) (fun b' hb o=>b.hp.notK (h2 _ _ hid) hb o)
  ·obtain⟨x,hx⟩:=Option.isSome_iff_exists.1 hi;rw [h2 _ _ hx];rfl
  ·obtain⟨x,hx⟩:=Option.isSome_iff_exists.1 hi;rw [h2 _ _ hx];rfl
  ·obtain⟨x,hx⟩:=Option.isSome_iff_exists.1 hj;rw [h2 _ _ hx];rfl⟩
theorem SubR_id {σE:Sg}:∀ {σ0:Sg},rnSg (fun i=>i) σ0=σ0→SubS σE σ0→SubR (fun i=>i) σE σ0
 | [],_,_=>trivial
 | (i,o)::r,hn,hs=>by
  simp only [rnSg,List.cons.injEq,Prod.mk.injEq] at hn;exact⟨by rw [hn.1.2];exact hs.1,SubR_id hn.2 hs.2⟩
theorem SubS_sup {σ' σE:Sg} (h:Sup σ' σE):∀ {σ0:Sg},SubS σ' σ0→SubS σE σ0
 | [],_=>trivial
 | (_,_)::_,hs=>⟨h _ _ hs.1,SubS_sup h hs.2⟩
theorem ACall.read {P:Program} {f:FuncId} {args:List AV} {rv:AV} {σ0 σ1:Sg} (h:ACall P f args σ0 (fun r σ'=>r=rv∧σ'=σ0)) (ha:args.map (rnAV fun i=>i)=args) (hr:rnAV (fun i=>i) rv=rv) (hn:rnSg (fun i=>i) σ0=σ0)
  (hc:(args.all (zeR σ0) && rsSg σ0 σ0 && injK (fun i=>i) (σ0.map (·.1)) && (σ0.map (·.1)).all fun i=>(σ0.map (·.1)).any (Nat.beq i))=true) (hs:SubS σ1 σ0) (σE:Sg) (_:∀ p ∈ ([]:Sg),lk p.1 σE=none) (hE:Sup σ1 σE) :
  ACall P f args σE (fun r' σ'=>r'=rv∧σ'=[] ++ σE):=by
 rw [Bool.and_eq_true,Bool.and_eq_true,Bool.and_eq_true] at hc;obtain⟨⟨⟨c1,c2⟩,c3⟩,c4⟩:=hc;have hsE:=SubS_sup hE hs;have k:=h.frame (fun i=>i) (σ:=σE) (SubR_id hn hsE) (by rw [c1,c2,c3];rfl) (fun r1 σ' hR=>by
  obtain⟨rfl,rfl⟩:=hR;unfold zdN;rw [c3,c4,Bool.true_and,Bool.true_and,List.all_eq_true];intro i hi;rw [List.all_eq_true] at c4;rw [c4 i hi];rfl)
 rw [ha] at k;refine ACall.same k fun r σ' hR=>?_
 obtain⟨r1,σ2,⟨rfl,rfl⟩,rfl,rfl⟩:=hR;refine⟨[] ++ σE,?_,?_,hr,rfl⟩ <;> unfold after <;> rw [hn,List.map_id'] <;> intro t v hl
 ·rw [zel] at hl;show lk t σE=some v
  split at hl
  ·rename_i x hx;cases hl;exact za9 hsE t _ hx
  ·rename_i hx;by_cases hm:t ∈ σ2.map (·.1)
   ·rw [zpR hm] at hl;cases hl
   ·rw [zfb hm] at hl;exact hl
 ·rw [zel];have hl:lk t σE=some v:=hl;split
  ·rename_i x hx;have:=za9 hsE t _ hx;rw [this] at hl;exact hl
  ·rename_i hx;have hm:t ∉ σ2.map (·.1):=fun hm=>by
    have:=zz.2 hm;rw [hx] at this;cases this
   rw [zfb hm];exact hl
end Go.QL.DS
namespace Go.Proofs.YtnkhljdifljdbaaGreatDoor
open Go Go.QL FoT
set_option maxHeartbeats 3200000
set_option maxRecDepth 20000
attribute [local irreducible] ACall FnC YC PCall AWx EndX zm8
abbrev rF:Fr:=[(29,.x (.f (.func 122) [] [.b 913 0,.b 914 0])),(6,.x (.b 6 0)),(2,.x (.b 2 0))]
abbrev lpR (asg bdy:Code) (st:LoopState) (pd:Option Code):Ob:=.x (.loop st pd #[30] asg bdy 138 rF 931)
abbrev rS (s:SetT) (d:DskT) (u:Int):Sg:=[(931,.x .dfr),(914,.box [iC u]),(913,.box [.b 901 0]),(901,.box (dkC s d)),(902,.chain 124 2 0 [[.v (.int .i64 d.since),cksPV d.cks]]),(2,.box [.b 901 0]),(6,.box [nC])]
abbrev rG (asg bdy:Code) (s:SetT) (d:DskT) (u:Int):Sg:=(930,lpR asg bdy .ready none)::rS s d u
abbrev spC (n u:Int):List SV:=[iC 6,iC (-1),iC n,iC u]
abbrev rB (asg bdy:Code) (s:SetT) (d:DskT) (n u:Int):Sg:=(4,.box (spC n u))::(5,.box [iC u,nC])::rG asg bdy s d u
theorem spells_fn (s:SetT) (k:KindT) (hv:s.valves=[k]) (d:DskT) (u:Int) :
  ACall Tryz.prog 72 [.x (.b 901 0),iv .i64 u] (dkS s d) (fun r σ'=>r=.x (.f (.func 122) [] [.b 2 0,.b 3 0])∧σ'=(3,.box [iC u])::(2,.box [.b 901 0])::dkS s d):=by
 unfold dkS dkC setC;rw [hv];generalize cksPV d.cks=Q;refine hdD Tryz.func72 Tryz.ntmps72 (res:=[.tmp 4]) fun w0 K0 B=>?_
 repeat' first|refine zd ?_|((first|refine zi ?_|refine regA ?_|fail);conv=>whnf)|fail
 refine⟨_,_,?_,?_,?_,rfl,rfl⟩ <;> first|exact⟨rfl,rfl,rfl,rfl,trivial⟩|rfl
theorem Stp.at6 {P:Program} {Γ:Cx} {y:Code} {ops:Array Oper} {b:Bool} {Q:Exit→Fr→Sg→Prop} {fr:Fr} {σ:Sg} (h:Stp P Γ (.seq (.region 6 ops b) y) Q fr σ):AW P Γ (.seq (.region 6 ops b) y) Q fr σ:=by unfold Stp at h;exact h
theorem spell1_fn {asg bdy:Code} (s:SetT) (hs:rulesB s=true) (k:KindT) (hv:s.valves=[k]) (d d':DskT) (u:Int) (hn:0≤d.now∧d.now < u∧u≤1000000) (hd':d'.now=u)
  (hy:YC Tryz.prog 930 [.a (spC d.now u)] (rB asg bdy s ⟨u,d.idle,d.since,d.cks⟩ d.now u) (fun r σ'=>r=bv true∧σ'=rB asg bdy s d' d.now u)) :
  ACall Tryz.prog 122 [.x (.h 930),.x (.b 913 0),.x (.b 914 0)] (rG asg bdy s d u) (fun r σ'=>r=.t []∧σ'=rG asg bdy s d' u):=by
 have wk:=dwork_fn s k hv d;have nx:=qnext_fn s hs d.now (by omega);have hlt:decide (d.now < u)=true:=decide_eq_true hn.2.1;have hlf:decide (d'.now < u)=false:=decide_eq_false (by omega);have nc:=DS.ACall.anew (nx.call (σ:=[]) rfl rfl) (asc []) (args':=[.a (rulesC s ++ [nilC,nilC]),.a [iC d.now,nC]]) (rv':=.t [.a [iC 0,iC 0,iC 0,iC 0],.a [iC 0,nC],iv .i64 9]) (nob':=[]) rfl rfl rfl rfl;subst hd';unfold rB rG rS dkC dkS dkC setC at *;rw [hv] at *;generalize cksPV d.cks=Q at *;generalize cksPV d'.cks=Q' at *;refine hdD Tryz.func122 Tryz.ntmps122 (res:=[]) fun w0 K0 B=>?_
 repeat' first|refine zc ?_|fail
 refine AW_rounds 2 (Rnd.mk ?_)
 repeat' first|(with_reducible refine Stp.at6 ?_)|((first|refine DS.AW_drawT hTt hMix (id:=1) 13 15 true [9,10] [⟨13,false,false,[9,10],[]⟩,⟨14,false,false,[10],[]⟩] [0,1,0,4,12,28,63,127,255,255,255,0,0,6655,15359,32767] (by kernel_rfl) rfl rfl (by kernel_rfl) rfl ?_|refine zkA hTt hMix (id:=3) 12 [0,1,2,3,4,5,6,7,8,9,10] [⟨11,false,false,[7,8,9,10],[]⟩] [0,1,3,7,15,0,63,0,128,384,896,127,4095] (by kernel_rfl) rfl (by kernel_rfl) (by kernel_rfl) (by kernel_rfl) ?_|fail);conv=>whnf)|refine zd ?_|refine zc ?_|((first|refine zf ?_|refine regA ?_|refine drA (id:=0) 6 false [0,1,3,7,15,0,63] ?_|refine LateGo.mk ⟨.x .j,rfl,?_⟩|fail);conv=>whnf)|(refine za rfl (fun _=>?_) (zaf hlt))|((first|refine⟨_,_,rfl,DS.ACall.read wk rfl rfl rfl rfl ⟨rfl,rfl,trivial⟩,?_⟩|refine⟨_,_,rfl,fun σE h _=>nc σE h,?_⟩|refine And.intro rfl ?_|fail);conv=>whnf)|(refine zsu rfl ?_)|((refine andA ?_);conv=>whnf)|fail
 unfold Stp;refine zaq (Imp.forget (fr':=[(4,.x (.b 4 0)),(0,.x (.h 930)),(1,.x (.b 913 0)),(2,.x (.b 914 0))]) (σ':=[(4,.box (spC d.now d'.now)),(5,.box [iC d'.now,nC]),(930,lpR asg bdy .ready none),(931,.x .dfr),(914,.box [iC d'.now]),(913,.box [.b 901 0]),(901,.box ([iC s.sl,iC s.ld,iC s.du,iC s.pa,iC s.ra,.d (zac s.users),.d (.s 4 ([k].map kindPV))] ++ [iC d'.now,nC,nC,nC,nC,.o 902 0 1,iC 0,iC 0,iC 0,iC d.idle])),(902,.chain 124 2 0 [[.v (.int .i64 d.since),Q]]),(2,.box [.b 901 0]),(6,.box [nC])]) ⟨rfl,rfl,rfl,rfl,trivial⟩ ⟨rfl,rfl,rfl,rfl,rfl,rfl,rfl,rfl,rfl,rfl,trivial⟩ rfl) ?_
 repeat' first|refine zd ?_|((first|refine zf ?_|refine zk ?_|refine regA ?_|refine drA (id:=0) 6 false [0,1,3,7,15,0,63] ?_|fail);conv=>whnf)|(with_reducible refine Rnd.mk ?_)|(refine za rfl (zM hlf) (fun _=>?_))|(refine za rfl (zM rfl) (fun _=>?_))|((first|((refine⟨_,hy,?_⟩);(rintro _ _ ⟨rfl,rfl⟩))|refine andA ?_|fail);conv=>whnf)|fail
 exact⟨_,[(930,lpR asg bdy .ready none),(931,.x .dfr),(914,.box [iC d'.now]),(913,.box [.b 901 0]),(901,.box ([iC s.sl,iC s.ld,iC s.du,iC s.pa,iC s.ra,.d (zac s.users),.d (.s 4 ([k].map kindPV))] ++ [iC d'.now,nC,nC,nC,nC,.o 902 0 1,iC 0,iC 0,iC 0,iC d'.idle])),(902,.chain 124 2 0 [[.v (.int .i64 d'.since),Q']]),(2,.box [.b 901 0]),(6,.box [nC])],⟨rfl,rfl,rfl,rfl,rfl,rfl,rfl,rfl,trivial⟩,rfl,rfl,rfl,rfl⟩
end Go.Proofs.YtnkhljdifljdbaaGreatDoor
namespace Go.Proofs.YtnkhljdifljdbaaGreatDoor
open Go Go.QL FoT
set_option maxHeartbeats 3200000
set_option maxRecDepth 20000
attribute [local irreducible] ACall FnC YC PCall AWx EndX zm8
theorem run_fn (s:SetT) (hs:rulesB s=true) (k:KindT) (hv:s.valves=[k]) (d:DskT) (n:Nat) (hn:1≤n∧n < 5000) (h0:0≤d.now∧d.now≤900000) (hi:0≤d.idle∧d.idle≤900000) :
  ACall Tryz.prog 37 [.x (.b 901 0),wdsAV [bs (dig n)]] (dkS s d) (fun r σ'=>r=sv (sayB (d.now+n))∧σ'=dkS s ⟨d.now+n,d.idle+n,d.since,d.cks⟩):=by
 have nb:=number_fn n hn.2;have m6:=must_b (b:=(1:Int) == 1) rfl 6;have po:=pout_fn n 1 5000;rw [show outB (n:Int) 1 5000=false from zQ.2 (by omega)] at po;have m7:=must_b (b:=!false) rfl 7;have sp:=spells_fn s k hv d (d.now+n);have e1:IntKind.i64.wrap (d.now+(n:Int))=d.now+n:=zg (by omega);have e2:IntKind.i64.wrap (d.now+(n:Int) - d.now)=n:=by rw [zg (by omega)];omega
 have e3:IntKind.i64.wrap (d.idle+(n:Int))=d.idle+n:=zg (by omega);have sy:=say_fn (d.now+n) (by omega);unfold wdsAV;generalize bs (dig n)=w at *;refine zpe hTt [931] Tryz.func37 rfl (by kernel_rfl) (res:=[.tmp 4]) rfl Tryz.ntmps37 (by simp) fun w0 K0 B=>?_
 dsimp only [entry];repeat' first|refine zd ?_|refine zc ?_|((first|refine regA ?_|refine drA (id:=5) 8 false [0,0,2,6,14,30,0,126,255] ?_|refine zsn (nb) ?_|refine zsn (m6) ?_|refine zsn (m7) ?_|refine zsn (po) ?_|refine⟨_,e1,?_⟩|refine frA (sp) [(901,901),(902,902),(2,913),(3,914)] ?_|refine⟨_,ze ⟨by decide,rfl⟩,?_⟩|refine andA ?_|fail);conv=>whnf)|(refine lnA fun hln=>?_;conv=>whnf)|fail
 refine zaq (Imp.forget (fr':=rF) (σ':=(rG .skip .skip s d (d.now+n)).tail.tail) ⟨rfl,rfl,rfl,trivial⟩ ⟨rfl,rfl,rfl,rfl,rfl,rfl,trivial⟩ rfl) ?_
 refine ziZ 930 931 rfl rfl rfl (by decide) (by simp [Cx.dfrd]) rfl _ (spell1_fn s hs k hv d ⟨d.now+n,d.idle+n,d.since,d.cks⟩ (d.now+n) (by omega) rfl ?hy) ?hk
 case hy=>
  refine zoH (pend:=none) rfl rfl (by decide) rfl ?_
  intro w0 K0 B b;dsimp only [zk2];repeat' first|((refine regA ?_);conv=>whnf)|fail
  refine⟨_,rfl,?_⟩
  repeat' first|refine zd ?_|refine zc ?_|((first|refine zf ?_|refine regA ?_|refine⟨_,e2,?_⟩|refine⟨_,e3,?_⟩|fail);conv=>whnf)|(refine za rfl (zM rfl) (fun _=>?_))|(refine za rfl (fun _=>?_) (zaf rfl))|((refine andA ?_);conv=>whnf)|fail
  refine⟨zat 930 (.x (.loop .busy none #[30] ?asg ?bdy 138 rF 931)) (rB ?asg ?bdy s ⟨d.now+n,d.idle+n,d.since,d.cks⟩ d.now (d.now+n)),none,?h1,?h2,?h3,?h4⟩
  case h3=>exact rfl
  case h1=>exact⟨rfl,rfl,rfl,rfl,rfl,rfl,rfl,rfl,rfl,rfl,trivial⟩
  case h2=>rfl
  case h4=>exact⟨rfl,rfl⟩
 case hk=>
  rintro rv σ' ⟨rfl,rfl⟩;refine⟨rfl,.ready,none,rfl,by decide,?_⟩
  dsimp only;conv=>whnf
  have cI:zhH Tryz.prog 3:=⟨_,rfl,rfl⟩;have cS:zhH Tryz.prog 9:=⟨_,rfl,rfl⟩;repeat' first|((first|refine DS.AW_drawT hTt hMix (id:=21) 9 9 true [] [] [0,0,2,6,14,30,62,127,0,511,1023,2047] (by kernel_rfl) rfl rfl (by kernel_rfl) rfl ?_|refine And.intro (rfl:DS.okRe _ _=true) ?_|with_reducible refine And.intro cI ?_|with_reducible refine And.intro cS ?_|fail);conv=>whnf)|refine zd ?_|((first|refine zi ?_|refine frA (sy) [(9,134)] ?_|refine andA ?_|fail);conv=>whnf)|fail
  exact⟨[(4,sv (sayB (d.now+n)))],dkS s ⟨d.now+n,d.idle+n,d.since,d.cks⟩,⟨rfl,trivial⟩,⟨rfl,rfl,trivial⟩,rfl,sv (sayB (d.now+n)),dkS s ⟨d.now+n,d.idle+n,d.since,d.cks⟩,⟨rfl,rfl,trivial⟩,rfl,rfl,rfl,rfl⟩
end Go.Proofs.YtnkhljdifljdbaaGreatDoor
namespace Go.Proofs.YtnkhljdifljdbaaGreatDoor
open Go Go.QL FoT
set_option maxHeartbeats 1600000
attribute [local irreducible] ACall FnC
structure TubeT where
 k:KindT
 wear:List Nat
 hours:List Nat
 volts:List Nat
 chg:List Bool
def turnL (l:List Nat) (n:Nat):Int:=if l=[] then 0 else ((l.getD (n % l.length) 0:Nat):Int)
theorem turnL_nn (l:List Nat) (n:Nat):0≤turnL l n:=by unfold turnL;split <;> omega
def wearI (x:TubeT) (t:Nat):Int:=(turnL x.wear t).tmod (x.k.hi - x.k.lo+1)
def nextS (x:TubeT) (s:Int) (t:Nat):Int:=max 0 (s - x.k.lo - wearI x t)
def runS (x:TubeT) (s:Int) (now:Nat):Nat→Int
 | 0=>s
 | n+1=>nextS x (runS x s now n) (now+n+1)
structure EvT where
 now:Nat
 since:Nat
 cks:List ChkT
 str:Int
def evN (x:TubeT) (i:Nat):Nat:=1+x.hours.getD i 0 % 80
def evC (x:TubeT) (i:Nat):Bool:=decide (0 < x.chg.length) && x.chg.getD (i % x.chg.length) false
def evV (x:TubeT) (i:Nat):Int:=leastV x.k+(turnL x.volts i).tmod (1000 - leastV x.k+1)
def evP (x:TubeT) (i:Nat) (s:Int):Bool:=decide (needL x.k.steps (evV x i)≤s)
def mid (x:TubeT) (i:Nat) (e:EvT):EvT:=⟨e.now+evN x i,e.since,e.cks,runS x e.str e.now (evN x i)⟩
def stp (x:TubeT) (i:Nat) (e:EvT):EvT:=
 if evC x i=true then ⟨e.now,e.now,[],x.k.new⟩ else ⟨e.now,e.since,e.cks ++ [⟨(e.now:Int) - e.since,evV x i,evP x i e.str⟩],e.str⟩
def ev (x:TubeT):Nat→EvT
 | 0=>⟨0,0,[],x.k.new⟩
 | i+1=>stp x i (mid x i (ev x i))
theorem tmod_in {a b:Int} (ha:0≤a) (hb:0 < b):0≤a.tmod b∧a.tmod b < b:=by
 rw [Int.tmod_eq_emod_of_nonneg ha];exact⟨Int.emod_nonneg _ (by omega),Int.emod_lt_of_pos _ hb⟩
theorem wear_in (x:TubeT) (hk:KGood x.k) (t:Nat):0≤wearI x t∧wearI x t≤x.k.hi - x.k.lo:=by
 have:=hk.lo;have:=tmod_in (turnL_nn x.wear t) (b:=x.k.hi - x.k.lo+1) (by omega);unfold wearI;omega
theorem least_in {k:KindT} (hk:KGood k):0≤leastV k∧leastV k≤1000:=by
 have hl:=hk.len.1;unfold leastV;have:=hk.steps (k.steps.getLastD (0,0)) (by
  rw [List.getLastD_eq_getLast?,List.getLast?_eq_getElem?,List.getElem?_eq_getElem (by omega)];exact List.getElem_mem _)
 exact this.1
theorem volt_in (x:TubeT) (hk:KGood x.k) (i:Nat):leastV x.k≤evV x i∧evV x i≤1000:=by
 have:=least_in hk;have:=tmod_in (turnL_nn x.volts i) (b:=1000 - leastV x.k+1) (by omega);unfold evV;omega
theorem evN_in (x:TubeT) (i:Nat):1≤evN x i∧evN x i≤80:=by unfold evN;omega
structure EvI (x:TubeT) (i:Nat) (e:EvT):Prop where
 now:e.now≤80 * i
 since:e.since≤e.now
 len:e.cks.length≤i
 ok:okC x.k 0 e.cks
 known:∃ (fs:SpanQ) (fh:Nat),runC x.k e.cks 0 (x.k.new,x.k.new)=some (fs,(fh:Int))∧(∀ c ∈ e.cks,c.hour≤fh)∧e.since+fh≤e.now∧nonneg fs∧inSpan e.str (spanW x.k.lo x.k.hi fs (((e.now:Int) - e.since) - fh))
theorem run_in (x:TubeT) (hk:KGood x.k) (s:Int) (now:Nat) (q:SpanQ) (d:Nat) (h:inSpan s (spanW x.k.lo x.k.hi q d)):∀ n:Nat,inSpan (runS x s now n) (spanW x.k.lo x.k.hi q ((d+n:Nat):Int))
 | 0=>h
 | n+1=>by
  have h1:=hour_in (run_in x hk s now q d h n) (wear_in x hk (now+n+1));have hl:=hk.lo;rw [spanW_add hl.1 (by omega) q (by decide:(0:Int)≤1)] at h1;unfold runS nextS;rw [show ((d+(n+1):Nat):Int)=((d+n:Nat):Int)+1 by omega];exact h1
theorem okC_snoc {k:KindT} {c:ChkT} (h1:0≤c.hour∧c.hour≤100000) (h2:leastV k≤c.volt∧c.volt≤1000):∀ {l:List ChkT} {h:Int},okC k h l→h≤c.hour→(∀ d ∈ l,d.hour≤c.hour)→okC k h (l ++ [c])
 | [],h,_,hh,_=>⟨hh,h1.2,h2.1,h2.2,trivial⟩
 | d::r,h,ho,hh,hd=>⟨ho.1,ho.2.1,ho.2.2.1,ho.2.2.2.1,okC_snoc h1 h2 ho.2.2.2.2 (hd d (by simp)) fun e he=>hd e (by simp [he])⟩
theorem ev0 (x:TubeT) (hk:KGood x.k):EvI x 0 (ev x 0):=by
 refine⟨Nat.le_refl _,Nat.le_refl _,Nat.le_refl _,trivial,(x.k.new,x.k.new),0,rfl,fun c hc=>(by cases hc),Nat.le_refl _,?_,?_⟩
 ·have:=hk.new;unfold nonneg;dsimp only;omega
 ·show inSpan x.k.new (spanW x.k.lo x.k.hi (x.k.new,x.k.new) 0)
  have:=hk.new;rw [spanW_zero (by dsimp only;omega)];exact⟨Int.le_refl _,Int.le_refl _⟩
theorem mid_in (x:TubeT) (hk:KGood x.k) (i:Nat) (e:EvT) (h:EvI x i e):(mid x i e).now≤80 * (i+1)∧(mid x i e).since≤(mid x i e).now ∧
  ∃ (fs:SpanQ) (fh:Nat),runC x.k e.cks 0 (x.k.new,x.k.new)=some (fs,(fh:Int))∧(∀ c ∈ e.cks,c.hour≤fh)∧e.since+fh≤(mid x i e).now∧nonneg fs∧inSpan (mid x i e).str (spanW x.k.lo x.k.hi fs ((((mid x i e).now:Int) - e.since) - fh)):=by
 obtain⟨h1,h2,_,_,fs,fh,h3,h4,h5,h6,h7⟩:=h;have hn:=evN_in x i;unfold mid;dsimp only;refine⟨by omega,by omega,fs,fh,h3,h4,by omega,h6,?_⟩
 obtain⟨d,hd⟩:∃ d:Nat,((e.now:Int) - e.since) - fh=d:=⟨e.now - e.since - fh,by omega⟩;rw [hd] at h7;have:=run_in x hk e.str e.now fs d h7 (evN x i);rw [show (((e.now+evN x i:Nat):Int) - e.since) - fh=((d+evN x i:Nat):Int) by omega];exact this
theorem chk_known (x:TubeT) (hk:KGood x.k) (i:Nat) (hi:i < 12) (e:EvT) (h:EvI x i e):∃ sp,nonneg sp∧KnownV x.k (e.cks ++ [⟨((mid x i e).now:Int) - e.since,evV x i,evP x i (mid x i e).str⟩]) (((mid x i e).now:Int) - e.since) sp∧inSpan (mid x i e).str sp ∧
  runC x.k (e.cks ++ [⟨((mid x i e).now:Int) - e.since,evV x i,evP x i (mid x i e).str⟩]) 0 (x.k.new,x.k.new)=some (sp,((mid x i e).now:Int) - e.since):=by
 obtain⟨m1,m2,fs,fh,h3,h4,h5,h6,h7⟩:=mid_in x hk i e h;have m2:e.since≤(mid x i e).now:=m2;have hv:=volt_in x hk i;have hl:=h.len;have hlo:=hk.lo;generalize hh:((mid x i e).now:Int) - e.since=hr at *;have hr0:(fh:Int)≤hr:=by omega
 have hr1:hr≤100000:=by omega
 have hin:=check_in (need:=needL x.k.steps (evV x i)) h7;have hle:=span_le hin;have hnn:=spanR_nn (needL_in hk.steps (evV x i)) (spanW_nn hk h6 (d:=hr - fh) (by omega)) hle;refine⟨spanR (needL x.k.steps (evV x i)) (spanW x.k.lo x.k.hi fs (hr - fh)) (evP x i (mid x i e).str),hnn,⟨?_,?_,⟨by omega,hr1⟩,spanR (needL x.k.steps (evV x i)) (spanW x.k.lo x.k.hi fs (hr - fh)) (evP x i (mid x i e).str),hr,?_,Int.le_refl _,?_⟩,hin,?_⟩
 ·exact okC_snoc ⟨by dsimp only;omega,by dsimp only;omega⟩ hv h.ok (by dsimp only;omega) (fun d hd=>by have:=h4 d hd;dsimp only;omega)
 ·simp;omega
 ·rw [runC_snoc,h3];unfold evP;simp only [Option.bind_some,runC];rw [if_pos hle]
 ·rw [show hr - hr=0 by omega];exact (spanW_zero ⟨hnn.1.1,hnn.2.1⟩).symm
 ·rw [runC_snoc,h3];unfold evP;simp only [Option.bind_some,runC];rw [if_pos hle]
theorem ev_in (x:TubeT) (hk:KGood x.k):∀ i:Nat,i≤12→EvI x i (ev x i)
 | 0,_=>ev0 x hk
 | i+1,hi=>by
  have h:=ev_in x hk i (by omega);obtain⟨m1,m2,_⟩:=mid_in x hk i _ h;obtain⟨sp,k1,k2,k3,k4⟩:=chk_known x hk i (by omega) _ h;show EvI x (i+1) (stp x i (mid x i (ev x i)))
  unfold stp;split
  ·refine⟨m1,Nat.le_refl _,Nat.zero_le _,trivial,(x.k.new,x.k.new),0,rfl,fun c hc=>(by cases hc),Nat.le_refl _,?_,?_⟩
   ·have:=hk.new;unfold nonneg;dsimp only;omega
   ·dsimp only;have:=hk.new;rw [show (((mid x i (ev x i)).now:Int) - (mid x i (ev x i)).now) - ((0:Nat):Int)=0 by omega,spanW_zero (by dsimp only;omega)];exact⟨Int.le_refl _,Int.le_refl _⟩
  ·have e1:(mid x i (ev x i)).since=(ev x i).since:=rfl;have e2:(mid x i (ev x i)).cks=(ev x i).cks:=rfl;rw [e1,e2];have hh:∃ fh:Nat,((mid x i (ev x i)).now:Int) - (ev x i).since=fh:=⟨(mid x i (ev x i)).now - (ev x i).since,by omega⟩;obtain⟨fh,hh⟩:=hh;rw [hh] at k2 k4 ⊢;refine⟨m1,m2,?_,k2.1,sp,fh,k4,fun c hc=>?_,by dsimp only;omega,k1,?_⟩
   ·have:=h.len;simp;omega
   ·rcases List.mem_append.1 hc with hc|hc
    ·obtain⟨_,_,fs,fh',_,h4,h5,_⟩:=mid_in x hk i _ h;have:=h4 c hc;omega
    ·rw [List.mem_singleton.1 hc];exact Int.le_refl _
   ·dsimp only;rw [hh,show (fh:Int) - fh=0 by omega,spanW_zero ⟨k1.1.1,k1.2.1⟩];exact k3
theorem ev_end (x:TubeT) (hk:KGood x.k) (i:Nat) (hi:i≤12):∃ sp a b,nonneg sp∧KnownV x.k (ev x i).cks (((ev x i).now:Int) - (ev x i).since) sp∧failsK x.k sp (((ev x i).now:Int) - (ev x i).since)=(a,b)∧(-1≤a∧a≤10000000)∧(-1≤b∧b≤10000000) ∧
  (∀ d:Nat,runS x (ev x i).str (ev x i).now d < needL x.k.steps 1000→(∀ d':Nat,d' < d→needL x.k.steps 1000≤runS x (ev x i).str (ev x i).now d') →
   ((ev x i).now:Int)≤addN a (ev x i).since∧addN a (ev x i).since≤(ev x i).now+d∧(addN b (ev x i).since < 0∨(ev x i).now+d≤addN b (ev x i).since)) ∧
  (∀ d:Nat,needL x.k.steps 1000≤runS x (ev x i).str (ev x i).now d→addN b (ev x i).since < 0∨(ev x i).now+d < addN b (ev x i).since):=by
 have h:=ev_in x hk i hi;generalize ev x i=e at *;obtain⟨h1,h2,h3,h4,fs,fh,h5,h6,h7,h8,h9⟩:=h;have hlo:=hk.lo;have hnd:=needL_in hk.steps 1000;obtain⟨hr,hh⟩:∃ hr:Nat,(e.now:Int) - e.since=hr:=⟨e.now - e.since,by omega⟩;rw [hh] at h9 ⊢;have hd0:(0:Int)≤(hr:Int) - fh:=by omega
 have hnn:=spanW_nn hk h8 hd0;have hin:∀ d:Nat,inSpan (runS x e.str e.now d) (spanW x.k.lo x.k.hi (spanW x.k.lo x.k.hi fs ((hr:Int) - fh)) (d:Int)):=by
  intro d;obtain⟨d0,hd0'⟩:∃ d0:Nat,(hr:Int) - fh=d0:=⟨hr - fh,by omega⟩;rw [hd0'] at h9 ⊢;have:=run_in x hk e.str e.now fs d0 h9 d;rw [spanW_add hlo.1 (by omega) fs (by omega:(0:Int)≤d)];rw [← Int.natCast_add];exact this
 generalize hsp:spanW x.k.lo x.k.hi fs ((hr:Int) - fh)=sp at *;have hb:∀ (s w:Int),0≤s∧s≤1000000→0≤w→-1≤firstV (needL x.k.steps 1000) hr s w∧firstV (needL x.k.steps 1000) hr s w≤10000000:=by
  intro s w hs hw;have hnd:=needL_in hk.steps 1000;have hq:=Int.ediv_nonneg (a:=s - needL x.k.steps 1000) (b:=w);have hq2:∀ (a:Int),0≤a→a / w≤a:=fun a ha=>Int.ediv_le_self w ha
  have hq2:=hq2 (s - needL x.k.steps 1000);unfold firstV;split
  ·omega
  ·split
   ·omega
   ·have:=hq (by omega) hw;have:=hq2 (by omega);omega
 refine⟨sp,_,_,hnn,⟨h4,by omega,⟨by omega,by omega⟩,fs,fh,h5,by omega,hsp.symm⟩,rfl,hb _ _ hnn.1 (by omega),hb _ _ hnn.2 hlo.1,?_,?_⟩
 ·intro d hd hp;obtain⟨a1,a2⟩:=early (now:=hr) (by omega:(0:Int)≤x.k.hi) (hin d) hd;have hge:=firstV_ge (need:=needL x.k.steps 1000) (now:=hr) (st:=sp.2) (wear:=x.k.lo) hlo.1;refine⟨?_,?_,?_⟩
  ·unfold addN;rw [if_pos (by omega)];omega
  ·unfold addN;rw [if_pos (by omega)];omega
  ·cases d with
   | zero=>
    unfold addN;rcases hge with hge|hge
    ·rw [hge];left;rw [if_neg (by decide)];decide
    ·right;rw [if_pos (by omega)];omega
   | succ d=>
    have:=late_at (now:=hr) hlo.1 hnn.2.1 (needL_in hk.steps 1000).1 (hin d) (hp d (Nat.lt_succ_self d));unfold addN;rcases this with h|h
    ·left;rw [if_neg (by omega)];exact h
    ·right;rw [if_pos (by omega)];omega
 ·intro d hd;have:=late_at (now:=hr) hlo.1 hnn.2.1 (needL_in hk.steps 1000).1 (hin d) hd;unfold addN;rcases this with h|h
  ·left;rw [if_neg (by omega)];exact h
  ·right;rw [if_pos (by omega)];omega
end Go.Proofs.YtnkhljdifljdbaaGreatDoor
namespace Go.Proofs.YtnkhljdifljdbaaGreatDoor
open Go Go.QL FoT
set_option maxHeartbeats 1600000
set_option maxRecDepth 20000
attribute [local irreducible] ACall FnC
theorem pcheck_fn (s:SetT) (hv:∀ k ∈ s.valves,KindOK k):FnC Tryz.prog 29 [setAV s] (res3 (checkS s)):=by
 have q:=qcheck_fn s;have hlv:(s.users.map zaa).length=s.users.length:=List.length_map _;have hlk:(s.valves.map kindPV).length=s.valves.length:=List.length_map _;have o1:=pout_fn ((s.users.map zaa).length:Int) 1 6;unfold checkS;cases hb:rulesB s with
 | false=>
  rw [hb] at q;rw [if_pos rfl];refine hdC Tryz.func29 Tryz.ntmps29 (res:=[.tmp 2,.tmp 3,.tmp 4]) fun w0 K0=>?_
  repeat' first|refine zd ?_|((first|refine zi ?_|refine regA ?_|refine zsn (q) ?_|refine pkA ?_|fail);conv=>whnf)|(refine zsu rfl ?_)|fail
  rfl
 | true=>
  rw [hb] at q;rw [if_neg (by decide)];by_cases c1:¬ (1≤s.users.length∧s.users.length≤6)∨6 < s.valves.length
  ·rw [if_pos c1];have hc:(bif outB ((s.users.map zaa).length:Int) 1 6 then true else decide (((s.valves.map kindPV).length:Int) > 6))=true:=by
    rw [zcE,Bool.cond_eq_ite];split
    ·rfl
    ·rename_i h;simp only [decide_eq_true_eq] at h;refine decide_eq_true ?_
     omega
   refine hdC Tryz.func29 Tryz.ntmps29 (res:=[.tmp 2,.tmp 3,.tmp 4]) fun w0 K0=>?_
   repeat' first|refine zd ?_|((first|refine zf ?_|refine zi ?_|refine regA ?_|refine zsn (q) ?_|refine pkA ?_|refine zsn (o1) ?_|fail);conv=>whnf)|(refine za rfl (fun _=>?_) (zaf hc))|(refine zsv rfl ?_)|(refine lnA fun hln=>?_;conv=>whnf)|fail
   rfl
  ·rw [if_neg c1];rw [zQ.2 (by omega)] at o1;refine hdC Tryz.func29 Tryz.ntmps29 (res:=[.tmp 2,.tmp 3,.tmp 4]) fun w0 K0=>?_
   repeat' first|refine zd ?_|refine zc ?_|((first|refine zf ?_|refine zi ?_|refine regA ?_|refine zsn (q) ?_|refine pkA ?_|refine zsn (o1) ?_|fail);conv=>whnf)|exact abA hb|(refine zsv rfl ?_)|(refine zso rfl (fun hb=>?_) (fun hb=>?_))|(refine lnA fun hln=>?_;conv=>whnf)|fail
   refine zJ (fun i:Nat=>[(34,iv .i64 i),(33,iv .i64 s.users.length),(32,.x (.d (zac s.users))),(1,.x (.b 1 0))]) (fun _=>[(1,.box (setC s))]) (fun i=>i≤s.users.length∧usersE s.users s.users 0=usersE s.users (s.users.drop i) i)
    (fun i=>s.users.length - i) 0 ⟨Nat.zero_le _,rfl⟩ (Imp.slots ⟨rfl,congrArg (fun k:Nat=>some (iv .i64 k)) hlv,rfl,rfl,trivial⟩) ?_
   rintro i ⟨hi,hn⟩;rcases Nat.lt_or_ge i s.users.length with hil|hil
   ·have n1:=zl3 s.users[i];have n2:FnC Tryz.prog 34 [.x (.d (.s 1 (List.drop (Int.toNat 0) (List.take ((i:Int)).toNat (s.users.map zaa))))),sv (bs s.users[i])] (bv (decide (s.users[i] ∈ s.users.take i))):=by
     have e:List.drop (Int.toNat 0) (List.take ((i:Int)).toNat (s.users.map zaa))=(s.users.take i).map zaa:=by simp [List.map_take]
     rw [e];exact zdW _ _
    rw [List.drop_eq_getElem_cons hil,usersE] at hn;cases h1:zbb s.users[i] with
    | false=>
     rw [h1] at n1;rw [if_pos h1] at hn;rw [hn];repeat' first|refine zd ?_|refine zc ?_|((first|refine zf ?_|refine zk ?_|refine zi ?_|refine regA ?_|fail);conv=>whnf)|exact abA hb|((refine zsn (n1) ?_);conv=>whnf)|(refine zsu rfl ?_)|(refine zso rfl (fun hb=>?_) (fun hb=>?_))|((first|refine andA ?_|with_reducible refine exA fun _=>?_|fail);conv=>whnf)|fail
     rfl
    | true=>
     rw [h1] at n1;rw [if_neg (by rw [h1];decide)] at hn;by_cases h2:s.users[i] ∈ s.users.take i
     ·rw [if_pos h2] at hn;rw [decide_eq_true h2] at n2;rw [hn];repeat' first|refine zd ?_|refine zc ?_|((first|refine zf ?_|refine zk ?_|refine zi ?_|refine regA ?_|fail);conv=>whnf)|exact abA hb|((first|refine zsn (n1) ?_|refine zsn (n2) ?_|refine pkA ?_|fail);conv=>whnf)|(refine zsu rfl ?_)|(refine zsv rfl ?_)|(refine zso rfl (fun hb=>?_) (fun hb=>?_))|((first|refine andA ?_|with_reducible refine exA fun _=>?_|fail);conv=>whnf)|fail
      rfl
     ·rw [if_neg h2] at hn;rw [decide_eq_false h2] at n2;repeat' first|refine zd ?_|refine zc ?_|((first|refine zf ?_|refine zk ?_|refine regA ?_|fail);conv=>whnf)|exact abA hb|((first|refine zsn (n1) ?_|refine zsn (n2) ?_|refine pkA ?_|fail);conv=>whnf)|(refine zsv rfl ?_)|(refine zso rfl (fun hb=>?_) (fun hb=>?_))|((first|refine zsq ?_|refine andA ?_|with_reducible refine exA fun _=>?_|fail);conv=>whnf)|fail
      exact⟨i+1,⟨by omega,hn⟩,by omega,impA⟩
   ·rw [List.drop_eq_nil_of_le hil,usersE] at hn;rw [hn];repeat' first|refine zd ?_|refine zc ?_|((first|refine zf ?_|refine zk ?_|refine regA ?_|fail);conv=>whnf)|exact abA hb|(refine zso rfl (fun hb=>?_) (fun hb=>?_))|((refine andA ?_);conv=>whnf)|(refine lnA fun hln=>?_;conv=>whnf)|fail
    refine zJ (fun i:Nat=>[(56,iv .i64 i),(55,iv .i64 s.valves.length),(54,.x (.d (.s 4 (s.valves.map kindPV))))]) (fun _=>[(1,.box (setC s))]) (fun i=>i≤s.valves.length∧valvesE s.valves 0=valvesE (s.valves.drop i) i)
     (fun i=>s.valves.length - i) 0 ⟨Nat.zero_le _,rfl⟩ (Imp.slots ⟨rfl,congrArg (fun k:Nat=>some (iv .i64 k)) hlk,rfl,trivial⟩) ?_
    rintro j ⟨hj,hm⟩;rcases Nat.lt_or_ge j s.valves.length with hjl|hjl
    ·have m1:=mcheck_fn s.valves[j] (hv _ (List.getElem_mem hjl));rw [List.drop_eq_getElem_cons hjl,valvesE] at hm;by_cases h3:kindE s.valves[j]=0
     ·rw [h3] at m1;rw [if_pos h3] at hm;repeat' first|refine zd ?_|refine zc ?_|((first|refine zf ?_|refine zk ?_|refine zi ?_|refine regA ?_|fail);conv=>whnf)|exact abA hb|((refine zsn (m1) ?_);conv=>whnf)|(refine zsv rfl ?_)|(refine zso rfl (fun hb=>?_) (fun hb=>?_))|((first|refine zsq ?_|refine andA ?_|with_reducible refine exA fun _=>?_|fail);conv=>whnf)|fail
      exact⟨j+1,⟨by omega,hm⟩,by omega,impA⟩
     ·rw [if_neg h3] at hm;rw [hm];generalize kindE s.valves[j]=e at *;repeat' first|refine zd ?_|refine zc ?_|((first|refine zf ?_|refine zk ?_|refine zi ?_|refine regA ?_|fail);conv=>whnf)|exact abA hb|((refine zsn (m1) ?_);conv=>whnf)|(refine zso rfl (fun hb=>?_) (fun hb=>?_))|((first|refine andA ?_|with_reducible refine exA fun _=>?_|fail);conv=>whnf)|fail
      rfl
    ·rw [List.drop_eq_nil_of_le hjl,valvesE] at hm;rw [hm];repeat' first|refine zd ?_|refine zc ?_|((first|refine zf ?_|refine zk ?_|refine zi ?_|refine regA ?_|fail);conv=>whnf)|exact abA hb|(refine zso rfl (fun hb=>?_) (fun hb=>?_))|fail
     rfl
end Go.Proofs.YtnkhljdifljdbaaGreatDoor
namespace Go.Proofs.YtnkhljdifljdbaaGreatDoor
open Go Go.QL FoT
set_option maxHeartbeats 3200000
set_option maxRecDepth 20000
attribute [local irreducible] ACall FnC YC PCall AWx EndX zm8
theorem dopen_fn (s:SetT) (k:KindT) (hv:s.valves=[k]) (hk:∀ k ∈ s.valves,KindOK k) (hc:res3 (checkS s)=.t [iv .i64 0,iv .i64 0,iv .i64 0]) (m:Int) (hm:0≤m∧m≤60) :
  ACall Tryz.prog 19 [setAV s,iv .i64 m] [] (fun r σ'=>r=.t [.x (.b 26 0),iv .i64 0]∧σ'=[(26,.box (setC s ++ [iC 0,nC,nC,nC,nC,.o 24 0 1,iC 0,iC 0,iC 0,iC 0])),(24,.chain 124 2 0 [[.v (.int .i64 0),.v (.slice none 0 0)]])]):=by
 have ck:=pcheck_fn s hk;rw [hc] at ck;unfold setAV setC at *;rw [hv] at *;refine hdD Tryz.func19 Tryz.ntmps19 (res:=[.tmp 4,.tmp 5]) fun w0 K0 B=>?_
 repeat' first|refine zd ?_|((first|refine zf ?_|refine zi ?_|refine regA ?_|refine drA (id:=6) 5 true [0,0,2,6,14,31,63,127,255] ?_|refine zsn (ck) ?_|fail);conv=>whnf)|(refine za rfl (zM (decide_eq_false (by omega))) (fun _=>?_))|(refine zsv rfl ?_)|((refine andA ?_);conv=>whnf)|fail
 refine⟨_,_,?_,?_,?_,rfl,rfl⟩ <;> first|exact⟨rfl,rfl,trivial⟩|rfl
end Go.Proofs.YtnkhljdifljdbaaGreatDoor
namespace Go.Proofs.YtnkhljdifljdbaaGreatDoor
open Go Go.QL FoT
set_option maxHeartbeats 3200000
set_option maxRecDepth 20000
attribute [local irreducible] ACall FnC YC PCall AWx EndX zm8
abbrev d00:DskT:=⟨0,0,0,[]⟩
theorem work_fn (s:SetT) (k:KindT) (hv:s.valves=[k]) (hk:∀ k ∈ s.valves,KindOK k) (hc:res3 (checkS s)=.t [iv .i64 0,iv .i64 0,iv .i64 0]) (L ts:List ByteArray) (hL:L.length≤60) (hts:ts.length=L.length)
  (ds:Nat→DskT) (h0:ds 0=d00) (hd:∀ (i:Nat) (hi:i < L.length),ACall Tryz.prog 20 [.x (.b 901 0),sv L[i]] (dkS s (ds i)) (DoR ts[i] (dkS s (ds (i+1))))) :
  FnC Tryz.prog 10 [setAV s,.x (.d (.s 1 (strsPV L)))] (.t [.x (.d (.s 1 (strsPV ts))),iv .i64 0]):=by
 have hLl:(strsPV L).length=L.length:=List.length_map _;have op:=dopen_fn s k hv hk hc ((strsPV L).length:Int) (by omega);unfold setAV at *;refine zg7 hTt Tryz.func10 rfl (by kernel_rfl) (res:=[.tmp 4,.tmp 5]) rfl Tryz.ntmps10 (by simp) fun w0 K0=>?_
 dsimp only [entry];repeat' first|refine zd ?_|refine zc ?_|((first|refine zf ?_|refine regA ?_|refine frA (op) [(26,901),(24,902)] ?_|fail);conv=>whnf)|(refine zsv rfl ?_)|(refine lnA fun hln=>?_;conv=>whnf)|fail
 refine zaq (Imp.nil 900 9 1 (fr':=[(4,.x (.o 900 0 0)),(21,iv .i64 0),(20,iv .i64 (strsPV L).length),(19,.x (.d (.s 1 (strsPV L)))),(6,.x (.b 901 0)),(5,iv .i64 0)]) (σ':=dkS s d00) rfl ?_ ?_ rfl rfl) ?_
 ·exact⟨⟨_,rfl,.inr ⟨rfl,rfl⟩⟩,⟨_,rfl,.inl rfl⟩,⟨_,rfl,.inl rfl⟩,⟨_,rfl,.inl rfl⟩,⟨_,rfl,.inl rfl⟩,⟨_,rfl,.inl rfl⟩,trivial⟩
 ·exact⟨⟨_,rfl,.inl rfl⟩,⟨_,rfl,.inl rfl⟩,trivial⟩
 refine zJ (fun i:Nat=>[(4,.x (.o 900 i i)),(21,iv .i64 i),(20,iv .i64 L.length),(19,.x (.d (.s 1 (strsPV L)))),(6,.x (.b 901 0)),(5,iv .i64 0)])
  (fun i=>(900,.chain 9 1 i (strsPV (ts.take i)))::dkS s (ds i)) (fun i=>i≤L.length) (fun i=>L.length - i) 0 (Nat.zero_le _) ?_ ?_
 ·rw [h0,← hLl];exact impA
 intro i hi;rcases Nat.lt_or_ge i L.length with hil|hil
 ·have hdi:=hd i hil;have e2:(strsPV (ts.take i)).take i ++ [[.v (.string ts[i])]]=strsPV (ts.take (i+1)):=by
   rw [List.take_of_length_le (by simp [strsPV];omega),List.take_succ_eq_append_getElem (by omega)];unfold strsPV;rw [List.map_append];rfl
  have hg:(strsPV L)[i]?=some [PV.v (.string L[i])]:=by simp [strsPV,hil]
  have hlt:decide ((i:Int) < (L.length:Int))=true:=decide_eq_true (by omega);repeat' first|refine zd ?_|refine zc ?_|((first|refine zf ?_|refine regA ?_|fail);conv=>whnf)|(refine za rfl (fun _=>?_) (zaf hlt))|((first|refine frA (hdi) [(901,901),(902,902)] ?_|refine zsq ?_|refine andA ?_|with_reducible refine exA fun _=>?_|fail);conv=>whnf)|((refine And.intro (by refine⟨?_,?_,?_⟩ <;> simp [zO,maxLen] <;> omega) ?_);conv=>whnf)|fail
  exact⟨i+1,by omega,by omega,Imp.forget ⟨rfl,rfl,rfl,rfl,rfl,rfl,trivial⟩ ⟨congrArg (fun l=>some (Ob.chain 9 1 (i+1) l)) e2,rfl,rfl,trivial⟩ rfl⟩
 ·obtain rfl:i=L.length:=by omega
  have hlt:decide ((L.length:Int) < (L.length:Int))=false:=decide_eq_false (by omega);repeat' first|refine zd ?_|((first|refine zk ?_|refine zi ?_|refine regA ?_|fail);conv=>whnf)|(refine za rfl (zM hlt) (fun _=>?_))|fail
  have e3:(strsPV (ts.take L.length)).take L.length=strsPV ts:=by rw [← hts,List.take_length,List.take_of_length_le (by simp [strsPV])]
  refine⟨.t [.x (.d (.s 1 (strsPV ts))),iv .i64 0],?_,LeAV.refl _⟩
  simp [za6,zbY,zhp,zr,zd1,zbW,zbV,zbq,hts];rw [← hts];rw [show ts.length=(ts.map fun p=>[PV.v (Value.string p)]).length from (List.length_map _).symm,List.take_length,List.take_length]
end Go.Proofs.YtnkhljdifljdbaaGreatDoor
namespace Go.Proofs.YtnkhljdifljdbaaGreatDoor
open Go Go.QL FoT
set_option maxHeartbeats 3200000
set_option maxRecDepth 20000
attribute [local irreducible] ACall FnC YC PCall AWx EndX zm8
abbrev dayC (n i:Int):List SV:=[iC n,nC,nC,iC 0,iC 0,iC 0,iC i,nC]
theorem day_fn (s:SetT) (k:KindT) (hv:s.valves=[k]) (hk:∀ k ∈ s.valves,KindOK k) (hc:res3 (checkS s)=.t [iv .i64 0,iv .i64 0,iv .i64 0]) (L ts:List ByteArray) (hL:L.length≤60) (hts:ts.length=L.length)
  (ds:Nat→DskT) (h0:ds 0=d00) (hd:∀ (i:Nat) (hi:i < L.length),ACall Tryz.prog 20 [.x (.b 901 0),sv L[i]] (dkS s (ds i)) (DoR ts[i] (dkS s (ds (i+1)))))
  (e l:Int) (u:Bs8) (hu:s.users=[u]) (hf:ACall Tryz.prog 22 [.x (.b 901 0),iv .i64 0] (dkS s (ds L.length)) (fun r σ'=>r=.a [iC e,iC l]∧σ'=dkS s (ds L.length))) :
  FnC Tryz.prog 11 [setAV s,.x (.d (.s 1 (strsPV L)))] (.t [.a [iC (ds L.length).now,nC,.d (zR [0]),iC 0,iC 0,iC 0,iC (ds L.length).idle,.d (.s 2 [[.v (.int .i64 e),.v (.int .i64 l)]])],iv .i64 0]):=by
 obtain⟨sl,ld,du,pa,ra,us,vs⟩:=s;dsimp only at hu hv;subst hu;subst hv;have hLl:(strsPV L).length=L.length:=List.length_map _;have op:=dopen_fn _ k rfl hk hc ((strsPV L).length:Int) (by omega);have ch:=charges_fn ⟨sl,ld,du,pa,ra,[u],[k]⟩ k rfl (ds L.length) 0;unfold setAV at *;refine zg7 hTt Tryz.func11 rfl (by kernel_rfl) (res:=[.cell 4 55,.tmp 5]) rfl Tryz.ntmps11 (by simp) fun w0 K0=>?_
 dsimp only [entry];repeat' first|refine zd ?_|refine zc ?_|((first|refine zf ?_|refine regA ?_|refine frA (op) [(26,901),(24,902)] ?_|fail);conv=>whnf)|(refine zsv rfl ?_)|(refine lnA fun hln=>?_;conv=>whnf)|fail
 refine zJ (fun i:Nat=>[(26,iv .i64 i),(25,iv .i64 L.length),(24,.x (.d (.s 1 (strsPV L)))),(6,.x (.b 901 0)),(5,iv .i64 0),(4,.x (.b 4 0))])
  (fun i=>(4,.box (dayC 0 0))::dkS ⟨sl,ld,du,pa,ra,[u],[k]⟩ (ds i)) (fun i=>i≤L.length) (fun i=>L.length - i) 0 (Nat.zero_le _) ?_ ?_
 ·rw [h0,← hLl];exact impA
 intro i hi;rcases Nat.lt_or_ge i L.length with hil|hil
 ·have hdi:=hd i hil;have hg:(strsPV L)[i]?=some [PV.v (.string L[i])]:=by simp [strsPV,hil]
  have hlt:decide ((i:Int) < (L.length:Int))=true:=decide_eq_true (by omega);repeat' first|refine zd ?_|refine zc ?_|((first|refine zf ?_|refine regA ?_|fail);conv=>whnf)|(refine za rfl (fun _=>?_) (zaf hlt))|((first|refine frA (hdi) [(901,901),(902,902)] ?_|refine zsq ?_|refine andA ?_|with_reducible refine exA fun _=>?_|fail);conv=>whnf)|fail
  exact⟨i+1,by omega,by omega,Imp.forget ⟨rfl,rfl,rfl,rfl,rfl,rfl,trivial⟩ ⟨rfl,rfl,rfl,trivial⟩ rfl⟩
 ·obtain rfl:i=L.length:=by omega
  have hlt:decide ((L.length:Int) < (L.length:Int))=false:=decide_eq_false (by omega);repeat' first|refine zd ?_|refine zc ?_|((first|refine zk ?_|refine regA ?_|refine drA (id:=9) 9 false [0,1,3,7,15,0,32,96,224,511,1023] ?_|fail);conv=>whnf)|(refine za rfl (zM hlt) (fun _=>?_))|((refine andA ?_);conv=>whnf)|fail
  refine AW_rounds 1 (Rnd.mk ?_)
  repeat' first|refine zd ?_|refine zc ?_|((first|refine zk ?_|refine regA ?_|fail);conv=>whnf)|(refine za rfl (zM rfl) (fun _=>?_))|((refine andA ?_);conv=>whnf)|(refine lnA fun hln=>?_;conv=>whnf)|fail
  refine AW_rounds 2 (Rnd.mk ?_)
  repeat' first|((first|refine DS.AW_drawT hTt hMix (id:=19) 6 6 true [] [] [0,1,0,0,12,28,63,127,255] (by kernel_rfl) rfl rfl (by kernel_rfl) rfl ?_|refine And.intro (rfl:DS.okRe _ _=true) ?_|fail);conv=>whnf)|refine zd ?_|refine zc ?_|((first|refine zf ?_|refine zk ?_|refine regA ?_|fail);conv=>whnf)|(with_reducible refine Rnd.mk ?_)|(refine za rfl (fun _=>?_) (zaf rfl))|(refine za rfl (zM rfl) (fun _=>?_))|((first|refine⟨_,_,rfl,DS.ACall.read ch rfl rfl rfl rfl ⟨rfl,rfl,trivial⟩,?_⟩|refine zsq ?_|refine andA ?_|fail);conv=>whnf)|(refine lnA fun hln=>?_;conv=>whnf)|fail
  refine AW_rounds 2 (Rnd.mk ?_)
  repeat' first|((first|refine DS.AW_drawT hTt hMix (id:=24) 6 6 true [] [] [0,1,0,0,12,28,63,127,255] (by kernel_rfl) rfl rfl (by kernel_rfl) rfl ?_|refine And.intro (rfl:DS.okRe _ _=true) ?_|fail);conv=>whnf)|refine zd ?_|refine zc ?_|((first|refine zf ?_|refine zk ?_|refine zi ?_|refine regA ?_|fail);conv=>whnf)|(with_reducible refine Rnd.mk ?_)|(refine za rfl (fun _=>?_) (zaf rfl))|(refine za rfl (zM rfl) (fun _=>?_))|((first|refine⟨_,_,rfl,DS.ACall.read hf rfl rfl rfl rfl ⟨rfl,rfl,trivial⟩,?_⟩|refine zsq ?_|refine andA ?_|fail);conv=>whnf)|fail
  exact⟨_,rfl,LeAV.refl _⟩
end Go.Proofs.YtnkhljdifljdbaaGreatDoor
namespace Go.Proofs.YtnkhljdifljdbaaGreatDoor
open Go Go.QL FoT
set_option maxHeartbeats 3200000
set_option maxRecDepth 20000
attribute [local irreducible] ACall FnC YC PCall AWx EndX zm8
theorem za7 (a b:Bs8):bs a ++ bs b=bs (a ++ b):=by
 apply ByteArray.ext;rw [ByteArray.data_append];simp [bs]
theorem zcB {a b:Bs8} (h:a.length+b.length≤100000):(bs a).size+(bs b).size≤maxLen:=by
 rw [zbj,zbj];unfold maxLen;omega
def dgF:Nat→Nat→Bs8
 | 0,_=>[]
 | k+1,n=>(if 10≤n then dgF k (n / 10) else []) ++ [UInt8.ofNat (48+n % 10)]
theorem zrW:∀ (k:Nat),k≤10→∀ n:Nat,n < 10 ^ (k+1)→(dgF (k+1) n).length≤k+1∧FnC Tryz.prog 8 [iv .i64 n] (sv (bs (dgF (k+1) n))):=by
 intro k;induction k with
 | zero=>
  intro _ n hn;have hn:n < 10:=by simpa using hn
  have hd:(n:Int).tmod 10=((n % 10:Nat):Int):=rfl;have hc:(IntKind.u8.wrap (48+((n % 10:Nat):Int)))=((UInt8.ofNat (48+n % 10)).toNat:Int):=by
   have:∀ d:Nat,d < 10→IntKind.u8.wrap (48+(d:Int))=((UInt8.ofNat (48+d)).toNat:Int):=by decide
   exact this _ (Nat.mod_lt _ (by decide))
  have hf:decide ((n:Int) ≥ 10)=false:=decide_eq_false (by omega);have e:dgF (0+1) n=[UInt8.ofNat (48+n % 10)]:=by simp [dgF,show ¬ 10≤n by omega]
  rw [e];generalize UInt8.ofNat (48+n % 10)=c at hc;refine⟨Nat.le_refl 1,?_⟩
  refine hdC Tryz.func8 Tryz.ntmps8 (res:=[.tmp 2]) fun w0 K0=>?_
  repeat' first|refine zd ?_|((first|refine zf ?_|refine zi ?_|refine regA ?_|fail);conv=>whnf)|(refine za rfl (zM hf) (fun _=>?_))|((first|refine⟨_,hd,?_⟩|refine⟨_,hc,?_⟩|refine⟨[c],by simp,.inr rfl,?_⟩|refine zsq ?_|refine andA ?_|fail);conv=>whnf)|fail
  rfl
 | succ k ih=>
  intro hk n hn;have h10:(10:Nat) ^ (k+1+1)≤10 ^ 12:=Nat.pow_le_pow_right (by decide) (by omega);have hd:(n:Int).tmod 10=((n % 10:Nat):Int):=rfl;have hc:(IntKind.u8.wrap (48+((n % 10:Nat):Int)))=((UInt8.ofNat (48+n % 10)).toNat:Int):=by
   have:∀ d:Nat,d < 10→IntKind.u8.wrap (48+(d:Int))=((UInt8.ofNat (48+d)).toNat:Int):=by decide
   exact this _ (Nat.mod_lt _ (by decide))
  have hw:IntKind.i64.wrap ((n:Int).tdiv 10)=((n / 10:Nat):Int):=by rw [show (n:Int).tdiv 10=((n / 10:Nat):Int) from rfl];exact zg (by omega)
  by_cases hge:10≤n
  ·have e:dgF (k+1+1) n=dgF (k+1) (n / 10) ++ [UInt8.ofNat (48+n % 10)]:=by rw [dgF,if_pos hge]
   obtain⟨hl,ihn⟩:=ih (by omega) (n / 10) (by rw [Nat.pow_succ] at hn;omega);have hf:decide ((n:Int) ≥ 10)=true:=decide_eq_true (by omega);rw [e];generalize UInt8.ofNat (48+n % 10)=c at hc;generalize dgF (k+1) (n / 10)=pd at *;have gs:(bs pd).size+(bs [c]).size≤maxLen:=zcB (by show _+1≤_;omega);refine⟨by simp;omega,?_⟩
   rw [← za7];refine hdC Tryz.func8 Tryz.ntmps8 (res:=[.tmp 2]) fun w0 K0=>?_
   repeat' first|refine zd ?_|((first|refine zi ?_|refine regA ?_|fail);conv=>whnf)|(refine za rfl (fun _=>?_) (zaf hf))|((first|refine⟨_,hd,?_⟩|refine⟨_,hc,?_⟩|refine⟨_,hw,?_⟩|refine⟨[c],by simp,.inr rfl,?_⟩|refine zsn (ihn) ?_|refine And.intro (zay gs) ?_|refine zsq ?_|refine andA ?_|fail);conv=>whnf)|fail
   rfl
  ·have e:dgF (k+1+1) n=[UInt8.ofNat (48+n % 10)]:=by rw [dgF,if_neg hge];rfl
   have hf:decide ((n:Int) ≥ 10)=false:=decide_eq_false (by omega);rw [e];generalize UInt8.ofNat (48+n % 10)=c at hc;refine⟨by simp,?_⟩
   refine hdC Tryz.func8 Tryz.ntmps8 (res:=[.tmp 2]) fun w0 K0=>?_
   repeat' first|refine zd ?_|((first|refine zf ?_|refine zi ?_|refine regA ?_|fail);conv=>whnf)|(refine za rfl (zM hf) (fun _=>?_))|((first|refine⟨_,hd,?_⟩|refine⟨_,hc,?_⟩|refine⟨[c],by simp,.inr rfl,?_⟩|refine zsq ?_|refine andA ?_|fail);conv=>whnf)|fail
   rfl
end Go.Proofs.YtnkhljdifljdbaaGreatDoor
namespace Go.Proofs.YtnkhljdifljdbaaGreatDoor
open Go Go.QL FoT
set_option maxHeartbeats 3200000
set_option maxRecDepth 20000
attribute [local irreducible] ACall FnC YC PCall AWx EndX zm8
abbrev u16AV (l:List Nat):AV:=.x (.d (.s 1 (l.map fun x:Nat=>[PV.v (.int .u16 ((x:Nat):Int))])))
theorem turn_fn (l:List Nat) (hl:∀ x ∈ l,x < 65536) (n:Nat) (hn:n≤1000000):FnC Tryz.prog 9 [u16AV l,iv .i64 n] (iv .i64 (if l=[] then 0 else ((l.getD (n % l.length) 0:Nat):Int))):=by
 have hml:(l.map fun x:Nat=>[PV.v (.int .u16 ((x:Nat):Int))]).length=l.length:=List.length_map _;by_cases h:l=[]
 ·subst h;refine hdC Tryz.func9 Tryz.ntmps9 (res:=[.tmp 4]) fun w0 K0=>?_
  repeat' first|refine zd ?_|((first|refine zi ?_|refine regA ?_|fail);conv=>whnf)|(refine za rfl (fun _=>?_) (zaf rfl))|(refine lnA fun hln=>?_;conv=>whnf)|fail
  rfl
 ·rw [if_neg h];have hp:0 < l.length:=List.length_pos_iff.2 h;have hf:((((l.map fun x:Nat=>[PV.v (.int .u16 ((x:Nat):Int))]).length:Nat):Int) == 0)=false:=by rw [hml];exact beq_eq_false_iff_ne.2 (by omega)
  have hm:n % l.length < l.length:=Nat.mod_lt _ hp;have hr:(n:Int).tmod (((l.map fun x:Nat=>[PV.v (.int .u16 ((x:Nat):Int))]).length:Nat):Int)=((n % l.length:Nat):Int):=by rw [hml];rfl
  have hg:(l.map fun x:Nat=>[PV.v (.int .u16 ((x:Nat):Int))])[n % l.length]?=some [PV.v (.int .u16 ((l.getD (n % l.length) 0:Nat):Int))]:=by
   rw [List.getElem?_map,List.getD_eq_getElem?_getD,List.getElem?_eq_getElem hm];rfl
  have hx:l.getD (n % l.length) 0 < 65536:=by
   rw [List.getD_eq_getElem?_getD,List.getElem?_eq_getElem hm];exact hl _ (List.getElem_mem hm)
  generalize n % l.length=j at *;have hv:l.getD j 0=l[j]:=by rw [List.getD_eq_getElem?_getD,List.getElem?_eq_getElem hm];rfl
  rw [hv] at hx ⊢;have hw:IntKind.i64.wrap ((l[j]:Nat):Int)=((l[j]:Nat):Int):=zg (by omega);refine hdC Tryz.func9 Tryz.ntmps9 (res:=[.tmp 4]) fun w0 K0=>?_
  repeat' first|refine zd ?_|((first|refine zf ?_|refine zi ?_|refine regA ?_|fail);conv=>whnf)|(refine za rfl (zM hf) (fun _=>?_))|((first|refine⟨_,hr,?_⟩|refine⟨_,hw,?_⟩|refine And.intro (zay (by omega)) ?_|refine andA ?_|with_reducible refine exA fun _=>?_|fail);conv=>whnf)|(refine lnA fun hln=>?_;conv=>whnf)|fail
  rfl
end Go.Proofs.YtnkhljdifljdbaaGreatDoor
namespace Go.Proofs.YtnkhljdifljdbaaGreatDoor
open Go Go.QL FoT
set_option maxHeartbeats 1600000
set_option maxRecDepth 20000
attribute [local irreducible] ACall FnC
abbrev runB (n:Nat):Bs8:=[114,117,110,32] ++ dig n
abbrev chgB:Bs8:=[99,104,97,110,103,101,32,48]
abbrev chkB (v:Nat) (p:Bool):Bs8:=[99,104,101,99,107,32,48,32] ++ (dig v ++ (32::passS p))
abbrev spB:ByteArray:=⟨#[32]⟩
def splW (l:Bs8):List Bs8:=Lib.splitK [32] 0 (Lib.count l [32]) l
theorem map_inj {L:List ByteArray} {M:List Bs8} (h:L.map (·.data.toList)=M):L=M.map bs:=by
 subst h;rw [List.map_map];conv=>lhs;rw [← List.map_id L]
 apply List.map_congr_left;intro x _;apply ByteArray.ext;simp [bs]
theorem splW_ok {l:Bs8} {M:List Bs8} (h:splW l=M):Lib.splitB spB 0 (Lib.countB (bs l) spB) (bs l)=M.map bs:=by
 apply map_inj;rw [Lib.splitB_data];exact h
theorem idx_word:∀ (w r:Bs8),w.all (· != 32)=true→Lib.index (w ++ 32::r) [32]=(w.length:Int)
 | [],r,_=>by
  show (if [32].isPrefixOf (32::r)=true then (0:Int) else _)=_
  rw [if_pos (by simp)];rfl
 | b::w,r,h=>by
  rw [List.all_cons,Bool.and_eq_true] at h;have h1:=idx_word w r h.2;show (if [32].isPrefixOf (b::(w ++ 32::r))=true then (0:Int) else if Lib.index (w ++ 32::r) [32] == -1 then -1 else Lib.index (w ++ 32::r) [32]+1)=_
  rw [if_neg (by have:=h.1;simp at this;simp <;> exact fun e=>this e.symm),h1,if_neg (by simp <;> omega),List.length_cons];omega
theorem idx_none:∀ (w:Bs8),w.all (· != 32)=true→Lib.index w [32] = -1
 | [],_=>rfl
 | b::w,h=>by
  rw [List.all_cons,Bool.and_eq_true] at h;show (if [32].isPrefixOf (b::w)=true then (0:Int) else if Lib.index w [32] == -1 then -1 else Lib.index w [32]+1)=_
  rw [if_neg (by have:=h.1;simp at this;simp <;> exact fun e=>this e.symm),idx_none w h.2,if_pos (by decide)]
theorem splW_cons {w r:Bs8} {M:List Bs8} (h:w.all (· != 32)=true) (hr:splW r=M):splW (w ++ 32::r)=w::M:=by
 have hi:=idx_word w r h;have hd:(w ++ 32::r).drop (w.length+1)=r:=by
  rw [List.drop_append];simp
 have hc:=Lib.count_hit (s:=w ++ 32::r) (sub:=[32]) (by simp) hi;unfold splW;rw [hc,show ([32]:Bs8).length=1 from rfl,hd,Nat.add_comm 1,Lib.splitK,hi,if_neg (by simp <;> omega),Int.toNat_natCast,show ([32]:Bs8).length=1 from rfl,hd,← hr];simp [splW]
theorem splW_last {w:Bs8} (h:w.all (· != 32)=true):splW w=[w]:=by
 unfold splW;rw [Lib.count_miss (idx_none w h)];rfl
theorem dig_all:(List.range 5000).all (fun n=>decide (dgF 5 n=dig n) && (!(dig n).isEmpty && (decide ((dig n).length≤4) && (dig n).all (· != 32))))=true:=by decide +kernel
theorem dig_in (n:Nat) (h:n < 5000):dgF 5 n=dig n∧dig n≠[]∧(dig n).length≤4∧(dig n).all (· != 32)=true:=by
 have:=dig_all;rw [List.all_eq_true] at this;have:=this n (List.mem_range.2 h);simp only [Bool.and_eq_true] at this;obtain⟨h1,h2,h3,h4⟩:=this;exact⟨of_decide_eq_true h1,fun e=>(by rw [e] at h2;cases h2),of_decide_eq_true h3,h4⟩
theorem run_spl (n:Nat) (h:n < 5000):Lib.splitB spB 0 (Lib.countB (bs (runB n)) spB) (bs (runB n))=[bs runW,bs (dig n)]:=
 splW_ok (M:=[runW,dig n]) (splW_cons (w:=runW) (by decide) (splW_last (dig_in n h).2.2.2))
theorem chg_spl:Lib.splitB spB 0 (Lib.countB (bs chgB) spB) (bs chgB)=[bs chgW,bs (dig 0)]:=splW_ok (M:=[chgW,dig 0]) (by decide +kernel)
theorem chk_spl (v:Nat) (h:v < 5000) (p:Bool):Lib.splitB spB 0 (Lib.countB (bs (chkB v p)) spB) (bs (chkB v p))=[bs chkW,bs (dig 0),bs (dig v),bs (passS p)]:=by
 have h1:splW (passS p)=[passS p]:=splW_last (by cases p <;> decide);have h2:=splW_cons (dig_in v h).2.2.2 h1;have h3:=splW_cons (w:=[48]) (by decide) h2;have h4:splW (chkB v p)=[chkW,[48],dig v,passS p]:=splW_cons (w:=chkW) (by decide) h3;rw [splW_ok h4,show dig 0=[48] by decide +kernel];rfl
end Go.Proofs.YtnkhljdifljdbaaGreatDoor
namespace Go.Proofs.YtnkhljdifljdbaaGreatDoor
open Go Go.QL FoT
set_option maxHeartbeats 3200000
set_option maxRecDepth 20000
attribute [local irreducible] ACall FnC YC
theorem Stp.at8 {P:Program} {Γ:Cx} {y:Code} {ops:Array Oper} {b:Bool} {Q:Exit→Fr→Sg→Prop} {fr:Fr} {σ:Sg} (h:Stp P Γ (.seq (.region 8 ops b) y) Q fr σ):AW P Γ (.seq (.region 8 ops b) y) Q fr σ:=by unfold Stp at h;exact h
theorem check0_fn (s:SetT) (k:KindT) (hk:KGood k) (hE:kindE k=0) (hv:s.valves=[k]) (d:DskT) (hn:0≤d.now∧d.now≤1000000) (hs:0≤d.since∧d.since≤1000000)
  (v:Nat) (hvt:leastV k≤v∧(v:Int)≤1000) (p:Bool) (h:Int) (hh:d.now / 60 - d.since=h) (hd:d.cks=[]) (sp:SpanQ) (hK:KnownV k [⟨h,v,p⟩] h sp) :
  ACall Tryz.prog 39 [.x (.b 901 0),wdsAV [bs (dig 0),bs (dig v),bs (passS p)]] (dkS s d) (fun r σ'=>r=sv okS∧σ'=dkS s ⟨d.now,d.idle,d.since,[⟨h,v,p⟩]⟩):=by
 have n2:=numbers2_fn 0 v (by decide) (by omega);have tb:=tube_fn s k hv d h hn hh hs;have nd:=mneed_fn k hk hE v hvt;have nw:=now_fn k hk hE _ h sp hK;have gs:=goodS_fn sp.1 sp.2;have cp:=clip0_fn;have ct:=contains2_fn p;have m6:=must_b (b:=true) rfl 6;have m7:=must_b (b:=(0:Int) == 0) rfl 7;have m3:=must_b (b:=decide ((0:Int) < 30)) rfl 3;have hpass:((bs (passS p)).toList == (⟨#[112,97,115,115]⟩:ByteArray).toList)=p:=by
  rw [show (⟨#[112,97,115,115]⟩:ByteArray)=bs (passS true) from rfl,zdf];cases p <;> decide
 unfold dkS dkC setC wdsAV cksAV at *;rw [hv,hd] at *;unfold cksPV chksPV at *;clear hK;generalize bs (dig 0)=w0' at *;generalize bs (dig v)=w1 at *;generalize bs (passS p)=w2 at *;subst hpass;refine hdD Tryz.func39 Tryz.ntmps39 (res:=[.tmp 4]) fun w0 K0 B=>?_
 repeat' first|(with_reducible refine Stp.at8 ?_)|refine zd ?_|((first|refine regA ?_|refine drA (id:=4) 9 false [0,0,2,6,15,31,63,63,127,511] ?_|refine drA (id:=7) 15 true [0,1,3,7,15,0,0,64,192,0,512,1536,3584,8160,16352,32767,65535] ?_|refine zsn (m6) ?_|refine zsn (m7) ?_|refine zsn (m3) ?_|refine zsp (ct) ?_|refine zsn (n2) ?_|refine zsp (nd) ?_|refine zsp (cp) ?_|refine frA (tb) [(901,901),(902,902)] ?_|refine⟨_,ze ⟨by decide,rfl⟩,?_⟩|refine⟨_,ze rfl,⟨Nat.le_of_ble_eq_true rfl,rfl⟩,?_⟩|refine andA ?_|fail);conv=>whnf)|(refine lnA fun hln=>?_;conv=>whnf)|fail
 unfold Stp;refine zaq (Imp.freeze 903 (fr':=[(11,.x (.d (chksPV [⟨h,v,w2.toList == (⟨#[112,97,115,115]⟩:ByteArray).toList⟩]))),(8,iv .i64 h),(7,.x (.b 7 0)),(6,.x (.oe 902 0 0 0))]) (σ':=[(7,.box [iC k.new,iC k.lo,iC k.hi,.d (.s 2 (k.steps.map stepPV))]),(901,.box ([iC s.sl,iC s.ld,iC s.du,iC s.pa,iC s.ra,.d (zac s.users),.d (.s 4 ([k].map kindPV))] ++ [iC d.now,nC,nC,nC,nC,.o 902 0 1,iC 0,iC 0,iC 0,iC d.idle])),(902,.chain 124 2 0 [[.v (.int .i64 d.since),.v (.slice none 0 0)]])]) rfl
  ⟨⟨_,rfl,.inr ⟨_,rfl,Nat.le_refl 1,rfl⟩⟩,⟨_,rfl,.inl rfl⟩,⟨_,rfl,.inl rfl⟩,⟨_,rfl,.inl rfl⟩,trivial⟩ ⟨rfl,rfl,rfl,trivial⟩ rfl rfl) ?_
 repeat' first|refine zd ?_|((first|refine zi ?_|refine regA ?_|refine zsn (nw) ?_|refine zsn (gs) ?_|refine⟨_,rfl,Nat.le_refl 2,?_⟩|refine andA ?_|fail);conv=>whnf)|fail
 refine⟨_,_,?_,?_,?_,rfl,rfl⟩ <;> first|exact⟨rfl,rfl,trivial⟩|rfl
end Go.Proofs.YtnkhljdifljdbaaGreatDoor
namespace Go.Proofs.YtnkhljdifljdbaaGreatDoor
open Go Go.QL FoT
set_option maxHeartbeats 3200000
set_option maxRecDepth 20000
attribute [local irreducible] ACall FnC YC PCall AWx EndX zm8
abbrev setL (k:KindT):SetT:=⟨10,2,1,30,5,[[97,110,110]],[k]⟩
theorem setL_ok (k:KindT) (hE:kindE k=0):res3 (checkS (setL k))=.t [iv .i64 0,iv .i64 0,iv .i64 0]:=by
 have h1:rulesB (setL k)=true:=rfl;have h2:usersE (setL k).users (setL k).users 0=none:=show usersE [[97,110,110]] [[97,110,110]] 0=none by decide
 have h3:valvesE (setL k).valves 0=none:=by show (if kindE k=0 then none else _)=none;rw [if_pos hE]
 unfold checkS;rw [h1,h2,h3,if_neg (by decide),if_neg (by simp)];rfl
def lineJ (x:TubeT) (j:Nat):Bs8:=if j % 2=0 then runB (evN x (j / 2) * 60) else if evC x (j / 2)=true then chgB else chkB (evV x (j / 2)).toNat (evP x (j / 2) (mid x (j / 2) (ev x (j / 2))).str)
def ansA (x:TubeT) (j:Nat):ByteArray:=if j % 2=0 then sayB (((mid x (j / 2) (ev x (j / 2))).now:Int) * 60) else okS
def dskE (e:EvT):DskT:=⟨(e.now:Int) * 60,(e.now:Int) * 60,e.since,e.cks⟩
def dsk (x:TubeT) (j:Nat):DskT:=if j % 2=0 then dskE (ev x (j / 2)) else dskE (mid x (j / 2) (ev x (j / 2)))
theorem do_at (x:TubeT) (hk:KGood x.k) (hE:kindE x.k=0) (j:Nat) (hj:j < 24) :
  ACall Tryz.prog 20 [.x (.b 901 0),sv (bs (lineJ x j))] (dkS (setL x.k) (dsk x j)) (DoR (ansA x j) (dkS (setL x.k) (dsk x (j+1)))):=by
 have hi:=ev_in x hk (j / 2) (by omega);have hn:=evN_in x (j / 2);have hnow:=hi.now;have hsi:=hi.since;rcases Nat.mod_two_eq_zero_or_one j with h0|h0
 ·have e1:(j+1) % 2=1:=by omega
  have e2:(j+1) / 2=j / 2:=by omega
  unfold lineJ ansA dsk;rw [if_pos h0,if_pos h0,if_pos h0,if_neg (show ¬ (j+1) % 2=0 by omega),e2];generalize j / 2=i at *;have s1:=run_spl (evN x i * 60) (by omega);obtain⟨s2,s3,s4,_⟩:=dig_in (evN x i * 60) (by omega);refine do_run (setL x.k) _ _ _ ?_ _ s3 s1 _ ?_
  ·rw [zbj];simp;omega
  have r:=run_fn (setL x.k) rfl x.k rfl (dskE (ev x i)) (evN x i * 60) (by omega) (by unfold dskE;dsimp only;omega) (by unfold dskE;dsimp only;omega);have e3:(((mid x i (ev x i)).now:Int) * 60)=((ev x i).now:Int) * 60+((evN x i * 60:Nat):Int):=by unfold mid;dsimp only;omega
  unfold dskE at r ⊢;dsimp only at r ⊢;rw [e3];exact r
 ·have e1:(j+1) % 2=0:=by omega
  have e2:(j+1) / 2=j / 2+1:=by omega
  unfold lineJ ansA dsk;have hn0:¬ j % 2=0:=by omega
  rw [if_neg hn0,if_neg hn0,if_neg hn0,if_pos e1,e2,show ev x (j / 2+1)=stp x (j / 2) (mid x (j / 2) (ev x (j / 2))) from rfl];generalize hji:j / 2=i at *;obtain⟨m1,m2,_⟩:=mid_in x hk i _ hi;have hms:(mid x i (ev x i)).since=(ev x i).since:=rfl;have hmc:(mid x i (ev x i)).cks=(ev x i).cks:=rfl;have hdv:((mid x i (ev x i)).now:Int) * 60 / 60=(mid x i (ev x i)).now:=by omega
  unfold stp;by_cases hc:evC x i=true
  ·rw [if_pos hc,if_pos hc];refine do_change (setL x.k) _ _ _ ?_ _ (dig_in 0 (by decide)).2.1 chg_spl _ ?_
   ·rw [zbj];simp
   have r:=change_fn (setL x.k) x.k rfl (dskE (mid x i (ev x i))) (by unfold dskE;dsimp only;omega) (by unfold dskE;dsimp only;omega);unfold dskE at r ⊢;dsimp only at r ⊢;rw [hdv] at r;exact r
  ·rw [if_neg hc,if_neg hc];have hv:=volt_in x hk i;have hl0:=least_in hk;obtain⟨vn,hvn⟩:∃ vn:Nat,evV x i=vn:=⟨(evV x i).toNat,by omega⟩;have c1:=chk_spl (evV x i).toNat (by omega) (evP x i (mid x i (ev x i)).str);obtain⟨c2,c3,c4,_⟩:=dig_in (evV x i).toNat (by omega);obtain⟨sp,k1,k2,k3,k4⟩:=chk_known x hk i (by omega) _ hi;refine do_check (setL x.k) _ _ _ ?_ _ (dig_in 0 (by decide)).2.1 _ c3 _ (by cases evP x i (mid x i (ev x i)).str <;> decide) c1 _ ?_
   ·rw [zbj];cases evP x i (mid x i (ev x i)).str <;> simp [passS] <;> omega
   have hlen:=hi.len;generalize evP x i (mid x i (ev x i)).str=p at *;rw [hvn] at hv k2 ⊢;rw [hms,hmc];cases hcs:(ev x i).cks with
   | nil=>
    rw [hcs] at k2;have r:=check0_fn (setL x.k) x.k hk hE rfl (dskE (mid x i (ev x i))) (by unfold dskE;dsimp only;omega) (by unfold dskE;dsimp only;omega) vn hv p (((mid x i (ev x i)).now:Int) - (ev x i).since) (by unfold dskE;dsimp only;rw [hdv];rfl) (by unfold dskE;exact hcs) sp k2;unfold dskE at r ⊢;dsimp only at r ⊢;rw [hmc,hcs] at r ⊢;rw [Int.toNat_natCast];exact r
   | cons c0 r0=>
    rw [hcs] at k2 hlen;have r:=check_fn (setL x.k) x.k hk hE rfl (dskE (mid x i (ev x i))) (by unfold dskE;dsimp only;omega) (by unfold dskE;dsimp only;omega) vn hv p (((mid x i (ev x i)).now:Int) - (ev x i).since) (by unfold dskE;dsimp only;rw [hdv];rfl) c0 r0 (by unfold dskE;exact hcs) (by simp at hlen;omega) sp k2;unfold dskE at r ⊢;dsimp only at r ⊢;rw [hmc,hcs] at r ⊢;rw [Int.toNat_natCast];exact r
end Go.Proofs.YtnkhljdifljdbaaGreatDoor
namespace Go.Proofs.YtnkhljdifljdbaaGreatDoor
open Go Go.QL FoT
set_option maxHeartbeats 3200000
set_option maxRecDepth 20000
attribute [local irreducible] ACall FnC YC PCall AWx EndX zm8
theorem need_first:∀ (l:List (Int × Int)) (v:Int),(∃ s ∈ l,s.1≤v)→∃ (j:Nat) (s:Int × Int),l[j]?=some s∧s.1≤v∧s.2=needL l v∧∀ i:Nat,i < j→∃ t,l[i]?=some t∧v < t.1
 | [],v,⟨s,hs,_⟩=>by cases hs
 | t::r,v,h=>by
  unfold needL;by_cases ht:t.1≤v
  ·rw [if_pos ht];exact⟨0,t,rfl,ht,rfl,fun i hi=>absurd hi (Nat.not_lt_zero i)⟩
  ·rw [if_neg ht];obtain⟨s,hs,hv⟩:=h;have hs':s ∈ r:=by
    rcases List.mem_cons.1 hs with rfl|hs
    ·exact absurd hv ht
    ·exact hs
   obtain⟨j,s',h1,h2,h3,h4⟩:=need_first r v ⟨s,hs',hv⟩;refine⟨j+1,s',by simpa using h1,h2,h3,fun i hi=>?_⟩
   cases i with
   | zero=>exact⟨t,rfl,by omega⟩
   | succ i=>
    obtain⟨t',h5,h6⟩:=h4 i (by omega);exact⟨t',by simpa using h5,h6⟩
theorem rneeded_fn (k:KindT) (hk:KGood k) (v:Int) (hv:leastV k≤v):FnC Tryz.prog 7 [kindAV k,iv .i64 v] (iv .i64 (needL k.steps v)):=by
 obtain⟨j,s,h1,h2,h3,h4⟩:=need_first k.steps v (least_mem hk hv);have hlen:=hk.len;have hj:j < k.steps.length:=by
  rcases Nat.lt_or_ge j k.steps.length with h|h
  ·exact h
  ·rw [List.getElem?_eq_none h] at h1;cases h1
 have hg:∀ (i:Nat) (t:Int × Int),k.steps[i]?=some t→(k.steps.map stepPV)[((i:Int)).toNat]?=some (stepPV t):=fun i t h=>by rw [Int.toNat_natCast,List.getElem?_map,h];rfl
 rw [← h3];refine hdC Tryz.func7 Tryz.ntmps7 (res:=[.tmp 4]) fun w0 K0=>?_
 repeat' first|refine zd ?_|refine zc ?_|((refine regA ?_);conv=>whnf)|fail
 refine zJ (fun i:Nat=>[(5,iv .i64 i),(2,.x (.b 2 0)),(1,iv .i64 v)]) (fun _=>[(2,.box [iC k.new,iC k.lo,iC k.hi,.d (.s 2 (k.steps.map stepPV))])]) (fun i=>i≤j) (fun i=>j - i) 0 (Nat.zero_le _) impA ?_
 intro i hi;rcases Nat.lt_or_ge i j with hij|hij
 ·obtain⟨t,h5,h6⟩:=h4 i hij;have hgt:=hg i t h5;have hc:decide (t.1 > v)=true:=decide_eq_true h6;repeat' first|refine zd ?_|refine zc ?_|((first|refine zf ?_|refine regA ?_|fail);conv=>whnf)|(refine za rfl (fun _=>?_) (zaf hc))|((first|refine⟨_,ze ⟨by omega,hgt⟩,?_⟩|refine zsq ?_|refine andA ?_|fail);conv=>whnf)|fail
  exact⟨i+1,hij,by omega,impA⟩
 ·obtain rfl:i=j:=by omega
  have hgs:=hg i s h1;have hc:decide (s.1 > v)=false:=decide_eq_false (by omega);repeat' first|refine zd ?_|((first|refine zk ?_|refine zi ?_|refine regA ?_|fail);conv=>whnf)|(refine za rfl (zM hc) (fun _=>?_))|((first|refine⟨_,ze ⟨by omega,hgs⟩,?_⟩|refine andA ?_|fail);conv=>whnf)|fail
  rfl
theorem zlQ {tt:TT} {a:Nat} {fr:Fr} {σ:Sg} {c st n:Nat} {e:TypeId} {sz:Nat} {xs:List (List PV)} (h1:lk a fr=some (.x (.o c st n))) (h3:lk c σ=some (.chain e sz st xs)) (h4:n≤xs.length) :
  za6 tt [.tmp a] fr σ=some (.x (.d (.s sz (xs.take n)))):=by
 simp [za6,zbY,zhp,h1,zd1,zbV,zbW,zbq,h3,h4]
def ptS (l:Bs8):Nat→List ByteArray × Nat
 | 0=>([],0)
 | i+1=>if l.getD i 32=32 then ((ptS l i).1 ++ [(bs l).extract (ptS l i).2 i],i+1) else ptS l i
theorem ptS_in (l:Bs8):∀ i,(ptS l i).2≤i∧(ptS l i).1.length≤i
 | 0=>⟨Nat.le_refl _,Nat.le_refl _⟩
 | i+1=>by
  have:=ptS_in l i;unfold ptS;split
  ·exact⟨Nat.le_refl _,by simp;omega⟩
  ·omega
theorem ptS_pre (l:Bs8) (i:Nat):∀ k,∃ t,(ptS l (i+k)).1=(ptS l i).1 ++ t
 | 0=>⟨[],(List.append_nil _).symm⟩
 | k+1=>by
  obtain⟨t,ht⟩:=ptS_pre l i k;rw [← Nat.add_assoc,show ptS l (i+k+1)=if l.getD (i+k) 32=32 then ((ptS l (i+k)).1 ++ [(bs l).extract (ptS l (i+k)).2 (i+k)],i+k+1) else ptS l (i+k) from rfl];split
  ·exact⟨t ++ [(bs l).extract (ptS l (i+k)).2 (i+k)],by rw [← List.append_assoc,← ht]⟩
  ·exact⟨t,ht⟩
abbrev ptL (l:Bs8):List ByteArray:=(ptS l (l.length+1)).1
theorem parts_fn (l:Bs8) (hl:l.length≤100000):FnC Tryz.prog 12 [sv (bs l)] (.x (.d (.s 1 (strsPV (ptL l))))):=by
 have hsz:=zbj l;refine hdC Tryz.func12 Tryz.ntmps12 (res:=[.tmp 2]) fun w0 K0=>?_
 repeat' first|refine zd ?_|refine zc ?_|((refine regA ?_);conv=>whnf)|fail
 refine zaq (Imp.nil 900 9 1 (fr':=[(5,iv .i64 0),(4,iv .i64 0),(3,.x (.o 900 0 0)),(0,sv (bs l))]) (σ':=[]) rfl ?_ trivial rfl rfl) ?_
 ·exact⟨⟨_,rfl,.inl rfl⟩,⟨_,rfl,.inl rfl⟩,⟨_,rfl,.inr ⟨rfl,rfl⟩⟩,⟨_,rfl,.inl rfl⟩,trivial⟩
 refine zJ (fun i:Nat=>[(5,iv .i64 i),(4,iv .i64 (ptS l i).2),(3,.x (.o 900 (ptS l i).1.length (ptS l i).1.length)),(0,sv (bs l))]) (fun i=>[(900,.chain 9 1 (ptS l i).1.length (strsPV (ptS l i).1))])
  (fun i=>i≤l.length+1) (fun i=>l.length+1 - i) 0 (Nat.zero_le _) impA ?_
 intro i hi;have hin:=ptS_in l i;have hlen:∀ x:ByteArray,((ptS l i).1 ++ [x]).length=(ptS l i).1.length+1:=fun x=>by simp
 have htk:∀ x,(strsPV (ptS l i).1).take (ptS l i).1.length ++ [[PV.v (.string x)]]=strsPV ((ptS l i).1 ++ [x]):=fun x=>by
  rw [List.take_of_length_le (by simp [strsPV])];unfold strsPV;rw [List.map_append];rfl
 rcases Nat.lt_or_ge i l.length with hil|hil
 ·have hne:((i:Int) == ((bs l).size:Int))=false:=beq_eq_false_iff_ne.2 (by omega);have hle:decide ((i:Int)≤((bs l).size:Int))=true:=decide_eq_true (by omega);have hsj:(bs l).data.toList[((i:Int)).toNat]?=some l[i]:=by rw [Int.toNat_natCast,zco,List.getElem?_eq_getElem hil]
  have hgd:l.getD i 32=l[i]:=by rw [List.getD_eq_getElem?_getD,List.getElem?_eq_getElem hil];rfl
  by_cases hc:l[i]=32
  ·have hT:(bif ((i:Int) == ((bs l).size:Int)) then true else ((l[i].toNat:Int) == 32))=true:=by rw [hne,hc];rfl
   have hS:ptS l (i+1)=((ptS l i).1 ++ [(bs l).extract (ptS l i).2 i],i+1):=by rw [ptS,if_pos (hgd.trans hc)]
   have e:=htk ((bs l).extract (ptS l i).2 i);have hn:=hlen ((bs l).extract (ptS l i).2 i);clear htk hlen;generalize ptS l i=q at *;repeat' first|refine zd ?_|refine zc ?_|((first|refine zf ?_|refine regA ?_|fail);conv=>whnf)|(refine za rfl (fun _=>?_) (zaf hT))|(refine za rfl (fun _=>?_) (zaf hle))|((first|refine pkA ?_|refine⟨l[i],ze ⟨by omega,hsj⟩,?_⟩|refine zsq ?_|refine andA ?_|fail);conv=>whnf)|((refine And.intro (by refine⟨?_,?_,?_⟩ <;> simp [zO,maxLen] <;> omega) ?_);conv=>whnf)|fail
   refine⟨i+1,by omega,by omega,?_⟩
   rw [hS];dsimp only;rw [hn];exact impA
  ·have hT:(bif ((i:Int) == ((bs l).size:Int)) then true else ((l[i].toNat:Int) == 32))=false:=by
    rw [hne];exact beq_eq_false_iff_ne.2 fun e=>hc (UInt8.toNat_inj.1 (by show l[i].toNat=32;omega))
   have hS:ptS l (i+1)=ptS l i:=by rw [ptS,if_neg (fun e=>hc (hgd.symm.trans e))]
   clear htk hlen;generalize ptS l i=q at *;repeat' first|refine zd ?_|refine zc ?_|((first|refine zf ?_|refine regA ?_|fail);conv=>whnf)|(refine za rfl (zM hT) (fun _=>?_))|(refine za rfl (fun _=>?_) (zaf hle))|((first|refine pkA ?_|refine⟨l[i],ze ⟨by omega,hsj⟩,?_⟩|refine zsq ?_|fail);conv=>whnf)|fail
   refine⟨i+1,by omega,by omega,?_⟩
   rw [hS];exact impA
 ·rcases Nat.lt_or_ge l.length i with hgt|hgt
  ·obtain rfl:i=l.length+1:=by omega
   have hle:decide (((l.length+1:Nat):Int)≤((bs l).size:Int))=false:=decide_eq_false (by omega);clear htk hlen;generalize hq:ptS l (l.length+1)=q at *;repeat' first|refine zd ?_|((first|refine zk ?_|refine zi ?_|refine regA ?_|fail);conv=>whnf)|(refine za rfl (zM hle) (fun _=>?_))|fail
   refine (zlQ (xs:=strsPV q.1) (n:=q.1.length) rfl rfl (by simp [strsPV])).trans ?_
   subst hq;exact congrArg (fun z=>some (AV.x (.d (.s 1 z)))) (List.take_of_length_le (by simp [strsPV]))
  ·obtain rfl:i=l.length:=by omega
   have hne:((l.length:Int) == ((bs l).size:Int))=true:=beq_iff_eq.2 (by omega);have hle:decide ((l.length:Int)≤((bs l).size:Int))=true:=decide_eq_true (by omega);have hT:∀ b:Bool,(bif ((l.length:Int) == ((bs l).size:Int)) then true else b)=true:=fun b=>by rw [hne];rfl
   have hT:=hT (((0:UInt8).toNat:Int) == 32);have hS:ptS l (l.length+1)=((ptS l l.length).1 ++ [(bs l).extract (ptS l l.length).2 l.length],l.length+1):=by
    rw [ptS,if_pos (by rw [List.getD_eq_getElem?_getD,List.getElem?_eq_none (Nat.le_refl _)];rfl)]
   have e:=htk ((bs l).extract (ptS l l.length).2 l.length);have hn:=hlen ((bs l).extract (ptS l l.length).2 l.length);clear htk hlen;generalize ptS l l.length=q at *;repeat' first|refine zd ?_|refine zc ?_|((first|refine zf ?_|refine regA ?_|fail);conv=>whnf)|(refine za rfl (fun _=>?_) (zaf hle))|((first|refine pkA ?_|refine⟨(0:UInt8),zax (fun h=>absurd h (by rw [hne];exact Bool.false_ne_true)),?_⟩|fail);conv=>whnf)|(refine za rfl (fun _=>?_) (zaf hT))|((first|refine zsq ?_|refine andA ?_|fail);conv=>whnf)|((refine And.intro (by refine⟨?_,?_,?_⟩ <;> simp [zO,maxLen] <;> omega) ?_);conv=>whnf)|fail
   refine⟨l.length+1,by omega,by omega,?_⟩
   rw [hS];dsimp only;rw [hn];exact impA
end Go.Proofs.YtnkhljdifljdbaaGreatDoor
namespace Go.Proofs.YtnkhljdifljdbaaGreatDoor
open Go Go.QL FoT
set_option maxHeartbeats 3200000
set_option maxRecDepth 20000
attribute [local irreducible] ACall FnC YC PCall AWx EndX zm8
abbrev linesL (x:TubeT) (n:Nat):List ByteArray:=(List.range n).map fun j=>bs (lineJ x j)
abbrev anssL (x:TubeT) (n:Nat):List ByteArray:=(List.range n).map (ansA x)
theorem work_law (x:TubeT) (hO:KindOK x.k) (hk:KGood x.k) (hE:kindE x.k=0) (m:Nat) (hm:m≤12) :
  FnC Tryz.prog 10 [setAV (setL x.k),.x (.d (.s 1 (strsPV (linesL x (2 * m)))))] (.t [.x (.d (.s 1 (strsPV (anssL x (2 * m))))),iv .i64 0]):=by
 have hL:(linesL x (2 * m)).length=2 * m:=by simp [linesL]
 refine work_fn (setL x.k) x.k rfl (fun k hk=>by rw [List.mem_singleton.1 hk];exact hO) (setL_ok x.k hE) _ _ (by omega) (by simp [linesL,anssL]) (dsk x) rfl fun i hi=>?_
 have:=do_at x hk hE i (by omega);simp only [linesL,anssL,List.getElem_map,List.getElem_range];exact this
theorem day_law (x:TubeT) (hO:KindOK x.k) (hk:KGood x.k) (hE:kindE x.k=0) (m:Nat) (hm:m≤12):∃ a b:Int,
  FnC Tryz.prog 11 [setAV (setL x.k),.x (.d (.s 1 (strsPV (linesL x (2 * m)))))] (.t [.a [iC (((ev x m).now:Int) * 60),nC,.d (zR [0]),iC 0,iC 0,iC 0,iC (((ev x m).now:Int) * 60),.d (.s 2 [[.v (.int .i64 a),.v (.int .i64 b)]])],iv .i64 0]) ∧
  (∀ d:Nat,runS x (ev x m).str (ev x m).now d < needL x.k.steps 1000→(∀ d':Nat,d' < d→needL x.k.steps 1000≤runS x (ev x m).str (ev x m).now d') →
   ((ev x m).now:Int)≤a∧a≤(ev x m).now+d∧(b < 0∨(ev x m).now+d≤b)) ∧
  (∀ d:Nat,needL x.k.steps 1000≤runS x (ev x m).str (ev x m).now d→b < 0∨(ev x m).now+d < b):=by
 have hL:(linesL x (2 * m)).length=2 * m:=by simp [linesL]
 have hi:=ev_in x hk m hm;have hnow:=hi.now;have hsi:=hi.since;obtain⟨sp,a,b,h1,h2,h3,h4,h5,h6,h7⟩:=ev_end x hk m hm;have hds:dsk x (2 * m)=dskE (ev x m):=by
  unfold dsk;rw [if_pos (by omega),show 2 * m / 2=m by omega]
 refine⟨addN a (ev x m).since,addN b (ev x m).since,?_,h6,h7⟩
 have hf:=dfails_fn (setL x.k) x.k hk hE rfl (dskE (ev x m)) (by unfold dskE;dsimp only;omega) (by unfold dskE;dsimp only;omega) (((ev x m).now:Int) - (ev x m).since) (by unfold dskE;dsimp only;omega) sp h1 h2 a b h3 h4 h5;have:=day_fn (setL x.k) x.k rfl (fun k hk=>by rw [List.mem_singleton.1 hk];exact hO) (setL_ok x.k hE) (linesL x (2 * m)) (anssL x (2 * m)) (by omega) (by simp [linesL,anssL]) (dsk x) rfl (fun i hi=>by
  have:=do_at x hk hE i (by omega);simp only [linesL,anssL,List.getElem_map,List.getElem_range];exact this) (addN a (ev x m).since) (addN b (ev x m).since) [97,110,110] rfl (by rw [hL,hds];exact hf)
 rw [hL,hds] at this;exact this
end Go.Proofs.YtnkhljdifljdbaaGreatDoor
namespace Go.Proofs.YtnkhljdifljdbaaGreatDoor
open Go Go.QL FoT
set_option maxHeartbeats 6400000
set_option maxRecDepth 20000
attribute [local irreducible] ACall FnC YC PCall AWx EndX zm8
abbrev u16P (l:List Nat):PV:=.s 1 (l.map fun x:Nat=>[PV.v (.int .u16 ((x:Nat):Int))])
abbrev u8P (l:List Nat):PV:=.s 1 (l.map fun x:Nat=>[PV.v (.int .u8 ((x:Nat):Int))])
abbrev blP (l:List Bool):PV:=.s 1 (l.map fun b:Bool=>[PV.v (.bool b)])
abbrev tubeC (x:TubeT):List SV:=[iC x.k.new,iC x.k.lo,iC x.k.hi,.d (.s 2 (x.k.steps.map stepPV)),.d (u16P x.wear),.d (u8P x.hours),.d (u16P x.volts),.d (blP x.chg)]
structure TubeOK (x:TubeT):Prop where
 k:KindOK x.k
 wear:∀ n ∈ x.wear,n < 65536
 hours:∀ n ∈ x.hours,n < 256
 volts:∀ n ∈ x.volts,n < 65536
theorem setup_fn:FnC Tryz.prog 6 [] (setAV ⟨10,2,1,30,5,[[97,110,110],[98,111]],[⟨1000,1,3,[(1000,300),(900,500),(800,700)]⟩]⟩):=by
 refine hdC Tryz.func6 Tryz.ntmps6 (res:=[.cell 0 40]) fun w0 K0=>?_
 repeat' first|refine zd ?_|((first|refine zi ?_|refine regA ?_|fail);conv=>whnf)|fail
 rfl
theorem lastS_get {k:KindT} (hk:KGood k):(k.steps.map stepPV)[(((k.steps.map stepPV).length:Int) - 1).toNat]?=some (stepPV (k.steps.getLastD (0,0))):=by
 have hl:=hk.len.1;rw [List.length_map,show ((k.steps.length:Int) - 1).toNat=k.steps.length - 1 by omega,List.getElem?_map,List.getLastD_eq_getLast?,List.getLast?_eq_getElem?,List.getElem?_eq_getElem (by omega)];rfl
theorem hour_get (x:TubeT) (i:Nat) (hi:i < x.hours.length):(x.hours.map fun n:Nat=>[PV.v (.int .u8 ((n:Nat):Int))])[((i:Nat):Int).toNat]?=some [.v (.int .u8 ((x.hours.getD i 0:Nat):Int))]:=by
 rw [Int.toNat_natCast,List.getElem?_map,List.getD_eq_getElem?_getD,List.getElem?_eq_getElem hi];rfl
theorem chg_get (x:TubeT) (i:Nat) (h:0 < x.chg.length):(x.chg.map fun b:Bool=>[PV.v (.bool b)])[((i % x.chg.length:Nat):Int).toNat]?=some [.v (.bool (x.chg.getD (i % x.chg.length) false))]:=by
 have:=Nat.mod_lt i h;rw [Int.toNat_natCast,List.getElem?_map,List.getD_eq_getElem?_getD,List.getElem?_eq_getElem this];rfl
theorem lines_len (x:TubeT) (n:Nat):(strsPV (linesL x n)).length=n:=by simp [strsPV,linesL]
theorem lines_snoc (x:TubeT) (n:Nat) {b:ByteArray} (hb:b=bs (lineJ x n)):(strsPV (linesL x n)).take n ++ [[PV.v (.string b)]]=strsPV (linesL x (n+1)):=by
 rw [List.take_of_length_le (by rw [lines_len];exact Nat.le_refl _),hb];unfold strsPV linesL;rw [List.range_succ,List.map_append,List.map_append];rfl
theorem turn_lt {l:List Nat} (h:∀ n ∈ l,n < 65536) (n:Nat):turnL l n < 65536:=by
 unfold turnL;split
 ·decide
 ·rename_i hl;have:=Nat.mod_lt n (List.length_pos_iff.2 hl);rw [List.getD_eq_getElem?_getD,List.getElem?_eq_getElem this];have:=h _ (List.getElem_mem this);show ((l[n % l.length]:Nat):Int) < 65536
  omega
theorem run_le (x:TubeT) (hk:KGood x.k) {s:Int} (hs:0≤s∧s≤1000000) (now:Nat):∀ n:Nat,0≤runS x s now n∧runS x s now n≤1000000
 | 0=>hs
 | n+1=>by
  have:=run_le x hk hs now n;have:=wear_in x hk (now+n+1);have:=hk.lo;unfold runS nextS;omega
theorem ev_le (x:TubeT) (hk:KGood x.k):∀ i:Nat,0≤(ev x i).str∧(ev x i).str≤1000000
 | 0=>by have:=hk.new;show 0≤x.k.new∧x.k.new≤1000000;omega
 | i+1=>by
  have:=run_le x hk (ev_le x hk i) (ev x i).now (evN x i);show 0≤(stp x i (mid x i (ev x i))).str∧(stp x i (mid x i (ev x i))).str≤1000000
  unfold stp;split
  ·have:=hk.new;dsimp only;omega
  ·exact this
theorem ev_now (x:TubeT) (hk:KGood x.k):∀ i:Nat,(ev x i).now≤80 * i
 | 0=>Nat.le_refl _
 | i+1=>by
  have:=ev_now x hk i;have:=evN_in x i;have h:(ev x (i+1)).now=(ev x i).now+evN x i:=by
   show (stp x i (mid x i (ev x i))).now=_
   unfold stp;split <;> rfl
  omega
theorem head_run (n:Nat):∃ t,ptL (runB n)=bs runW::t:=by
 obtain⟨t,ht⟩:=ptS_pre (runB n) 4 ((runB n).length+1 - 4);rw [show 4+((runB n).length+1 - 4)=(runB n).length+1 by simp <;> omega] at ht;refine⟨t,ht.trans ?_⟩
 rw [show (ptS (runB n) 4).1=[(bs (runB n)).extract 0 3] from rfl];show [_] ++ t=_
 rw [List.singleton_append];congr 1
theorem head_chg:∃ c t,ptL chgB=bs c::t∧decide (c=runW)=false:=⟨chgW,[bs [48]],by decide +kernel,by decide⟩
theorem head_chk (v:Nat) (p:Bool):∃ c t,ptL (chkB v p)=bs c::t∧decide (c=runW)=false:=by
 obtain⟨t,ht⟩:=ptS_pre (chkB v p) 6 ((chkB v p).length+1 - 6);rw [show 6+((chkB v p).length+1 - 6)=(chkB v p).length+1 by simp <;> omega] at ht;refine⟨chkW,t,ht.trans ?_,by decide⟩
 rw [show (ptS (chkB v p) 6).1=[(bs (chkB v p)).extract 0 5] from rfl];show [_] ++ t=_
 rw [List.singleton_append];congr 1
end Go.Proofs.YtnkhljdifljdbaaGreatDoor
namespace Go.Proofs.YtnkhljdifljdbaaGreatDoor
open Go Go.QL FoT
set_option maxHeartbeats 6400000
set_option maxRecDepth 20000
attribute [local irreducible] ACall FnC YC PCall AWx EndX zm8
abbrev lwF (x:TubeT) (i n:Nat) (now:Int) (str:Int):Fr:=[(10,iv .i64 i),(9,.x (.o 900 n n)),(8,iv .i64 (needL x.k.steps 1000)),(7,iv .i64 (leastV x.k)),(6,iv .i64 now),(5,iv .i64 str),(4,.x (.b 4 0)),(3,.x (.b 3 0)),(2,bv false),(1,.x (.b 1 0))]
abbrev lwS (x:TubeT) (n:Nat):Sg:=[(900,.chain 9 1 n (strsPV (linesL x n))),(4,.box (setC (setL x.k))),(3,.box [iC x.k.new,iC x.k.lo,iC x.k.hi,.d (.s 2 (x.k.steps.map stepPV))]),(1,.box (tubeC x))]
abbrev lwY (x:TubeT) (i:Nat) (a b:Int):SV × Ob:=(.b 17 0,.box [iC (((ev x i).now:Int) * 60),nC,.d (zR [0]),iC 0,iC 0,iC 0,iC (((ev x i).now:Int) * 60),.d (.s 2 [[.v (.int .i64 a),.v (.int .i64 b)]])])
abbrev runS3:ByteArray:=⟨#[114,117,110]⟩
abbrev okS2:ByteArray:=⟨#[111,107]⟩
theorem line_head (x:TubeT) (j:Nat):∃ c t,ptL (lineJ x j)=bs c::t∧(bif !((bs c).toList == runS3.toList) then !((ansA x j).toList == okS2.toList) else false)=false:=by
 unfold lineJ ansA;have hok:((okS).toList == okS2.toList)=true:=by decide +kernel
 by_cases h:j % 2=0
 ·rw [if_pos h,if_pos h];obtain⟨t,ht⟩:=head_run (evN x (j / 2) * 60);refine⟨runW,t,ht,?_⟩
  rw [show runS3=bs runW from rfl,zdf,decide_eq_true rfl];rfl
 ·rw [if_neg h,if_neg h,hok];split
  ·obtain⟨c,t,ht,_⟩:=head_chg;exact⟨c,t,ht,by cases !((bs c).toList == runS3.toList) <;> rfl⟩
  ·obtain⟨c,t,ht,_⟩:=head_chk (evV x (j / 2)).toNat (evP x (j / 2) (mid x (j / 2) (ev x (j / 2))).str);exact⟨c,t,ht,by cases !((bs c).toList == runS3.toList) <;> rfl⟩
theorem line_le (x:TubeT) (hk:KGood x.k) (j:Nat):(lineJ x j).length≤100000:=by
 unfold lineJ;split
 ·have:=(dig_in (evN x (j / 2) * 60) (by have:=evN_in x (j / 2);omega)).2.2.1;simp;omega
 ·split
  ·simp
  ·have hv:=volt_in x hk (j / 2);have hl:=least_in hk;have:=(dig_in (evV x (j / 2)).toNat (by omega)).2.2.1;have h4:∀ p,(passS p).length=4:=fun p=>by cases p <;> rfl
   simp [h4];omega
abbrev lwG (x:TubeT) (i t m n:Nat) (now:Int) (str:Int):Fr:=(12,iv .i64 t)::(11,iv .i64 m)::lwF x i n now str
theorem Stp.at25 {P:Program} {Γ:Cx} {y:Code} {ops:Array Oper} {b:Bool} {Q:Exit→Fr→Sg→Prop} {fr:Fr} {σ:Sg} (h:Stp P Γ (.seq (.region 25 ops b) y) Q fr σ):AW P Γ (.seq (.region 25 ops b) y) Q fr σ:=by unfold Stp at h;exact h
theorem fails_law (x:TubeT) (hx:TubeOK x) (aw:FnC Tryz.prog 5 [] (bv true)):FnC Tryz.prog 3 [.a (tubeC x)] (bv true):=by
 have ck:=rcheck3_fn x.k;have st:=setup_fn;by_cases hE:kindE x.k=0
 ·rw [hE] at ck;have hk:=KGood.of hE;have nd:=rneeded_fn x.k hk 1000 (least_in hk).2;have hll:(x.k.steps.map stepPV).length=x.k.steps.length:=List.length_map _;have hkl:=hk.len;have hlg:=lastS_get hk;have e1:IntKind.i64.wrap (((x.k.steps.map stepPV).length:Int) - 1)=((x.k.steps.map stepPV).length:Int) - 1:=zg (by omega);refine hdC Tryz.func3 Tryz.ntmps3 (res:=[.tmp 2]) fun w0 K0=>?_
  repeat' first|refine zd ?_|refine zc ?_|((first|refine zf ?_|refine regA ?_|refine drA (id:=4) 7 true [0,1,0,0,8,31,0,127] ?_|refine zsn (ck) ?_|refine zsp (st) ?_|refine zsn (nd) ?_|fail);conv=>whnf)|(refine za rfl (zM rfl) (fun _=>?_))|((first|refine⟨_,e1,?_⟩|refine⟨_,ze ⟨by omega,hlg⟩,?_⟩|refine andA ?_|fail);conv=>whnf)|(refine lnA fun hln=>?_;conv=>whnf)|fail
  refine zaq (Imp.nil 900 9 1 (fr':=lwF x 0 0 0 x.k.new) (σ':=(lwS x 0).tail) rfl ?_ ?_ rfl rfl) ?_
  ·exact⟨⟨_,rfl,.inl rfl⟩,⟨_,rfl,.inr ⟨rfl,rfl⟩⟩,⟨_,rfl,.inl rfl⟩,⟨_,rfl,.inl rfl⟩,⟨_,rfl,.inl rfl⟩,⟨_,rfl,.inl rfl⟩,⟨_,rfl,.inl rfl⟩,⟨_,rfl,.inl rfl⟩,⟨_,rfl,.inl rfl⟩,⟨_,rfl,.inl rfl⟩,trivial⟩
  ·exact⟨⟨_,rfl,.inl rfl⟩,⟨_,rfl,.inl rfl⟩,⟨_,rfl,.inl rfl⟩,trivial⟩
  refine zJ (fun i:Nat=>lwF x i (2 * i) (ev x i).now (ev x i).str) (fun i=>lwS x (2 * i)) (fun i=>i≤min x.hours.length 12) (fun i=>12 - i) 0 (Nat.zero_le _) impA ?_
  intro i hi;rcases Nat.lt_or_ge i (min x.hours.length 12) with hil|hil
  ·have hi1:i < x.hours.length:=by omega
   have hi2:i < 12:=by omega
   have hg:=hour_get x i hi1;have hh:x.hours.getD i 0 < 256:=by
    rw [List.getD_eq_getElem?_getD,List.getElem?_eq_getElem hi1];exact hx.hours _ (List.getElem_mem hi1)
   have hml:(x.hours.map fun n:Nat=>[PV.v (.int .u8 ((n:Nat):Int))]).length=x.hours.length:=List.length_map _;have hT:(bif decide ((i:Int) < ((x.hours.map fun n:Nat=>[PV.v (.int .u8 ((n:Nat):Int))]).length:Int)) then decide ((i:Int) < 12) else false)=true:=by
    rw [decide_eq_true (by omega),decide_eq_true (by omega)];rfl
   have hn:=evN_in x i;have f1:IntKind.i64.wrap ((x.hours.getD i 0:Nat):Int)=((x.hours.getD i 0:Nat):Int):=zg (by omega);have f2:((x.hours.getD i 0:Nat):Int).tmod 80=((x.hours.getD i 0 % 80:Nat):Int):=rfl;have f3:IntKind.i64.wrap (1+((x.hours.getD i 0 % 80:Nat):Int))=((evN x i:Nat):Int):=by rw [zg (by omega)];unfold evN;omega
   have f4:IntKind.i64.wrap (((evN x i:Nat):Int) * 60)=((evN x i * 60:Nat):Int):=by rw [zg (by omega)];omega
   have dg:=(zrW 4 (by decide) (evN x i * 60) (by omega)).2;obtain⟨q1,_,q3,_⟩:=dig_in (evN x i * 60) (by omega);rw [show 4+1=5 from rfl,q1] at dg;have gs:(⟨#[114,117,110,32]⟩:ByteArray).size+(bs (dig (evN x i * 60))).size≤maxLen:=by rw [zbj];show 4+_≤_;unfold maxLen;omega
   have hS1:=lines_snoc x (2 * i) (b:=(⟨#[114,117,110,32]⟩:ByteArray) ++ bs (dig (evN x i * 60))) (by
    unfold lineJ;rw [if_pos (by omega),show 2 * i / 2=i by omega];exact za7 [114,117,110,32] (dig (evN x i * 60)))
   have hln2:=lines_len x (2 * i);clear hlg e1 st hll;repeat' first|refine zd ?_|refine zc ?_|((first|refine zf ?_|refine regA ?_|fail);conv=>whnf)|(refine za rfl (fun _=>?_) (zaf hT))|((first|refine⟨_,ze ⟨by omega,hg⟩,?_⟩|refine⟨_,f1,?_⟩|refine⟨_,f2,?_⟩|refine⟨_,f3,?_⟩|refine⟨_,f4,?_⟩|refine zsn (dg) ?_|refine And.intro (zay gs) ?_|refine pkA ?_|refine andA ?_|fail);conv=>whnf)|((refine And.intro (by refine⟨?_,?_,?_⟩ <;> simp [zO,maxLen] <;> omega) ?_);conv=>whnf)|(refine lnA fun hln=>?_;conv=>whnf)|fail
   have hstr:=ev_le x hk i;have hnow:=ev_now x hk i;have hlo:=hk.lo;have hhi:=hk.hi;clear f1 f2 f3 f4 dg q1 q3 gs hg hml hh;refine zJ (fun t:Nat=>lwG x i t (evN x i) (2 * i+1) (((ev x i).now+t:Nat):Int) (runS x (ev x i).str (ev x i).now t)) (fun _=>lwS x (2 * i+1)) (fun t=>t≤evN x i) (fun t=>evN x i - t) 0 (Nat.zero_le _) impA ?_
   clear hS1 hln2;intro t ht;rcases Nat.lt_or_ge t (evN x i) with htl|htl
   ·have hr:=run_le x hk hstr (ev x i).now t;have hw:=wear_in x hk ((ev x i).now+t+1);have htu:=turn_lt hx.wear ((ev x i).now+t+1);have tn:FnC Tryz.prog 9 [u16AV x.wear,iv .i64 (((ev x i).now+t+1:Nat):Int)] (iv .i64 (turnL x.wear ((ev x i).now+t+1))):=turn_fn x.wear hx.wear _ (by omega);have hc:decide ((t:Int) < (evN x i:Int))=true:=decide_eq_true (by omega);have g0:IntKind.i64.wrap (((ev x i).now+t:Nat)+1)=(((ev x i).now+t+1:Nat):Int):=by rw [zg (by omega)];omega
    have g1:IntKind.i64.wrap (runS x (ev x i).str (ev x i).now t - x.k.lo)=runS x (ev x i).str (ev x i).now t - x.k.lo:=zg (by omega);have g2:IntKind.i64.wrap (x.k.hi - x.k.lo)=x.k.hi - x.k.lo:=zg (by omega);have g3:IntKind.i64.wrap (x.k.hi - x.k.lo+1)=x.k.hi - x.k.lo+1:=zg (by omega);have g4:(turnL x.wear ((ev x i).now+t+1)).tmod (x.k.hi - x.k.lo+1)=wearI x ((ev x i).now+t+1):=rfl;have g5:IntKind.i64.wrap (runS x (ev x i).str (ev x i).now t - x.k.lo - wearI x ((ev x i).now+t+1))=runS x (ev x i).str (ev x i).now t - x.k.lo - wearI x ((ev x i).now+t+1):=zg (by omega);have g6:x.k.hi - x.k.lo+1≠0:=by omega
    have g7:IntKind.i64.wrap ((t:Int)+1)=((t+1:Nat):Int):=by rw [zg (by omega)];omega
    have hm:(if runS x (ev x i).str (ev x i).now t - x.k.lo - wearI x ((ev x i).now+t+1) > 0 then runS x (ev x i).str (ev x i).now t - x.k.lo - wearI x ((ev x i).now+t+1) else 0)=runS x (ev x i).str (ev x i).now (t+1):=mxA 0 _;have hm2:∀ a b:Int,a=b→(some (iv .i64 a):Option AV)=some (iv .i64 b):=fun a b h=>by rw [h]
    clear hhi hlo;generalize runS x (ev x i).str (ev x i).now t=r0 at *;generalize wearI x ((ev x i).now+t+1)=wv at *;generalize turnL x.wear ((ev x i).now+t+1)=tv at *;repeat' first|refine zd ?_|refine zc ?_|((first|refine zf ?_|refine regA ?_|refine drA (id:=18) 18 false [0,0,2,6,15,0,32,0,224,0,512,1536,0,4096,12288,32256,65024,131040,262143,524287,1048575] ?_|fail);conv=>whnf)|(refine za rfl (fun _=>?_) (zaf hc))|((first|refine⟨_,g0,?_⟩|refine zsp (tn) ?_|refine⟨_,g1,?_⟩|refine⟨_,g2,?_⟩|refine⟨_,g3,?_⟩|refine⟨_,g5,?_⟩|refine⟨_,g7,?_⟩|refine And.intro (zay g6) ?_|refine⟨_,g4,?_⟩|refine pkA ?_|refine andA ?_|fail);conv=>whnf)|fail
    exact⟨t+1,htl,by omega,(impX (by repeat' (first|exact trivial|refine And.intro ?_ ?_|exact hm2 _ _ hm|exact zsw)))⟩
   ·obtain rfl:t=evN x i:=by omega
    have hc:decide ((evN x i:Int) < (evN x i:Int))=false:=decide_eq_false (by omega);have hcl:(x.chg.map fun b:Bool=>[PV.v (.bool b)]).length=x.chg.length:=List.length_map _;have c1:decide (((x.chg.map fun b:Bool=>[PV.v (.bool b)]).length:Int) > 0)=true→((x.chg.map fun b:Bool=>[PV.v (.bool b)]).length:Int)≠0:=fun h=>by have:=of_decide_eq_true h;omega
    have c2:(i:Int).tmod ((x.chg.map fun b:Bool=>[PV.v (.bool b)]).length:Int)=((i % x.chg.length:Nat):Int):=by rw [hcl];rfl
    have c3:decide (((x.chg.map fun b:Bool=>[PV.v (.bool b)]).length:Int) > 0)=true→0≤((i % x.chg.length:Nat):Int)∧(x.chg.map fun b:Bool=>[PV.v (.bool b)])[((i % x.chg.length:Nat):Int).toNat]?=some [.v (.bool (x.chg.getD (i % x.chg.length) false))]:=fun h=>⟨by omega,chg_get x i (by have:=of_decide_eq_true h;omega)⟩
    have c4:(bif decide (((x.chg.map fun b:Bool=>[PV.v (.bool b)]).length:Int) > 0) then x.chg.getD (i % x.chg.length) false else false)=evC x i:=by
     unfold evC;rw [hcl,show decide ((x.chg.length:Int) > 0)=decide (0 < x.chg.length) from decide_eq_decide.2 (by omega)];cases decide (0 < x.chg.length) <;> rfl
    have hS0:=lines_len x (2 * i+1);have g7:IntKind.i64.wrap ((i:Int)+1)=((i+1:Nat):Int):=by rw [zg (by omega)];omega
    by_cases hcc:evC x i=true
    ·have hC:=c4.trans hcc;have hev:ev x (i+1)=⟨(ev x i).now+evN x i,(ev x i).now+evN x i,[],x.k.new⟩:=by
      show stp x i (mid x i (ev x i))=_
      unfold stp;rw [if_pos hcc];rfl
     have hS2:=lines_snoc x (2 * i+1) (b:=(⟨#[99,104,97,110,103,101,32,48]⟩:ByteArray)) (by
      unfold lineJ;rw [if_neg (show ¬ (2 * i+1) % 2=0 by omega),show (2 * i+1) / 2=i by omega,if_pos hcc];rfl)
     clear c4 hstr;repeat' first|((first|refine zkA hTt hMix (id:=20) 6 [0,1,3,4] [⟨2,false,false,[3,4],[5]⟩] [0,0,3,0,8,7,63] (by kernel_rfl) rfl (by kernel_rfl) (by kernel_rfl) (by kernel_rfl) ?_|refine LateGo.mk ⟨_,rfl,?_⟩|fail);conv=>whnf)|refine zd ?_|((first|refine zk ?_|refine regA ?_|refine drA (id:=19) 12 false [0,1,3,7,15,31,63,31,31,287,799,1951,4095,8191,16383] ?_|fail);conv=>whnf)|(refine za rfl (zM hc) (fun _=>?_))|(refine za rfl (fun _=>?_) (zaf hC))|((first|refine And.intro (zax c1) ?_|refine⟨_,c2,?_⟩|refine⟨_,zax c3,?_⟩|refine⟨_,g7,?_⟩|refine pkA ?_|refine andA ?_|fail);conv=>whnf)|((refine And.intro (by refine⟨?_,?_,?_⟩ <;> simp [zO,maxLen] <;> omega) ?_);conv=>whnf)|fail
     refine⟨i+1,by omega,by omega,?_⟩
     show Imp _ _ _ (lwF x (i+1) (2 * (i+1)) (ev x (i+1)).now (ev x (i+1)).str) (lwS x (2 * (i+1)))
     rw [hev,show 2 * (i+1)=2 * i+1+1 by omega];exact impA
    ·have hC:=c4.trans (Bool.eq_false_iff.2 hcc);have hev:(ev x (i+1)).now=(ev x i).now+evN x i∧(ev x (i+1)).str=runS x (ev x i).str (ev x i).now (evN x i):=by
      show (stp x i (mid x i (ev x i))).now=_∧(stp x i (mid x i (ev x i))).str=_
      unfold stp;rw [if_neg hcc];exact⟨rfl,rfl⟩
     have hl0:=least_in hk;have hv:=volt_in x hk i;have htu:=turn_lt hx.volts i;have tn:FnC Tryz.prog 9 [u16AV x.volts,iv .i64 ((i:Nat):Int)] (iv .i64 (turnL x.volts i)):=turn_fn x.volts hx.volts _ (by omega);have v1:IntKind.i64.wrap (1000 - leastV x.k)=1000 - leastV x.k:=zg (by omega);have v2:IntKind.i64.wrap (1000 - leastV x.k+1)=1000 - leastV x.k+1:=zg (by omega);have v3:1000 - leastV x.k+1≠0:=by omega
     obtain⟨vn,hvn⟩:∃ vn:Nat,evV x i=vn:=⟨(evV x i).toNat,by omega⟩;have v5:IntKind.i64.wrap (leastV x.k+(turnL x.volts i).tmod (1000 - leastV x.k+1))=(vn:Int):=by
      rw [show leastV x.k+(turnL x.volts i).tmod (1000 - leastV x.k+1)=evV x i from rfl,hvn];exact zg (by omega)
     have nd2:=rneeded_fn x.k hk (vn:Int) (by omega);have dg:=(zrW 4 (by decide) vn (by omega)).2;obtain⟨q1,_,q3,_⟩:=dig_in vn (by omega);rw [show 4+1=5 from rfl,q1] at dg;have hlB:∀ p:Bool,evP x i (runS x (ev x i).str (ev x i).now (evN x i))=p→((((⟨#[99,104,101,99,107,32,48,32]⟩:ByteArray) ++ bs (dig vn)) ++ (⟨#[32]⟩:ByteArray)) ++ bs (passS p))=bs (lineJ x (2 * i+1)):=fun p hp=>by
      unfold lineJ;rw [if_neg (show ¬ (2 * i+1) % 2=0 by omega),show (2 * i+1) / 2=i by omega,if_neg hcc,show (mid x i (ev x i)).str=runS x (ev x i).str (ev x i).now (evN x i) from rfl,hp,hvn,Int.toNat_natCast];show ((bs [99,104,101,99,107,32,48,32] ++ bs (dig vn)) ++ bs [32]) ++ bs (passS p)=_
      rw [za7,za7,za7];congr 1
      simp [chkB]
     have hsz:=zbj (dig vn);have gs1:(⟨#[99,104,101,99,107,32,48,32]⟩:ByteArray).size+(bs (dig vn)).size≤maxLen:=by rw [hsz];show 8+_≤_;unfold maxLen;omega
     have hs2:((⟨#[99,104,101,99,107,32,48,32]⟩:ByteArray) ++ bs (dig vn)).size≤12:=by rw [ByteArray.size_append,hsz];show 8+_≤_;omega
     have gs2:((⟨#[99,104,101,99,107,32,48,32]⟩:ByteArray) ++ bs (dig vn)).size+(⟨#[32]⟩:ByteArray).size≤maxLen:=by show _+1≤_;unfold maxLen;omega
     have hs3:(((⟨#[99,104,101,99,107,32,48,32]⟩:ByteArray) ++ bs (dig vn)) ++ (⟨#[32]⟩:ByteArray)).size≤13:=by rw [ByteArray.size_append];show _+1≤_;omega
     have gs3:∀ p:Bool,(((⟨#[99,104,101,99,107,32,48,32]⟩:ByteArray) ++ bs (dig vn)) ++ (⟨#[32]⟩:ByteArray)).size+(bs (passS p)).size≤maxLen:=fun p=>by
      have:(bs (passS p)).size=4:=by cases p <;> rfl
      rw [this];unfold maxLen;omega
     have hPd:∀ p:Bool,evP x i (runS x (ev x i).str (ev x i).now (evN x i))=p→decide (runS x (ev x i).str (ev x i).now (evN x i) ≥ needL x.k.steps (vn:Int))=p:=fun p hp=>by
      rw [← hp,← hvn];rfl
     clear c4 hstr hsz hs2 hs3 hlo hhi hvn;generalize v4:(turnL x.volts i).tmod (1000 - leastV x.k+1)=tm at *;cases hp:evP x i (runS x (ev x i).str (ev x i).now (evN x i)) with
     | true=>
      have hS2:=lines_snoc x (2 * i+1) (hlB true hp);have hP:=hPd true hp;have gs3:=gs3 true;clear hPd hlB;repeat' first|refine zd ?_|((first|refine zf ?_|refine zk ?_|refine regA ?_|refine drA (id:=19) 12 false [0,1,3,7,15,31,63,31,31,287,799,1951,4095,8191,16383] ?_|fail);conv=>whnf)|(refine za rfl (zM hc) (fun _=>?_))|(refine za rfl (zM hC) (fun _=>?_))|(refine za rfl (fun _=>?_) (zaf hP))|((first|refine And.intro (zax c1) ?_|refine⟨_,c2,?_⟩|refine⟨_,v4,?_⟩|refine⟨_,zax c3,?_⟩|refine zsn (tn) ?_|refine zsn (nd2) ?_|refine zsn (dg) ?_|refine⟨_,v1,?_⟩|refine⟨_,v2,?_⟩|refine⟨_,v5,?_⟩|refine⟨_,g7,?_⟩|refine And.intro (zay v3) ?_|refine And.intro (zay gs1) ?_|refine And.intro (zay gs2) ?_|refine And.intro (zay gs3) ?_|refine pkA ?_|refine andA ?_|fail);conv=>whnf)|((refine And.intro (by refine⟨?_,?_,?_⟩ <;> simp [zO,maxLen] <;> omega) ?_);conv=>whnf)|fail
      refine⟨i+1,by omega,by omega,?_⟩
      show Imp _ _ _ (lwF x (i+1) (2 * (i+1)) (ev x (i+1)).now (ev x (i+1)).str) (lwS x (2 * (i+1)))
      rw [hev.1,hev.2,show 2 * (i+1)=2 * i+1+1 by omega];exact impA
     | false=>
      have hS2:=lines_snoc x (2 * i+1) (hlB false hp);have hP:=hPd false hp;have gs3:=gs3 false;clear hPd hlB;repeat' first|refine zd ?_|((first|refine zf ?_|refine zk ?_|refine regA ?_|refine drA (id:=19) 12 false [0,1,3,7,15,31,63,31,31,287,799,1951,4095,8191,16383] ?_|fail);conv=>whnf)|(refine za rfl (zM hc) (fun _=>?_))|(refine za rfl (zM hC) (fun _=>?_))|(refine za rfl (zM hP) (fun _=>?_))|((first|refine And.intro (zax c1) ?_|refine⟨_,c2,?_⟩|refine⟨_,v4,?_⟩|refine⟨_,zax c3,?_⟩|refine zsn (tn) ?_|refine zsn (nd2) ?_|refine zsn (dg) ?_|refine⟨_,v1,?_⟩|refine⟨_,v2,?_⟩|refine⟨_,v5,?_⟩|refine⟨_,g7,?_⟩|refine And.intro (zay v3) ?_|refine And.intro (zay gs1) ?_|refine And.intro (zay gs2) ?_|refine And.intro (zay gs3) ?_|refine pkA ?_|refine andA ?_|fail);conv=>whnf)|((refine And.intro (by refine⟨?_,?_,?_⟩ <;> simp [zO,maxLen] <;> omega) ?_);conv=>whnf)|fail
      refine⟨i+1,by omega,by omega,?_⟩
      show Imp _ _ _ (lwF x (i+1) (2 * (i+1)) (ev x (i+1)).now (ev x (i+1)).str) (lwS x (2 * (i+1)))
      rw [hev.1,hev.2,show 2 * (i+1)=2 * i+1+1 by omega];exact impA
  ·have hM:i≤12:=by omega
   have hml:(x.hours.map fun n:Nat=>[PV.v (.int .u8 ((n:Nat):Int))]).length=x.hours.length:=List.length_map _;have hT:(bif decide ((i:Int) < ((x.hours.map fun n:Nat=>[PV.v (.int .u8 ((n:Nat):Int))]).length:Int)) then decide ((i:Int) < 12) else false)=false:=by
    rcases Nat.lt_or_ge i x.hours.length with h|h
    ·rw [decide_eq_true (by omega),decide_eq_false (by omega)];rfl
    ·rw [decide_eq_false (by omega)];rfl
   have hwk:=work_law x hx.k hk hE i hM;obtain⟨a,b,hdy,h1,h2⟩:=day_law x hx.k hk hE i hM;have hstr:=ev_le x hk i;have hnow:=ev_now x hk i;have hlo:=hk.lo;have hhi:=hk.hi;have hln2:=lines_len x (2 * i);have hla:(strsPV (anssL x (2 * i))).length=2 * i:=by simp [strsPV,anssL]
   clear hlg e1 st hll;repeat' first|(with_reducible refine Stp.at25 ?_)|refine zd ?_|((first|refine zk ?_|refine regA ?_|fail);conv=>whnf)|(refine za rfl (zM hT) (fun _=>?_))|((refine andA ?_);conv=>whnf)|(refine lnA fun hln=>?_;conv=>whnf)|fail
   unfold Stp;refine zaq (Imp.freeze 900 (fr':=[(9,.x (.d (.s 1 (strsPV (linesL x (2 * i)))))),(8,iv .i64 (needL x.k.steps 1000)),(6,iv .i64 (ev x i).now),(5,iv .i64 (ev x i).str),(4,.x (.b 4 0)),(3,.x (.b 3 0)),(2,bv false),(1,.x (.b 1 0))]) (σ':=(lwS x (2 * i)).tail) rfl
    ⟨⟨_,rfl,.inr ⟨_,rfl,Nat.le_of_eq hln2.symm,congrArg (fun q=>AV.x (.d (.s 1 q))) (List.take_of_length_le (Nat.le_of_eq hln2)).symm⟩⟩,⟨_,rfl,.inl rfl⟩,⟨_,rfl,.inl rfl⟩,⟨_,rfl,.inl rfl⟩,⟨_,rfl,.inl rfl⟩,⟨_,rfl,.inl rfl⟩,⟨_,rfl,.inl rfl⟩,⟨_,rfl,.inl rfl⟩,trivial⟩ ⟨rfl,rfl,rfl,trivial⟩ rfl rfl) ?_
   have hF:(bif (bif (bif (bif (0:Int) != 0 then true else (0:Int) != 0) then true else (([[PV.v (.int .i64 a),PV.v (.int .i64 b)]].length:Nat):Int) != 1) then true else ((strsPV (anssL x (2 * i))).length:Int) != ((strsPV (linesL x (2 * i))).length:Int)) then true else ((ev x i).now:Int) * 60 != ((ev x i).now:Int) * 60)=false:=by
    rw [hla,hln2];simp
   have w1:IntKind.i64.wrap (((ev x i).now:Int) * 60)=((ev x i).now:Int) * 60:=zg (by omega);repeat' first|refine zd ?_|refine zc ?_|((first|refine zf ?_|refine regA ?_|refine zsn (hwk) ?_|refine zsn (hdy) ?_|refine⟨_,w1,?_⟩|fail);conv=>whnf)|(refine za rfl (zM hF) (fun _=>?_))|((refine andA ?_);conv=>whnf)|fail
   clear hF hwk hdy;refine zJ (fun j:Nat=>[(19,iv .i64 j),(15,.x (.d (.s 1 (strsPV (anssL x (2 * i)))))),(9,.x (.d (.s 1 (strsPV (linesL x (2 * i)))))),(17,.x (.b 17 0)),(8,iv .i64 (needL x.k.steps 1000)),(6,iv .i64 (ev x i).now),(5,iv .i64 (ev x i).str),(3,.x (.b 3 0)),(2,bv false),(1,.x (.b 1 0))])
    (fun _=>[(17,(lwY x i a b).2),(3,.box [iC x.k.new,iC x.k.lo,iC x.k.hi,.d (.s 2 (x.k.steps.map stepPV))]),(1,.box (tubeC x))]) (fun j=>j≤2 * i) (fun j=>2 * i - j) 0 (Nat.zero_le _) impA ?_
   intro j hj;rcases Nat.lt_or_ge j (2 * i) with hjl|hjl
   ·have hc:decide ((j:Int) < ((strsPV (anssL x (2 * i))).length:Int))=true:=decide_eq_true (by omega);obtain⟨c,t,ht,hq⟩:=line_head x j;have pt:=parts_fn (lineJ x j) (line_le x hk j);rw [ht] at pt;have g1:(strsPV (linesL x (2 * i)))[((j:Nat):Int).toNat]?=some [.v (.string (bs (lineJ x j)))]:=by
     rw [Int.toNat_natCast];simp [strsPV,linesL,hjl]
    have g2:(strsPV (anssL x (2 * i)))[((j:Nat):Int).toNat]?=some [.v (.string (ansA x j))]:=by
     rw [Int.toNat_natCast];simp [strsPV,anssL,hjl]
    have g3:(strsPV (bs c::t))[((0:Int)).toNat]?=some [.v (.string (bs c))]:=rfl;have g7:IntKind.i64.wrap ((j:Int)+1)=((j+1:Nat):Int):=by rw [zg (by omega)];omega
    clear h1 h2;repeat' first|refine zd ?_|refine zc ?_|((first|refine zf ?_|refine regA ?_|fail);conv=>whnf)|(refine za rfl (fun _=>?_) (zaf hc))|(refine za rfl (zM hq) (fun _=>?_))|((first|refine⟨_,ze ⟨by omega,g1⟩,?_⟩|refine⟨_,ze ⟨by omega,g2⟩,?_⟩|refine⟨_,ze ⟨by omega,g3⟩,?_⟩|refine zsn (pt) ?_|refine⟨_,g7,?_⟩|refine pkA ?_|refine andA ?_|fail);conv=>whnf)|(refine lnA fun hln=>?_;conv=>whnf)|fail
    exact⟨j+1,hjl,by omega,impA⟩
   obtain rfl:j=2 * i:=by omega
   have hc:decide (((2 * i:Nat):Int) < ((strsPV (anssL x (2 * i))).length:Int))=false:=decide_eq_false (by omega);have ix:([[PV.v (.int .i64 a),PV.v (.int .i64 b)]]:List (List PV))[((0:Int)).toNat]?=some [PV.v (.int .i64 a),PV.v (.int .i64 b)]:=rfl;repeat' first|refine zd ?_|refine zc ?_|((first|refine zk ?_|refine regA ?_|fail);conv=>whnf)|(refine za rfl (zM hc) (fun _=>?_))|((first|refine⟨_,ze ⟨by omega,ix⟩,?_⟩|refine andA ?_|fail);conv=>whnf)|(refine lnA fun hln=>?_;conv=>whnf)|fail
   refine zJ (fun d:Nat=>[(21,iv .i64 (((ev x i).now+d:Nat):Int)),(20,.x (.b 20 0)),(8,iv .i64 (needL x.k.steps 1000)),(6,iv .i64 (ev x i).now),(5,iv .i64 (runS x (ev x i).str (ev x i).now d)),(3,.x (.b 3 0)),(2,bv false),(1,.x (.b 1 0))])
    (fun _=>[(20,.box [iC a,iC b]),(3,.box [iC x.k.new,iC x.k.lo,iC x.k.hi,.d (.s 2 (x.k.steps.map stepPV))]),(1,.box (tubeC x))]) (fun d=>d≤801∧∀ d':Nat,d' < d→needL x.k.steps 1000≤runS x (ev x i).str (ev x i).now d') (fun d=>801 - d) 0 ⟨Nat.zero_le _,fun d' hd=>absurd hd (Nat.not_lt_zero _)⟩ impA ?_
   rintro d ⟨hd,hp⟩;have w8:IntKind.i64.wrap (((ev x i).now:Int)+800)=((ev x i).now:Int)+800:=zg (by omega);rcases Nat.lt_or_ge d 801 with hdl|hdl
   ·have hc:decide ((((ev x i).now+d:Nat):Int)≤((ev x i).now:Int)+800)=true:=decide_eq_true (by omega);rcases Int.lt_or_le (runS x (ev x i).str (ev x i).now d) (needL x.k.steps 1000) with hlt|hge
    ·have hl:decide (runS x (ev x i).str (ev x i).now d < needL x.k.steps 1000)=true:=decide_eq_true hlt;obtain⟨k1,k2,k3⟩:=h1 d hlt hp;have hfin:(bif (bif (bif decide (a ≥ ((ev x i).now:Int)) then decide (a≤(((ev x i).now+d:Nat):Int)) else false) then (bif decide (b < 0) then true else decide ((((ev x i).now+d:Nat):Int)≤b)) else false) then true else false)=true:=by
      rw [decide_eq_true (by omega:a ≥ ((ev x i).now:Int)),decide_eq_true (by omega:a≤(((ev x i).now+d:Nat):Int))];rcases k3 with k3|k3
      ·rw [decide_eq_true k3];rfl
      ·rw [decide_eq_true (by omega:(((ev x i).now+d:Nat):Int)≤b)];cases decide (b < 0) <;> rfl
     clear h1 h2 hp k1 k2 k3;repeat' first|refine zd ?_|refine zc ?_|((first|refine zf ?_|refine zi ?_|refine regA ?_|fail);conv=>whnf)|(refine za rfl (fun _=>?_) (zaf hc))|(refine za rfl (fun _=>?_) (zaf hl))|((first|refine⟨_,w8,?_⟩|refine zsp (aw) ?_|refine pkA ?_|fail);conv=>whnf)|fail
     exact congrArg (fun q=>some (bv q)) hfin
    ·have hl:decide (runS x (ev x i).str (ev x i).now d < needL x.k.steps 1000)=false:=decide_eq_false (by omega);have hp':∀ d':Nat,d' < d+1→needL x.k.steps 1000≤runS x (ev x i).str (ev x i).now d':=fun d' h=>by
      rcases Nat.lt_or_ge d' d with h'|h'
      ·exact hp d' h'
      ·obtain rfl:d'=d:=by omega
       exact hge
     have hr:=run_le x hk hstr (ev x i).now d;have hw:=wear_in x hk ((ev x i).now+d+1);have htu:=turn_lt hx.wear ((ev x i).now+d+1);have tn:FnC Tryz.prog 9 [u16AV x.wear,iv .i64 (((ev x i).now+d+1:Nat):Int)] (iv .i64 (turnL x.wear ((ev x i).now+d+1))):=turn_fn x.wear hx.wear _ (by omega);have g0:IntKind.i64.wrap (((ev x i).now+d:Nat)+1)=(((ev x i).now+d+1:Nat):Int):=by rw [zg (by omega)];omega
     have g1:IntKind.i64.wrap (runS x (ev x i).str (ev x i).now d - x.k.lo)=runS x (ev x i).str (ev x i).now d - x.k.lo:=zg (by omega);have g2:IntKind.i64.wrap (x.k.hi - x.k.lo)=x.k.hi - x.k.lo:=zg (by omega);have g3:IntKind.i64.wrap (x.k.hi - x.k.lo+1)=x.k.hi - x.k.lo+1:=zg (by omega);have g4:(turnL x.wear ((ev x i).now+d+1)).tmod (x.k.hi - x.k.lo+1)=wearI x ((ev x i).now+d+1):=rfl;have g5:IntKind.i64.wrap (runS x (ev x i).str (ev x i).now d - x.k.lo - wearI x ((ev x i).now+d+1))=runS x (ev x i).str (ev x i).now d - x.k.lo - wearI x ((ev x i).now+d+1):=zg (by omega);have g6:x.k.hi - x.k.lo+1≠0:=by omega
     have hm:(if runS x (ev x i).str (ev x i).now d - x.k.lo - wearI x ((ev x i).now+d+1) > 0 then runS x (ev x i).str (ev x i).now d - x.k.lo - wearI x ((ev x i).now+d+1) else 0)=runS x (ev x i).str (ev x i).now (d+1):=mxA 0 _;have hm2:∀ a b:Int,a=b→(some (iv .i64 a):Option AV)=some (iv .i64 b):=fun a b h=>by rw [h]
     clear hhi hlo h1 h2 hp hge;generalize runS x (ev x i).str (ev x i).now d=r0 at *;generalize wearI x ((ev x i).now+d+1)=wv at *;generalize turnL x.wear ((ev x i).now+d+1)=tv at *;repeat' first|refine zd ?_|refine zc ?_|((first|refine zf ?_|refine regA ?_|refine drA (id:=40) 19 false [0,0,2,6,15,0,32,0,128,480,0,1024,3072,0,8192,24576,64512,130048,262112,524287,1048575,2097151] ?_|fail);conv=>whnf)|(refine za rfl (fun _=>?_) (zaf hc))|(refine za rfl (zM hl) (fun _=>?_))|((first|refine⟨_,w8,?_⟩|refine⟨_,g0,?_⟩|refine zsp (tn) ?_|refine⟨_,g1,?_⟩|refine⟨_,g2,?_⟩|refine⟨_,g3,?_⟩|refine⟨_,g5,?_⟩|refine And.intro (zay g6) ?_|refine⟨_,g4,?_⟩|refine pkA ?_|refine andA ?_|fail);conv=>whnf)|fail
     exact⟨d+1,⟨by omega,hp'⟩,by omega,(impX (by repeat' (first|exact trivial|refine And.intro ?_ ?_|exact hm2 _ _ hm|exact zsw)))⟩
   ·obtain rfl:d=801:=by omega
    have hc:decide ((((ev x i).now+801:Nat):Int)≤((ev x i).now:Int)+800)=false:=decide_eq_false (by omega);have k3:=h2 800 (hp 800 (by omega));have hfin:(bif (bif decide (b < 0) then true else decide (b > ((ev x i).now:Int)+800)) then true else false)=true:=by
     rcases k3 with k3|k3
     ·rw [decide_eq_true k3];rfl
     ·rw [decide_eq_true (by omega:b > ((ev x i).now:Int)+800)];cases decide (b < 0) <;> rfl
    clear h1 h2 hp k3;repeat' first|refine zd ?_|((first|refine zk ?_|refine zi ?_|refine regA ?_|fail);conv=>whnf)|(refine za rfl (zM hc) (fun _=>?_))|((first|refine⟨_,w8,?_⟩|refine zsp (aw) ?_|refine pkA ?_|fail);conv=>whnf)|fail
    exact congrArg (fun q=>some (bv q)) hfin
 ·refine hdC Tryz.func3 Tryz.ntmps3 (res:=[.tmp 2]) fun w0 K0=>?_
  repeat' first|refine zd ?_|((first|refine zi ?_|refine regA ?_|refine zsn (ck) ?_|refine zsn (aw) ?_|fail);conv=>whnf)|(refine za rfl (fun _=>?_) (zaf (bne_iff_ne.2 hE)))|((refine andA ?_);conv=>whnf)|fail
  rfl
end Go.Proofs.YtnkhljdifljdbaaGreatDoor
namespace Go.Proofs.YtnkhljdifljdbaaGreatDoor
open Go Go.QL FoT
set_option maxRecDepth 1000000
def ea0:List AV:=[.a [I 1000,I 1,I 3,.d (.s 2 [[.v (.int .i64 (1000)),.v (.int .i64 (300))],[.v (.int .i64 (900)),.v (.int .i64 (500))],[.v (.int .i64 (800)),.v (.int .i64 (700))]])]]
def er0:AV:=.x (I 0)
theorem ek0:FnC Tryz.prog 54 ea0 er0:=evF0 (M:=[]) (by kernel_rfl) (by kernel_rfl)
def ef0:Fact Tryz.prog:=⟨54,ea0,er0,fun σ=>ek0.call (by kernel_rfl) (by kernel_rfl)⟩
def ea1:List AV:=[.a [I 10,I 2,I 1,I 30,I 5,.d (.s 1 [[.v (.string ⟨#[97,110,110]⟩)],[.v (.string ⟨#[98,111]⟩)]]),.d (.s 4 [[.v (.int .i64 (1000)),.v (.int .i64 (1)),.v (.int .i64 (3)),.s 2 [[.v (.int .i64 (1000)),.v (.int .i64 (300))],[.v (.int .i64 (900)),.v (.int .i64 (500))],[.v (.int .i64 (800)),.v (.int .i64 (700))]]]])]]
def er1:AV:=.t [.x (I 0),.x (I 0),.x (I 0)]
theorem ek1:FnC Tryz.prog 29 ea1 er1:=evF0 (M:=[ef0]) (by kernel_rfl) (by kernel_rfl)
def ef1:Fact Tryz.prog:=⟨29,ea1,er1,fun σ=>ek1.call (by kernel_rfl) (by kernel_rfl)⟩
def ea2:List AV:=[.x (.d (.v (.string ⟨#[106,111,98,32,102,32,97,110,110,32,56,32,97,42,40,98,45,48,46,50,53,41,43,98,32,52,49,57,52,51,48,52,32,52,49,57,52,51,48,52]⟩))),.x (.d (.v (.string ⟨#[32]⟩)))]
def er2:AV:=.x (.d (.s 1 [[.v (.string ⟨#[106,111,98]⟩)],[.v (.string ⟨#[102]⟩)],[.v (.string ⟨#[97,110,110]⟩)],[.v (.string ⟨#[56]⟩)],[.v (.string ⟨#[97,42,40,98,45,48,46,50,53,41,43,98]⟩)],[.v (.string ⟨#[52,49,57,52,51,48,52]⟩)],[.v (.string ⟨#[52,49,57,52,51,48,52]⟩)]]))
theorem ek2:FnC Tryz.prog 33 ea2 er2:=split_fact (by kernel_rfl)
def ef2:Fact Tryz.prog:=⟨33,ea2,er2,fun σ=>ek2.call (by kernel_rfl) (by kernel_rfl)⟩
def ea3:List AV:=[.x (.d (.v (.string ⟨#[56]⟩)))]
def er3:AV:=.t [.x (I 8),.x (.d (.v (.nilIface)))]
def ef3:Fact Tryz.prog:=⟨121,ea3,er3,atoi_fact (by kernel_rfl)⟩
def ea4:List AV:=[.x (I 8)]
def er4:AV:=.x (.d (.v (.string ⟨#[56]⟩)))
theorem ek4:FnC Tryz.prog 55 ea4 er4:=itoa_fact (by kernel_rfl)
def ef4:Fact Tryz.prog:=⟨55,ea4,er4,fun σ=>ek4.call (by kernel_rfl) (by kernel_rfl)⟩
def ea5:List AV:=[.x (.d (.v (.string ⟨#[52,49,57,52,51,48,52]⟩)))]
def er5:AV:=.t [.x (I 4194304),.x (.d (.v (.nilIface)))]
def ef5:Fact Tryz.prog:=⟨121,ea5,er5,atoi_fact (by kernel_rfl)⟩
def ea6:List AV:=[.x (I 4194304)]
def er6:AV:=.x (.d (.v (.string ⟨#[52,49,57,52,51,48,52]⟩)))
theorem ek6:FnC Tryz.prog 55 ea6 er6:=itoa_fact (by kernel_rfl)
def ef6:Fact Tryz.prog:=⟨55,ea6,er6,fun σ=>ek6.call (by kernel_rfl) (by kernel_rfl)⟩
def ea7:List AV:=[.x (.d (.v (.string ⟨#[97]⟩))),.x (.d (.v (.string ⟨#[48,46]⟩)))]
def er7:AV:=.t [.x (.d (.v (.string ⟨#[97]⟩))),.x (.d (.v (.bool false)))]
theorem ek7:FnC Tryz.prog 280 ea7 er7:=cutp_fact (by kernel_rfl)
def ef7:Fact Tryz.prog:=⟨280,ea7,er7,fun σ=>ek7.call (by kernel_rfl) (by kernel_rfl)⟩
def ea8:List AV:=[.x (.d (.v (.string ⟨#[97]⟩)))]
def er8:AV:=.t [.x (I 0),.x (.d (.e))]
def ef8:Fact Tryz.prog:=⟨121,ea8,er8,atoi_fact (by kernel_rfl)⟩
def ea9:List AV:=[.x (.d (.v (.string ⟨#[98]⟩))),.x (.d (.v (.string ⟨#[48,46]⟩)))]
def er9:AV:=.t [.x (.d (.v (.string ⟨#[98]⟩))),.x (.d (.v (.bool false)))]
theorem ek9:FnC Tryz.prog 280 ea9 er9:=cutp_fact (by kernel_rfl)
def ef9:Fact Tryz.prog:=⟨280,ea9,er9,fun σ=>ek9.call (by kernel_rfl) (by kernel_rfl)⟩
def ea10:List AV:=[.x (.d (.v (.string ⟨#[98]⟩)))]
def er10:AV:=.t [.x (I 0),.x (.d (.e))]
def ef10:Fact Tryz.prog:=⟨121,ea10,er10,atoi_fact (by kernel_rfl)⟩
def ea11:List AV:=[.x (.d (.v (.string ⟨#[48,46,50,53]⟩))),.x (.d (.v (.string ⟨#[48,46]⟩)))]
def er11:AV:=.t [.x (.d (.v (.string ⟨#[50,53]⟩))),.x (.d (.v (.bool true)))]
theorem ek11:FnC Tryz.prog 280 ea11 er11:=cutp_fact (by kernel_rfl)
def ef11:Fact Tryz.prog:=⟨280,ea11,er11,fun σ=>ek11.call (by kernel_rfl) (by kernel_rfl)⟩
def ea12:List AV:=[.x (.d (.v (.string ⟨#[50,53]⟩)))]
def er12:AV:=.t [.x (I 25),.x (.d (.v (.nilIface)))]
def ef12:Fact Tryz.prog:=⟨121,ea12,er12,atoi_fact (by kernel_rfl)⟩
def ea13:List AV:=[.x (.d (.v (.string ⟨#[97,42,40,98,45,48,46,50,53,41,43,98]⟩)))]
def er13:AV:=.t [.a [.d (.s 1 [[.v (.string ⟨#[97]⟩)],[.v (.string ⟨#[98]⟩)]]),.d (.s 4 [[.v (.int .i64 (1)),.v (.int .i64 (0)),.v (.int .i64 (0)),.v (.int .i64 (0))],[.v (.int .i64 (1)),.v (.int .i64 (1)),.v (.int .i64 (0)),.v (.int .i64 (0))],[.v (.int .i64 (2)),.v (.int .i64 (0)),.v (.int .i64 (25)),.v (.int .i64 (2))],[.v (.int .i64 (4)),.v (.int .i64 (0)),.v (.int .i64 (0)),.v (.int .i64 (0))],[.v (.int .i64 (5)),.v (.int .i64 (0)),.v (.int .i64 (0)),.v (.int .i64 (0))],[.v (.int .i64 (1)),.v (.int .i64 (1)),.v (.int .i64 (0)),.v (.int .i64 (0))],[.v (.int .i64 (3)),.v (.int .i64 (0)),.v (.int .i64 (0)),.v (.int .i64 (0))]])],.x (I 0),.x (I 0)]
theorem ek13:FnC Tryz.prog 61 ea13 er13:=evF0 (M:=[ef7,ef8,ef9,ef10,ef11,ef12]) (by kernel_rfl) (by kernel_rfl)
def ef13:Fact Tryz.prog:=⟨61,ea13,er13,fun σ=>ek13.call (by kernel_rfl) (by kernel_rfl)⟩
def ea14:List AV:=[.a [.d (.s 1 [[.v (.string ⟨#[97]⟩)],[.v (.string ⟨#[98]⟩)]]),.d (.s 4 [[.v (.int .i64 (1)),.v (.int .i64 (0)),.v (.int .i64 (0)),.v (.int .i64 (0))],[.v (.int .i64 (1)),.v (.int .i64 (1)),.v (.int .i64 (0)),.v (.int .i64 (0))],[.v (.int .i64 (2)),.v (.int .i64 (0)),.v (.int .i64 (25)),.v (.int .i64 (2))],[.v (.int .i64 (4)),.v (.int .i64 (0)),.v (.int .i64 (0)),.v (.int .i64 (0))],[.v (.int .i64 (5)),.v (.int .i64 (0)),.v (.int .i64 (0)),.v (.int .i64 (0))],[.v (.int .i64 (1)),.v (.int .i64 (1)),.v (.int .i64 (0)),.v (.int .i64 (0))],[.v (.int .i64 (3)),.v (.int .i64 (0)),.v (.int .i64 (0)),.v (.int .i64 (0))]])]]
def er14:AV:=.x (I 0)
theorem ek14:FnC Tryz.prog 104 ea14 er14:=evF0 (M:=[]) (by kernel_rfl) (by kernel_rfl)
def ef14:Fact Tryz.prog:=⟨104,ea14,er14,fun σ=>ek14.call (by kernel_rfl) (by kernel_rfl)⟩
def ea15:List AV:=[.a [.d (.s 1 [[.v (.string ⟨#[97]⟩)],[.v (.string ⟨#[98]⟩)]]),.d (.s 4 [[.v (.int .i64 (1)),.v (.int .i64 (0)),.v (.int .i64 (0)),.v (.int .i64 (0))],[.v (.int .i64 (1)),.v (.int .i64 (1)),.v (.int .i64 (0)),.v (.int .i64 (0))],[.v (.int .i64 (2)),.v (.int .i64 (0)),.v (.int .i64 (25)),.v (.int .i64 (2))],[.v (.int .i64 (4)),.v (.int .i64 (0)),.v (.int .i64 (0)),.v (.int .i64 (0))],[.v (.int .i64 (5)),.v (.int .i64 (0)),.v (.int .i64 (0)),.v (.int .i64 (0))],[.v (.int .i64 (1)),.v (.int .i64 (1)),.v (.int .i64 (0)),.v (.int .i64 (0))],[.v (.int .i64 (3)),.v (.int .i64 (0)),.v (.int .i64 (0)),.v (.int .i64 (0))]])]]
def er15:AV:=.t [.a [.d (.s 1 [i 12584321,i 12584450,i 2279171,i 2295684,i 2312197,i 6555526,i 8636167,i 2295688,i 4441865,i 14909450,i 0,i 0,i 0,i 2097152,i 0,i 0,i 0]),I 0,I 11],.x (I 0)]
theorem ek15:FnC Tryz.prog 65 ea15 er15:=evF0 (M:=[ef14]) (by kernel_rfl) (by kernel_rfl)
def ef15:Fact Tryz.prog:=⟨65,ea15,er15,fun σ=>ek15.call (by kernel_rfl) (by kernel_rfl)⟩
def ea16:List AV:=[.x (I 16777215),.x (.d (.s 1 [i 12584321,i 12584450,i 2279171,i 2295684,i 2312197,i 6555526,i 8636167,i 2295688,i 4441865,i 14909450,i 0,i 0,i 0,i 2097152,i 0,i 0,i 0]))]
def er16:AV:=.x (.d (.v (.bool false)))
theorem ek16:FnC Tryz.prog 159 ea16 er16:=evF0 (M:=[]) (by kernel_rfl) (by kernel_rfl)
def ef16:Fact Tryz.prog:=⟨159,ea16,er16,fun σ=>ek16.call (by kernel_rfl) (by kernel_rfl)⟩
def ea17:List AV:=[.a [.d (.s 1 [i 12584321,i 12584450,i 2279171,i 2295684,i 2312197,i 6555526,i 8636167,i 2295688,i 4441865,i 14909450,i 0,i 0,i 0,i 2097152,i 0,i 0,i 0,i 0,i 0,i 0,i 0,i 0,i 0,i 0,i 0,i 0,i 0,i 0,i 0,i 0,i 0,i 0,i 0,i 0,i 0,i 0,i 0,i 0,i 0,i 0,i 0,i 0,i 0,i 0,i 0,i 0,i 0,i 0,i 0,i 0,i 0,i 0,i 0,i 0,i 0,i 0,i 0,i 0,i 0,i 0,i 0,i 0,i 0,i 0,i 0,i 0,i 0,i 0,i 0,i 0,i 0,i 0,i 0,i 0,i 0,i 0,i 0,i 0,i 0,i 0,i 0,i 0,i 0,i 0,i 0,i 0,i 0,i 0,i 0,i 0,i 0,i 0,i 0,i 0,i 0,i 0,i 0,i 0,i 0,i 0,i 0,i 0,i 0,i 0,i 0,i 0,i 0,i 0,i 0,i 0,i 0,i 0,i 0,i 0,i 0,i 0,i 0,i 0,i 0,i 0,i 0,i 0,i 0,i 0,i 0,i 0,i 0,i 0]),.d (.s 1 [i 4194304,i 4194304]),I 0,.d (.v (.slice none 0 0)),I 0,I 0,I 0,I 0],.x (I 5000)]
def er17:AV:=.t [.a [.d (.s 1 [i 12584321,i 12584450,i 2279171,i 2295684,i 2312197,i 6555526,i 8636167,i 2295688,i 4441865,i 14909450,i 0,i 4194304,i 4194304,i 2097152,i 5242880,i 4194304,i 2097152,i 0,i 0,i 0,i 0,i 0,i 0,i 0,i 0,i 0,i 0,i 0,i 0,i 0,i 0,i 0,i 0,i 0,i 0,i 0,i 0,i 0,i 0,i 0,i 0,i 0,i 0,i 0,i 0,i 0,i 0,i 0,i 0,i 0,i 0,i 0,i 0,i 0,i 0,i 0,i 0,i 0,i 0,i 0,i 0,i 0,i 0,i 0,i 0,i 0,i 0,i 0,i 0,i 0,i 0,i 0,i 0,i 0,i 0,i 0,i 0,i 0,i 0,i 0,i 0,i 0,i 0,i 0,i 0,i 0,i 0,i 0,i 0,i 0,i 0,i 0,i 0,i 0,i 0,i 0,i 0,i 0,i 0,i 0,i 0,i 0,i 0,i 0,i 0,i 0,i 0,i 0,i 0,i 0,i 0,i 0,i 0,i 0,i 0,i 0,i 0,i 0,i 0,i 0,i 0,i 0,i 0,i 0,i 0,i 0,i 0,i 0]),.d (.s 1 [i 4194304,i 4194304]),I 2,.d (.s 1 [i 5242880]),I 234,I 10,I 10,I 1],.x (I 0)]
theorem ek17:FnC Tryz.prog 84 ea17 er17:=run_fact (by kernel_rfl)
def ef17:Fact Tryz.prog:=⟨84,ea17,er17,fun σ=>ek17.call (by kernel_rfl) (by kernel_rfl)⟩
def ea18:List AV:=[.x (.d (.v (.string ⟨#[99,97,108,108,32,114,32,98,111,32,50,48,32,114,111,111,116,32,50,48,57,55,49,53,50]⟩))),.x (.d (.v (.string ⟨#[32]⟩)))]
def er18:AV:=.x (.d (.s 1 [[.v (.string ⟨#[99,97,108,108]⟩)],[.v (.string ⟨#[114]⟩)],[.v (.string ⟨#[98,111]⟩)],[.v (.string ⟨#[50,48]⟩)],[.v (.string ⟨#[114,111,111,116]⟩)],[.v (.string ⟨#[50,48,57,55,49,53,50]⟩)]]))
theorem ek18:FnC Tryz.prog 33 ea18 er18:=split_fact (by kernel_rfl)
def ef18:Fact Tryz.prog:=⟨33,ea18,er18,fun σ=>ek18.call (by kernel_rfl) (by kernel_rfl)⟩
def ea19:List AV:=[.x (.d (.v (.string ⟨#[50,48]⟩)))]
def er19:AV:=.t [.x (I 20),.x (.d (.v (.nilIface)))]
def ef19:Fact Tryz.prog:=⟨121,ea19,er19,atoi_fact (by kernel_rfl)⟩
def ea20:List AV:=[.x (I 20)]
def er20:AV:=.x (.d (.v (.string ⟨#[50,48]⟩)))
theorem ek20:FnC Tryz.prog 55 ea20 er20:=itoa_fact (by kernel_rfl)
def ef20:Fact Tryz.prog:=⟨55,ea20,er20,fun σ=>ek20.call (by kernel_rfl) (by kernel_rfl)⟩
def ea21:List AV:=[.x (.d (.v (.string ⟨#[50,48,57,55,49,53,50]⟩)))]
def er21:AV:=.t [.x (I 2097152),.x (.d (.v (.nilIface)))]
def ef21:Fact Tryz.prog:=⟨121,ea21,er21,atoi_fact (by kernel_rfl)⟩
def ea22:List AV:=[.x (I 2097152)]
def er22:AV:=.x (.d (.v (.string ⟨#[50,48,57,55,49,53,50]⟩)))
theorem ek22:FnC Tryz.prog 55 ea22 er22:=itoa_fact (by kernel_rfl)
def ef22:Fact Tryz.prog:=⟨55,ea22,er22,fun σ=>ek22.call (by kernel_rfl) (by kernel_rfl)⟩
end Go.Proofs.YtnkhljdifljdbaaGreatDoor
namespace Go.Proofs.YtnkhljdifljdbaaGreatDoor
open Go Go.QL FoT
set_option maxRecDepth 1000000
def ea23:List AV:=[.x (I 1)]
def er23:AV:=.t [.a [.d (.s 1 [i 2345473,i 6588674,i 2394499,i 4524420,i 2411141,i 8702598,i 6572679,i 6556296,i 10830986,i 2410762,i 8636939,i 2427532,i 6556301,i 10831618,i 0,i 4194304,i 1,i 0,i 0,i 0,i 0,i 0]),.d (.s 1 [i 7,i 7,i 7,i 7,i 7,i 7,i 7,i 7,i 7,i 7,i 7,i 7,i 7,i 7,i 0,i 0,i 0,i 0,i 0,i 0,i 0,i 0]),I 0,I 14,I 18,.d (.s 1 [i 17])],.x (I 0)]
theorem ek23:FnC Tryz.prog 68 ea23 er23:=evF0 (M:=[]) (by kernel_rfl) (by kernel_rfl)
def ef23:Fact Tryz.prog:=⟨68,ea23,er23,fun σ=>ek23.call (by kernel_rfl) (by kernel_rfl)⟩
def ea24:List AV:=[.x (.d (.s 1 [i 2345473,i 6588674,i 2394499,i 4524420,i 2411141,i 8702598,i 6572679,i 6556296,i 10830986,i 2410762,i 8636939,i 2427532,i 6556301,i 10831618,i 0,i 4194304,i 1,i 0,i 0,i 0,i 0,i 0])),.x (.f (.func 222) [] [])]
def er24:AV:=.x (I (-1))
theorem ek24:FnC Tryz.prog 105 ea24 er24:=evF0 (M:=[]) (by kernel_rfl) (by kernel_rfl)
def ef24:Fact Tryz.prog:=⟨105,ea24,er24,fun σ=>ek24.call (by kernel_rfl) (by kernel_rfl)⟩
def ea25:List AV:=[.x (.d (.s 1 [i 7,i 7,i 7,i 7,i 7,i 7,i 7,i 7,i 7,i 7,i 7,i 7,i 7,i 7,i 0,i 0,i 0,i 0,i 0,i 0,i 0,i 0])),.x (.f (.func 223) [] [])]
def er25:AV:=.x (I (-1))
theorem ek25:FnC Tryz.prog 105 ea25 er25:=evF0 (M:=[]) (by kernel_rfl) (by kernel_rfl)
def ef25:Fact Tryz.prog:=⟨105,ea25,er25,fun σ=>ek25.call (by kernel_rfl) (by kernel_rfl)⟩
end Go.Proofs.YtnkhljdifljdbaaGreatDoor
namespace Go.Proofs.YtnkhljdifljdbaaGreatDoor
open Go Go.QL FoT
set_option maxRecDepth 1000000
def ea26:List AV:=[.a [.d (.s 1 [i 2345473,i 6588674,i 2394499,i 4524420,i 2411141,i 8702598,i 6572679,i 6556296,i 10830986,i 2410762,i 8636939,i 2427532,i 6556301,i 10831618,i 0,i 4194304,i 1,i 0,i 0,i 0,i 0,i 0]),.d (.s 1 [i 7,i 7,i 7,i 7,i 7,i 7,i 7,i 7,i 7,i 7,i 7,i 7,i 7,i 7,i 0,i 0,i 0,i 0,i 0,i 0,i 0,i 0]),I 0,I 14,I 18,.d (.s 1 [i 17])],.x (I 9)]
def er26:AV:=.x (.d (.s 1 [i 2494090,i 6737291,i 2543116,i 4673037,i 2559758,i 8851215,i 6721296,i 6704913,i 10979603,i 2559379,i 8785556,i 2576149,i 6704918,i 10980235,i 0,i 4194304,i 1,i 0,i 0,i 0,i 0,i 0]))
theorem ek26:FnC Tryz.prog 118 ea26 er26:=evF0 (M:=[]) (by kernel_rfl) (by kernel_rfl)
def ef26:Fact Tryz.prog:=⟨118,ea26,er26,fun σ=>ek26.call (by kernel_rfl) (by kernel_rfl)⟩
def ea27:List AV:=[.x (.d (.v (.string ⟨#[114,111,111,116]⟩))),.x (.d (.s 1 [i 2097152]))]
def er27:AV:=.a [.d (.s 1 [i 12583809,i 2215170,i 2198409,i 2540548,i 14811141,i 0,i 2097155,i 0,i 0,i 2494090,i 6737291,i 2543116,i 4673037,i 2559758,i 8851215,i 6721296,i 6704913,i 10979603,i 2559379,i 8785556,i 2576149,i 6704918,i 10980235,i 0,i 4194304,i 1,i 0,i 0,i 0,i 0,i 0]),I 0,I 6]
theorem ek27:FnC Tryz.prog 66 ea27 er27:=evF0 (M:=[ef23,ef24,ef25,ef26]) (by kernel_rfl) (by kernel_rfl)
def ef27:Fact Tryz.prog:=⟨66,ea27,er27,fun σ=>ek27.call (by kernel_rfl) (by kernel_rfl)⟩
def ea28:List AV:=[.x (I 16777215),.x (.d (.s 1 [i 12583809,i 2215170,i 2198409,i 2540548,i 14811141,i 0,i 2097155,i 0,i 0,i 2494090,i 6737291,i 2543116,i 4673037,i 2559758,i 8851215,i 6721296,i 6704913,i 10979603,i 2559379,i 8785556,i 2576149,i 6704918,i 10980235,i 0,i 4194304,i 1,i 0,i 0,i 0,i 0,i 0]))]
def er28:AV:=.x (.d (.v (.bool false)))
theorem ek28:FnC Tryz.prog 159 ea28 er28:=evF0 (M:=[]) (by kernel_rfl) (by kernel_rfl)
def ef28:Fact Tryz.prog:=⟨159,ea28,er28,fun σ=>ek28.call (by kernel_rfl) (by kernel_rfl)⟩
def ea29:List AV:=[.a [.d (.s 1 [i 12583809,i 2215170,i 2198409,i 2540548,i 14811141,i 0,i 2097155,i 0,i 0,i 2494090,i 6737291,i 2543116,i 4673037,i 2559758,i 8851215,i 6721296,i 6704913,i 10979603,i 2559379,i 8785556,i 2576149,i 6704918,i 10980235,i 0,i 4194304,i 1,i 0,i 0,i 0,i 0,i 0,i 0,i 0,i 0,i 0,i 0,i 0,i 0,i 0,i 0,i 0,i 0,i 0,i 0,i 0,i 0,i 0,i 0,i 0,i 0,i 0,i 0,i 0,i 0,i 0,i 0,i 0,i 0,i 0,i 0,i 0,i 0,i 0,i 0,i 0,i 0,i 0,i 0,i 0,i 0,i 0,i 0,i 0,i 0,i 0,i 0,i 0,i 0,i 0,i 0,i 0,i 0,i 0,i 0,i 0,i 0,i 0,i 0,i 0,i 0,i 0,i 0,i 0,i 0,i 0,i 0,i 0,i 0,i 0,i 0,i 0,i 0,i 0,i 0,i 0,i 0,i 0,i 0,i 0,i 0,i 0,i 0,i 0,i 0,i 0,i 0,i 0,i 0,i 0,i 0,i 0,i 0,i 0,i 0,i 0,i 0,i 0,i 0]),.d (.s 1 [i 2097152]),I 0,.d (.v (.slice none 0 0)),I 0,I 0,I 0,I 0],.x (I 5000)]
def er29:AV:=.t [.a [.d (.s 1 [i 12583809,i 2215170,i 2198409,i 2540548,i 14811141,i 0,i 2097155,i 2097152,i 4194304,i 2494090,i 6737291,i 2543116,i 4673037,i 2559758,i 8851215,i 6721296,i 6704913,i 10979603,i 2559379,i 8785556,i 2576149,i 6704918,i 10980235,i 2097155,i 4194304,i 1,i 2097152,i 4194304,i 4194305,i 0,i 16777215,i 0,i 0,i 0,i 0,i 0,i 0,i 0,i 0,i 0,i 0,i 0,i 0,i 0,i 0,i 0,i 0,i 0,i 0,i 0,i 0,i 0,i 0,i 0,i 0,i 0,i 0,i 0,i 0,i 0,i 0,i 0,i 0,i 0,i 0,i 0,i 0,i 0,i 0,i 0,i 0,i 0,i 0,i 0,i 0,i 0,i 0,i 0,i 0,i 0,i 0,i 0,i 0,i 0,i 0,i 0,i 0,i 0,i 0,i 0,i 0,i 0,i 0,i 0,i 0,i 0,i 0,i 0,i 0,i 0,i 0,i 0,i 0,i 0,i 0,i 0,i 0,i 0,i 0,i 0,i 0,i 0,i 0,i 0,i 0,i 0,i 0,i 0,i 0,i 0,i 0,i 0,i 0,i 0,i 0,i 0,i 0,i 0]),.d (.s 1 [i 2097152]),I 1,.d (.s 1 [i 4194304]),I 6101,I 5,I 262,I 1],.x (I 0)]
theorem ek29:FnC Tryz.prog 84 ea29 er29:=run_fact (by kernel_rfl)
def ef29:Fact Tryz.prog:=⟨84,ea29,er29,fun σ=>ek29.call (by kernel_rfl) (by kernel_rfl)⟩
end Go.Proofs.YtnkhljdifljdbaaGreatDoor
namespace Go.Proofs.YtnkhljdifljdbaaGreatDoor
open Go Go.QL FoT
set_option maxRecDepth 1000000
def ea30:List AV:=[.x (.d (.v (.string ⟨#[106,111,98,32,102,32,97,110,110,32,56,32,97,32,53]⟩))),.x (.d (.v (.string ⟨#[32]⟩)))]
def er30:AV:=.x (.d (.s 1 [[.v (.string ⟨#[106,111,98]⟩)],[.v (.string ⟨#[102]⟩)],[.v (.string ⟨#[97,110,110]⟩)],[.v (.string ⟨#[56]⟩)],[.v (.string ⟨#[97]⟩)],[.v (.string ⟨#[53]⟩)]]))
theorem ek30:FnC Tryz.prog 33 ea30 er30:=split_fact (by kernel_rfl)
def ef30:Fact Tryz.prog:=⟨33,ea30,er30,fun σ=>ek30.call (by kernel_rfl) (by kernel_rfl)⟩
def ea31:List AV:=[.x (.d (.v (.string ⟨#[53]⟩)))]
def er31:AV:=.t [.x (I 5),.x (.d (.v (.nilIface)))]
def ef31:Fact Tryz.prog:=⟨121,ea31,er31,atoi_fact (by kernel_rfl)⟩
def ea32:List AV:=[.x (I 5)]
def er32:AV:=.x (.d (.v (.string ⟨#[53]⟩)))
theorem ek32:FnC Tryz.prog 55 ea32 er32:=itoa_fact (by kernel_rfl)
def ef32:Fact Tryz.prog:=⟨55,ea32,er32,fun σ=>ek32.call (by kernel_rfl) (by kernel_rfl)⟩
def ea33:List AV:=[.x (.d (.s 1 [[.v (.string ⟨#[101,114,114,111,114]⟩)],[.v (.string ⟨#[53]⟩)]])),.x (.d (.v (.string ⟨#[32]⟩)))]
def er33:AV:=.x (.d (.v (.string ⟨#[101,114,114,111,114,32,53]⟩)))
theorem ek33:FnC Tryz.prog 56 ea33 er33:=join_fact (by kernel_rfl)
def ef33:Fact Tryz.prog:=⟨56,ea33,er33,fun σ=>ek33.call (by kernel_rfl) (by kernel_rfl)⟩
def ea34:List AV:=[.x (.d (.v (.string ⟨#[114,117,110,32,49]⟩))),.x (.d (.v (.string ⟨#[32]⟩)))]
def er34:AV:=.x (.d (.s 1 [[.v (.string ⟨#[114,117,110]⟩)],[.v (.string ⟨#[49]⟩)]]))
theorem ek34:FnC Tryz.prog 33 ea34 er34:=split_fact (by kernel_rfl)
def ef34:Fact Tryz.prog:=⟨33,ea34,er34,fun σ=>ek34.call (by kernel_rfl) (by kernel_rfl)⟩
def ea35:List AV:=[.x (.d (.v (.string ⟨#[49]⟩)))]
def er35:AV:=.t [.x (I 1),.x (.d (.v (.nilIface)))]
def ef35:Fact Tryz.prog:=⟨121,ea35,er35,atoi_fact (by kernel_rfl)⟩
def ea36:List AV:=[.x (I 1)]
def er36:AV:=.x (.d (.v (.string ⟨#[49]⟩)))
theorem ek36:FnC Tryz.prog 55 ea36 er36:=itoa_fact (by kernel_rfl)
def ef36:Fact Tryz.prog:=⟨55,ea36,er36,fun σ=>ek36.call (by kernel_rfl) (by kernel_rfl)⟩
def ea37:List AV:=[.a [I 10,I 2,I 1,I 30,I 5,.d (.s 4 [[.v (.string ⟨#[102]⟩),.v (.int .i64 (0)),.v (.int .i64 (8)),.v (.int .i64 (1))],[.v (.string ⟨#[114]⟩),.v (.int .i64 (0)),.v (.int .i64 (20)),.v (.int .i64 (27))]]),.d (.v (.slice none 0 0))]]
def er37:AV:=.t [.x (I 0),.x (I 0),.x (I 0)]
theorem ek37:FnC Tryz.prog 51 ea37 er37:=evF0 (M:=[]) (by kernel_rfl) (by kernel_rfl)
def ef37:Fact Tryz.prog:=⟨51,ea37,er37,fun σ=>ek37.call (by kernel_rfl) (by kernel_rfl)⟩
def ea38:List AV:=[.x (I 3)]
def er38:AV:=.x (.d (.v (.string ⟨#[51]⟩)))
theorem ek38:FnC Tryz.prog 55 ea38 er38:=itoa_fact (by kernel_rfl)
def ef38:Fact Tryz.prog:=⟨55,ea38,er38,fun σ=>ek38.call (by kernel_rfl) (by kernel_rfl)⟩
def ea39:List AV:=[.x (I 5242880)]
def er39:AV:=.x (.d (.v (.string ⟨#[53,50,52,50,56,56,48]⟩)))
theorem ek39:FnC Tryz.prog 55 ea39 er39:=itoa_fact (by kernel_rfl)
def ef39:Fact Tryz.prog:=⟨55,ea39,er39,fun σ=>ek39.call (by kernel_rfl) (by kernel_rfl)⟩
def ea40:List AV:=[.x (.d (.s 1 [[.v (.string ⟨#[97,116]⟩)],[.v (.string ⟨#[51]⟩)],[.v (.string ⟨#[102]⟩)],[.v (.string ⟨#[53,50,52,50,56,56,48]⟩)]])),.x (.d (.v (.string ⟨#[32]⟩)))]
def er40:AV:=.x (.d (.v (.string ⟨#[97,116,32,51,32,102,32,53,50,52,50,56,56,48]⟩)))
theorem ek40:FnC Tryz.prog 56 ea40 er40:=join_fact (by kernel_rfl)
def ef40:Fact Tryz.prog:=⟨56,ea40,er40,fun σ=>ek40.call (by kernel_rfl) (by kernel_rfl)⟩
def ea41:List AV:=[.x (.d (.v (.string ⟨#[100,117,109,112,32,102,32,52]⟩))),.x (.d (.v (.string ⟨#[32]⟩)))]
def er41:AV:=.x (.d (.s 1 [[.v (.string ⟨#[100,117,109,112]⟩)],[.v (.string ⟨#[102]⟩)],[.v (.string ⟨#[52]⟩)]]))
theorem ek41:FnC Tryz.prog 33 ea41 er41:=split_fact (by kernel_rfl)
def ef41:Fact Tryz.prog:=⟨33,ea41,er41,fun σ=>ek41.call (by kernel_rfl) (by kernel_rfl)⟩
def ea42:List AV:=[.x (.d (.v (.string ⟨#[52]⟩)))]
def er42:AV:=.t [.x (I 4),.x (.d (.v (.nilIface)))]
def ef42:Fact Tryz.prog:=⟨121,ea42,er42,atoi_fact (by kernel_rfl)⟩
def ea43:List AV:=[.x (I 4)]
def er43:AV:=.x (.d (.v (.string ⟨#[52]⟩)))
theorem ek43:FnC Tryz.prog 55 ea43 er43:=itoa_fact (by kernel_rfl)
def ef43:Fact Tryz.prog:=⟨55,ea43,er43,fun σ=>ek43.call (by kernel_rfl) (by kernel_rfl)⟩
def ea44:List AV:=[.a [.d (.s 1 [i 12584321,i 12584450,i 2279171,i 2295684,i 2312197,i 6555526,i 8636167,i 2295688,i 4441865,i 14909450,i 0,i 0,i 0,i 2097152,i 0,i 0,i 0,i 0,i 0,i 0,i 0,i 0,i 0,i 0,i 0,i 0,i 0,i 0,i 0,i 0,i 0,i 0,i 0,i 0,i 0,i 0,i 0,i 0,i 0,i 0,i 0,i 0,i 0,i 0,i 0,i 0,i 0,i 0,i 0,i 0,i 0,i 0,i 0,i 0,i 0,i 0,i 0,i 0,i 0,i 0,i 0,i 0,i 0,i 0,i 0,i 0,i 0,i 0,i 0,i 0,i 0,i 0,i 0,i 0,i 0,i 0,i 0,i 0,i 0,i 0,i 0,i 0,i 0,i 0,i 0,i 0,i 0,i 0,i 0,i 0,i 0,i 0,i 0,i 0,i 0,i 0,i 0,i 0,i 0,i 0,i 0,i 0,i 0,i 0,i 0,i 0,i 0,i 0,i 0,i 0,i 0,i 0,i 0,i 0,i 0,i 0,i 0,i 0,i 0,i 0,i 0,i 0,i 0,i 0,i 0,i 0,i 0,i 0]),.d (.s 1 [i 4194304,i 4194304]),I 0,.d (.v (.slice none 0 0)),I 0,I 0,I 0,I 0],.x (I 4)]
def er44:AV:=.t [.a [.d (.s 1 [i 12584321,i 12584450,i 2279171,i 2295684,i 2312197,i 6555526,i 8636167,i 2295688,i 4441865,i 14909450,i 0,i 4194304,i 4194304,i 2097152,i 4194304,i 4194304,i 0,i 0,i 0,i 0,i 0,i 0,i 0,i 0,i 0,i 0,i 0,i 0,i 0,i 0,i 0,i 0,i 0,i 0,i 0,i 0,i 0,i 0,i 0,i 0,i 0,i 0,i 0,i 0,i 0,i 0,i 0,i 0,i 0,i 0,i 0,i 0,i 0,i 0,i 0,i 0,i 0,i 0,i 0,i 0,i 0,i 0,i 0,i 0,i 0,i 0,i 0,i 0,i 0,i 0,i 0,i 0,i 0,i 0,i 0,i 0,i 0,i 0,i 0,i 0,i 0,i 0,i 0,i 0,i 0,i 0,i 0,i 0,i 0,i 0,i 0,i 0,i 0,i 0,i 0,i 0,i 0,i 0,i 0,i 0,i 0,i 0,i 0,i 0,i 0,i 0,i 0,i 0,i 0,i 0,i 0,i 0,i 0,i 0,i 0,i 0,i 0,i 0,i 0,i 0,i 0,i 0,i 0,i 0,i 0,i 0,i 0,i 0]),.d (.s 1 [i 4194304,i 4194304]),I 2,.d (.s 1 []),I 68,I 4,I 4,I 0],.x (I 0)]
theorem ek44:FnC Tryz.prog 84 ea44 er44:=run_fact (by kernel_rfl)
def ef44:Fact Tryz.prog:=⟨84,ea44,er44,fun σ=>ek44.call (by kernel_rfl) (by kernel_rfl)⟩
def ea45:List AV:=[.a [.d (.s 1 [i 12584321,i 12584450,i 2279171,i 2295684,i 2312197,i 6555526,i 8636167,i 2295688,i 4441865,i 14909450,i 0,i 4194304,i 4194304,i 2097152,i 4194304,i 4194304,i 0,i 0,i 0,i 0,i 0,i 0,i 0,i 0,i 0,i 0,i 0,i 0,i 0,i 0,i 0,i 0,i 0,i 0,i 0,i 0,i 0,i 0,i 0,i 0,i 0,i 0,i 0,i 0,i 0,i 0,i 0,i 0,i 0,i 0,i 0,i 0,i 0,i 0,i 0,i 0,i 0,i 0,i 0,i 0,i 0,i 0,i 0,i 0,i 0,i 0,i 0,i 0,i 0,i 0,i 0,i 0,i 0,i 0,i 0,i 0,i 0,i 0,i 0,i 0,i 0,i 0,i 0,i 0,i 0,i 0,i 0,i 0,i 0,i 0,i 0,i 0,i 0,i 0,i 0,i 0,i 0,i 0,i 0,i 0,i 0,i 0,i 0,i 0,i 0,i 0,i 0,i 0,i 0,i 0,i 0,i 0,i 0,i 0,i 0,i 0,i 0,i 0,i 0,i 0,i 0,i 0,i 0,i 0,i 0,i 0,i 0,i 0]),.d (.s 1 [i 4194304,i 4194304]),I 2,.d (.s 1 []),I 68,I 4,I 4,I 0]]
def er45:AV:=.t [.x (I 0),.x (I 0),.x (I 0)]
theorem ek45:FnC Tryz.prog 136 ea45 er45:=chk_fact (by kernel_rfl)
def ef45:Fact Tryz.prog:=⟨136,ea45,er45,fun σ=>ek45.call (by kernel_rfl) (by kernel_rfl)⟩
end Go.Proofs.YtnkhljdifljdbaaGreatDoor
end
