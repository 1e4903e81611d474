/- OperatorRound: Read of what Write returns is the log, and Write of what Read returns is the text. Condition: what the arguments hold comes to at most 2^20 parts (the second form's limit). -/
import Derived.Test.YtidkoikjdghlmaaGreatDoorFOperatorRoundW0
import Derived.Test.YtidkoikjdghlmaaGreatDoorCd
import Derived.Deep.SlicePairs
set_option linter.all false
noncomputable section
namespace Go.Proofs.YtidkoikjdghlmaaGreatDoor
open Go Go.QL FoT Go.ChangeShapes Go.WideShapes Go.ChangeAt Go.RowKit Go.Deep
set_option maxHeartbeats 800000
set_option maxRecDepth 100000
theorem bulk_one {H:Type} (d:DataW H):1≤Rows.uptoBulk d:=by
 cases d with
 | lit l=>cases l <;> simp [Rows.uptoBulk]
 | nil=>simp [Rows.uptoBulk]
 | ptr d=>simp [Rows.uptoBulk]
 | slice elems spare=>simp [Rows.uptoBulk]
 | agg parts=>simp [Rows.uptoBulk]
 | iface t d=>simp [Rows.uptoBulk]
 | map entries=>simp [Rows.uptoBulk]
 | held h=>simp [Rows.uptoBulk]
theorem bulk_part {H:Type} {d:DataW H} {l:List (DataW H)} (h:d ∈ l):Rows.uptoBulk d≤Rows.uptoBulkAll l:=by
 induction l with
 | nil=>cases h
 | cons x r ih=>
  simp only [Rows.uptoBulkAll];cases List.mem_cons.1 h with
  | inl e=>subst e;omega
  | inr e=>have:=ih e;omega
theorem bulk_len {H:Type} (l:List (DataW H)):l.length≤Rows.uptoBulkAll l:=by
 induction l with
 | nil=>simp [Rows.uptoBulkAll]
 | cons x r ih=>have:=bulk_one x;simp only [Rows.uptoBulkAll,List.length_cons];omega
section
variable {H:Type} {enc:TypeId × Value→H} {P:Program} {w:World} {base:Nat} {sp:Nat→Bool} {held:Bool}
theorem slice_bulk {t e:TypeId} {fuel:Nat} {a:Option Addr} {len cap:Nat} {x:DataW H × List MemPlace} (ht:P.underlying t=some (.slice e)) (h:DataW.trod enc P w base sp held fuel t [.slice a len cap]=some x):len≤Rows.uptoBulk x.1:=by
 rcases open_slice ht h with ⟨h1,rfl⟩|⟨a',len',cap',m,n,D,Pl,h1,_,_,_,_,rfl,_⟩
 ·cases h1;exact Nat.zero_le _
 ·cases h1;have:=bulk_len ((List.range len).map D);rw [List.length_map,List.length_range] at this;simp only [Rows.uptoBulk];omega
theorem pr_len {K:Nat→Nat→Prop} {m:Nat} {xs:List (List PV)} {v:Value} (h:PR K w (.s m xs) v):∃ a cap,v=.slice a xs.length cap:=by
 cases h with
 | s _ _ a cap=>exact⟨a,cap,rfl⟩
theorem agg_lenI {m:Nat} {xs:List (List PV)} {cs:List SV} {v:Value} {t e:TypeId} {fs:Array Field} {f0:Field} {d:DataW H} {ps:List MemPlace} (i:Nat) (ht:P.underlying t=some (.struct fs)) (hf0:fs[i]?=some f0) (ho:f0.offset=i) (hc:P.cellsOf f0.type=1) (he:P.underlying f0.type=some (.slice e))
  (hcs:cs[i]?=some (.d (.s m xs))) (ha:zoK w (.a cs) v) (h:DataW.Trod enc P w base sp held t v d ps):xs.length≤Rows.uptoBulk d:=by
 have ha':VR1 [] ⟨fun b _=>b < w.heap.size,fun _=>undef⟩ w (.a cs) v:=ha;obtain⟨vs,rfl,hsz,hv⟩:=ha';have hil:i < vs.size:=by rw [hsz];exact (List.getElem?_eq_some_iff.1 hcs).1
 obtain⟨u,hu⟩:∃ u,vs[i]?=some u:=⟨_,Array.getElem?_eq_getElem hil⟩;have h1:=hv i _ u hcs hu;obtain⟨a,cap,rfl⟩:∃ a cap,u=.slice a xs.length cap:=by
  cases h1 with
  | d _ _ h=>exact pr_len h
 obtain⟨fuel,hf⟩:=h;obtain⟨ys,n,rfl,hx,hl,hlen,hfs⟩:=DataW.trod_struct ht hf;have h2:=hfs i f0 hf0;have h3:(((Value.agg vs).cells.toList.drop f0.offset).take (P.cellsOf f0.type))=[.slice a xs.length cap]:=by
  rw [ho,hc];have h4:(Value.agg vs).cells.toList=vs.toList:=rfl;rw [h4];have h5:vs.toList[i]?=some (.slice a xs.length cap):=by simpa using hu
  have h6:(vs.toList.drop i)[0]?=some (.slice a xs.length cap):=by rw [List.getElem?_drop];simpa using h5
  cases hvl:vs.toList.drop i with
  | nil=>rw [hvl] at h6;simp at h6
  | cons z zs=>rw [hvl] at h6;simp at h6;rw [h6];rfl
 rw [h3] at h2;cases hy:ys[i]? with
 | none=>
  have:i < fs.size:=by
   rcases Nat.lt_or_ge i fs.size with h|h
   ·exact h
   ·rw [Array.getElem?_eq_none h] at hf0;cases hf0
  rw [List.getElem?_eq_none_iff] at hy;omega
 | some y=>
  rw [hy] at h2;have h6:=slice_bulk he h2;have h7:d=.agg (ys.map (·.1)):=congrArg Prod.fst hx;have h8:=bulk_part (List.mem_map.2 ⟨y,List.mem_of_getElem? hy,rfl⟩:y.1 ∈ ys.map (·.1));rw [h7];simp only [Rows.uptoBulk];omega
theorem law_contract1 {fid:FuncId} {f:Func} {s:ChangeSpec} {tb:TypeId}
  (hl:laidOutB P=true) (hv:s.vars=[]) (hr:f.resultTypes = #[tb]) (htb:P.underlying tb=some .bool) (hts:∀ t ∈ f.params.toList,P.readableRec t=true∧t < P.types.size)
  (hsp:∀ ds:List (DataW H),ds.length=f.params.size→s.fn H ds={ results:=[.lit (.bool true)],args:=ds })
  (W:World) (args:Array Value) (ds gs:List (DataW H)) (before:List MemPlace)
  (hopen:∀ p,DataW.TrodAll enc P W 0 (fun _=>true) true f.params.toList args.toList ds p →
   ∃ avs:List AV,FnC P fid avs (.x (.d (.v (.bool true))))∧args.size=avs.length∧∀ (i:Nat) (x:AV) (v:Value),avs[i]?=some x→args[i]?=some v→zoK W x v)
  (hW:DataW.Whole enc P f.params.toList s.vars false W args.toList ds gs before) (hL:Laid P (fun b _=>b < W.heap.size) W) :
  Calls P fid args W fun e W'=>∃ v,e=.returned v∧s.post enc P f false true false false W args v W':=by
 have hW':=hW;obtain⟨p,q,hA,hV,rfl,_,_⟩:=hW;obtain⟨avs,hF,hsz,hav⟩:=hopen p hA;refine (hF.2 (fun b _=>b < W.heap.size) W args hL (fun b o h=>h) hsz hav).mono fun e W' ⟨v,K',he,hb,_,_,_,hr'⟩=>?_
 obtain rfl:v=.bool true:=by
  have h1:SR [] ⟨K',fun _=>undef⟩ W' (.d (.v (.bool true))) v:=hr';cases h1 with
  | d _ _ h=>cases h with
   | v _ _=>rfl
 exact⟨_,he,znX hl hv hr htb hts (hsp ds) hW' hb⟩
end
theorem o_bs:Opens Tryz.prog 9 1 (fun pv=>∃ s:Bs8,pv=[.v (.string (bs s))]):=(zie Tryz.underlying9).mono fun pv ⟨s,h,_⟩=>⟨s.data.toList,by rw [zsc];exact h⟩
theorem o_line:Opens Tryz.prog 36 2 (fun pv=>∃ r:Rw,pv=rwPV r∧True):=
 (zaU [(1,_),(1,_)] Tryz.underlying36 (by kernel_rfl) rfl ⟨rfl,by kernel_rfl,o_bs,rfl,by kernel_rfl,o_bs,trivial⟩).mono fun pv h=>by
  obtain⟨a,b,rfl,_,⟨x,rfl⟩,c,d,rfl,_,⟨y,rfl⟩,rfl⟩:=h;exact⟨(x,y),rfl,trivial⟩
theorem o_lines:Opens Tryz.prog 33 1 (fun pv=>∃ l:List Rw,pv=[.s 2 (l.map rwPV)]):=
 (zaP Tryz.underlying33 (by kernel_rfl) (by decide) o_line).mono fun pv ⟨xs,h,hx⟩=>by
  obtain⟨l,rfl,_⟩:=zch (F:=rwPV) hx;exact⟨l,h⟩
section
variable {H:Type} {enc:TypeId × Value→H} {w:World} {base:Nat} {sp:Nat→Bool} {held:Bool}
theorem str_bulk {t:TypeId} {fuel:Nat} {v:Value} {x:DataW H × List MemPlace} {l:Bs8} (ht:Tryz.prog.underlying t=some .string) (h:DataW.trod enc Tryz.prog w base sp held fuel t [v]=some x) (hv:v=.string (bs l)):l.length≤Rows.uptoBulk x.1:=by
 obtain⟨s,h1,h2,_⟩:=DataW.trod_string ht h;subst hv;obtain rfl:bs l=s:=by injection h1 with h1;injection h1
 rw [h2];simp only [Rows.uptoBulk];show l.length≤(bs l).data.toList.length+1
 rw [zco];omega
theorem pr_v {K:Nat→Nat→Prop} {x v:Value} (h:PR K w (.v x) v):v=x:=by cases h;rfl
theorem pr_cell {K:Nat→Nat→Prop} {xs:List (List PV)} {v:Value} (h:PR K w (.s 2 xs) v) {i:Nat} {e:List PV} (he:xs[i]?=some e) :
  ∃ b off cap,v=.slice (some ⟨b,off,none⟩) xs.length cap∧∀ (j:Nat) (p:PV),j < e.length→e[j]?=some p→∃ u,w.cell? ⟨b,off+(i * 2+j),none⟩=some u∧PR K w p u:=by
 cases h with
 | s _ _ a cap b off vs hcap hmax hsz ha hK hc hr=>
  have hne:xs≠[]:=fun e=>by rw [e] at he;cases he
  rw [ha hne];exact⟨b,off,cap,rfl,fun j p hj hp=>⟨vs i j,hc i e he j hj,hr i e he j p hp⟩⟩
theorem rows_bulk {fuel:Nat} {l:List Rw} {v:Value} {x:DataW H × List MemPlace} (hv:v.cells.toList=[v]) (ha:zoK w (.x (.d (.s 2 (l.map rwPV)))) v) (h:DataW.trod enc Tryz.prog w base sp held fuel 33 v.cells.toList=some x) :
  ∀ r ∈ l,r.1.length≤Rows.uptoBulk x.1∧r.2.length≤Rows.uptoBulk x.1:=by
 intro r hr;obtain⟨i,hi,rfl⟩:=List.getElem_of_mem hr;have hp:PR (fun b _=>b < w.heap.size) w (.s 2 (l.map rwPV)) v:=by
  have ha':VR1 [] ⟨fun b _=>b < w.heap.size,fun _=>undef⟩ w (.x (.d (.s 2 (l.map rwPV)))) v:=ha;cases ha' with
  | d _ _ h=>exact h
 have hx:(l.map rwPV)[i]?=some (rwPV l[i]):=by simp [hi]
 rw [hv] at h;obtain⟨b,off,cap',rfl,hcl⟩:=pr_cell hp hx;obtain⟨u0,k0,q0⟩:=hcl 0 _ (Nat.zero_lt_succ 1) rfl;obtain⟨u1,k1,q1⟩:=hcl 1 _ (Nat.lt_succ_self 1) rfl;rw [List.length_map] at h;rcases open_slice_pairs Tryz.underlying33 Tryz.underlying36 (by kernel_rfl) rfl rfl (by kernel_rfl) (by kernel_rfl) h with ⟨h1,_⟩|⟨a,len,cap,m,n,V0,V1,D0,D1,P0,P1,h1,hb,hlc,hcm,hm,hxx,hel⟩
 ·injection h1 with h1
  cases h1
 ·injection h1 with h1
  injection h1 with h1 h2 h3
  subst h2;obtain rfl:(⟨b,off,none⟩:Addr)=a:=Option.some.inj h1;have him:i < m:=by rw [hm];split <;> omega
  obtain⟨c0,c1,t0,t1⟩:=hel i him;have hcells:V0 i=.string (bs l[i].1)∧V1 i=.string (bs l[i].2):=by
   rw [zad] at c0 c1;have e0:w.cell? ⟨b,off+(i * 2+0),none⟩=some (V0 i):=c0;have e1:w.cell? ⟨b,off+(i * 2+1),none⟩=some (V1 i):=c1;rw [k0] at e0;rw [k1] at e1;cases e0;cases e1;exact⟨pr_v q0,pr_v q1⟩
  have b0:=str_bulk Tryz.underlying9 t0 hcells.1;have b1:=str_bulk Tryz.underlying9 t1 hcells.2;rw [hxx];simp only [Rows.uptoBulk];have hin:DataW.agg [D0 i,D1 i] ∈ (List.range l.length).map fun i=>DataW.agg [D0 i,D1 i]:=List.mem_map.2 ⟨i,List.mem_range.2 hi,rfl⟩
  have:=bulk_part hin;simp only [Rows.uptoBulk,Rows.uptoBulkAll] at this;dsimp only at b0 b1;omega
end
end Go.Proofs.YtidkoikjdghlmaaGreatDoor
namespace Go.Proofs.YtidkoikjdghlmaaGreatDoor.operatorRound
open Go Go.QL FoT Go.ChangeShapes Go.WideShapes Go.ChangeAt Go.RowKit
set_option maxHeartbeats 1600000
set_option maxRecDepth 100000
attribute [local irreducible] ACall FnC
def zeG:Prop:=∀ (l0:List Rw) (s1:Bs8),(∀ r ∈ l0,r.1.length≤1048576∧r.2.length≤1048576)→s1.length≤1048576→FnC Tryz.prog 6 [.x (.d (.s 2 (l0.map rwPV))),sv (bs s1)] (bv true)
theorem zqO (hf:zeG) (H:Type) (enc:TypeId × Value→H) (W:World) (base:Nat) (args:Array Value) (ds:List (DataW H)) (p:List MemPlace)
  (hval:∀ (j:Nat) t v,Tryz.f6.params[j]?=some t→args[j]?=some v→Value.okWide Tryz.prog W .any base t v)
  (hA:DataW.TrodAll enc Tryz.prog W 0 (fun _=>true) true Tryz.f6.params.toList args.toList ds p) (hbk:Rows.uptoBulkAll ds≤1048576) :
  ∃ avs:List AV,FnC Tryz.prog 6 avs (bv true)∧args.size=avs.length∧∀ (i:Nat) (x:AV) (v:Value),avs[i]?=some x→args[i]?=some v→zoK W x v:=by
 rw [Tryz.params6] at hA hval;obtain⟨v0,vs0,d0,ds0,p0,q0,hargs,rfl,rfl,h0,r0⟩:=trodAll_cons hA;obtain⟨v1,vs1,d1,ds1,p1,q1,hvs1,rfl,rfl,h1,r1⟩:=trodAll_cons r0;obtain⟨hend,rfl,rfl⟩:=trodAll_nil r1;obtain rfl:args = #[v0,v1]:=by cases args;simp_all
 have one0:=zqQ Tryz.underlying33 (hval 0 33 v0 rfl rfl);have one1:=zqu Tryz.underlying9 (hval 1 9 v1 rfl rfl);obtain⟨pv0,⟨l0,j0⟩,a0⟩:=zsf o_lines one0 h0;cases j0;obtain⟨pv1,⟨s1,j1⟩,a1⟩:=zsf o_bs one1 h1;cases j1;simp only [Rows.uptoBulkAll] at hbk;have L0:∀ r ∈ l0,r.1.length≤1048576∧r.2.length≤1048576:=by
  obtain⟨fuel,hf0⟩:=h0;intro r hr;have:=rows_bulk one0 a0 hf0 r hr;dsimp only at this;omega
 have L1:s1.length≤1048576:=by
  obtain⟨fuel,hf1⟩:=h1;rw [one1] at hf1;have hv:v1=.string (bs s1):=by
   have ha':VR1 [] ⟨fun b _=>b < W.heap.size,fun _=>undef⟩ W (.x (.d (.v (.string (bs s1))))) v1:=a1;cases ha' with
   | d _ _ h=>exact pr_v h
  have:=str_bulk Tryz.underlying9 hf1 hv;dsimp only at this;omega
 refine⟨[.x (.d (.s 2 (l0.map rwPV))),sv (bs s1)],hf l0 s1 L0 L1,rfl,fun i x v hx hv=>?_⟩
 match i with
 | 0=>cases hx;cases hv;exact a0
 | 1=>cases hx;cases hv;exact a1
 | i+2=>simp at hx
theorem zoq (hf:zeG) (H:Type) (enc:TypeId × Value→H) (W:World) (base:Nat) (args:Array Value) (ds gs:List (DataW H)) (before:List MemPlace)
  (hval:∀ (j:Nat) t v,Tryz.f6.params[j]?=some t→args[j]?=some v→Value.okWide Tryz.prog W .any base t v)
  (hW:DataW.Whole enc Tryz.prog Tryz.f6.params.toList Rows.operatorRoundSpec.vars false W args.toList ds gs before) (hk:Rows.uptoSmall H (ds ++ gs)=true) (hL:Laid Tryz.prog (fun b _=>b < W.heap.size) W) :
  Calls Tryz.prog 6 args W fun e W'=>∃ v,e=.returned v∧Rows.operatorRoundSpec.post enc Tryz.prog Tryz.f6 false true false false W args v W':=by
 have hgs:gs=[]:=by
  obtain⟨p,q,_,hV,_,_,_⟩:=hW;exact (trodVars_none hV).1
 have hbk:Rows.uptoBulkAll ds≤1048576:=by
  rw [hgs,List.append_nil] at hk;simpa [Rows.uptoSmall] using hk
 exact law_contract1 (tb:=4) zgV rfl rfl Tryz.underlying4
  (by rw [Tryz.params6];intro t ht;simp only [List.mem_cons,List.not_mem_nil,or_false] at ht;rcases ht with rfl|rfl <;> exact⟨by kernel_rfl,of_decide_eq_true (by kernel_rfl)⟩)
  (fun ds hd=>by
   rw [Tryz.params6] at hd;match ds,hd with
   | [d0,d1],_=>rfl)
  W args ds gs before (fun p hA=>zqO hf H enc W base args ds p hval hA hbk) hW hL
theorem znZ (os:Os):laidMet Tryz.prog Rows.operatorRoundUptoRow.laid ((zge os).forCall (fun _ _=>0) ⟨#[],#[.slice none 0 0,.string ByteArray.empty],[]⟩).memory:=
 laidMet_of_run' 8 (by kernel_rfl) (by kernel_rfl)
theorem zrV (os:Os) {H:Type} (enc:TypeId × Value→H):∃ places,DataW.whole enc Tryz.prog ((zge os).forCall (fun _ _=>0) ⟨#[],#[.slice none 0 0,.string ByteArray.empty],[]⟩).memory Tryz.f6.params.toList Rows.operatorRoundSpec.vars false (#[.slice none 0 0,.string ByteArray.empty]:Array Value).toList 8=some ([.nil,.lit (.string [])],[],places):=
 ⟨[],by kernel_rfl⟩
theorem zq2 (hf:zeG) (os:Os) (started:os.Started) (H:Type) (enc:TypeId × Value→H) (F:Stop.Interp) :
  ReturnsInHanded {} Tryz.checked os 6 .any ((Rows.OpenSpec.upto Rows.operatorRoundSpec).preRow enc Tryz.prog Tryz.f6 Rows.operatorRoundUptoRow.domain false Rows.operatorRoundUptoRow.laid) (((Rows.OpenSpec.upto Rows.operatorRoundSpec).at F).post enc Tryz.prog Tryz.f6 false true false false):=by
 obtain⟨places,hx⟩:=zrV os enc;refine returnsInHanded_of_row (C:=Tryz.checked) (s:=Rows.OpenSpec.upto Rows.operatorRoundSpec) zkM started (by kernel_rfl) Tryz.func6
  (witness_row_at (enc:=enc) (C:=Tryz.checked) false (zge os) #[.slice none 0 0,.string ByteArray.empty] rfl (by kernel_rfl) (by kernel_rfl) (by kernel_rfl)
   (OpenSpec.preRow_of_cond 8 hx (by kernel_rfl) (fun k hk=>by cases hk;kernel_rfl) (by kernel_rfl) (znZ os))) ?_
 intro W base args ds gs before hval hW c1 c2 c3 c4 c5 c6;exact zoq hf H enc W base args ds gs before hval hW (c2 _ rfl) (zpU c4 c5 (by decide +kernel) (by kernel_rfl) (by decide +kernel) (by decide +kernel))
theorem zqd:(Rows.operatorRoundUptoRow.inPlace == Tryz.prog.inPlace 6)=true:=by kernel_rfl
theorem zol:(Rows.operatorRoundUptoRow.unfollowed == Tryz.prog.unfollowed 6)=true:=by kernel_rfl
theorem zr5:(Rows.operatorRoundUptoRow.recurses == Tryz.prog.recurses 6)=true:=by kernel_rfl
theorem zqe:(Rows.operatorRoundUptoRow.named == Tryz.prog.varsNamed 6)=true:=by kernel_rfl
theorem zrc:(Rows.operatorRoundUptoRow.plainKeys == Tryz.prog.plainKeys)=true:=by rw [zib];rfl
theorem zr6:joinedFacts Tryz.prog 6 Tryz.f6 Rows.operatorRoundSpec Rows.operatorRoundUptoRow=true:=by
 unfold joinedFacts;rw [zgV,zil,zqd,zol,zr5,zqe,zrc];kernel_rfl
theorem said (hf:zeG):Rows.OperatorRoundUptoSaid:=
 OpenClaim.holds_of_cond 6 Tryz.f6 rfl rfl rfl rfl rfl rfl rfl ⟨rfl,rfl,rfl,rfl,rfl⟩ rfl rfl rfl rfl rfl (by kernel_rfl) Tryz.func6 zr6
  (of_decide_eq_true (by kernel_rfl)) (by unfold Func.isWrapper;first|(rw [if_pos (by decide +kernel)];kernel_rfl)|(rw [if_neg (by decide +kernel)];exact⟨rfl,rfl⟩))
  (fun os started H enc _ F=>by rw [OpenClaim.pre_eq_preRow];exact zq2 hf os started H enc F)
theorem zrZ (f:FuncId) (fn:Func) (hf:Tryz.pinned.checked.prog.funcNamed Rows.operatorRoundUptoRow.func=some f) (hfn:Tryz.pinned.checked.prog.funcs[f]?=some fn) :
  true=Tryz.pinned.checked.prog.looks []∧∀ (j:Nat) t,fn.params[j]?=some t→Tryz.pinned.checked.prog.wantsStandIn t=false:=by
 obtain rfl:f=6:=Option.some.inj ((show Tryz.prog.funcNamed Rows.operatorRoundUptoRow.func=some 6 by kernel_rfl).symm.trans hf) |>.symm
 obtain rfl:fn=Tryz.f6:=(Option.some.inj (Tryz.func6.symm.trans hfn)).symm;refine⟨by kernel_rfl,fun j t ht=>?_⟩
 rw [Tryz.params6] at ht;have hm:=Array.mem_of_getElem? ht;simp at hm;rcases hm with rfl|rfl
 ·exact (show Tryz.prog.wantsStandIn 33=false by kernel_rfl)
 ·exact (show Tryz.prog.wantsStandIn 9=false by kernel_rfl)
theorem card (hf:zeG):Rows.OperatorRoundUptoCardSaid:=
 Claim7.holds_tied_plain_at .later [] _ _ _ _ (said hf) (fun _ h=>by cases h) (by kernel_rfl) (fun _ h=>by cases h) operatorRoundUpto_row_tie rfl ⟨rfl,rfl⟩ (by kernel_rfl) rfl zrZ (by kernel_rfl)
end Go.Proofs.YtidkoikjdghlmaaGreatDoor.operatorRound
namespace Go.Proofs.YtidkoikjdghlmaaGreatDoor
open Go Go.QL
theorem operatorRound_true:Rows.OperatorRoundUptoCardSaid:=operatorRound.card round_fn
end Go.Proofs.YtidkoikjdghlmaaGreatDoor
end
