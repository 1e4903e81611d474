/- The logic of walks, and what the functions of the program return: part 4. No condition. -/
import Derived.Test.YtfghooojingdhaaDoorM03
import Derived.Shelf.Strconv.Itoa3
import Derived.Ground.NamesProg
set_option linter.all false
namespace Go.QL.DC
open Go Go.RowKit Go.QL
structure En where
  i : Nat
  d : Option Tmp
  x : AV
  ob : Sg
def frs : List En → Fr
  | [] => []
  | ⟨_, d, x, _⟩ :: r => match d with | some d => (d, x) :: frs r | none => frs r
def obs : List En → Sg
  | [] => []
  | ⟨_, _, _, ob⟩ :: r => ob ++ obs r
def pickE (m : Nat) : List En → List En
  | [] => []
  | ⟨i, d, x, ob⟩ :: r => bif bitOf m i then ⟨i, d, x, ob⟩ :: pickE m r else pickE m r
def addOb (ob : Sg) (σ : Sg) : Sg := ob ++ σ
def ndB : List Nat → Bool
  | [] => true
  | x :: r => r.all (fun y => !Nat.beq x y) && ndB r
def newNames (nob σ : Sg) : Bool := nob.all (fun p => !(lk p.1 σ).isSome) && ndB (nob.map (·.1))
def oL : Option (Nat × Ob) → Sg
  | some p => [p]
  | none => []
def opDrC (P : Program) (tt : TT) (all : List Oper) (ob : Bool) (fr : Fr) (σ σt : Sg) (id : Nat) (o : Oper) (kk : Option Bool → AV → Sg → Prop) : Prop :=
  match o.op with
  | .call ⟨.value f, args, _⟩ => guardK all fr o.guard fun gd => ev1 fr gd f fun fv => evL fr gd args.toList fun vs =>
    (match fv, gd with
    | .x (.f (.func fid) first captured), none => ∃ rv nob, (ob && newNames nob σt) = true ∧ (∀ σE, (∀ p ∈ nob, lk p.1 σE = none) → ACall P fid (first.map .x ++ vs ++ captured.map .x) σE fun r' σ' => r' = rv ∧ σ' = nob ++ σE) ∧ kk none rv nob
    | _, _ => False)
  | _ => opDr P tt all ob fr σ id o fun gd v nob => kk gd v (oL nob)
def vcDr (P : Program) (tt : TT) (nt : Nat) (all : List Oper) (ob : Bool) (ms : List Nat) (fr0 : Fr) (σ0 : Sg) (k : Fr → Sg → Prop) : List Oper → List En → Nat → Fr → Sg → Prop
  | [], _, _, fr, σ => k fr σ
  | o :: r, es, i, fr, σ =>
    idFor σ o.dst fun id => opDrC P tt all ob (selF (frs (pickE (ms.getD i 0) es) ++ fr0) (looks all o)) (obs (pickE (ms.getD i 0) es) ++ σ0) σ id o fun gd v nob =>
      putE nt o.dst gd v fun x => vcDr P tt nt all ob ms fr0 σ0 k r (⟨i, o.dst, x, nob⟩ :: es) (i + 1) (addFr o.dst x fr) (addOb nob σ)
section
variable {P : Program} {Γ : Cx} {Qq : Exit → Act → World → Prop}
def SemE (P : Program) (Γ : Cx) (all : List Oper) (ob : Bool) (fr : Fr) (σ : Sg) (i : Nat) (o : Oper) (x : AV) (nob : Sg) : Prop :=
  ∀ (Qq : Exit → Act → World → Prop) (frE : Fr) (σE : Sg) (g : Gh) (a : Act) (w : World), Sup fr frE → Sup σ σE → (ob = false → σE = σ) → (∀ p, p ∈ nob → lk p.1 σE = none) → Rel Γ frE σE g a w →
    ∀ K : Act → World → Prop, (∀ v g' w', Rel Γ frE (addOb nob σE) g' a w' → VR (addOb nob σE) g' w' x v → K (a.put o.dst v) w') → all.toArray[i]? = some o → wpOpIn (FX Γ.ro) 0 P all.toArray Qq i K a w
theorem SemE.of {all : List Oper} {ob : Bool} {fr : Fr} {σ : Sg} {i : Nat} {o : Oper} {x : AV} {nob : Option (Nat × Ob)} (h : QL.SemE P Γ all ob fr σ i o x nob) : SemE P Γ all ob fr σ i o x (oL nob) := by
  intro Qq frE σE g a w hf hs hob hid hr K hK ho
  refine h Qq frE σE g a w hf hs hob (fun p hp => hid p (by subst hp; exact List.mem_singleton.2 rfl)) hr K (fun v g' w' hr' hv => hK v g' w' ?_ ?_) ho
  · cases nob <;> exact hr'
  · cases nob <;> exact hv
theorem opDrC_ok {tt : TT} (htt : tt.ok P) {all : List Oper} {ob : Bool} {fr : Fr} {σ σt : Sg} {id : Nat} (hid : lk id σt = none) {o : Oper} {kk : Option Bool → AV → Sg → Prop}
    (h : opDrC P tt all ob fr σ σt id o kk) (i : Nat) :
    ∃ gd x nob, kk gd x nob ∧ (nob = [] ∨ (ob = true ∧ newNames nob σt = true)) ∧ SemE P Γ all ob fr σ i o (wrapG gd x) nob := by
  unfold opDrC at h
  split at h
  · rename_i f args ts hop
    have hnd : ∀ c, o.op ≠ .defer c := fun c hc => by rw [hc] at hop; cases hop
    obtain ⟨gd, h, hgd⟩ := guardK_ok h
    obtain ⟨fv, h2, hfv⟩ := ev1_on h
    clear h
    obtain ⟨vs, h, hl, hvs⟩ := evL_on h2
    clear h2
    split at h
    · rename_i fid first captured
      obtain ⟨rv, nob, hnn, hac, hk⟩ := h
      simp only [Bool.and_eq_true] at hnn
      refine ⟨none, rv, nob, hk, .inr hnn, ?_⟩
      intro Qq frE σE g a w hf hs hob hid' hr K hK ho
      obtain ⟨hwant, _⟩ := hgd Γ σE g a w (hr.subF hf) o rfl
      unfold wpOpIn
      simp only [ho]
      rw [if_pos (hwant.2 (.inl rfl))]
      have hac := hac σE hid'
      have hrD := hr.subF hf
      have hsr : SR σE g w (.f (.func fid) first captured) (a.eval f) := hfv (.inl rfl) Γ σE g a w hrD
      generalize hae : a.eval f = fval at hsr
      cases hsr with
      | f _ _ _ v1 v2 s1 s2 r1 r2 =>
        have hvl : vs.length = (args.map a.eval).size := by simpa using hl
        have hargs := call_args (us := args.map a.eval) s1 s2 r1 r2 hvl (fun j x v hx hv => by
          rw [Array.getElem?_map] at hv
          cases ha : args[j]? with
          | none => rw [ha] at hv; cases hv
          | some y => rw [ha] at hv; cases hv; exact hvs (.inl rfl) Γ σE g a w hrD _ x y hx (by simpa using ha))
        have hsize : (v1 ++ args.map a.eval ++ v2).size = (first.map AV.x ++ vs ++ captured.map AV.x).length := by
          simp at hvl; simp [s1, s2, hvl]
        refine ⟨fun _ _ => trivial, ?_⟩
        rw [Oper.semAt_eq _ _ o hnd, run_call hop hae hac.1 w]
        refine ⟨depthX, callsIn_FX.2 ?_⟩
        refine (hac.2 Γ.w0 Γ.K0 g w _ hr.hp hsize hargs).mono fun e w' ⟨v, g', σ', r, he, hd, hv, hR⟩ => ?_
        obtain ⟨rfl, rfl⟩ := hR
        subst he
        exact hK v g' w' (hr.did hd) (VR_of_VR2 hv)
    · exact h.elim
  · obtain ⟨gd, x, nob, hk, hn, hs⟩ := opDr_ok (Γ := Γ) htt h i
    refine ⟨gd, x, oL nob, hk, ?_, SemE.of hs⟩
    rcases hn with rfl | ⟨h1, _, b, rfl⟩
    · exact .inl rfl
    · exact .inr ⟨h1, by simp [newNames, oL, hid, ndB]⟩
theorem mem_frs {E : List En} {p : Nat × AV} : p ∈ frs E ↔ ∃ e ∈ E, e.d = some p.1 ∧ e.x = p.2 := by
  induction E with
  | nil => simp [frs]
  | cons e r ih =>
    unfold frs
    cases hd : e.d with
    | none =>
      simp only [ih, List.mem_cons]
      constructor
      · rintro ⟨e', h, h'⟩; exact ⟨e', .inr h, h'⟩
      · rintro ⟨e', rfl | h, h'⟩
        · rw [hd] at h'; cases h'.1
        · exact ⟨e', h, h'⟩
    | some d =>
      simp only [List.mem_cons, ih]
      constructor
      · rintro (rfl | ⟨e', h, h'⟩)
        · exact ⟨e, .inl rfl, hd, rfl⟩
        · exact ⟨e', .inr h, h'⟩
      · rintro ⟨e', rfl | h, h1, h2⟩
        · left; rw [hd] at h1; cases h1; obtain ⟨a, b⟩ := p; cases h2; rfl
        · exact .inr ⟨e', h, h1, h2⟩
theorem mem_obs {E : List En} {p : Nat × Ob} : p ∈ obs E ↔ ∃ e ∈ E, p ∈ e.ob := by
  induction E with
  | nil => simp [obs]
  | cons e r ih =>
    unfold obs
    rw [List.mem_append, ih]
    constructor
    · rintro (h | ⟨e', h, h'⟩)
      · exact ⟨e, List.mem_cons_self, h⟩
      · exact ⟨e', List.mem_cons_of_mem _ h, h'⟩
    · rintro ⟨e', h, h'⟩
      rcases List.mem_cons.1 h with rfl | h
      · exact .inl h'
      · exact .inr ⟨e', h, h'⟩
theorem mem_pickE {m : Nat} {e : En} : ∀ {E : List En}, e ∈ pickE m E → e ∈ E ∧ m.testBit e.i = true
  | [], h => by simp [pickE] at h
  | x :: r, h => by
    unfold pickE at h
    rw [bitOf_eq] at h
    cases hb : m.testBit x.i with
    | true =>
      rw [hb] at h
      rcases List.mem_cons.1 h with rfl | h
      · exact ⟨List.mem_cons_self, hb⟩
      · exact ⟨List.mem_cons_of_mem _ (mem_pickE h).1, (mem_pickE h).2⟩
    | false =>
      rw [hb] at h
      exact ⟨List.mem_cons_of_mem _ (mem_pickE h).1, (mem_pickE h).2⟩
theorem pickE_mem {m : Nat} {e : En} : ∀ {E : List En}, e ∈ E → m.testBit e.i = true → e ∈ pickE m E
  | [], h, _ => by simp at h
  | x :: r, h, hb => by
    unfold pickE
    rw [bitOf_eq]
    rcases List.mem_cons.1 h with rfl | h
    · rw [hb]; exact List.mem_cons_self
    · cases m.testBit x.i with
      | true => exact List.mem_cons_of_mem _ (pickE_mem h hb)
      | false => exact pickE_mem h hb
theorem addFr_eq (e : En) (E : List En) (fr0 : Fr) : addFr e.d e.x (frs E ++ fr0) = frs (e :: E) ++ fr0 := by
  unfold addFr; simp only [frs]; cases e.d <;> rfl
theorem addOb_eq (e : En) (E : List En) (σ0 : Sg) : addOb e.ob (obs E ++ σ0) = obs (e :: E) ++ σ0 := by
  unfold addOb; simp only [obs]; rw [List.append_assoc]
theorem ndB_ok : ∀ {l : Sg}, ndB (l.map (·.1)) = true → ∀ p ∈ l, ∀ q ∈ l, p.1 = q.1 → p = q
  | [], _, p, hp, _, _, _ => by cases hp
  | x :: r, h, p, hp, q, hq, e => by
    simp only [List.map_cons, ndB, Bool.and_eq_true, List.all_eq_true] at h
    have hx : ∀ y ∈ r, x.1 ≠ y.1 := fun y hy he => by
      have := h.1 y.1 (List.mem_map.2 ⟨y, hy, rfl⟩)
      rw [he] at this; simp at this
    rcases List.mem_cons.1 hp with hp1 | hp1 <;> rcases List.mem_cons.1 hq with hq1 | hq1
    · rw [hp1, hq1]
    · exact absurd (by rw [← hp1]; exact e) (hx q hq1)
    · exact absurd (by rw [← hq1]; exact e.symm) (hx p hp1)
    · exact ndB_ok h.2 p hp1 q hq1 e
theorem newNames_ok {nob σ : Sg} (h : newNames nob σ = true) : (∀ p ∈ nob, lk p.1 σ = none) ∧ ∀ p ∈ nob, ∀ q ∈ nob, p.1 = q.1 → p = q := by
  unfold newNames at h
  simp only [Bool.and_eq_true, List.all_eq_true] at h
  refine ⟨fun p hp => ?_, ndB_ok h.2⟩
  have := h.1 p hp
  cases hl : lk p.1 σ with
  | none => rfl
  | some _ => rw [hl] at this; cases this
structure GoodE (P : Program) (Γ : Cx) (all : List Oper) (ob : Bool) (ms : List Nat) (fr0 : Fr) (σ0 : Sg) (es : List En) : Prop where
  idx : ∀ e ∈ es, ∀ e' ∈ es, e.i = e'.i → e = e'
  ids : ∀ e ∈ es, ∀ e' ∈ es, ∀ p q, p ∈ e.ob → q ∈ e'.ob → p.1 = q.1 → e = e' ∧ p = q
  id0 : ∀ e ∈ es, ∀ p, p ∈ e.ob → lk p.1 σ0 = none ∧ ob = true
  sem : ∀ e ∈ es, ∃ o D, all[e.i]? = some o ∧ e.d = o.dst ∧ (∀ t, o.dst = some t → t < Γ.nt) ∧ (∀ e' ∈ D, e' ∈ es ∧ (ms.getD e.i 0).testBit e'.i = true) ∧ (∀ e' ∈ es, (ms.getD e.i 0).testBit e'.i = true → e'.i < e.i → e' ∈ D) ∧
    SemE P Γ all ob (selF (frs D ++ fr0) (looks all o)) (obs D ++ σ0) e.i o e.x e.ob
theorem vcDr_ok {tt : TT} (htt : tt.ok P) {all : List Oper} {ob : Bool} {ms : List Nat} {fr0 : Fr} {σ0 : Sg} {k : Fr → Sg → Prop} : ∀ (rest : List Oper) (es : List En) (i : Nat),
    vcDr P tt Γ.nt all ob ms fr0 σ0 k rest es i (frs es ++ fr0) (obs es ++ σ0) → (∀ (j : Nat) (o : Oper), rest[j]? = some o → all[i + j]? = some o) → (∀ e ∈ es, e.i < i) → (∀ j, j < i → ∃ e ∈ es, e.i = j) → GoodE P Γ all ob ms fr0 σ0 es →
    ∃ es', k (frs es' ++ fr0) (obs es' ++ σ0) ∧ GoodE P Γ all ob ms fr0 σ0 es' ∧ (∀ e ∈ es', e.i < i + rest.length) ∧ (∀ j, j < i + rest.length → ∃ e ∈ es', e.i = j)
  | [], es, i, h, _, hlt, hcov, hg => ⟨es, h, hg, hlt, hcov⟩
  | o :: rest, es, i, h, hall, hlt, hcov, hg => by
    unfold vcDr at h
    obtain ⟨id, hidn, h⟩ := idFor_ok h
    obtain ⟨gd, x, nob, hk, hnob, hsem⟩ := opDrC_ok (Γ := Γ) htt hidn h i
    obtain ⟨hk, hd⟩ := putE_ok hk
    let en : En := ⟨i, o.dst, wrapG gd x, nob⟩
    have e1 := addFr_eq en es fr0
    have e2 := addOb_eq en es σ0
    have hk : vcDr P tt Γ.nt all ob ms fr0 σ0 k rest (en :: es) (i + 1) (frs (en :: es) ++ fr0) (obs (en :: es) ++ σ0) := by
      rw [← e1, ← e2]; exact hk
    have hfresh : ob = true ∧ newNames nob (obs es ++ σ0) = true → (∀ p ∈ nob, ∀ e ∈ es, ∀ q ∈ e.ob, q.1 ≠ p.1) ∧ (∀ p ∈ nob, lk p.1 σ0 = none) ∧ ∀ p ∈ nob, ∀ q ∈ nob, p.1 = q.1 → p = q := by
      rintro ⟨_, hn⟩
      obtain ⟨h1, h2⟩ := newNames_ok hn
      have key : ∀ (L l0 : List (Nat × Ob)) (t : Nat), lk t (L ++ l0) = none → ∀ p ∈ L, p.1 ≠ t := by
        intro L l0 t
        induction L with
        | nil => intro _ p hp; simp at hp
        | cons q r ih =>
          intro h p hp
          obtain ⟨j, y⟩ := q
          rw [List.cons_append, lk_cons] at h
          by_cases ej : j = t
          · rw [if_pos ej] at h; cases h
          · rw [if_neg ej] at h
            rcases List.mem_cons.1 hp with rfl | hp
            · exact ej
            · exact ih h p hp
      refine ⟨fun p hp e he q hq => key _ _ _ (h1 p hp) q (mem_obs.2 ⟨e, he, hq⟩), fun p hp => ?_, h2⟩
      rw [← lk_app_none (L := obs es) (key _ _ _ (h1 p hp))]; exact h1 p hp
    have hnob : ∀ p ∈ nob, ob = true ∧ newNames nob (obs es ++ σ0) = true := fun p hp => by
      rcases hnob with hn | hn
      · rw [hn] at hp; cases hp
      · exact hn
    have := vcDr_ok htt rest (en :: es) (i + 1) hk (fun j o' hj => by
      have := hall (j + 1) o' hj
      rwa [Nat.add_assoc, Nat.add_comm 1 j]) (fun e he => by
      rcases List.mem_cons.1 he with rfl | he
      · exact Nat.lt_succ_self _
      · exact Nat.lt_succ_of_lt (hlt e he)) (fun j hj => by
      by_cases hji : j = i
      · exact ⟨en, List.mem_cons_self, hji.symm⟩
      · obtain ⟨e, he, h'⟩ := hcov j (by omega); exact ⟨e, List.mem_cons_of_mem _ he, h'⟩) ?_
    · obtain ⟨es', h1, h2, h3, h4⟩ := this
      refine ⟨es', h1, h2, fun e he => ?_, fun j hj => ?_⟩
      · have := h3 e he; simp; omega
      · exact h4 j (by simp at hj; omega)
    · refine ⟨fun e he e' he' hii => ?_, fun e he e' he' p q hp hq hpq => ?_, fun e he p hp => ?_, fun e he => ?_⟩
      · rcases List.mem_cons.1 he with rfl | he <;> rcases List.mem_cons.1 he' with rfl | he'
        · rfl
        · have := hlt e' he'; have : i = e'.i := hii; omega
        · have := hlt e he; have : e.i = i := hii; omega
        · exact hg.idx e he e' he' hii
      · rcases List.mem_cons.1 he with rfl | he <;> rcases List.mem_cons.1 he' with rfl | he'
        · exact ⟨rfl, (hfresh (hnob p hp)).2.2 p hp q hq hpq⟩
        · exact absurd hpq.symm ((hfresh (hnob p hp)).1 p hp e' he' q hq)
        · exact absurd hpq ((hfresh (hnob q hq)).1 q hq e he p hp)
        · exact hg.ids e he e' he' p q hp hq hpq
      · rcases List.mem_cons.1 he with rfl | he
        · exact ⟨(hfresh (hnob p hp)).2.1 p hp, (hnob p hp).1⟩
        · exact hg.id0 e he p hp
      · rcases List.mem_cons.1 he with rfl | he
        · refine ⟨o, pickE (ms.getD i 0) es, by simpa using hall 0 o rfl, rfl, hd, fun e' he' => ⟨List.mem_cons_of_mem _ (mem_pickE he').1, (mem_pickE he').2⟩, fun e' he' hb hlt' => ?_, hsem⟩
          rcases List.mem_cons.1 he' with rfl | he'
          · exact absurd hlt' (Nat.lt_irrefl _)
          · exact pickE_mem he' hb
        · obtain ⟨o', D, a1, a2, a3, a4, a6, a5⟩ := hg.sem e he
          refine ⟨o', D, a1, a2, a3, fun e' he' => ⟨List.mem_cons_of_mem _ (a4 e' he').1, (a4 e' he').2⟩, fun e' he' hb hlt' => ?_, a5⟩
          rcases List.mem_cons.1 he' with rfl | he'
          · have := hlt e he; have hlt' : i < e.i := hlt'; omega
          · exact a6 e' he' hb hlt'
theorem mem_frs_sub {D E : List En} (h : ∀ e ∈ D, e ∈ E) : ∀ p, p ∈ frs D → p ∈ frs E := fun p hp => by
  obtain ⟨e, he, h'⟩ := mem_frs.1 hp; exact mem_frs.2 ⟨e, h e he, h'⟩
variable {fr : Fr} {σ : Sg} {Q : Exit → Fr → Sg → Prop}
theorem AW_drawC {tt : TT} (htt : tt.ok P) (hmix : P.follows .mixedOrders = true) (m : Nat) (ob : Bool) (ms : List Nat) {id : Nat} {ops : List Oper} (hms : okMasks ms m ops 0 = true) (hlen : Nat.ble m ops.length = true)
    (hds : okDsts (ops.take m) [] = true) (hrd : okReads ops ms (ops.take m) (ops.take m) 0 = true)
    (h : vcDr P tt Γ.nt ops ob ms fr σ (fun fr' σ' => vcOps P tt Γ.nt ops (Q .normal) (ops.drop m) fr' σ') (ops.take m) [] 0 fr σ) : AW P Γ (.region id ops.toArray true) Q fr σ := by
  refine AW.mk fun g a w hr => ?_
  have hm := MaskOK.of hms
  have hlen : m ≤ ops.length := Nat.le_of_ble_eq_true hlen
  have htake : (ops.take m).length = m := by simp; omega
  obtain ⟨es, hk, hg, hlt, hcov⟩ := vcDr_ok (Γ := Γ) htt (ops.take m) [] 0 h (fun j o hj => by
      rw [List.getElem?_take] at hj
      by_cases hjm : j < m
      · rw [if_pos hjm] at hj; simpa using hj
      · rw [if_neg hjm] at hj; cases hj) (fun e he => by simp at he) (fun j hj => by omega)
      ⟨fun e he => by simp at he, fun e he => by simp at he, fun e he => by simp at he, fun e he => by simp at he⟩
  rw [htake] at hlt hcov
  simp only [Nat.zero_add] at hlt hcov
  obtain ⟨_, hd1⟩ := okDsts_ok hds
  have hrd := fun j o h => okReadsAt_ok (okReads_ok hrd j o h)
  simp only [Nat.zero_add] at hrd
  have hop : ∀ e ∈ es, ∃ o, (ops.take m)[e.i]? = some o ∧ e.d = o.dst := fun e he => by
    obtain ⟨o, D, h1, h2, _⟩ := hg.sem e he
    exact ⟨o, by rw [List.getElem?_take, if_pos (hlt e he)]; exact h1, h2⟩
  have hfF : ∀ p ∈ frs es, ∀ q ∈ frs es, p.1 = q.1 → p = q := by
    intro p hp q hq hpq
    obtain ⟨e, he, h1, h2⟩ := mem_frs.1 hp
    obtain ⟨e', he', h1', h2'⟩ := mem_frs.1 hq
    obtain ⟨o, ho, hd⟩ := hop e he
    obtain ⟨o', ho', hd'⟩ := hop e' he'
    have := hd1 e.i e'.i o o' p.1 ho ho' (by rw [← hd, h1]) (by rw [← hd', h1', hpq])
    have := hg.idx e he e' he' this
    subst this
    obtain ⟨p1, p2⟩ := p; obtain ⟨q1, q2⟩ := q
    simp only at *
    subst hpq; subst h2; subst h2'; rfl
  have hfO : ∀ p ∈ obs es, ∀ q ∈ obs es, p.1 = q.1 → p = q := by
    intro p hp q hq hpq
    obtain ⟨e, he, h1⟩ := mem_obs.1 hp
    obtain ⟨e', he', h1'⟩ := mem_obs.1 hq
    exact (hg.ids e he e' he' p q h1 h1' hpq).2
  have hfO0 : ∀ p ∈ obs es, lk p.1 σ = none := by
    intro p hp
    obtain ⟨e, he, h1⟩ := mem_obs.1 hp
    exact (hg.id0 e he p h1).1
  have supO : ∀ D E : List En, (∀ e ∈ D, e ∈ E) → (∀ e ∈ E, e ∈ es) → Sup (obs D ++ σ) (obs E ++ σ) := fun D E h1 h2 =>
    sup_app hfO hfO0 (fun p hp => by obtain ⟨e, he, h'⟩ := mem_obs.1 hp; exact mem_obs.2 ⟨e, h1 e he, h'⟩) (fun p hp => by obtain ⟨e, he, h'⟩ := mem_obs.1 hp; exact mem_obs.2 ⟨e, h2 e he, h'⟩)
  let InvA : (Nat → Prop) → Act → World → Prop := fun L a w => ∃ (E : List En) (g : Gh), (∀ e ∈ E, e ∈ es) ∧ (∀ j, L j ↔ ∃ e ∈ E, e.i = j) ∧ (∀ k, L k → ∀ b, (ms.getD k 0).testBit b = true → L b) ∧ Rel Γ (frs E ++ fr) (obs E ++ σ) g a w
  let InvB : (Nat → Prop) → Act → World → Prop := fun L a w => ∃ j, m ≤ j ∧ j ≤ ops.length ∧ (∀ b, L b ↔ b < j) ∧ wpLs Γ.ro P ops.toArray (Lift Γ Q) (ops.drop j) a w
  have conv : ∀ L a w, InvA L a w → (∀ b, b < m → L b) → InvB L a w := by
    intro L a w ⟨E, g, h1, h2, _, h3⟩ hall
    refine ⟨m, Nat.le_refl _, hlen, fun b => ⟨fun hb => ?_, hall b⟩, ?_⟩
    · obtain ⟨e, he, hi⟩ := (h2 b).1 hb
      rw [← hi]; exact hlt e (h1 e he)
    · have hsub : ∀ e ∈ es, e ∈ E := by
        intro e he
        obtain ⟨e', he', hi⟩ := (h2 e.i).1 (hall e.i (hlt e he))
        have := hg.idx e' (h1 e' he') e he hi
        subst this; exact he'
      have hr' : Rel Γ (frs es ++ fr) (obs es ++ σ) g a w := h3.same (lk_app_same (fun p hp q hq => hfF p ((mem_frs_sub h1) p hp) q ((mem_frs_sub h1) q hq)) (fun p => ⟨mem_frs_sub hsub p, mem_frs_sub h1 p⟩)) (supO E es h1 (fun e he => he)) (supO es E hsub h1)
      exact vcOps_ok htt (fun _ _ h => h) (ops.drop m) _ _ hk g a w hr'
  refine wpIn_region_any hmix ?_
  refine wpAny_inv hm (fun L a w => InvA L a w ∨ InvB L a w) ?_ ?_ _ _ _ _ (by simp) ?_ ?_ ?_
  · -- a step
    intro L a w hinv i hi hL hbits
    have hi' : i < ops.length := by simpa using hi
    have stepB : InvB L a w → wpOpIn (FX Γ.ro) 0 P ops.toArray (Lift Γ Q) i (fun a w => InvA (fun j => L j ∨ j = i) a w ∨ InvB (fun j => L j ∨ j = i) a w) a w := by
      intro ⟨j, hj1, hj2, hj3, hj4⟩
      have hji : j ≤ i := by
        rcases Nat.lt_or_ge i j with h' | h'
        · exact absurd ((hj3 i).2 h') hL
        · exact h'
      have hij : i = j := by
        rcases Nat.lt_or_ge j i with h' | h'
        · have := hm.tail i _ (Array.getElem?_eq_getElem (by simpa using hi')) (by omega) j h'
          have := (hj3 j).1 (hbits j this)
          omega
        · omega
      subst hij
      rw [List.drop_eq_getElem_cons hi'] at hj4
      have hoi : ops.toArray[i]? = some ops[i] := by simp [hi']
      have hnew : ∀ a w, wpLs Γ.ro P ops.toArray (Lift Γ Q) (ops.drop (i + 1)) a w → InvA (fun j => L j ∨ j = i) a w ∨ InvB (fun j => L j ∨ j = i) a w := by
        intro a w hw
        refine .inr ⟨i + 1, by omega, by omega, fun b => ?_, hw⟩
        show (L b ∨ b = i) ↔ b < i + 1
        rw [hj3 b]; omega
      unfold wpOpIn
      simp only [hoi]
      unfold wpLs wpLk at hj4
      split
      · rename_i hwant
        rw [if_pos hwant] at hj4
        exact Oper.wpIn_mono hnew hj4
      · rename_i hwant
        rw [if_neg hwant] at hj4
        exact ⟨fun _ _ => trivial, hnew _ _ hj4⟩
    rcases hinv with hA | hB
    · rcases Nat.lt_or_ge i m with him | him
      · obtain ⟨E, g, h1, h2, hcl, h3⟩ := hA
        obtain ⟨en, hen, heni⟩ := hcov i him
        obtain ⟨o, D, a1, a2, a3, a4, a6, a5⟩ := hg.sem en hen
        rw [heni] at a1 a4 a5 a6
        have hDE : ∀ e ∈ D, e ∈ E := by
          intro e he
          obtain ⟨he1, he2⟩ := a4 e he
          obtain ⟨e', he', hi'⟩ := (h2 e.i).1 (hbits e.i he2)
          have := hg.idx e' (h1 e' he') e he1 hi'
          subst this; exact he'
        have hsup : Sup (selF (frs D ++ fr) (looks ops o)) (frs E ++ fr) := by
          intro t v hl
          obtain ⟨ht, hl⟩ := selF_get hl
          rcases lk_app hl with hl | ⟨hn, hl⟩
          · exact lk_app_mem (fun p hp q hq => hfF p (mem_frs_sub h1 p hp) q (mem_frs_sub h1 q hq)) (mem_frs_sub hDE _ hl)
          · rw [lk_app_none]
            · exact hl
            · intro p hp hpt
              obtain ⟨e, he, h1', h2'⟩ := mem_frs.1 hp
              obtain ⟨oe, hoe, hde⟩ := hop e (h1 e he)
              have hLe : L e.i := (h2 e.i).2 ⟨e, he, rfl⟩
              rcases hrd i o (by rw [List.getElem?_take, if_pos him]; exact a1) e.i oe t hoe (by rw [← hde, h1', hpt]) ht with hk | hk | hk
              · exact hL (hk ▸ hLe)
              · have hlt' : e.i < i := hm.lt i o (by simpa using a1) e.i hk
                exact hn p (mem_frs.2 ⟨e, a6 e (h1 e he) hk hlt', h1', h2'⟩) hpt
              · exact hL (hcl e.i hLe i hk)
        refine a5 _ (frs E ++ fr) (obs E ++ σ) g a w hsup (supO D E hDE h1) ?_ ?_ h3 _ ?_ (by simpa using a1)
        · intro hob
          have hn : ∀ X : List En, (∀ e ∈ X, e ∈ es) → obs X = [] := by
            intro X hX
            cases hx : obs X with
            | nil => rfl
            | cons p r =>
              obtain ⟨e, he, hp⟩ := mem_obs.1 (show p ∈ obs X by rw [hx]; exact List.mem_cons_self)
              have := (hg.id0 e (hX e he) p hp).2
              rw [hob] at this; cases this
          rw [hn E h1, hn D (fun e he => h1 e (hDE e he))]
        · intro p hp
          rw [lk_app_none]
          · exact (hg.id0 en hen p hp).1
          · intro q hq he
            obtain ⟨e', he', hq'⟩ := mem_obs.1 hq
            have := (hg.ids e' (h1 e' he') en hen q p hq' hp he).1
            subst this
            exact hL ((h2 i).2 ⟨e', he', heni⟩)
        · intro v g' w' hr' hv
          left
          refine ⟨en :: E, g', fun e he => ?_, fun j => ?_, fun k hk b hb => ?_, ?_⟩
          · rcases List.mem_cons.1 he with rfl | he
            · exact hen
            · exact h1 e he
          · show (L j ∨ j = i) ↔ _
            rw [h2 j]
            constructor
            · rintro (⟨e, he, h'⟩ | rfl)
              · exact ⟨e, List.mem_cons_of_mem _ he, h'⟩
              · exact ⟨en, List.mem_cons_self, heni⟩
            · rintro ⟨e, he, h'⟩
              rcases List.mem_cons.1 he with rfl | he
              · exact .inr (h'.symm.trans heni)
              · exact .inl ⟨e, he, h'⟩
          · rcases hk with hk | rfl
            · exact .inl (hcl k hk b hb)
            · exact .inl (hbits b hb)
          · rw [← addFr_eq, ← addOb_eq]
            rw [a2]
            cases hdd : o.dst with
            | none => exact hr'
            | some d => exact hr'.put (a3 d hdd) hv
      · have hall : ∀ b, b < i → L b := fun b hb => hbits b (hm.tail i _ (Array.getElem?_eq_getElem (by simpa using hi')) him b hb)
        exact stepB (conv L a w hA fun b hb => hall b (by omega))
    · exact stepB hB
  · -- the end
    intro L a w hinv hall
    have hB : InvB L a w := by
      rcases hinv with hA | hB
      · exact conv L a w hA fun b hb => hall b (by simp; omega)
      · exact hB
    obtain ⟨j, hj1, hj2, hj3, hj4⟩ := hB
    have : j = ops.length := by
      rcases Nat.lt_or_ge j ops.length with h' | h'
      · have := (hj3 j).1 (hall j (by simpa using h')); omega
      · omega
    subst this
    rw [List.drop_length] at hj4
    exact hj4
  · intro i hi
    have : (Array.replicate ops.length false)[i]?.getD false = false := by
      rw [Array.getElem?_replicate]; split <;> rfl
    simp [this] at hi
  · unfold unl
    refine Nat.le_trans (List.length_filter_le _ _) (by simp)
  · left
    refine ⟨[], g, fun e he => by simp at he, fun j => ?_, fun k hk => ?_, hr.drawn _⟩
    rotate_left
    · have : (Array.replicate ops.length false)[k]?.getD false = false := by
        rw [Array.getElem?_replicate]; split <;> rfl
      simp [this] at hk
    have : (Array.replicate ops.length false)[j]?.getD false = false := by
      rw [Array.getElem?_replicate]; split <;> rfl
    simp [this]
end
theorem dropK_nil : ∀ (σ : Sg), dropK [] σ = σ
  | [] => rfl
  | (i, o) :: r => by
    show (bif false then _ else _) = _
    rw [cond_false, dropK_nil r]
theorem ACall.anew {P : Program} {f : FuncId} {args : List AV} {rv : AV} {nob : Sg} (h : ACall P f args [] (fun r σ' => r = rv ∧ σ' = nob)) (ρ : Nat → Nat) {args' : List AV} {rv' : AV} {nob' : Sg}
    (ha : args' = args.map (rnAV ρ)) (hr : rv' = rnAV ρ rv) (hn : nob' = rnSg ρ nob) (hc : (args.all (rsAV2 []) && injK ρ (nob.map (·.1))) = true) (σE : Sg) (hf : ∀ p ∈ nob', lk p.1 σE = none) :
    ACall P f args' σE (fun r' σ' => r' = rv' ∧ σ' = nob' ++ σE) := by
  subst ha; subst hr; subst hn
  simp only [Bool.and_eq_true] at hc
  refine (h.frame ρ (σ := σE) trivial (by simp [hc.1, rsSg, injK]) ?_).mono ?_
  · rintro r1 σ1 ⟨rfl, rfl⟩
    unfold okNames
    simp only [List.map_nil, List.all_nil, Bool.and_true, List.any_nil, Bool.false_or, Bool.and_eq_true, List.all_eq_true, Bool.not_eq_true']
    refine ⟨hc.2, fun i hi => ?_⟩
    obtain ⟨p, hp, rfl⟩ := List.mem_map.1 hi
    have hm : ∃ q ∈ rnSg ρ σ1, q.1 = ρ p.1 := by
      clear hc hf hi h
      induction σ1 with
      | nil => cases hp
      | cons x r ih =>
        rcases List.mem_cons.1 hp with rfl | hp
        · exact ⟨_, List.mem_cons_self, rfl⟩
        · obtain ⟨q, hq, e⟩ := ih hp
          exact ⟨q, List.mem_cons_of_mem _ hq, e⟩
    obtain ⟨q, hq, e⟩ := hm
    have h1 := hf q hq
    rw [e] at h1
    cases hb : (σE.map (·.1)).any (Nat.beq (ρ p.1)) with
    | false => rfl
    | true =>
      have := lk_isSome_mem.2 (any_beq.1 hb)
      rw [h1] at this; cases this
  · rintro r σ' ⟨r1, σ1, ⟨rfl, rfl⟩, rfl, rfl⟩
    refine ⟨rfl, ?_⟩
    unfold after
    congr 1
    exact dropK_nil σE
end Go.QL.DC
namespace Go.Proofs.YtfghooojingdhaaDoor
open Go Go.QL
set_option maxHeartbeats 3200000
attribute [local irreducible] ACall FnC YC
theorem choices_fn (n k : Int) (h : n = k) : ACall Tryd.prog 101 [iv .i64 n] [] (fun r σ' => r = .x (.f (.func 105) [] [.b 1 0]) ∧ σ' = [(1, .box [.d (.v (.int .i64 k))])]) := by
  subst h
  refine ACall_of_AWD hTt Tryd.func101 rfl (by kernel_rfl) (res := [.tmp 2]) rfl Tryd.ntmps101 (by simp) fun w0 K0 B => ?_
  dsimp only [entry]
  repeat' first | with_reducible refine AW_seq ?_ | ((first | with_reducible refine AW_ret ?_ | with_reducible refine AW_region hTt ?_ | fail); conv => whnf) | fail
  exact ⟨_, [(1, .box [.d (.v (.int .i64 n))])], ⟨rfl, trivial⟩, rfl, rfl, rfl, rfl⟩
def numsI (i : Nat) : List Int := (List.range i).map fun (j : Nat) => (j : Int)
theorem numsI_succ (i : Nat) : numsI (i + 1) = numsI i ++ [(i : Int)] := by unfold numsI; rw [List.range_succ, List.map_append]; rfl
theorem numsI_len (i : Nat) : (numsI i).length = i := by unfold numsI; simp
theorem numsI_in {i : Nat} {x : Int} (h : x ∈ numsI i) : 0 ≤ x ∧ x < i := by
  unfold numsI at h
  rw [List.mem_map] at h
  obtain ⟨j, hj, rfl⟩ := h
  have := List.mem_range.1 hj
  omega
def coverR (R : List (List Bool)) (m : Nat) : PV := (goC (holdsR R (numsI R.length) m) (allL R.length) (.v (.slice none 0 0))).2
theorem cover_fn {R : List (List Bool)} {m : Nat} (hm : m ≤ 4096) (hw : Wide R m) (hR : R = [] → m = 0) (hn : R.length ≤ 100) : FnC Tryd.prog 76 [.x (.d (rowsB R))] (.x (.d (coverR R m))) := by
  have hlm : (R.map fun r => [boolsPV r]).length = R.length := List.length_map _
  have hal : PV.s 1 (((numsI R.length).map fun n => [PV.v (.int .i64 n)]).take R.length) = intsPV (numsI R.length) := by
    rw [List.take_of_length_le (by rw [List.length_map, numsI_len]; exact Nat.le_refl _)]; rfl
  have hle : R.length ≤ ((numsI R.length).map fun n => [PV.v (.int .i64 n)]).length := by rw [List.length_map, numsI_len]; exact Nat.le_refl _
  have c1 := DC.ACall.anew (choices_fn ((R.map fun r => [boolsPV r]).length : Int) R.length (by omega)) (asc [(1, 950)]) (args' := [iv .i64 ((R.map fun r => [boolsPV r]).length : Int)]) (rv' := .x (.f (.func 105) [] [.b 950 0])) (nob' := [(950, .box [.d (.v (.int .i64 R.length))])]) rfl rfl rfl rfl
    [(1, .box [.d (rowsB R)]), (3, .box [.f (.func 98) [] [.b 1 0]]), (4, .box [.d (intsPV (numsI R.length))])] (by intro p hp; rw [List.mem_singleton.1 hp]; rfl)
  have c2 : ACall Tryd.prog 100 [.x (.f (.func 105) [] [.b 950 0]), .x (.f (.func 102) [] [.b 1 0, .b 3 0, .b 4 0])]
      [(950, .box [.d (.v (.int .i64 R.length))]), (1, .box [.d (rowsB R)]), (3, .box [.f (.func 98) [] [.b 1 0]]), (4, .box [.d (intsPV (numsI R.length))])]
      (fun r σ' => r = .x (.d (coverR R m)) ∧ σ' = [(950, .box [.d (.v (.int .i64 R.length))]), (1, .box [.d (rowsB R)]), (3, .box [.f (.func 98) [] [.b 1 0]]), (4, .box [.d (intsPV (numsI R.length))])]) :=
    ((first_fn hm hw hR hn (numsI R.length) (fun i hi => numsI_in hi)).frame (asc [(940, 1), (941, 3), (942, 4)]) (by repeat (first | exact trivial | refine ⟨rfl, ?_⟩)) rfl (by rintro _ _ ⟨rfl, rfl⟩; rfl)).mono (by rintro _ _ ⟨_, _, ⟨rfl, rfl⟩, rfl, rfl⟩; exact ⟨rfl, rfl⟩)
  generalize coverR R m = C at c2
  clear hw hR
  refine FnC_of_AW hTt Tryd.func76 rfl (by kernel_rfl) (res := [.tmp 2]) rfl Tryd.ntmps76 (by simp) fun w0 K0 => ?_
  dsimp only [entry]
  repeat' first | with_reducible refine AW_seq ?_ | with_reducible refine AW_block ?_ | ((with_reducible refine AW_region hTt ?_); conv => whnf) | (refine fun hln => ?_; (try rw [List.length_map] at hln); unfold maxLen at hln; conv => whnf) | fail
  refine AW_imp (Imp.nil 900 3 1 (fr' := [(8, iv .i64 ((R.map fun r => [boolsPV r]).length : Int)), (9, iv .i64 0), (1, .x (.b 1 0)), (3, .x (.b 3 0)), (4, .x (.b 4 0))]) (σ' := [(4, .box [.o 900 0 0]), (3, .box [.f (.func 98) [] [.b 1 0]]), (1, .box [.d (rowsB R)])]) rfl ?_ ?_ rfl rfl) ?_
  · exact ⟨⟨_, rfl, .inl rfl⟩, ⟨_, rfl, .inl rfl⟩, ⟨_, rfl, .inl rfl⟩, ⟨_, rfl, .inl rfl⟩, ⟨_, rfl, .inl rfl⟩, trivial⟩
  · exact ⟨⟨_, rfl, .inr ⟨_, _, rfl, rfl, ⟨.inr ⟨rfl, rfl⟩, trivial⟩⟩⟩, ⟨_, rfl, .inl rfl⟩, ⟨_, rfl, .inl rfl⟩, trivial⟩
  refine AW_loop (fun i : Nat => [(8, iv .i64 ((R.map fun r => [boolsPV r]).length : Int)), (9, iv .i64 i), (1, .x (.b 1 0)), (3, .x (.b 3 0)), (4, .x (.b 4 0))])
    (fun i => [(4, .box [.o 900 i i]), (3, .box [.f (.func 98) [] [.b 1 0]]), (1, .box [.d (rowsB R)]), (900, .chain 3 1 i ((numsI i).map fun n => [PV.v (.int .i64 n)]))])
    (fun i => i ≤ R.length) (fun i => R.length - i) 0 (Nat.zero_le _) impA ?_
  intro i hi
  rcases Nat.lt_or_ge i R.length with hil | hil
  · have hli := numsI_len i
    have ec : ((numsI i).map fun n => [PV.v (.int .i64 n)]).take i ++ [[PV.v (.int .i64 (i : Int))]] = (numsI (i + 1)).map fun n => [PV.v (.int .i64 n)] := by
      rw [numsI_succ, List.map_append, List.take_of_length_le (by rw [List.length_map, hli]; exact Nat.le_refl _)]; rfl
    clear c1 c2 hal hle
    repeat' first | with_reducible refine AW_seq ?_ | with_reducible refine AW_block ?_ | ((first | with_reducible refine AW_skip ?_ | with_reducible refine AW_exit ?_ | with_reducible refine AW_region hTt ?_ | fail); conv => whnf) | (exact absurd hb (by omega)) | ((refine And.intro (by refine ⟨?_, ?_, ?_⟩ <;> simp [chunk, maxLen] <;> omega) ?_); conv => whnf) | (refine AW_cond rfl (fun hb => ?_) (fun hb => ?_) <;> first | (replace hb := of_decide_eq_true hb; try simp only [List.length_map] at hb) | (replace hb := of_decide_eq_false hb; try simp only [List.length_map] at hb)) | ((first | refine ⟨_, wrap_of (by first | omega | (simp only [List.length_map]; omega)), ?_⟩ | refine andA ?_ | fail); conv => whnf) | fail
    exact ⟨i + 1, hil, by omega, Imp.forget ⟨rfl, rfl, rfl, rfl, rfl, trivial⟩ ⟨rfl, rfl, rfl, congrArg (fun l => some (Ob.chain 3 1 (i + 1) l)) ec, trivial⟩ rfl⟩
  · have hie : i = R.length := by omega
    subst hie
    repeat' first | ((refine AW_imp (Imp.freezeB 900 (fr' := [(1, .x (.b 1 0)), (3, .x (.b 3 0)), (4, .x (.b 4 0))]) (σ' := [(1, .box [.d (rowsB R)]), (3, .box [.f (.func 98) [] [.b 1 0]]), (4, .box [.d (intsPV (numsI R.length))])]) rfl ⟨⟨_, rfl, .inl rfl⟩, ⟨_, rfl, .inl rfl⟩, ⟨_, rfl, .inl rfl⟩, trivial⟩ ⟨⟨_, rfl, .inl rfl⟩, ⟨_, rfl, .inl rfl⟩, ⟨_, rfl, .inr ⟨_, _, rfl, rfl, ⟨.inr ⟨_, rfl, hle, congrArg SV.d hal.symm⟩, trivial⟩⟩⟩, trivial⟩ rfl rfl) (AW_region (id := 8) hTt ?_)); conv => whnf) | with_reducible refine AW_seq ?_ | with_reducible refine AW_block ?_ | ((first | with_reducible refine AW_skip ?_ | with_reducible refine AW_exit ?_ | with_reducible refine AW_ret ?_ | with_reducible refine AW_region hTt ?_ | fail); conv => whnf) | (exact absurd hb (by omega)) | ((first | ((refine ⟨_, c1, ?_⟩); (rintro _ _ ⟨rfl, rfl⟩)) | ((refine ⟨_, c2, ?_⟩); (rintro _ _ ⟨rfl, rfl⟩)) | fail); conv => whnf) | (refine AW_cond rfl (fun hb => ?_) (fun hb => ?_) <;> first | (replace hb := of_decide_eq_true hb; try simp only [List.length_map] at hb) | (replace hb := of_decide_eq_false hb; try simp only [List.length_map] at hb)) | (refine fun hln => ?_; (try rw [List.length_map] at hln); unfold maxLen at hln; conv => whnf) | fail
    rfl
end Go.Proofs.YtfghooojingdhaaDoor
namespace Go.Proofs.YtfghooojingdhaaDoor
open Go Go.QL
set_option maxHeartbeats 3200000
attribute [local irreducible] ACall FnC
theorem run_1 {n : NetT} (ok : NetOK n) {s1 : Nat} {sk : List (W16 × W16)} (hsk : sk.length = n.inn.toNat + n.gates.length) {s2 s3 k' : Nat} {nw : List W16}
    {flt : Nat → FaultT} (hl : LanesOK sk flt 1) (xs : List Int) (hxl : xs.length ≤ 4096) :
    ACall Tryd.prog 71 [.x (.b 900 0), iv .i64 1, sl xs] (sB n s1 sk s2 (dl0 n) s3 k' nw)
      (fun r σ' => ∃ p : Nat × Nat × List W16, r = rowsAV ((List.range 1).map fun l => outsR n (flt l) xs xs.length) ∧ σ' = sB n s1 sk s2 (dl0 n) p.1 p.2.1 p.2.2) := by
  refine ACall_of_AWD hTt Tryd.func71 rfl (by kernel_rfl) (res := [.tmp 6]) rfl Tryd.ntmps71 (by simp) fun w0 K0 B => ?_
  dsimp only [entry]
  repeat' first | with_reducible refine AW_seq ?_ | with_reducible refine AW_block ?_ | ((first | with_reducible refine AW_region hTt ?_ | refine AW_draw hTt hMix (id := 1) 5 true [0, 1, 0, 4, 3, 31] (by kernel_rfl) rfl rfl (by kernel_rfl) ?_ | refine Or.inr ?_ | refine andA ?_ | fail); conv => whnf) | (refine fun hln => ?_; (try rw [List.length_map] at hln); unfold maxLen at hln; conv => whnf) | fail
  refine AW_imp (Imp.freeze 17 (fr' := frR n flt xs 1) (σ' := (15, .box (cellsN 1 0 0)) :: sB n s1 sk s2 (dl0 n) s3 k' nw) rfl ?_ ?_ rfl rfl) ?_
  · exact ⟨⟨_, rfl, .inl rfl⟩, ⟨_, congrArg (fun k : Nat => some (iv .i64 k)) (List.length_map _), .inl rfl⟩, ⟨_, rfl, .inl rfl⟩, ⟨_, rfl, .inl rfl⟩, ⟨_, rfl, .inr ⟨1, rfl, Nat.le_of_ble_eq_true rfl, rfl⟩⟩, ⟨_, rfl, .inl rfl⟩, trivial⟩
  · exact ⟨rfl, rfl, rfl, rfl, rfl, trivial⟩
  refine AW_imp (Imp.nil 600 3 1 (fr' := frR n flt xs 1) (σ' := chN 0 ((15, .box (cellsN 1 0 1)) :: sB n s1 sk s2 (dl0 n) s3 k' nw)) rfl ⟨⟨_, rfl, .inl rfl⟩, ⟨_, rfl, .inl rfl⟩, ⟨_, rfl, .inl rfl⟩, ⟨_, rfl, .inl rfl⟩, ⟨_, rfl, .inl rfl⟩, ⟨_, rfl, .inl rfl⟩, trivial⟩ ?_ rfl rfl) ?_
  · exact ⟨⟨_, rfl, .inr ⟨_, _, rfl, rfl, .inr ⟨rfl, rfl⟩, trivial⟩⟩, ⟨_, rfl, .inl rfl⟩, ⟨_, rfl, .inl rfl⟩, ⟨_, rfl, .inl rfl⟩, ⟨_, rfl, .inl rfl⟩, trivial⟩
  refine AW_loop (fun p : Nat × Nat × Nat × List W16 => [(20, iv .i64 p.1), (19, iv .i64 xs.length), (18, sl xs), (7, .x (.sb 15 0 1 1)), (8, sl (stsL n flt xs 1 p.1)), (0, .x (.b 900 0))])
    (fun p => (15, .box [.o 600 (p.1) (p.1)]) :: (600, rwOb n (flt 0) xs (p.1)) :: sB n s1 sk s2 (dl0 n) p.2.1 p.2.2.1 p.2.2.2)
    (fun p => p.1 ≤ xs.length) (fun p => xs.length - p.1) (0, s3, k', nw) (Nat.zero_le _) impA ?_
  rintro ⟨t, a, b, c⟩ ht
  dsimp only at ht ⊢
  rcases Nat.lt_or_ge t xs.length with htl | htl
  · have hbeat := fun s3 k' nw => beat_lanes ok (s1 := s1) hsk (s2 := s2) (s3 := s3) (k' := k') (nw := nw) (k := 1) (by decide) hl xs t xs[t] (getDI htl)
    have hol := otsL_len n flt xs 1 t
    repeat' first | with_reducible refine AW_seq ?_ | with_reducible refine AW_block ?_ | ((first | with_reducible refine AW_skip ?_ | with_reducible refine AW_exit ?_ | with_reducible refine AW_ret ?_ | with_reducible refine AW_region hTt ?_ | fail); conv => whnf) | (exact absurd hb (by omega)) | ((refine ⟨_, (hbeat a b c).frame (asc []) (by repeat (first | exact trivial | refine ⟨rfl, ?_⟩)) rfl (by rintro _ _ ⟨_, rfl, rfl⟩; rfl), ?_⟩); (rintro _ _ ⟨_, _, ⟨_, rfl, rfl⟩, rfl, rfl⟩); conv => whnf) | (refine AW_cond rfl (fun hb => ?_) (fun hb => ?_) <;> first | (replace hb := of_decide_eq_true hb; try simp only [List.length_map] at hb) | (replace hb := of_decide_eq_false hb; try simp only [List.length_map] at hb) | (simp only [List.length_map, bne_iff_ne, ne_eq, beq_iff_eq, bne_eq_false_iff_eq, beq_eq_false_iff_ne, decide_eq_true_eq, decide_eq_false_iff_not, Bool.not_eq_true', Bool.not_eq_false', Int.natCast_inj] at hb) | skip) | ((first | refine andA ?_ | with_reducible refine Exists.intro _ (And.intro (gd_any (And.intro (by omega) (map_get (by omega)))) ?_) | fail); conv => whnf) | (refine fun hln => ?_; (try rw [List.length_map] at hln); unfold maxLen at hln; conv => whnf) | fail
    rename_i pp
    refine AW_loop (fun l : Nat => [(33, iv .i64 l), (32, iv .i64 1), (31, sl (otsL n flt xs 1 t)), (20, iv .i64 t), (19, iv .i64 xs.length), (18, sl xs), (7, .x (.sb 15 0 1 1)), (8, sl (stsL n flt xs 1 (t + 1))), (0, .x (.b 900 0))])
      (fun l => (15, .box [.o 600 (t + bt 0 l) (t + bt 0 l)]) :: (600, rwOb n (flt 0) xs (t + bt 0 l)) :: sB n s1 sk s2 (dl0 n) pp.1 pp.2.1 pp.2.2) (fun l => l ≤ 1) (fun l => 1 - l) 0 (Nat.zero_le _) impA ?_
    intro l hlk
    rcases Nat.lt_or_ge l 1 with hll | hll
    · have hg := ots_at n flt xs t hll
      have e := row_app n (flt l) xs t l
      have hq := bt_self l
      have hz := outsR_len n (flt l) xs (t + bt l l)
      obtain ⟨j, hj⟩ : ∃ j, j = l + 1 := ⟨_, rfl⟩
      have hl' : l = 0 := by omega
      clear hol hbeat ht hlk hll
      subst hl'
      all_goals
        repeat' first | with_reducible refine AW_seq ?_ | with_reducible refine AW_block ?_ | ((first | with_reducible refine AW_skip ?_ | with_reducible refine AW_region hTt ?_ | with_reducible refine Exists.intro _ (And.intro (gd_any (And.intro (by omega) hg)) ?_) | refine And.intro (gd_any (And.intro (by decide) (by decide))) ?_ | fail); conv => whnf) | ((refine And.intro ?_ ?_; focus (refine ⟨?_, ?_, ?_⟩ <;> simp [chunk, maxLen] <;> omega)); conv => whnf) | (refine AW_cond rfl (fun _ => ?_) (fun hb => absurd hb (by decide))) | ((first | refine ⟨_, wrap_of (by first | omega | (simp only [List.length_map]; omega)), ?_⟩ | refine andA ?_ | fail); conv => whnf) | fail
        exact ⟨j, by omega, by omega, by subst hj; exact impA⟩
    have hle : l = 1 := by omega
    subst hle
    repeat' first | with_reducible refine AW_seq ?_ | ((first | with_reducible refine AW_exit ?_ | with_reducible refine AW_region hTt ?_ | fail); conv => whnf) | (refine AW_cond rfl (fun hb => absurd hb (by decide)) (fun _ => ?_)) | ((refine ⟨_, wrap_of (by first | omega | (simp only [List.length_map]; omega)), ?_⟩); conv => whnf) | fail
    exact ⟨(t + 1, pp.1, pp.2.1, pp.2.2), by show t + 1 ≤ xs.length; omega, by show xs.length - (t + 1) < xs.length - t; omega, impA⟩
  · have hte : t = xs.length := by omega
    subst hte
    repeat' first | with_reducible refine AW_seq ?_ | with_reducible refine AW_block ?_ | ((first | with_reducible refine AW_skip ?_ | with_reducible refine AW_exit ?_ | with_reducible refine AW_ret ?_ | with_reducible refine AW_region hTt ?_ | fail); conv => whnf) | (exact absurd hb (by omega)) | (refine AW_cond rfl (fun hb => ?_) (fun hb => ?_) <;> first | (replace hb := of_decide_eq_true hb; try simp only [List.length_map] at hb) | (replace hb := of_decide_eq_false hb; try simp only [List.length_map] at hb) | (simp only [List.length_map, bne_iff_ne, ne_eq, beq_iff_eq, bne_eq_false_iff_eq, beq_eq_false_iff_ne, decide_eq_true_eq, decide_eq_false_iff_not, Bool.not_eq_true', Bool.not_eq_false', Int.natCast_inj] at hb) | skip) | fail
    refine ⟨_, sB n s1 sk s2 (dl0 n) a b c, ⟨rfl, rfl, rfl, rfl, trivial⟩, rfl, (?_ : _ = some (rowsAV ((List.range 1).map fun l => outsR n (flt l) xs xs.length))), (a, b, c), rfl, rfl⟩
    have hk := keepRows (σ := (15, .box [.o 600 xs.length xs.length]) :: (600, rwOb n (flt 0) xs xs.length) :: sB n s1 sk s2 (dl0 n) a b c) (σ' := sB n s1 sk s2 (dl0 n) a b c) (id := 15) (n := 1) (cap := 1) (ps := [PV.s 1 ((outsR n (flt 0) xs xs.length).map iPV)]) rfl rfl
      (by repeat' first | exact rfl | refine rowPVs_cons (rowPV_o rfl rfl (by rw [List.length_map, outsR_len])) ?_) rfl
    exact outKeep1 (x := .x (.sb 15 0 1 1)) rfl hk
end Go.Proofs.YtfghooojingdhaaDoor
namespace Go.Proofs.YtfghooojingdhaaDoor
open Go Go.QL
set_option maxHeartbeats 1600000
attribute [local irreducible] ACall FnC
def RunsAt (k : Nat) : Prop := ∀ (n : NetT) (_ : NetOK n) (s1 : Nat) (sk : List (W16 × W16)) (_ : sk.length = n.inn.toNat + n.gates.length) (s2 s3 k' : Nat) (nw : List W16)
    (flt : Nat → FaultT) (_ : LanesOK sk flt k) (xs : List Int) (_ : xs.length ≤ 4096),
    ACall Tryd.prog 71 [.x (.b 900 0), iv .i64 k, sl xs] (sB n s1 sk s2 (dl0 n) s3 k' nw)
      (fun r σ' => ∃ p : Nat × Nat × List W16, r = rowsAV ((List.range k).map fun l => outsR n (flt l) xs xs.length) ∧ σ' = sB n s1 sk s2 (dl0 n) p.1 p.2.1 p.2.2)
theorem sk0_len (n : NetT) : (sk0 n).length = n.inn.toNat + n.gates.length := by simp [sk0]
theorem sk0_lanes (n : NetT) (k : Nat) : LanesOK (sk0 n) (fun _ => fine) k := fun l _ => ⟨sk0_lane n l, fine_ok⟩
theorem sk1_lanes (n : NetT) (f : FaultT) (hf : FltOK f) : LanesOK (skF n [(0, f)] (List.range 1)) (fun _ => f) 1 := by
  intro l hl
  have : l = 0 := by omega
  subst this
  refine ⟨skF_lane n [(0, f)] 0 (by decide) f (fun j l' f' h e => ?_) (.inl ⟨0, rfl⟩), hf⟩
  cases j with
  | zero => cases h; rfl
  | succ j => simp at h
theorem flt1 {n : NetT} {f : FaultT} (h : faultErr n f = 0) (l : Nat) (hl : l < 16) : ∀ i (h : i < [(l, f)].length), [(l, f)][i].1 < 16 ∧ 0 ≤ [(l, f)][i].2.sig ∧ [(l, f)][i].2.sig < n.inn + n.gates.length ∧ ([(l, f)][i].2.at_ = 0 ∨ [(l, f)][i].2.at_ = 1) := by
  intro i hi
  have : i = 0 := by simpa using hi
  subst this
  exact ⟨hl, faultErr_ok h⟩
theorem prun_fn (n : NetT) (hi : i64 n.inn) (xs : List Int) : FnC Tryd.prog 28 [netAV n, sl xs] (outE (runR n xs)) := by
  refine FnC_of_AWL hTt Tryd.func28 rfl (by kernel_rfl) (res := [.tmp 4, .tmp 5]) rfl Tryd.ntmps28 (by simp) fun w0 K0 => ?_
  dsimp only [entry]
  by_cases hc : (checkR n).2.2 = 0
  · have ok := NetOK.of hc
    by_cases hin : insErr n xs = 0
    · have hi' := insErr_ok hin
      rw [show runR n xs = (outsR n fine xs xs.length, 0) from by unfold runR; rw [if_pos hc, if_pos hin]]
      repeat' first | with_reducible refine AW_seq ?_ | ((first | with_reducible refine AW_skip ?_ | with_reducible refine AW_ret ?_ | with_reducible refine AW_region hTt ?_ | fail); conv => whnf) | (exact absurd hb (by omega)) | ((first | ((refine ⟨_, (pcheck_fn n hi).call rfl rfl, ?_⟩); (rintro _ _ ⟨rfl, rfl⟩)) | ((refine ⟨_, (pins_fn n ok.h1 ok.h6 xs).call rfl rfl, ?_⟩); (rintro _ _ ⟨rfl, rfl⟩)) | ((refine ⟨_, (build_nil n ok.h1 ok.h6 ok.hl).frame (asc [(19, 900), (17, 901)]) (by repeat (first | exact trivial | refine ⟨rfl, ?_⟩)) rfl (by rintro _ _ ⟨_, rfl, rfl⟩; rfl), ?_⟩); (rintro _ _ ⟨_, _, ⟨_, rfl, rfl⟩, rfl, rfl⟩)) | ((refine ⟨_, (run_1 ok (s1 := 0) (sk := sk0 n) (sk0_len n) (s2 := _) (s3 := 0) (k' := 0) (nw := []) (sk0_lanes n 1) xs (by omega)).frame (asc []) (by repeat (first | exact trivial | refine ⟨rfl, ?_⟩)) rfl (by rintro _ _ ⟨_, rfl, rfl⟩; rfl), ?_⟩); (rintro _ _ ⟨_, _, ⟨_, rfl, rfl⟩, rfl, rfl⟩)) | refine ⟨[intsPV (outsR n fine xs xs.length)], gd_none ⟨by decide, rfl⟩, ?_⟩ | fail); conv => whnf) | (refine AW_cond rfl (fun hb => ?_) (fun hb => ?_) <;> first | (replace hb := of_decide_eq_true hb; try simp only [List.length_map] at hb) | (replace hb := of_decide_eq_false hb; try simp only [List.length_map] at hb) | (simp only [List.length_map, bne_iff_ne, ne_eq, beq_iff_eq, bne_eq_false_iff_eq, beq_eq_false_iff_ne, decide_eq_true_eq, decide_eq_false_iff_not, Bool.not_eq_true', Bool.not_eq_false', Int.natCast_inj] at hb)) | ((refine andA ?_); conv => whnf) | fail
      exact ⟨_, rfl, LeAV.refl _⟩
    · rw [show runR n xs = ([], insErr n xs) from by unfold runR; rw [if_pos hc, if_neg hin]]
      repeat' first | with_reducible refine AW_seq ?_ | ((first | with_reducible refine AW_skip ?_ | with_reducible refine AW_ret ?_ | with_reducible refine AW_region hTt ?_ | fail); conv => whnf) | (exact absurd hb (by omega)) | ((first | ((refine ⟨_, (pcheck_fn n hi).call rfl rfl, ?_⟩); (rintro _ _ ⟨rfl, rfl⟩)) | ((refine ⟨_, (pins_fn n ok.h1 ok.h6 xs).call rfl rfl, ?_⟩); (rintro _ _ ⟨rfl, rfl⟩)) | fail); conv => whnf) | (refine AW_cond rfl (fun hb => ?_) (fun hb => ?_) <;> first | (replace hb := of_decide_eq_true hb; try simp only [List.length_map] at hb) | (replace hb := of_decide_eq_false hb; try simp only [List.length_map] at hb) | (simp only [List.length_map, bne_iff_ne, ne_eq, beq_iff_eq, bne_eq_false_iff_eq, beq_eq_false_iff_ne, decide_eq_true_eq, decide_eq_false_iff_not, Bool.not_eq_true', Bool.not_eq_false', Int.natCast_inj] at hb)) | fail
      exact ⟨_, rfl, _, rfl, LeAV1.nil 1, LeAV1.refl _, trivial⟩
  · rw [show runR n xs = ([], (checkR n).2.2) from by unfold runR; rw [if_neg hc]]
    repeat' first | with_reducible refine AW_seq ?_ | ((first | with_reducible refine AW_skip ?_ | with_reducible refine AW_ret ?_ | with_reducible refine AW_region hTt ?_ | fail); conv => whnf) | (exact absurd hb (by omega)) | ((refine ⟨_, (pcheck_fn n hi).call rfl rfl, ?_⟩); (rintro _ _ ⟨rfl, rfl⟩); conv => whnf) | (refine AW_cond rfl (fun hb => ?_) (fun hb => ?_) <;> first | (replace hb := of_decide_eq_true hb; try simp only [List.length_map] at hb) | (replace hb := of_decide_eq_false hb; try simp only [List.length_map] at hb) | (simp only [List.length_map, bne_iff_ne, ne_eq, beq_iff_eq, bne_eq_false_iff_eq, beq_eq_false_iff_ne, decide_eq_true_eq, decide_eq_false_iff_not, Bool.not_eq_true', Bool.not_eq_false', Int.natCast_inj] at hb)) | fail
    exact ⟨_, rfl, _, rfl, LeAV1.nil 1, LeAV1.refl _, trivial⟩
theorem pstuck_fn (n : NetT) (hi : i64 n.inn) (f : FaultT) (xs : List Int) : FnC Tryd.prog 43 [netAV n, faultAV f, sl xs] (outE (stuckR n f xs)) := by
  refine FnC_of_AWL hTt Tryd.func43 rfl (by kernel_rfl) (res := [.tmp 6, .tmp 7]) rfl Tryd.ntmps43 (by simp) fun w0 K0 => ?_
  dsimp only [entry]
  by_cases hc : (checkR n).2.2 = 0
  · have ok := NetOK.of hc
    by_cases hf : faultErr n f = 0
    · by_cases hin : insErr n xs = 0
      · have hi' := insErr_ok hin
        rw [show stuckR n f xs = (outsR n f xs xs.length, 0) from by unfold stuckR; rw [if_pos hc, if_pos hf, if_pos hin]]
        have hbm := build_map n ok.h1 ok.h6 ok.hl [(0, f)] (flt1 hf 0 (by decide))
        repeat' first | with_reducible refine AW_seq ?_ | ((first | with_reducible refine AW_skip ?_ | with_reducible refine AW_ret ?_ | with_reducible refine AW_region hTt ?_ | fail); conv => whnf) | (exact absurd hb (by omega)) | ((first | ((refine ⟨_, (pcheck_fn n hi).call rfl rfl, ?_⟩); (rintro _ _ ⟨rfl, rfl⟩)) | ((refine ⟨_, (pwrong_fn n f ok.h1 ok.h6 ok.hl).call rfl rfl, ?_⟩); (rintro _ _ ⟨rfl, rfl⟩)) | ((refine ⟨_, (pins_fn n ok.h1 ok.h6 xs).call rfl rfl, ?_⟩); (rintro _ _ ⟨rfl, rfl⟩)) | refine And.intro (by first | rfl | decide) ?_ | refine ⟨[(.int .i64 0, faultAV f)], .inr ⟨fun i y => by simp, rfl⟩, ?_⟩ | ((refine ⟨_, (hbm).frame (asc [(700, 35), (19, 900), (17, 901)]) (by repeat (first | exact trivial | refine ⟨rfl, ?_⟩)) rfl (by rintro _ _ ⟨_, rfl, rfl⟩; rfl), ?_⟩); (rintro _ _ ⟨_, _, ⟨_, rfl, rfl⟩, rfl, rfl⟩)) | ((refine ⟨_, (run_1 ok (s1 := 0) (sk := skF n [(0, f)] (List.range 1)) (skF_len n _ _) (s2 := _) (s3 := 0) (k' := 0) (nw := []) (sk1_lanes n f (faultErr_flt hf)) xs (by omega)).frame (asc []) (by repeat (first | exact trivial | refine ⟨rfl, ?_⟩)) rfl (by rintro _ _ ⟨_, rfl, rfl⟩; rfl), ?_⟩); (rintro _ _ ⟨_, _, ⟨_, rfl, rfl⟩, rfl, rfl⟩)) | refine ⟨[intsPV (outsR n f xs xs.length)], gd_none ⟨by decide, rfl⟩, ?_⟩ | fail); conv => whnf) | (refine AW_cond rfl (fun hb => ?_) (fun hb => ?_) <;> first | (replace hb := of_decide_eq_true hb; try simp only [List.length_map] at hb) | (replace hb := of_decide_eq_false hb; try simp only [List.length_map] at hb) | (simp only [List.length_map, bne_iff_ne, ne_eq, beq_iff_eq, bne_eq_false_iff_eq, beq_eq_false_iff_ne, decide_eq_true_eq, decide_eq_false_iff_not, Bool.not_eq_true', Bool.not_eq_false', Int.natCast_inj] at hb)) | fail
        exact ⟨_, rfl, LeAV.refl _⟩
      · rw [show stuckR n f xs = ([], insErr n xs) from by unfold stuckR; rw [if_pos hc, if_pos hf, if_neg hin]]
        repeat' first | with_reducible refine AW_seq ?_ | ((first | with_reducible refine AW_skip ?_ | with_reducible refine AW_ret ?_ | with_reducible refine AW_region hTt ?_ | fail); conv => whnf) | (exact absurd hb (by omega)) | ((first | ((refine ⟨_, (pcheck_fn n hi).call rfl rfl, ?_⟩); (rintro _ _ ⟨rfl, rfl⟩)) | ((refine ⟨_, (pwrong_fn n f ok.h1 ok.h6 ok.hl).call rfl rfl, ?_⟩); (rintro _ _ ⟨rfl, rfl⟩)) | ((refine ⟨_, (pins_fn n ok.h1 ok.h6 xs).call rfl rfl, ?_⟩); (rintro _ _ ⟨rfl, rfl⟩)) | fail); conv => whnf) | (refine AW_cond rfl (fun hb => ?_) (fun hb => ?_) <;> first | (replace hb := of_decide_eq_true hb; try simp only [List.length_map] at hb) | (replace hb := of_decide_eq_false hb; try simp only [List.length_map] at hb) | (simp only [List.length_map, bne_iff_ne, ne_eq, beq_iff_eq, bne_eq_false_iff_eq, beq_eq_false_iff_ne, decide_eq_true_eq, decide_eq_false_iff_not, Bool.not_eq_true', Bool.not_eq_false', Int.natCast_inj] at hb)) | fail
        exact ⟨_, rfl, _, rfl, LeAV1.nil 1, LeAV1.refl _, trivial⟩
    · rw [show stuckR n f xs = ([], faultErr n f) from by unfold stuckR; rw [if_pos hc, if_neg hf]]
      repeat' first | with_reducible refine AW_seq ?_ | ((first | with_reducible refine AW_skip ?_ | with_reducible refine AW_ret ?_ | with_reducible refine AW_region hTt ?_ | fail); conv => whnf) | (exact absurd hb (by omega)) | ((first | ((refine ⟨_, (pcheck_fn n hi).call rfl rfl, ?_⟩); (rintro _ _ ⟨rfl, rfl⟩)) | ((refine ⟨_, (pwrong_fn n f ok.h1 ok.h6 ok.hl).call rfl rfl, ?_⟩); (rintro _ _ ⟨rfl, rfl⟩)) | fail); conv => whnf) | (refine AW_cond rfl (fun hb => ?_) (fun hb => ?_) <;> first | (replace hb := of_decide_eq_true hb; try simp only [List.length_map] at hb) | (replace hb := of_decide_eq_false hb; try simp only [List.length_map] at hb) | (simp only [List.length_map, bne_iff_ne, ne_eq, beq_iff_eq, bne_eq_false_iff_eq, beq_eq_false_iff_ne, decide_eq_true_eq, decide_eq_false_iff_not, Bool.not_eq_true', Bool.not_eq_false', Int.natCast_inj] at hb)) | fail
      exact ⟨_, rfl, _, rfl, LeAV1.nil 1, LeAV1.refl _, trivial⟩
  · rw [show stuckR n f xs = ([], (checkR n).2.2) from by unfold stuckR; rw [if_neg hc]]
    repeat' first | with_reducible refine AW_seq ?_ | ((first | with_reducible refine AW_skip ?_ | with_reducible refine AW_ret ?_ | with_reducible refine AW_region hTt ?_ | fail); conv => whnf) | (exact absurd hb (by omega)) | ((refine ⟨_, (pcheck_fn n hi).call rfl rfl, ?_⟩); (rintro _ _ ⟨rfl, rfl⟩); conv => whnf) | (refine AW_cond rfl (fun hb => ?_) (fun hb => ?_) <;> first | (replace hb := of_decide_eq_true hb; try simp only [List.length_map] at hb) | (replace hb := of_decide_eq_false hb; try simp only [List.length_map] at hb) | (simp only [List.length_map, bne_iff_ne, ne_eq, beq_iff_eq, bne_eq_false_iff_eq, beq_eq_false_iff_ne, decide_eq_true_eq, decide_eq_false_iff_not, Bool.not_eq_true', Bool.not_eq_false', Int.natCast_inj] at hb)) | fail
    exact ⟨_, rfl, _, rfl, LeAV1.nil 1, LeAV1.refl _, trivial⟩
theorem step_eq (n : NetT) (st x : Int) (hs : i64 st) : stepP n st x = stepR n st x := by
  unfold stepP stepR
  by_cases hc : (checkR n).2.2 = 0
  · have ok := NetOK.of hc
    rw [if_neg (by simp [hc]), if_pos hc]
    rw [outB_eq, outB_eq]
    by_cases h1 : inB st 0 (2 ^ delays n.gates - 1) = true
    · by_cases h2 : inB x 0 (topIn n) = true
      · rw [if_neg (by rw [h1, h2]; simp), if_pos ⟨h1, h2⟩]
        have := lane_beat ok (sk0_len n) (sk0_lane n 0) fine_ok (by decide) [st] (by simp) (by simp) x
        unfold sig0
        rw [this.1, this.2]; rfl
      · have h2 : inB x 0 (topIn n) = false := by simpa using h2
        rw [if_pos (by rw [h2]; exact .inr rfl), if_neg (by rw [h2]; intro h; cases h.2)]
    · have h1 : inB st 0 (2 ^ delays n.gates - 1) = false := by simpa using h1
      rw [if_pos (by rw [h1]; exact .inl rfl), if_neg (by rw [h1]; intro h; cases h.1)]
  · rw [if_pos hc, if_neg hc]
end Go.Proofs.YtfghooojingdhaaDoor
namespace Go.Proofs.YtfghooojingdhaaDoor
open Go Go.QL
set_option maxHeartbeats 3200000
attribute [local irreducible] ACall FnC
def fAt (fs : List FaultT) (i : Nat) : FaultT := (fine :: fs).getD i fine
theorem fAt_some {fs : List FaultT} {i : Nat} (h : i < fs.length + 1) : (fine :: fs)[i]? = some (fAt fs i) := by
  unfold fAt
  rw [List.getD_eq_getElem?_getD, List.getElem?_eq_getElem (by simpa using h)]; rfl
theorem fAt_ok {n : NetT} {fs : List FaultT} {ts : List (List Int)} (h : AskOK n fs ts) (i : Nat) : FltOK (fAt fs i) := by
  unfold fAt
  cases i with
  | zero => exact fine_ok
  | succ i =>
    show FltOK (fs.getD i fine)
    rw [List.getD_eq_getElem?_getD]
    cases e : fs[i]? with
    | none => exact fine_ok
    | some f => exact faultErr_flt (h.f f (List.mem_of_getElem? e))
def pairR (n : NetT) (fs : List FaultT) (ts : List (List Int)) (list others : List Int) (a b : Nat) : Bool := !(apartR n (fAt fs a) (fAt fs b) ts others && !apartR n (fAt fs a) (fAt fs b) ts list)
def tellsR (n : NetT) (fs : List FaultT) (ts : List (List Int)) (list others : List Int) : Bool := (List.range (fs.length + 1)).all fun a => (List.range a).all fun b => pairR n fs ts list others a b
theorem all_range_succ (p : Nat → Bool) (n : Nat) : (List.range (n + 1)).all p = ((List.range n).all p && p n) := by
  rw [List.range_succ, List.all_append]; simp
theorem all_range_false {p : Nat → Bool} {i n : Nat} (h : i < n) (hp : p i = false) : (List.range n).all p = false := by
  rw [List.all_eq_false]
  exact ⟨i, List.mem_range.2 h, by rw [hp]; decide⟩
end Go.Proofs.YtfghooojingdhaaDoor
namespace Go.Proofs.YtfghooojingdhaaDoor
open Go Go.QL
set_option maxHeartbeats 3200000
attribute [local irreducible] ACall FnC
def numF : List FaultT → Nat → List (Nat × FaultT)
  | [], _ => []
  | f :: r, i => (i + 1, f) :: numF r (i + 1)
theorem numF_len : ∀ (fs : List FaultT) (i : Nat), (numF fs i).length = fs.length
  | [], _ => rfl
  | f :: r, i => by simp [numF, numF_len r]
theorem numF_get : ∀ (fs : List FaultT) (i j : Nat), (numF fs i)[j]? = (fs[j]?).map fun f => (i + j + 1, f)
  | [], _, j => by simp [numF]
  | f :: r, i, j => by
    cases j with
    | zero => simp [numF]
    | succ j =>
      simp only [numF, List.getElem?_cons_succ]
      rw [numF_get r (i + 1) j]
      congr 1
      funext f
      rw [show i + 1 + j + 1 = i + (j + 1) + 1 by omega]
theorem numF_snoc (fs : List FaultT) (f : FaultT) : ∀ i, numF (fs ++ [f]) i = numF fs i ++ [(i + fs.length + 1, f)] := by
  induction fs with
  | nil => intro i; simp [numF]
  | cons g r ih =>
    intro i
    simp only [List.cons_append, numF, ih]
    rw [List.length_cons, show i + 1 + r.length + 1 = i + (r.length + 1) + 1 by omega]
theorem kvF_app (l : List (Nat × FaultT)) (p : Nat × FaultT) : kvF (l ++ [p]) = kvF l ++ [(.int .i64 p.1, faultAV p.2)] := by unfold kvF; rw [List.map_append]; rfl
theorem kvF_no (fs : List FaultT) (k : Nat) (hk : fs.length ≤ k) (i : Nat) (y : AV) : (kvF (numF fs 0))[i]? ≠ some (.int .i64 ((k : Int) + 1), y) := by
  intro h
  unfold kvF at h
  rw [List.getElem?_map, numF_get] at h
  cases hf : fs[i]? with
  | none => rw [hf] at h; cases h
  | some f =>
    rw [hf] at h
    have hi := (List.getElem?_eq_some_iff.1 hf).1
    simp only [Option.map_some, Option.some.injEq, Prod.mk.injEq, Value.int.injEq, true_and] at h
    have := h.1
    omega
abbrev BQ' := Nat × Nat × List W16
theorem viewO' {σ : Sg} {c e sz st : Nat} {xs : List (List PV)} {n : Nat} (h : lk c σ = some (.chain e sz st xs)) (hn : n = xs.length) : viewSV σ (.o c st n) = some (.d (.s sz xs)) := by
  subst hn
  simp [viewSV, h]
def lanesR (n : NetT) (fs : List FaultT) (t : List Int) : List (List Int) := (List.range (fs.length + 1)).map fun l => oR n (fAt fs l) t
def triedR (n : NetT) (fs : List FaultT) (ts : List (List Int)) : List (List (List Int)) × Int :=
  if askedR n fs ts = 0 then (ts.map fun t => lanesR n fs t, 0) else ([], askedR n fs ts)
def rowsPV (l : List (List Int)) : PV := .s 1 (l.map fun r => [intsPV r])
def cubePV (l : List (List (List Int))) : List (List PV) := l.map fun r => [rowsPV r]
def cubeAV (l : List (List (List Int))) : AV := .x (.d (.s 1 (cubePV l)))
theorem num_lanes {n : NetT} {fs : List FaultT} {ts : List (List Int)} (h : AskOK n fs ts) : LanesOK (skF n (numF fs 0) (List.range (numF fs 0).length)) (fAt fs) (fs.length + 1) := by
  intro l hl
  have hfl := h.fl
  refine ⟨skF_lane n (numF fs 0) l (by omega) (fAt fs l) (fun j l' f' hj hl' => ?_) ?_, fAt_ok h l⟩
  · rw [numF_get] at hj
    cases hf : fs[j]? with
    | none => rw [hf] at hj; cases hj
    | some f =>
      rw [hf] at hj
      simp only [Option.map_some, Option.some.injEq, Prod.mk.injEq] at hj
      obtain ⟨h1, rfl⟩ := hj
      have : l = j + 1 := by omega
      subst this
      show f = fs.getD j fine
      rw [List.getD_eq_getElem?_getD, hf]; rfl
  · cases l with
    | zero =>
      refine .inr ⟨rfl, fun j f' hj => ?_⟩
      rw [numF_get] at hj
      cases hf : fs[j]? with
      | none => rw [hf] at hj; cases hj
      | some f =>
        rw [hf] at hj
        simp at hj
    | succ l =>
      left
      refine ⟨l, ?_⟩
      have hf : fs[l]? = some (fs[l]'(by omega)) := List.getElem?_eq_getElem (by omega)
      rw [numF_get, hf]
      show some (0 + l + 1, _) = some (l + 1, fs.getD l fine)
      rw [List.getD_eq_getElem?_getD, hf, Nat.zero_add]; rfl
theorem num_ok {n : NetT} {fs : List FaultT} {ts : List (List Int)} (h : AskOK n fs ts) : ∀ i (hi : i < (numF fs 0).length), (numF fs 0)[i].1 < 16 ∧ 0 ≤ (numF fs 0)[i].2.sig ∧ (numF fs 0)[i].2.sig < n.inn + n.gates.length ∧ ((numF fs 0)[i].2.at_ = 0 ∨ (numF fs 0)[i].2.at_ = 1) := by
  intro i hi
  have hl := numF_len fs 0
  have hfl := h.fl
  have hg : (numF fs 0)[i]? = some (numF fs 0)[i] := List.getElem?_eq_getElem hi
  rw [numF_get] at hg
  have hf : fs[i]? = some (fs[i]'(by omega)) := List.getElem?_eq_getElem (by omega)
  rw [hf] at hg
  simp only [Option.map_some, Option.some.injEq] at hg
  rw [← hg]
  exact ⟨by show 0 + i + 1 < 16; omega, faultErr_ok (h.f _ (List.getElem_mem _))⟩
theorem tried_fn (n : NetT) (hi : i64 n.inn) (fs : List FaultT) (ts : List (List Int)) (hr : askedR n fs ts = 0 → RunsAt (fs.length + 1)) : FnC Tryd.prog 73 [netAV n, faultsAV fs, rowsAV ts] (.t [cubeAV (triedR n fs ts).1, iv .i64 (triedR n fs ts).2]) := by
  refine FnC_of_AWL hTt Tryd.func73 rfl (by kernel_rfl) (res := [.tmp 6, .tmp 7]) rfl Tryd.ntmps73 (by simp) fun w0 K0 => ?_
  dsimp only [entry]
  have ck := pcheck_fn n hi
  by_cases hc : (checkR n).2.2 = 0
  · have ok := NetOK.of hc
    rw [three_err' hc] at ck
    by_cases hl : 12 < fs.length ∨ 10 < ts.length
    · rw [show triedR n fs ts = ([], 3) from by
        have : askedR n fs ts = 3 := by unfold askedR; rw [if_pos hc, if_pos hl]
        unfold triedR; rw [this]; rfl]
      repeat' first | with_reducible refine AW_seq ?_ | ((first | with_reducible refine AW_skip ?_ | with_reducible refine AW_ret ?_ | with_reducible refine AW_region hTt ?_ | ((refine ⟨_, (ck).call rfl rfl, ?_⟩); (rintro _ _ ⟨rfl, rfl⟩)) | fail); conv => whnf) | (exfalso; rcases hl with hl | hl <;> simp [hl] at hb <;> omega) | (refine AW_cond rfl (fun hb => absurd hb (by decide)) (fun _ => ?_)) | (refine AW_cond rfl (fun hb => ?_) (fun hb => ?_) <;> first | (replace hb := of_decide_eq_true hb; try simp only [List.length_map] at hb) | (replace hb := of_decide_eq_false hb; try simp only [List.length_map] at hb) | (simp only [List.length_map, bne_iff_ne, ne_eq, beq_iff_eq, bne_eq_false_iff_eq, beq_eq_false_iff_ne, decide_eq_true_eq, decide_eq_false_iff_not, Bool.not_eq_true', Bool.not_eq_false', Int.natCast_inj] at hb)) | ((refine andA ?_); conv => whnf) | (refine fun hln => ?_; (try rw [List.length_map] at hln); unfold maxLen at hln; conv => whnf) | fail
      exact ⟨_, rfl, _, rfl, LeAV1.nil 1, LeAV1.refl _, trivial⟩
    · have hA : askedR n fs ts = firstErr (fs.map (faultErr n) ++ ts.map (insErr n)) := by unfold askedR; rw [if_pos hc, if_neg hl]
      repeat' first | with_reducible refine AW_seq ?_ | with_reducible refine AW_block ?_ | ((first | with_reducible refine AW_skip ?_ | with_reducible refine AW_ret ?_ | with_reducible refine AW_region hTt ?_ | ((refine ⟨_, (ck).call rfl rfl, ?_⟩); (rintro _ _ ⟨rfl, rfl⟩)) | fail); conv => whnf) | (exfalso; simp at hb; omega) | (refine AW_cond rfl (fun hb => absurd hb (by decide)) (fun _ => ?_)) | (refine AW_cond rfl (fun hb => ?_) (fun hb => ?_) <;> first | (replace hb := of_decide_eq_true hb; try simp only [List.length_map] at hb) | (replace hb := of_decide_eq_false hb; try simp only [List.length_map] at hb) | (simp only [List.length_map, bne_iff_ne, ne_eq, beq_iff_eq, bne_eq_false_iff_eq, beq_eq_false_iff_ne, decide_eq_true_eq, decide_eq_false_iff_not, Bool.not_eq_true', Bool.not_eq_false', Int.natCast_inj] at hb)) | ((refine andA ?_); conv => whnf) | (refine fun hln => ?_; (try rw [List.length_map] at hln); unfold maxLen at hln; conv => whnf) | fail
      refine AW_loop (fun i : Nat => [(36, iv .i64 i), (35, iv .i64 fs.length), (34, faultsAV fs), (8, .x (.h 33)), (6, .x (.d (.v (.slice none 0 0)))), (3, .x (.b 3 0)), (1, faultsAV fs), (2, rowsAV ts)]) (fun i => [(33, mapF (numF (fs.take i) 0)), (3, netCells n)])
        (fun i => i ≤ fs.length ∧ askedR n fs ts = firstErr ((fs.drop i).map (faultErr n) ++ ts.map (insErr n))) (fun i => fs.length - i) 0 ⟨Nat.zero_le _, hA⟩ impA ?_
      rintro i ⟨hi', hR⟩
      rcases Nat.lt_or_ge i fs.length with hil | hil
      · obtain ⟨f, hf⟩ : ∃ f, fs[i]? = some f := ⟨_, List.getElem?_eq_getElem hil⟩
        have hdr : fs.drop i = f :: fs.drop (i + 1) := by
          rw [List.drop_eq_getElem_cons hil]
          congr 1
          rw [List.getElem?_eq_getElem hil] at hf
          exact Option.some.inj hf
        rw [hdr, List.map_cons, List.cons_append, firstErr_cons] at hR
        have hfe := pwrong_fn n f ok.h1 ok.h6 ok.hl
        by_cases he : faultErr n f = 0
        · rw [if_pos he] at hR
          rw [he] at hfe
          have htk : fs.take (i + 1) = fs.take i ++ [f] := by rw [List.take_add_one, hf]; rfl
          have hkv : kvF (numF (fs.take (i + 1)) 0) = kvF (numF (fs.take i) 0) ++ [(.int .i64 ((i : Int) + 1), faultAV f)] := by
            rw [htk, numF_snoc, kvF_app, List.length_take, Nat.min_eq_left (by omega), Nat.zero_add]; rfl
          repeat' first | with_reducible refine AW_seq ?_ | with_reducible refine AW_block ?_ | ((first | with_reducible refine AW_skip ?_ | with_reducible refine AW_exit ?_ | with_reducible refine AW_region hTt ?_ | fail); conv => whnf) | (exact absurd hb (by omega)) | ((first | with_reducible refine Exists.intro _ (And.intro (gd_any (And.intro (by omega) (fault_some hf))) ?_) | ((refine ⟨_, (hfe).call rfl rfl, ?_⟩); (rintro _ _ ⟨rfl, rfl⟩)) | refine And.intro (by first | rfl | decide) ?_ | refine ⟨kvF (numF (fs.take (i + 1)) 0), .inr ⟨kvF_no _ i (by rw [List.length_take]; omega), hkv⟩, ?_⟩ | fail); conv => whnf) | (refine AW_cond rfl (fun hb => absurd hb (by decide)) (fun _ => ?_)) | (refine AW_cond rfl (fun hb => ?_) (fun hb => ?_) <;> first | (replace hb := of_decide_eq_true hb; try simp only [List.length_map] at hb) | (replace hb := of_decide_eq_false hb; try simp only [List.length_map] at hb)) | ((refine ⟨_, wrap_of (by first | omega | (simp only [List.length_map]; omega)), ?_⟩); conv => whnf) | fail
          exact ⟨i + 1, ⟨by omega, hR⟩, by omega, impA⟩
        · rw [if_neg he] at hR
          rw [show triedR n fs ts = ([], faultErr n f) from by unfold triedR; rw [hR, if_neg he]]
          repeat' first | with_reducible refine AW_seq ?_ | with_reducible refine AW_block ?_ | ((first | with_reducible refine AW_skip ?_ | with_reducible refine AW_exit ?_ | with_reducible refine AW_ret ?_ | with_reducible refine AW_region hTt ?_ | fail); conv => whnf) | (exact absurd hb (by omega)) | ((first | with_reducible refine Exists.intro _ (And.intro (gd_any (And.intro (by omega) (fault_some hf))) ?_) | ((refine ⟨_, (hfe).call rfl rfl, ?_⟩); (rintro _ _ ⟨rfl, rfl⟩)) | fail); conv => whnf) | (refine AW_cond rfl (fun hb => ?_) (fun hb => ?_) <;> first | (replace hb := of_decide_eq_true hb; try simp only [List.length_map] at hb) | (replace hb := of_decide_eq_false hb; try simp only [List.length_map] at hb) | (simp only [List.length_map, bne_iff_ne, ne_eq, beq_iff_eq, bne_eq_false_iff_eq, beq_eq_false_iff_ne, decide_eq_true_eq, decide_eq_false_iff_not, Bool.not_eq_true', Bool.not_eq_false', Int.natCast_inj] at hb)) | ((refine andA ?_); conv => whnf) | fail
          exact ⟨_, rfl, _, rfl, LeAV1.nil 1, LeAV1.refl _, trivial⟩
      · rw [List.drop_eq_nil_of_le hil, List.map_nil, List.nil_append] at hR
        rw [List.take_of_length_le hil]
        repeat' first | with_reducible refine AW_seq ?_ | with_reducible refine AW_block ?_ | ((first | with_reducible refine AW_skip ?_ | with_reducible refine AW_exit ?_ | with_reducible refine AW_region hTt ?_ | fail); conv => whnf) | (exact absurd hb (by omega)) | (refine AW_cond rfl (fun hb => ?_) (fun hb => ?_) <;> first | (replace hb := of_decide_eq_true hb; try simp only [List.length_map] at hb) | (replace hb := of_decide_eq_false hb; try simp only [List.length_map] at hb)) | (refine fun hln => ?_; (try rw [List.length_map] at hln); unfold maxLen at hln; conv => whnf) | fail
        clear hil hi' hA
        refine AW_loop (fun i : Nat => [(54, iv .i64 i), (53, iv .i64 ts.length), (52, rowsAV ts), (8, .x (.h 33)), (6, .x (.d (.v (.slice none 0 0)))), (3, .x (.b 3 0)), (1, faultsAV fs), (2, rowsAV ts)]) (fun i => [(33, mapF (numF fs 0)), (3, netCells n)])
          (fun i => i ≤ ts.length ∧ askedR n fs ts = firstErr ((ts.drop i).map (insErr n))) (fun i => ts.length - i) 0 ⟨Nat.zero_le _, hR⟩ impA ?_
        clear hR
        rintro i ⟨hi', hR⟩
        rcases Nat.lt_or_ge i ts.length with hil | hil
        · obtain ⟨t, ht⟩ : ∃ t, ts[i]? = some t := ⟨_, List.getElem?_eq_getElem hil⟩
          have hdr : ts.drop i = t :: ts.drop (i + 1) := by
            rw [List.drop_eq_getElem_cons hil]
            congr 1
            rw [List.getElem?_eq_getElem hil] at ht
            exact Option.some.inj ht
          rw [hdr, List.map_cons, firstErr_cons] at hR
          have hte := pins_fn n ok.h1 ok.h6 t
          by_cases he : insErr n t = 0
          · rw [if_pos he] at hR
            rw [he] at hte
            repeat' first | with_reducible refine AW_seq ?_ | with_reducible refine AW_block ?_ | ((first | with_reducible refine AW_skip ?_ | with_reducible refine AW_exit ?_ | with_reducible refine AW_region hTt ?_ | fail); conv => whnf) | (exact absurd hb (by omega)) | ((first | with_reducible refine Exists.intro _ (And.intro (gd_any (And.intro (by omega) (row_some ht))) ?_) | ((refine ⟨_, (hte).call rfl rfl, ?_⟩); (rintro _ _ ⟨rfl, rfl⟩)) | fail); conv => whnf) | (refine AW_cond rfl (fun hb => absurd hb (by decide)) (fun _ => ?_)) | (refine AW_cond rfl (fun hb => ?_) (fun hb => ?_) <;> first | (replace hb := of_decide_eq_true hb; try simp only [List.length_map] at hb) | (replace hb := of_decide_eq_false hb; try simp only [List.length_map] at hb)) | ((first | refine ⟨_, wrap_of (by first | omega | (simp only [List.length_map]; omega)), ?_⟩ | refine andA ?_ | fail); conv => whnf) | fail
            exact ⟨i + 1, ⟨by omega, hR⟩, by omega, impA⟩
          · rw [if_neg he] at hR
            rw [show triedR n fs ts = ([], insErr n t) from by unfold triedR; rw [hR, if_neg he]]
            repeat' first | with_reducible refine AW_seq ?_ | with_reducible refine AW_block ?_ | ((first | with_reducible refine AW_skip ?_ | with_reducible refine AW_exit ?_ | with_reducible refine AW_ret ?_ | with_reducible refine AW_region hTt ?_ | fail); conv => whnf) | (exact absurd hb (by omega)) | ((first | with_reducible refine Exists.intro _ (And.intro (gd_any (And.intro (by omega) (row_some ht))) ?_) | ((refine ⟨_, (hte).call rfl rfl, ?_⟩); (rintro _ _ ⟨rfl, rfl⟩)) | fail); conv => whnf) | (refine AW_cond rfl (fun hb => ?_) (fun hb => ?_) <;> first | (replace hb := of_decide_eq_true hb; try simp only [List.length_map] at hb) | (replace hb := of_decide_eq_false hb; try simp only [List.length_map] at hb) | (simp only [List.length_map, bne_iff_ne, ne_eq, beq_iff_eq, bne_eq_false_iff_eq, beq_eq_false_iff_ne, decide_eq_true_eq, decide_eq_false_iff_not, Bool.not_eq_true', Bool.not_eq_false', Int.natCast_inj] at hb)) | ((refine andA ?_); conv => whnf) | fail
            exact ⟨_, rfl, _, rfl, LeAV1.nil 1, LeAV1.refl _, trivial⟩
        · rw [List.drop_eq_nil_of_le hil] at hR
          have hR : askedR n fs ts = 0 := hR
          have h := AskOK.of hR
          have hfl := h.fl
          have htl := h.tl
          rw [show triedR n fs ts = (ts.map fun t => lanesR n fs t, 0) from if_pos hR]
          have hbm := build_map n ok.h1 ok.h6 ok.hl (numF fs 0) (num_ok h)
          have hrr := hr hR
          repeat' first | with_reducible refine AW_seq ?_ | with_reducible refine AW_block ?_ | ((first | with_reducible refine AW_skip ?_ | with_reducible refine AW_exit ?_ | with_reducible refine AW_region hTt ?_ | fail); conv => whnf) | (exact absurd hb (by omega)) | ((refine ⟨_, (hbm).frame (asc [(700, 33), (19, 900), (17, 901)]) (by repeat (first | exact trivial | refine ⟨rfl, ?_⟩)) rfl (by rintro _ _ ⟨_, rfl, rfl⟩; rfl), ?_⟩); (rintro _ _ ⟨_, _, ⟨_, rfl, rfl⟩, rfl, rfl⟩); conv => whnf) | (refine AW_cond rfl (fun hb => ?_) (fun hb => ?_) <;> first | (replace hb := of_decide_eq_true hb; try simp only [List.length_map] at hb) | (replace hb := of_decide_eq_false hb; try simp only [List.length_map] at hb)) | (refine fun hln => ?_; (try rw [List.length_map] at hln); unfold maxLen at hln; conv => whnf) | fail
          clear hil hi' hR
          rename_i s2
          have hsk := num_lanes h
          have hrun : ∀ (q : BQ') (t : List Int), t.length ≤ 4096 → ACall Tryd.prog 71 [.x (.b 900 0), iv .i64 (((fs.map faultPV).length : Int) + 1), sl t] (sB n 0 (skF n (numF fs 0) (List.range (numF fs 0).length)) s2 (dl0 n) q.1 q.2.1 q.2.2)
              (fun r σ' => ∃ p : Nat × Nat × List W16, r = rowsAV (lanesR n fs t) ∧ σ' = sB n 0 (skF n (numF fs 0) (List.range (numF fs 0).length)) s2 (dl0 n) p.1 p.2.1 p.2.2) := fun q t htt => by
            rw [List.length_map]
            exact hrr n ok _ _ (skF_len n _ _) _ _ _ _ _ hsk t htt
          refine AW_imp (Imp.nil 6 54 1 (fr' := [(70, iv .i64 0), (69, iv .i64 ts.length), (68, rowsAV ts), (13, .x (.b 900 0)), (6, .x (.o 6 0 0)), (1, faultsAV fs)])
            (σ' := sB n 0 (skF n (numF fs 0) (List.range (numF fs 0).length)) s2 (dl0 n) 0 0 []) rfl ?_ ?_ rfl rfl) ?_
          · exact ⟨⟨_, rfl, .inl rfl⟩, ⟨_, congrArg (fun k : Nat => some (iv .i64 k)) (List.length_map _), .inl rfl⟩, ⟨_, rfl, .inl rfl⟩, ⟨_, rfl, .inl rfl⟩, ⟨_, rfl, .inr ⟨rfl, rfl⟩⟩, ⟨_, rfl, .inl rfl⟩, trivial⟩
          · exact ⟨⟨_, rfl, .inl rfl⟩, ⟨_, rfl, .inl rfl⟩, ⟨_, rfl, .inl rfl⟩, ⟨_, rfl, .inl rfl⟩, trivial⟩
          refine AW_loop (fun p : Nat × BQ' => [(70, iv .i64 p.1), (69, iv .i64 ts.length), (68, rowsAV ts), (13, .x (.b 900 0)), (6, .x (.o 6 p.1 p.1)), (1, faultsAV fs)])
            (fun p => (6, .chain 54 1 p.1 (cubePV ((ts.take p.1).map fun t => lanesR n fs t))) :: sB n 0 (skF n (numF fs 0) (List.range (numF fs 0).length)) s2 (dl0 n) p.2.1 p.2.2.1 p.2.2.2)
            (fun p => p.1 ≤ ts.length) (fun p => ts.length - p.1) (0, 0, 0, []) (Nat.zero_le _) impA ?_
          clear hb
          rintro ⟨i, q⟩ hi
          dsimp only at hi ⊢
          have hlen : (cubePV ((ts.take i).map fun t => lanesR n fs t)).length = i := by unfold cubePV; rw [List.length_map, List.length_map, List.length_take]; omega
          rcases Nat.lt_or_ge i ts.length with hil | hil
          · obtain ⟨t, ht⟩ : ∃ t, ts[i]? = some t := ⟨_, List.getElem?_eq_getElem hil⟩
            have hto := insErr_ok (h.t t (List.mem_of_getElem? ht))
            have hr := hrun q t (by omega)
            have hst : (cubePV ((ts.take i).map fun t => lanesR n fs t)).take i ++ [[rowsPV (lanesR n fs t)]] = cubePV ((ts.take (i + 1)).map fun t => lanesR n fs t) := by
              rw [List.take_of_length_le (Nat.le_of_eq hlen), List.take_add_one, ht]
              unfold cubePV
              rw [List.map_append, List.map_append]; rfl
            clear hrun hto hsk hbm
            repeat' first | with_reducible refine AW_seq ?_ | with_reducible refine AW_block ?_ | ((first | with_reducible refine AW_skip ?_ | with_reducible refine AW_exit ?_ | with_reducible refine AW_ret ?_ | with_reducible refine AW_region hTt ?_ | fail); conv => whnf) | (exact absurd hb (by omega)) | ((first | with_reducible refine Exists.intro _ (And.intro (gd_any (And.intro (by omega) (row_some ht))) ?_) | ((refine ⟨_, (hr).frame (asc []) (by repeat (first | exact trivial | refine ⟨rfl, ?_⟩)) rfl (by rintro _ _ ⟨_, rfl, rfl⟩; rfl), ?_⟩); (rintro _ _ ⟨_, _, ⟨_, rfl, rfl⟩, rfl, rfl⟩)) | refine And.intro ⟨Nat.le_of_eq hlen.symm, by show i + 1 ≤ maxLen; unfold maxLen; omega, by show (i + 1) * 24 ≤ 140737488355328; omega⟩ ?_ | fail); conv => whnf) | (refine AW_cond rfl (fun hb => ?_) (fun hb => ?_) <;> first | (replace hb := of_decide_eq_true hb; try simp only [List.length_map] at hb) | (replace hb := of_decide_eq_false hb; try simp only [List.length_map] at hb)) | ((first | refine ⟨_, wrap_of (by first | omega | (simp only [List.length_map]; omega)), ?_⟩ | refine andA ?_ | fail); conv => whnf) | (refine fun hln => ?_; (try rw [List.length_map] at hln); unfold maxLen at hln; conv => whnf) | fail
            rename_i q'
            exact ⟨(i + 1, q'), by show i + 1 ≤ ts.length; omega, by show ts.length - (i + 1) < ts.length - i; omega, impA⟩
          · have hie : i = ts.length := by omega
            subst hie
            clear hrun hsk hbm
            repeat' first | with_reducible refine AW_seq ?_ | with_reducible refine AW_block ?_ | ((first | with_reducible refine AW_skip ?_ | with_reducible refine AW_exit ?_ | with_reducible refine AW_ret ?_ | with_reducible refine AW_region hTt ?_ | fail); conv => whnf) | (exact absurd hb (by omega)) | (refine AW_cond rfl (fun hb => ?_) (fun hb => ?_) <;> first | (replace hb := of_decide_eq_true hb; try simp only [List.length_map] at hb) | (replace hb := of_decide_eq_false hb; try simp only [List.length_map] at hb)) | fail
            rw [List.take_of_length_le (Nat.le_refl _)] at hlen ⊢
            refine ⟨.t [cubeAV (ts.map fun t => lanesR n fs t), iv .i64 0], ?_, LeAV.refl _⟩
            show viewAV ((6, Ob.chain 54 1 ts.length (cubePV (ts.map fun t => lanesR n fs t))) :: sB n 0 (skF n (numF fs 0) (List.range (numF fs 0).length)) s2 (dl0 n) q.1 q.2.1 q.2.2) (.t [.x (.o 6 ts.length ts.length), iv .i64 0]) = _
            simp only [viewAV, viewAVs, viewAV1]
            rw [viewO' (σ := (6, Ob.chain 54 1 ts.length (cubePV (ts.map fun t => lanesR n fs t))) :: sB n 0 (skF n (numF fs 0) (List.range (numF fs 0).length)) s2 (dl0 n) q.1 q.2.1 q.2.2) rfl hlen.symm]
            rfl
  · rw [show triedR n fs ts = ([], (checkR n).2.2) from by
      have : askedR n fs ts = (checkR n).2.2 := by unfold askedR; rw [if_neg hc]
      unfold triedR; rw [this, if_neg hc]]
    repeat' first | with_reducible refine AW_seq ?_ | ((first | with_reducible refine AW_skip ?_ | with_reducible refine AW_ret ?_ | with_reducible refine AW_region hTt ?_ | fail); conv => whnf) | (exact absurd hb (by omega)) | ((refine ⟨_, (ck).call rfl rfl, ?_⟩); (rintro _ _ ⟨rfl, rfl⟩); conv => whnf) | (refine AW_cond rfl (fun hb => ?_) (fun hb => ?_) <;> first | (replace hb := of_decide_eq_true hb; try simp only [List.length_map] at hb) | (replace hb := of_decide_eq_false hb; try simp only [List.length_map] at hb) | (simp only [List.length_map, bne_iff_ne, ne_eq, beq_iff_eq, bne_eq_false_iff_eq, beq_eq_false_iff_ne, decide_eq_true_eq, decide_eq_false_iff_not, Bool.not_eq_true', Bool.not_eq_false', Int.natCast_inj] at hb)) | fail
    exact ⟨_, rfl, _, rfl, LeAV1.nil 1, LeAV1.refl _, trivial⟩
end Go.Proofs.YtfghooojingdhaaDoor
namespace Go.Proofs.YtfghooojingdhaaDoor
open Go Go.QL
set_option maxHeartbeats 3200000
attribute [local irreducible] ACall FnC
theorem equal_fn (a b : List Int) : FnC Tryd.prog 74 [sl a, sl b] (bv (sameInts a b)) := by
  refine FnC_of_AW hTt Tryd.func74 rfl (by kernel_rfl) (res := [.tmp 4]) rfl Tryd.ntmps74 (by simp) fun w0 K0 => ?_
  dsimp only [entry]
  by_cases hl : a.length = b.length
  · repeat' first | with_reducible refine AW_seq ?_ | with_reducible refine AW_block ?_ | ((first | with_reducible refine AW_skip ?_ | with_reducible refine AW_ret ?_ | with_reducible refine AW_region hTt ?_ | fail); conv => whnf) | (exact absurd hb (by omega)) | (refine AW_cond rfl (fun hb => ?_) (fun hb => ?_) <;> first | (replace hb := of_decide_eq_true hb; try simp only [List.length_map] at hb) | (replace hb := of_decide_eq_false hb; try simp only [List.length_map] at hb) | (simp only [List.length_map, bne_iff_ne, ne_eq, beq_iff_eq, bne_eq_false_iff_eq, beq_eq_false_iff_ne, decide_eq_true_eq, decide_eq_false_iff_not, Bool.not_eq_true', Bool.not_eq_false', Int.natCast_inj] at hb)) | (refine fun hln => ?_; (try rw [List.length_map] at hln); unfold maxLen at hln; conv => whnf) | fail
    refine AW_loop (fun i : Nat => [(13, iv .i64 i), (12, iv .i64 a.length), (11, sl a), (0, sl a), (1, sl b)]) (fun _ => []) (fun i => i ≤ a.length ∧ a.take i = b.take i) (fun i => a.length - i) 0 (by simp) impA ?_
    rintro i ⟨hi, htk⟩
    rcases Nat.lt_or_ge i a.length with hil | hil
    · obtain ⟨x, hx⟩ : ∃ x, a[i]? = some x := ⟨_, List.getElem?_eq_getElem hil⟩
      obtain ⟨y, hy⟩ : ∃ y, b[i]? = some y := ⟨_, List.getElem?_eq_getElem (by omega)⟩
      repeat' first | with_reducible refine AW_seq ?_ | with_reducible refine AW_block ?_ | ((first | with_reducible refine AW_skip ?_ | with_reducible refine AW_exit ?_ | with_reducible refine AW_ret ?_ | with_reducible refine AW_region hTt ?_ | refine AW_draw hTt hMix (id := 6) 8 false [0, 0, 3, 7, 0, 0, 48, 112, 255] (by kernel_rfl) rfl rfl (by kernel_rfl) ?_ | fail); conv => whnf) | (exact absurd hb (by omega)) | ((first | with_reducible refine Exists.intro _ (And.intro (gd_any (And.intro (by omega) (map_some hx))) ?_) | with_reducible refine Exists.intro _ (And.intro (gd_any (And.intro (by omega) (map_some hy))) ?_) | fail); conv => whnf) | (refine AW_cond rfl (fun hb => ?_) (fun hb => ?_) <;> first | (replace hb := of_decide_eq_true hb; try simp only [List.length_map] at hb) | (replace hb := of_decide_eq_false hb; try simp only [List.length_map] at hb) | (simp only [List.length_map, bne_iff_ne, ne_eq, beq_iff_eq, bne_eq_false_iff_eq, beq_eq_false_iff_ne, decide_eq_true_eq, decide_eq_false_iff_not, Bool.not_eq_true', Bool.not_eq_false', Int.natCast_inj] at hb)) | ((first | refine ⟨_, wrap_of (by first | omega | (simp only [List.length_map]; omega)), ?_⟩ | refine andA ?_ | fail); conv => whnf) | fail
      · have hxy : ¬ x = y := hb
        have hne : a ≠ b := fun h => by
          rw [h, hy] at hx
          exact hxy (Option.some.inj hx).symm
        have : sameInts a b = false := decide_eq_false hne
        rw [this]; rfl
      · refine ⟨i + 1, ⟨by omega, ?_⟩, by omega, impA⟩
        rw [List.take_add_one, List.take_add_one, htk, hx, hy, hb]
    · repeat' first | with_reducible refine AW_seq ?_ | with_reducible refine AW_block ?_ | ((first | with_reducible refine AW_skip ?_ | with_reducible refine AW_exit ?_ | with_reducible refine AW_ret ?_ | with_reducible refine AW_region hTt ?_ | refine AW_draw hTt hMix (id := 6) 8 false [0, 0, 3, 7, 0, 0, 48, 112, 255] (by kernel_rfl) rfl rfl (by kernel_rfl) ?_ | fail); conv => whnf) | (exact absurd hb (by omega)) | (refine AW_cond rfl (fun hb => ?_) (fun hb => ?_) <;> first | (replace hb := of_decide_eq_true hb; try simp only [List.length_map] at hb) | (replace hb := of_decide_eq_false hb; try simp only [List.length_map] at hb)) | fail
      have : sameInts a b = true := decide_eq_true (by
        have h1 := List.take_of_length_le (l := a) (i := i) (by omega)
        have h2 := List.take_of_length_le (l := b) (i := i) (by omega)
        rw [← h1, ← h2, htk])
      rw [this]; rfl
  · repeat' first | with_reducible refine AW_seq ?_ | ((first | with_reducible refine AW_skip ?_ | with_reducible refine AW_ret ?_ | with_reducible refine AW_region hTt ?_ | fail); conv => whnf) | (exact absurd hb (by omega)) | (refine AW_cond rfl (fun hb => ?_) (fun hb => ?_) <;> first | (replace hb := of_decide_eq_true hb; try simp only [List.length_map] at hb) | (replace hb := of_decide_eq_false hb; try simp only [List.length_map] at hb) | (simp only [List.length_map, bne_iff_ne, ne_eq, beq_iff_eq, bne_eq_false_iff_eq, beq_eq_false_iff_ne, decide_eq_true_eq, decide_eq_false_iff_not, Bool.not_eq_true', Bool.not_eq_false', Int.natCast_inj] at hb)) | (refine fun hln => ?_; (try rw [List.length_map] at hln); unfold maxLen at hln; conv => whnf) | fail
    have : sameInts a b = false := decide_eq_false fun h => hl (by rw [h])
    rw [this]; rfl
theorem sameInts_comm (a b : List Int) : sameInts a b = sameInts b a := decide_eq_decide.2 ⟨fun h => h.symm, fun h => h.symm⟩
theorem lanes_cons (n : NetT) (fs : List FaultT) (t : List Int) : lanesR n fs t = oR n fine t :: fs.map fun f => oR n f t := by
  unfold lanesR
  rw [List.range_succ_eq_map, List.map_cons, List.map_map]
  congr 1
  apply List.ext_getElem
  · simp
  · intro i h1 h2
    simp only [List.getElem_map, List.getElem_range, Function.comp]
    have : fAt fs (i + 1) = fs[i]'(by simpa using h2) := by
      show fs.getD i fine = _
      rw [List.getD_eq_getElem?_getD, List.getElem?_eq_getElem]; rfl
    rw [this]
theorem rows_some {L : List (List (List Int))} {i : Nat} {r : List (List Int)} (h : L[i]? = some r) : (cubePV L)[((i : Int)).toNat]? = some [rowsPV r] := by simp [cubePV, h]
def rowPVb' (n : NetT) (fs : List FaultT) (t : List Int) : List PV := [boolsPV (rowR n fs t)]
theorem ptable_fn (n : NetT) (hi : i64 n.inn) (fs : List FaultT) (ts : List (List Int)) (hr : askedR n fs ts = 0 → RunsAt (fs.length + 1)) : FnC Tryd.prog 34 [netAV n, faultsAV fs, rowsAV ts] (.t [tableAV (tableR n fs ts).1, iv .i64 (tableR n fs ts).2]) := by
  refine FnC_of_AWL hTt Tryd.func34 rfl (by kernel_rfl) (res := [.tmp 6, .tmp 7]) rfl Tryd.ntmps34 (by simp) fun w0 K0 => ?_
  dsimp only [entry]
  have htr := tried_fn n hi fs ts hr
  by_cases hc : askedR n fs ts = 0
  · have h := AskOK.of hc
    rw [show tableR n fs ts = (ts.map fun t => rowR n fs t, 0) from if_pos hc]
    rw [show triedR n fs ts = (ts.map fun t => lanesR n fs t, 0) from if_pos hc] at htr
    have hfl := h.fl
    have htl := h.tl
    repeat' first | with_reducible refine AW_seq ?_ | with_reducible refine AW_block ?_ | ((first | with_reducible refine AW_region hTt ?_ | ((refine ⟨_, (htr).call rfl rfl, ?_⟩); (rintro _ _ ⟨rfl, rfl⟩)) | fail); conv => whnf) | (refine fun hln => ?_; (try rw [List.length_map] at hln); unfold maxLen at hln; conv => whnf) | fail
    refine AW_imp (Imp.nil 6 65 1 (fr' := [(23, iv .i64 0), (22, iv .i64 ts.length), (21, cubeAV (ts.map fun t => lanesR n fs t)), (6, .x (.o 6 0 0)), (7, iv .i64 0)]) (σ' := []) rfl ?_ ?_ rfl rfl) ?_
    · exact ⟨⟨_, rfl, .inl rfl⟩, ⟨_, congrArg (fun k : Nat => some (iv .i64 k)) (by unfold cubePV; rw [List.length_map, List.length_map]), .inl rfl⟩, ⟨_, rfl, .inl rfl⟩, ⟨_, rfl, .inr ⟨rfl, rfl⟩⟩, ⟨_, rfl, .inl rfl⟩, trivial⟩
    · exact trivial
    refine AW_loop (fun i : Nat => [(23, iv .i64 i), (22, iv .i64 ts.length), (21, cubeAV (ts.map fun t => lanesR n fs t)), (6, .x (.o 6 i i)), (7, iv .i64 0)]) (fun i => [(6, .chain 65 1 i ((ts.take i).map (rowPVb' n fs)))])
      (fun i => i ≤ ts.length) (fun i => ts.length - i) 0 (Nat.zero_le _) impA ?_
    intro i hi'
    have hlen : (ts.take i).length = i := by rw [List.length_take]; omega
    have hlm : ((ts.take i).map (rowPVb' n fs)).length = i := by rw [List.length_map]; exact hlen
    rcases Nat.lt_or_ge i ts.length with hil | hil
    · obtain ⟨t, ht⟩ : ∃ t, ts[i]? = some t := ⟨_, List.getElem?_eq_getElem hil⟩
      have htL : (ts.map fun t => lanesR n fs t)[i]? = some (lanesR n fs t) := by rw [List.getElem?_map, ht]; rfl
      have hlc := lanes_cons n fs t
      have hll : (lanesR n fs t).length = fs.length + 1 := by rw [hlc]; simp
      have htail : (((lanesR n fs t).map fun r => [intsPV r]).take ((((lanesR n fs t).map fun r => [intsPV r]).length : Int)).toNat).drop (1 : Int).toNat = (fs.map fun f => oR n f t).map fun r => [intsPV r] := by
        rw [Int.toNat_natCast, List.take_of_length_le (Nat.le_refl _), hlc]; rfl
      have h0 : ((lanesR n fs t).map fun r => [intsPV r])[(0 : Int).toNat]? = some [intsPV (oR n fine t)] := by rw [hlc]; rfl
      repeat' first | with_reducible refine AW_seq ?_ | with_reducible refine AW_block ?_ | ((first | with_reducible refine AW_skip ?_ | with_reducible refine AW_exit ?_ | with_reducible refine AW_ret ?_ | with_reducible refine AW_region hTt ?_ | fail); conv => whnf) | (exact absurd hb (by omega)) | ((with_reducible refine Exists.intro _ (And.intro (gd_any (And.intro (by omega) (rows_some htL))) ?_)); conv => whnf) | (refine AW_cond rfl (fun hb => ?_) (fun hb => ?_) <;> first | (replace hb := of_decide_eq_true hb; try simp only [List.length_map] at hb) | (replace hb := of_decide_eq_false hb; try simp only [List.length_map] at hb)) | ((first | refine andA ?_ | with_reducible refine And.intro (gd_any (And.intro (by omega) (And.intro (by first | omega | (simp only [List.length_map]; omega)) (by first | omega | (simp only [List.length_map]; omega) | (simp only [List.length_set, List.length_map]; omega))))) ?_ | fail); conv => whnf) | (refine fun hln => ?_; (try rw [List.length_map] at hln); unfold maxLen at hln; conv => whnf) | fail
      refine AW_imp (Imp.nil 11 4 1 (fr' := [(30, iv .i64 0), (29, iv .i64 fs.length), (28, rowsAV (fs.map fun f => oR n f t)), (11, .x (.o 11 0 0)), (10, rowsAV (lanesR n fs t)), (23, iv .i64 i), (22, iv .i64 ts.length), (21, cubeAV (ts.map fun t => lanesR n fs t)), (6, .x (.o 6 i i)), (7, iv .i64 0)])
        (σ' := [(6, .chain 65 1 i ((ts.take i).map (rowPVb' n fs)))]) rfl ?_ ?_ rfl rfl) ?_
      · exact ⟨⟨_, rfl, .inl rfl⟩, ⟨_, congrArg (fun k : Nat => some (iv .i64 k)) (by rw [htail]; simp), .inl rfl⟩, ⟨_, congrArg (fun l => some (AV.x (.d (.s 1 l)))) htail, .inl rfl⟩, ⟨_, rfl, .inr ⟨rfl, rfl⟩⟩, ⟨_, rfl, .inl rfl⟩, ⟨_, rfl, .inl rfl⟩, ⟨_, rfl, .inl rfl⟩, ⟨_, rfl, .inl rfl⟩, ⟨_, rfl, .inl rfl⟩, ⟨_, rfl, .inl rfl⟩, trivial⟩
      · exact ⟨⟨_, rfl, .inl rfl⟩, trivial⟩
      refine AW_loop (fun k : Nat => [(30, iv .i64 k), (29, iv .i64 fs.length), (28, rowsAV (fs.map fun f => oR n f t)), (11, .x (.o 11 k k)), (10, rowsAV (lanesR n fs t)), (23, iv .i64 i), (22, iv .i64 ts.length), (21, cubeAV (ts.map fun t => lanesR n fs t)), (6, .x (.o 6 i i)), (7, iv .i64 0)])
        (fun k => [(11, .chain 4 1 k ((rowR n (fs.take k) t).map bPV)), (6, .chain 65 1 i ((ts.take i).map (rowPVb' n fs)))])
        (fun k => k ≤ fs.length) (fun k => fs.length - k) 0 (Nat.zero_le _) impA ?_
      intro k hk
      have hrl : (rowR n (fs.take k) t).length = k := by unfold rowR; rw [List.length_map, List.length_take]; omega
      rcases Nat.lt_or_ge k fs.length with hkl | hkl
      · obtain ⟨f, hf⟩ : ∃ f, fs[k]? = some f := ⟨_, List.getElem?_eq_getElem hkl⟩
        have hfr : (fs.map fun f => oR n f t)[k]? = some (oR n f t) := by rw [List.getElem?_map, hf]; rfl
        have heq := equal_fn (oR n f t) (oR n fine t)
        rw [sameInts_comm] at heq
        have hst : ((rowR n (fs.take k) t).map bPV).take k ++ [[PV.v (.bool (!sameInts (oR n fine t) (oR n f t)))]] = (rowR n (fs.take (k + 1)) t).map bPV := by
          rw [List.take_of_length_le (by rw [List.length_map]; omega), List.take_add_one, hf]
          unfold rowR
          rw [List.map_append, List.map_append]; rfl
        clear hlen htail hlm
        repeat' first | with_reducible refine AW_seq ?_ | with_reducible refine AW_block ?_ | ((first | with_reducible refine AW_skip ?_ | with_reducible refine AW_exit ?_ | with_reducible refine AW_region hTt ?_ | fail); conv => whnf) | (exact absurd hb (by omega)) | ((first | with_reducible refine Exists.intro _ (And.intro (gd_any (And.intro (by omega) (row_some hfr))) ?_) | with_reducible refine Exists.intro _ (And.intro (gd_any (And.intro (by omega) h0)) ?_) | ((refine ⟨_, (heq).call rfl rfl, ?_⟩); (rintro _ _ ⟨rfl, rfl⟩)) | fail); conv => whnf) | ((refine And.intro (by refine ⟨?_, ?_, ?_⟩ <;> simp [chunk, maxLen, hrl] <;> omega) ?_); conv => whnf) | (refine AW_cond rfl (fun hb => ?_) (fun hb => ?_) <;> first | (replace hb := of_decide_eq_true hb; try simp only [List.length_map] at hb) | (replace hb := of_decide_eq_false hb; try simp only [List.length_map] at hb)) | ((first | refine ⟨_, wrap_of (by first | omega | (simp only [List.length_map]; omega)), ?_⟩ | refine andA ?_ | fail); conv => whnf) | fail
        exact ⟨k + 1, by omega, by omega, impA⟩
      · have hke : k = fs.length := by omega
        subst hke
        rw [List.take_of_length_le (Nat.le_refl _)] at hrl ⊢
        have hfz : AV.x (.d (boolsPV (rowR n fs t))) = .x (.d (.s 1 (((rowR n fs t).map bPV).take fs.length))) := by
          rw [List.take_of_length_le (by rw [List.length_map]; omega)]; rfl
        refine AW_imp (Imp.freeze 11 (fr' := [(30, iv .i64 fs.length), (29, iv .i64 fs.length), (11, .x (.d (boolsPV (rowR n fs t)))), (23, iv .i64 i), (22, iv .i64 ts.length), (21, cubeAV (ts.map fun t => lanesR n fs t)), (6, .x (.o 6 i i)), (7, iv .i64 0)]) (σ' := [(6, .chain 65 1 i ((ts.take i).map (rowPVb' n fs)))]) rfl
          ⟨⟨_, rfl, .inl rfl⟩, ⟨_, rfl, .inl rfl⟩, ⟨_, rfl, .inr ⟨fs.length, rfl, by rw [List.length_map]; omega, hfz⟩⟩, ⟨_, rfl, .inl rfl⟩, ⟨_, rfl, .inl rfl⟩, ⟨_, rfl, .inl rfl⟩, ⟨_, rfl, .inl rfl⟩, ⟨_, rfl, .inl rfl⟩, trivial⟩ ⟨rfl, trivial⟩ rfl rfl) ?_
        have hst : ((ts.take i).map (rowPVb' n fs)).take i ++ [[boolsPV (rowR n fs t)]] = (ts.take (i + 1)).map (rowPVb' n fs) := by
          rw [List.take_of_length_le (by rw [List.length_map]; omega), List.take_add_one, ht, List.map_append]; rfl
        repeat' first | with_reducible refine AW_seq ?_ | with_reducible refine AW_block ?_ | ((first | with_reducible refine AW_skip ?_ | with_reducible refine AW_exit ?_ | with_reducible refine AW_region hTt ?_ | fail); conv => whnf) | (exact absurd hb (by omega)) | ((refine And.intro ⟨Nat.le_of_eq hlm.symm, by show i + 1 ≤ maxLen; unfold maxLen; omega, by show (i + 1) * 24 ≤ 140737488355328; omega⟩ ?_); conv => whnf) | (refine AW_cond rfl (fun hb => ?_) (fun hb => ?_) <;> first | (replace hb := of_decide_eq_true hb; try simp only [List.length_map] at hb) | (replace hb := of_decide_eq_false hb; try simp only [List.length_map] at hb)) | ((first | refine ⟨_, wrap_of (by first | omega | (simp only [List.length_map]; omega)), ?_⟩ | refine andA ?_ | fail); conv => whnf) | fail
        exact ⟨i + 1, by omega, by omega, impA⟩
    · have hie : i = ts.length := by omega
      subst hie
      repeat' first | with_reducible refine AW_seq ?_ | with_reducible refine AW_block ?_ | ((first | with_reducible refine AW_skip ?_ | with_reducible refine AW_exit ?_ | with_reducible refine AW_ret ?_ | with_reducible refine AW_region hTt ?_ | fail); conv => whnf) | (exact absurd hb (by omega)) | (refine AW_cond rfl (fun hb => ?_) (fun hb => ?_) <;> first | (replace hb := of_decide_eq_true hb; try simp only [List.length_map] at hb) | (replace hb := of_decide_eq_false hb; try simp only [List.length_map] at hb)) | fail
      refine ⟨.t [tableAV (ts.map fun t => rowR n fs t), iv .i64 0], ?_, LeAV.refl _⟩
      show viewAV _ (.t [.x (.o 6 ts.length ts.length), iv .i64 0]) = _
      simp only [viewAV, viewAVs, viewAV1]
      rw [viewO' (σ := [(6, Ob.chain 65 1 ts.length ((ts.take ts.length).map (rowPVb' n fs)))]) rfl hlm.symm, List.take_of_length_le (Nat.le_refl _)]
      unfold tableAV rowPVb'
      rw [List.map_map]; rfl
  · rw [show tableR n fs ts = ([], askedR n fs ts) from if_neg hc]
    rw [show triedR n fs ts = ([], askedR n fs ts) from if_neg hc] at htr
    repeat' first | with_reducible refine AW_seq ?_ | with_reducible refine AW_block ?_ | ((first | with_reducible refine AW_region hTt ?_ | ((refine ⟨_, (htr).call rfl rfl, ?_⟩); (rintro _ _ ⟨rfl, rfl⟩)) | fail); conv => whnf) | (refine fun hln => ?_; (try rw [List.length_map] at hln); unfold maxLen at hln; conv => whnf) | fail
    refine AW_loop (fun i : Unit => [(23, iv .i64 0), (22, iv .i64 0), (6, .x (.d (.v (.slice none 0 0)))), (7, iv .i64 (askedR n fs ts))]) (fun _ => []) (fun _ => True) (fun _ => 0) () trivial impA ?_
    intro _ _
    repeat' first | with_reducible refine AW_seq ?_ | ((first | with_reducible refine AW_exit ?_ | with_reducible refine AW_ret ?_ | with_reducible refine AW_region hTt ?_ | fail); conv => whnf) | (refine AW_cond rfl (fun hb => absurd hb (by decide)) (fun _ => ?_)) | fail
    exact ⟨_, rfl, _, rfl, LeAV1.nil 1, LeAV1.refl _, trivial⟩
end Go.Proofs.YtfghooojingdhaaDoor
namespace Go.Proofs.YtfghooojingdhaaDoor
open Go Go.QL
set_option maxHeartbeats 3200000
attribute [local irreducible] ACall FnC YC
theorem coverR_nil (m : Nat) : coverR [] m = coverR [] 0 := by
  have h : holdsR [] (numsI ([] : List (List Bool)).length) m = holdsR [] (numsI ([] : List (List Bool)).length) 0 := by
    funext l
    simp [holdsR, hasR, numsI]
  unfold coverR
  rw [h]
theorem cover_any {R : List (List Bool)} {m : Nat} (hm : m ≤ 4096) (hw : Wide R m) (hn : R.length ≤ 100) : FnC Tryd.prog 76 [.x (.d (rowsB R))] (.x (.d (coverR R m))) := by
  by_cases hR : R = []
  · subst hR
    rw [coverR_nil]
    exact cover_fn (by omega) (fun r hr => by cases hr) (fun _ => rfl) hn
  · exact cover_fn hm hw (fun h => absurd h hR) hn
def fewP (n : NetT) (fs : List FaultT) (ts : List (List Int)) : PV × Int :=
  if askedR n fs ts = 0 then (coverR (ts.map fun t => rowR n fs t) fs.length, 0) else (.v (.slice none 0 0), askedR n fs ts)
theorem fewest_fn (n : NetT) (hi : i64 n.inn) (fs : List FaultT) (ts : List (List Int)) (hr : askedR n fs ts = 0 → RunsAt (fs.length + 1)) : FnC Tryd.prog 37 [netAV n, faultsAV fs, rowsAV ts] (.t [.x (.d (fewP n fs ts).1), iv .i64 (fewP n fs ts).2]) := by
  have htb := ptable_fn n hi fs ts hr
  by_cases hc : askedR n fs ts = 0
  · have h := AskOK.of hc
    have hfl := h.fl
    have htl := h.tl
    rw [show fewP n fs ts = (coverR (ts.map fun t => rowR n fs t) fs.length, 0) from if_pos hc]
    rw [show tableR n fs ts = (ts.map fun t => rowR n fs t, 0) from if_pos hc] at htb
    dsimp only at htb ⊢
    have hcv := cover_any (R := ts.map fun t => rowR n fs t) (m := fs.length) (by omega) (by
      intro r hr
      rw [List.mem_map] at hr
      obtain ⟨t, _, rfl⟩ := hr
      unfold rowR; exact List.length_map _) (by rw [List.length_map]; omega)
    generalize coverR (ts.map fun t => rowR n fs t) fs.length = C at hcv
    refine FnC_of_AW hTt Tryd.func37 rfl (by kernel_rfl) (res := [.tmp 6, .tmp 7]) rfl Tryd.ntmps37 (by simp) fun w0 K0 => ?_
    dsimp only [entry]
    repeat' first | with_reducible refine AW_seq ?_ | ((first | with_reducible refine AW_skip ?_ | with_reducible refine AW_ret ?_ | with_reducible refine AW_region hTt ?_ | ((refine ⟨_, (htb).call rfl rfl, ?_⟩); (rintro _ _ ⟨rfl, rfl⟩)) | ((refine ⟨_, (hcv).call rfl rfl, ?_⟩); (rintro _ _ ⟨rfl, rfl⟩)) | fail); conv => whnf) | (refine AW_cond rfl (fun hb => absurd hb (by decide)) (fun _ => ?_)) | fail
    rfl
  · rw [show fewP n fs ts = (.v (.slice none 0 0), askedR n fs ts) from if_neg hc]
    rw [show tableR n fs ts = ([], askedR n fs ts) from if_neg hc] at htb
    dsimp only at htb ⊢
    refine FnC_of_AW hTt Tryd.func37 rfl (by kernel_rfl) (res := [.tmp 6, .tmp 7]) rfl Tryd.ntmps37 (by simp) fun w0 K0 => ?_
    dsimp only [entry]
    repeat' first | with_reducible refine AW_seq ?_ | ((first | with_reducible refine AW_skip ?_ | with_reducible refine AW_ret ?_ | with_reducible refine AW_region hTt ?_ | fail); conv => whnf) | (exact absurd hb hc) | ((refine ⟨_, (htb).call rfl rfl, ?_⟩); (rintro _ _ ⟨rfl, rfl⟩); conv => whnf) | (refine AW_cond rfl (fun hb => ?_) (fun hb => ?_) <;> first | (replace hb := of_decide_eq_true hb; try simp only [List.length_map] at hb) | (replace hb := of_decide_eq_false hb; try simp only [List.length_map] at hb) | (simp only [List.length_map, bne_iff_ne, ne_eq, beq_iff_eq, bne_eq_false_iff_eq, beq_eq_false_iff_ne, decide_eq_true_eq, decide_eq_false_iff_not, Bool.not_eq_true', Bool.not_eq_false', Int.natCast_inj] at hb)) | fail
    rfl
end Go.Proofs.YtfghooojingdhaaDoor
namespace Go.Proofs.YtfghooojingdhaaDoor
open Go Go.QL
set_option maxHeartbeats 3200000
attribute [local irreducible] ACall FnC YC
def pairTo (L : List (List Int)) (k : Nat) : List Bool := (List.range k).flatMap fun i => (L.take i).map fun b => !sameInts (L.getD i []) b
def pairRow (L : List (List Int)) : List Bool := pairTo L L.length
def wd (k : Nat) : Nat := ((List.range k).map fun i => min i k).sum
theorem wd_le : ∀ k, k ≤ 13 → wd k ≤ 4096 := by decide
theorem pairRow_len (L : List (List Int)) : (pairRow L).length = wd L.length := by
  unfold pairRow pairTo wd
  rw [List.length_flatMap]
  congr 1
  apply List.map_congr_left
  intro i _
  rw [List.length_map, List.length_take]
theorem pairTo_succ (L : List (List Int)) (k : Nat) : pairTo L (k + 1) = pairTo L k ++ (L.take k).map fun b => !sameInts (L.getD k []) b := by
  unfold pairTo; rw [List.range_succ, List.flatMap_append]; simp
theorem pairTo_le (L : List (List Int)) : ∀ k, (pairTo L k).length ≤ k * k
  | 0 => Nat.le_refl _
  | k + 1 => by
    rw [pairTo_succ, List.length_append, List.length_map, List.length_take]
    have := pairTo_le L k
    rw [Nat.add_mul, Nat.mul_add]
    omega
def tellRow (n : NetT) (fs : List FaultT) (t : List Int) : List PV := [boolsPV (pairRow (lanesR n fs t))]
def tellP (n : NetT) (fs : List FaultT) (ts : List (List Int)) : PV × Int :=
  if askedR n fs ts = 0 then (coverR (ts.map fun t => pairRow (lanesR n fs t)) (wd (fs.length + 1)), 0) else (.v (.slice none 0 0), askedR n fs ts)
theorem ptell_fn (n : NetT) (hi : i64 n.inn) (fs : List FaultT) (ts : List (List Int)) (hr : askedR n fs ts = 0 → RunsAt (fs.length + 1)) : FnC Tryd.prog 39 [netAV n, faultsAV fs, rowsAV ts] (.t [.x (.d (tellP n fs ts).1), iv .i64 (tellP n fs ts).2]) := by
  have htr := tried_fn n hi fs ts hr
  by_cases hc : askedR n fs ts = 0
  · have h := AskOK.of hc
    rw [show tellP n fs ts = (coverR (ts.map fun t => pairRow (lanesR n fs t)) (wd (fs.length + 1)), 0) from if_pos hc]
    rw [show triedR n fs ts = (ts.map fun t => lanesR n fs t, 0) from if_pos hc] at htr
    have hfl := h.fl
    have htl := h.tl
    have hwl := wd_le (fs.length + 1) (by omega)
    have hll : ∀ t, (lanesR n fs t).length = fs.length + 1 := fun t => by rw [lanes_cons]; simp
    have hcv := cover_any (R := ts.map fun t => pairRow (lanesR n fs t)) (m := wd (fs.length + 1)) hwl (by
      intro r hr
      rw [List.mem_map] at hr
      obtain ⟨t, _, rfl⟩ := hr
      rw [pairRow_len, hll]) (by rw [List.length_map]; omega)
    dsimp only at htr ⊢
    generalize coverR (ts.map fun t => pairRow (lanesR n fs t)) (wd (fs.length + 1)) = C at hcv
    clear hwl
    refine FnC_of_AW hTt Tryd.func39 rfl (by kernel_rfl) (res := [.tmp 6, .tmp 7]) rfl Tryd.ntmps39 (by simp) fun w0 K0 => ?_
    dsimp only [entry]
    repeat' first | with_reducible refine AW_seq ?_ | with_reducible refine AW_block ?_ | ((first | with_reducible refine AW_skip ?_ | with_reducible refine AW_region hTt ?_ | ((refine ⟨_, (htr).call rfl rfl, ?_⟩); (rintro _ _ ⟨rfl, rfl⟩)) | fail); conv => whnf) | (refine AW_cond rfl (fun hb => absurd hb (by decide)) (fun _ => ?_)) | (refine fun hln => ?_; (try rw [List.length_map] at hln); unfold maxLen at hln; conv => whnf) | fail
    refine AW_imp (Imp.nil 10 65 1 (fr' := [(30, iv .i64 0), (29, iv .i64 ts.length), (28, cubeAV (ts.map fun t => lanesR n fs t)), (10, .x (.o 10 0 0))]) (σ' := []) rfl ?_ ?_ rfl rfl) ?_
    · exact ⟨⟨_, rfl, .inl rfl⟩, ⟨_, congrArg (fun k : Nat => some (iv .i64 k)) (by unfold cubePV; rw [List.length_map, List.length_map]), .inl rfl⟩, ⟨_, rfl, .inl rfl⟩, ⟨_, rfl, .inr ⟨rfl, rfl⟩⟩, trivial⟩
    · exact trivial
    refine AW_loop (fun i : Nat => [(30, iv .i64 i), (29, iv .i64 ts.length), (28, cubeAV (ts.map fun t => lanesR n fs t)), (10, .x (.o 10 i i))]) (fun i => [(10, .chain 65 1 i ((ts.take i).map (tellRow n fs)))])
      (fun i => i ≤ ts.length) (fun i => ts.length - i) 0 (Nat.zero_le _) impA ?_
    intro i hi'
    have hlen : (ts.take i).length = i := by rw [List.length_take]; omega
    have hlm : ((ts.take i).map (tellRow n fs)).length = i := by rw [List.length_map]; exact hlen
    rcases Nat.lt_or_ge i ts.length with hil | hil
    · obtain ⟨t, ht⟩ : ∃ t, ts[i]? = some t := ⟨_, List.getElem?_eq_getElem hil⟩
      have htL : (ts.map fun t => lanesR n fs t)[i]? = some (lanesR n fs t) := by rw [List.getElem?_map, ht]; rfl
      have hL := hll t
      have hfz0 : tellRow n fs t = [boolsPV (pairRow (lanesR n fs t))] := rfl
      generalize lanesR n fs t = L at hL htL hfz0
      clear htr hcv hll h hc
      repeat' first | with_reducible refine AW_seq ?_ | with_reducible refine AW_block ?_ | ((first | with_reducible refine AW_skip ?_ | with_reducible refine AW_exit ?_ | with_reducible refine AW_region hTt ?_ | fail); conv => whnf) | (exact absurd hb (by omega)) | ((with_reducible refine Exists.intro _ (And.intro (gd_any (And.intro (by omega) (rows_some htL))) ?_)); conv => whnf) | (refine AW_cond rfl (fun hb => ?_) (fun hb => ?_) <;> first | (replace hb := of_decide_eq_true hb; try simp only [List.length_map] at hb) | (replace hb := of_decide_eq_false hb; try simp only [List.length_map] at hb)) | ((refine andA ?_); conv => whnf) | (refine fun hln => ?_; (try rw [List.length_map] at hln); unfold maxLen at hln; conv => whnf) | fail
      refine AW_imp (Imp.nil 13 4 1 (fr' := [(36, iv .i64 0), (35, iv .i64 L.length), (34, rowsAV L), (13, .x (.o 13 0 0)), (12, rowsAV L), (30, iv .i64 i), (29, iv .i64 ts.length), (28, cubeAV (ts.map fun t => lanesR n fs t)), (10, .x (.o 10 i i))])
        (σ' := [(10, .chain 65 1 i ((ts.take i).map (tellRow n fs)))]) rfl ?_ ?_ rfl rfl) ?_
      · exact ⟨⟨_, rfl, .inl rfl⟩, ⟨_, congrArg (fun k : Nat => some (iv .i64 k)) (List.length_map _), .inl rfl⟩, ⟨_, rfl, .inl rfl⟩, ⟨_, rfl, .inr ⟨rfl, rfl⟩⟩, ⟨_, rfl, .inl rfl⟩, ⟨_, rfl, .inl rfl⟩, ⟨_, rfl, .inl rfl⟩, ⟨_, rfl, .inl rfl⟩, ⟨_, rfl, .inl rfl⟩, trivial⟩
      · exact ⟨⟨_, rfl, .inl rfl⟩, trivial⟩
      refine AW_loop (fun k : Nat => [(36, iv .i64 k), (35, iv .i64 L.length), (34, rowsAV L), (13, .x (.o 13 (pairTo L k).length (pairTo L k).length)), (12, rowsAV L), (30, iv .i64 i), (29, iv .i64 ts.length), (28, cubeAV (ts.map fun t => lanesR n fs t)), (10, .x (.o 10 i i))])
        (fun k => [(13, .chain 4 1 (pairTo L k).length ((pairTo L k).map bPV)), (10, .chain 65 1 i ((ts.take i).map (tellRow n fs)))])
        (fun k => k ≤ L.length) (fun k => L.length - k) 0 (Nat.zero_le _) impA ?_
      intro k hk
      rcases Nat.lt_or_ge k L.length with hkl | hkl
      · obtain ⟨a, ha⟩ : ∃ a, L[k]? = some a := ⟨_, List.getElem?_eq_getElem hkl⟩
        have hg : L.getD k [] = a := by rw [List.getD_eq_getElem?_getD, ha]; rfl
        have hps := pairTo_succ L k
        rw [hg] at hps
        have hpl := pairTo_le L k
        have hkk : k * k ≤ 13 * 13 := Nat.mul_le_mul (by omega) (by omega)
        have hsl : ((L.map fun r => [intsPV r]).take ((k : Int)).toNat).drop (0 : Int).toNat = (L.take k).map fun r => [intsPV r] := by
          rw [Int.toNat_natCast, List.map_take]; rfl
        have htk : (L.take k).length = k := by rw [List.length_take]; omega
        generalize pairTo L k = p at hps hpl
        clear hlen hg
        repeat' first | with_reducible refine AW_seq ?_ | with_reducible refine AW_block ?_ | ((first | with_reducible refine AW_skip ?_ | with_reducible refine AW_exit ?_ | with_reducible refine AW_region hTt ?_ | fail); conv => whnf) | (exact absurd hb (by omega)) | ((first | with_reducible refine Exists.intro _ (And.intro (gd_any (And.intro (by omega) (row_some ha))) ?_) | refine And.intro (gd_any ⟨by omega, by rw [List.length_map]; omega⟩) ?_ | fail); conv => whnf) | (refine AW_cond rfl (fun hb => ?_) (fun hb => ?_) <;> first | (replace hb := of_decide_eq_true hb; try simp only [List.length_map] at hb) | (replace hb := of_decide_eq_false hb; try simp only [List.length_map] at hb)) | ((refine andA ?_); conv => whnf) | (refine fun hln => ?_; (try rw [List.length_map] at hln); unfold maxLen at hln; conv => whnf) | fail
        have hlk : (((L.map fun r => [intsPV r]).take ((k : Int)).toNat).drop (0 : Int).toNat).length = k := by rw [hsl, List.length_map, htk]
        generalize L.take k = S at hsl htk hps
        have h0 : p.map bPV = (p ++ (S.take 0).map fun b => !sameInts a b).map bPV := by simp
        refine AW_loop (fun j : Nat => [(45, iv .i64 j), (44, iv .i64 k), (43, rowsAV S), (15, sl a), (13, .x (.o 13 (p.length + j) (p.length + j))), (36, iv .i64 k), (35, iv .i64 L.length), (34, rowsAV L), (12, rowsAV L), (30, iv .i64 i), (29, iv .i64 ts.length), (28, cubeAV (ts.map fun t => lanesR n fs t)), (10, .x (.o 10 i i))])
          (fun j => [(13, .chain 4 1 (p.length + j) ((p ++ (S.take j).map fun b => !sameInts a b).map bPV)), (10, .chain 65 1 i ((ts.take i).map (tellRow n fs)))])
          (fun j => j ≤ k) (fun j => k - j) 0 (Nat.zero_le _) (Imp.forget (by repeat' (first | exact trivial | refine And.intro ?_ ?_ | exact congrArg (fun l => some (AV.x (.d (.s 1 l)))) hsl | exact congrArg (fun k : Nat => some (iv .i64 k)) hlk | exact chE h0 | rfl | exact ivE (by first | omega | (simp only [List.length_map, List.length_append, List.length_singleton] <;> omega)) | exact oE (by first | omega | (simp only [List.length_map, List.length_append, List.length_singleton] <;> omega)))) (by repeat' (first | exact trivial | refine And.intro ?_ ?_ | exact congrArg (fun l => some (AV.x (.d (.s 1 l)))) hsl | exact congrArg (fun k : Nat => some (iv .i64 k)) hlk | exact chE h0 | rfl | exact ivE (by first | omega | (simp only [List.length_map, List.length_append, List.length_singleton] <;> omega)) | exact oE (by first | omega | (simp only [List.length_map, List.length_append, List.length_singleton] <;> omega)))) (by kernel_rfl) (by kernel_rfl) (by kernel_rfl)) ?_
        clear h0 hsl hlk
        intro j hj
        rcases Nat.lt_or_ge j k with hjk | hjk
        · obtain ⟨b, hb'⟩ : ∃ b, S[j]? = some b := ⟨_, List.getElem?_eq_getElem (by omega)⟩
          have heq := equal_fn a b
          have hql : (p ++ (S.take j).map fun b => !sameInts a b).length = p.length + j := by rw [List.length_append, List.length_map, List.length_take]; omega
          have hst : ((p ++ (S.take j).map fun b => !sameInts a b).map bPV).take (p.length + j) ++ [[PV.v (.bool (!sameInts a b))]] = (p ++ (S.take (j + 1)).map fun b => !sameInts a b).map bPV := by
            rw [List.take_of_length_le (by rw [List.length_map, hql]; exact Nat.le_refl _), List.take_add_one, hb', List.map_append, List.map_append, List.map_append, List.map_append, List.append_assoc]; rfl
          generalize p ++ (S.take j).map (fun b => !sameInts a b) = q at hql hst
          clear hps
          repeat' first | with_reducible refine AW_seq ?_ | with_reducible refine AW_block ?_ | ((first | with_reducible refine AW_skip ?_ | with_reducible refine AW_exit ?_ | with_reducible refine AW_region hTt ?_ | fail); conv => whnf) | (exact absurd hb (by omega)) | ((first | with_reducible refine Exists.intro _ (And.intro (gd_any (And.intro (by omega) (row_some hb'))) ?_) | ((refine ⟨_, (heq).call rfl rfl, ?_⟩); (rintro _ _ ⟨rfl, rfl⟩)) | fail); conv => whnf) | ((refine And.intro (by refine ⟨?_, ?_, ?_⟩ <;> simp [chunk, maxLen, hql] <;> omega) ?_); conv => whnf) | (refine AW_cond rfl (fun hb => ?_) (fun hb => ?_) <;> first | (replace hb := of_decide_eq_true hb; try simp only [List.length_map] at hb) | (replace hb := of_decide_eq_false hb; try simp only [List.length_map] at hb)) | ((first | refine ⟨_, wrap_of (by first | omega | (simp only [List.length_map]; omega)), ?_⟩ | refine andA ?_ | fail); conv => whnf) | fail
          exact ⟨j + 1, hjk, by omega, impA⟩
        · have hje : j = k := by omega
          subst hje
          have hSj : S.take j = S := List.take_of_length_le (by omega)
          rw [hSj]
          repeat' first | with_reducible refine AW_seq ?_ | with_reducible refine AW_block ?_ | ((first | with_reducible refine AW_skip ?_ | with_reducible refine AW_exit ?_ | with_reducible refine AW_region hTt ?_ | fail); conv => whnf) | (exact absurd hb (by omega)) | (refine AW_cond rfl (fun hb => ?_) (fun hb => ?_) <;> first | (replace hb := of_decide_eq_true hb; try simp only [List.length_map] at hb) | (replace hb := of_decide_eq_false hb; try simp only [List.length_map] at hb)) | ((refine ⟨_, wrap_of (by first | omega | (simp only [List.length_map]; omega)), ?_⟩); conv => whnf) | fail
          have hpe : (pairTo L (j + 1)).length = p.length + j := by rw [hps, List.length_append, List.length_map, htk]
          refine ⟨j + 1, hkl, by omega, ?_⟩
          try dsimp only
          rw [hpe, hps]
          exact impA
      · have hke : k = L.length := by omega
        subst hke
        have hfz : AV.x (.d (boolsPV (pairRow L))) = .x (.d (.s 1 (((pairTo L L.length).map bPV).take (pairTo L L.length).length))) := by
          rw [List.take_of_length_le (by rw [List.length_map]; exact Nat.le_refl _)]; rfl
        have hfl' : (pairTo L L.length).length ≤ ((pairTo L L.length).map bPV).length := by rw [List.length_map]; exact Nat.le_refl _
        have hst : ((ts.take i).map (tellRow n fs)).take i ++ [[boolsPV (pairRow L)]] = (ts.take (i + 1)).map (tellRow n fs) := by
          rw [List.take_of_length_le (by omega), List.take_add_one, ht, List.map_append, ← hfz0]; rfl
        generalize pairRow L = u at hfz hst
        generalize pairTo L L.length = q at hfz hfl'
        repeat' first | ((refine AW_imp (Imp.freeze 13 (fr' := [(13, .x (.d (boolsPV u))), (30, iv .i64 i), (29, iv .i64 ts.length), (28, cubeAV (ts.map fun t => lanesR n fs t)), (10, .x (.o 10 i i))]) (σ' := [(10, .chain 65 1 i ((ts.take i).map (tellRow n fs)))]) rfl ⟨⟨_, rfl, .inr ⟨_, rfl, hfl', hfz⟩⟩, ⟨_, rfl, .inl rfl⟩, ⟨_, rfl, .inl rfl⟩, ⟨_, rfl, .inl rfl⟩, ⟨_, rfl, .inl rfl⟩, trivial⟩ ⟨rfl, trivial⟩ rfl rfl) (AW_region (id := 18) hTt ?_)); conv => whnf) | with_reducible refine AW_seq ?_ | with_reducible refine AW_block ?_ | ((first | with_reducible refine AW_skip ?_ | with_reducible refine AW_exit ?_ | with_reducible refine AW_region hTt ?_ | fail); conv => whnf) | (exact absurd hb (by omega)) | ((refine And.intro ⟨Nat.le_of_eq hlm.symm, by show i + 1 ≤ maxLen; unfold maxLen; omega, by show (i + 1) * 24 ≤ 140737488355328; omega⟩ ?_); conv => whnf) | (refine AW_cond rfl (fun hb => ?_) (fun hb => ?_) <;> first | (replace hb := of_decide_eq_true hb; try simp only [List.length_map] at hb) | (replace hb := of_decide_eq_false hb; try simp only [List.length_map] at hb)) | ((first | refine ⟨_, wrap_of (by first | omega | (simp only [List.length_map]; omega)), ?_⟩ | refine andA ?_ | fail); conv => whnf) | fail
        exact ⟨i + 1, hil, by omega, impA⟩
    · have hie : i = ts.length := by omega
      subst hie
      have hfz : AV.x (.d (rowsB (ts.map fun t => pairRow (lanesR n fs t)))) = .x (.d (.s 1 (((ts.take ts.length).map (tellRow n fs)).take ts.length))) := by
        rw [List.take_of_length_le (by omega), List.take_of_length_le (Nat.le_refl _)]; unfold rowsB; rw [List.map_map]; rfl
      repeat' first | ((refine AW_imp (Imp.freeze 10 (fr' := [(10, .x (.d (rowsB (ts.map fun t => pairRow (lanesR n fs t)))))]) (σ' := []) rfl ⟨⟨_, rfl, .inr ⟨_, rfl, Nat.le_of_eq hlm.symm, hfz⟩⟩, trivial⟩ trivial rfl rfl) (AW_region (id := 20) hTt ?_)); conv => whnf) | with_reducible refine AW_seq ?_ | with_reducible refine AW_block ?_ | ((first | with_reducible refine AW_skip ?_ | with_reducible refine AW_exit ?_ | with_reducible refine AW_ret ?_ | with_reducible refine AW_region hTt ?_ | fail); conv => whnf) | (exact absurd hb (by omega)) | ((refine ⟨_, (hcv).call rfl rfl, ?_⟩); (rintro _ _ ⟨rfl, rfl⟩); conv => whnf) | (refine AW_cond rfl (fun hb => ?_) (fun hb => ?_) <;> first | (replace hb := of_decide_eq_true hb; try simp only [List.length_map] at hb) | (replace hb := of_decide_eq_false hb; try simp only [List.length_map] at hb)) | fail
      rfl
  · rw [show tellP n fs ts = (.v (.slice none 0 0), askedR n fs ts) from if_neg hc]
    rw [show triedR n fs ts = ([], askedR n fs ts) from if_neg hc] at htr
    dsimp only at htr ⊢
    refine FnC_of_AW hTt Tryd.func39 rfl (by kernel_rfl) (res := [.tmp 6, .tmp 7]) rfl Tryd.ntmps39 (by simp) fun w0 K0 => ?_
    dsimp only [entry]
    repeat' first | with_reducible refine AW_seq ?_ | ((first | with_reducible refine AW_skip ?_ | with_reducible refine AW_ret ?_ | with_reducible refine AW_region hTt ?_ | fail); conv => whnf) | (exact absurd hb hc) | ((refine ⟨_, (htr).call rfl rfl, ?_⟩); (rintro _ _ ⟨rfl, rfl⟩); conv => whnf) | (refine AW_cond rfl (fun hb => ?_) (fun hb => ?_) <;> first | (replace hb := of_decide_eq_true hb; try simp only [List.length_map] at hb) | (replace hb := of_decide_eq_false hb; try simp only [List.length_map] at hb) | (simp only [List.length_map, bne_iff_ne, ne_eq, beq_iff_eq, bne_eq_false_iff_eq, beq_eq_false_iff_ne, decide_eq_true_eq, decide_eq_false_iff_not, Bool.not_eq_true', Bool.not_eq_false', Int.natCast_inj] at hb)) | fail
    rfl
end Go.Proofs.YtfghooojingdhaaDoor
namespace Go.Proofs.YtfghooojingdhaaDoor
open Go Go.QL
set_option maxHeartbeats 3200000
attribute [local irreducible] ACall FnC
theorem chosen_in (x : Int) (m : Nat) : ∀ y ∈ chosenS x m, 0 ≤ y ∧ y < m := by
  intro y hy
  unfold chosenS at hy
  rw [List.mem_map] at hy
  obtain ⟨i, hi, rfl⟩ := hy
  have := List.mem_range.1 (List.mem_filter.1 hi).1
  omega
def bestR (P : List Int → Bool) (all : List Int) (T : Nat) : Nat → List Int
  | 0 => all
  | x + 1 => if (beforeS (chosenS x T) (bestR P all T x) && P (chosenS x T)) = true then chosenS x T else bestR P all T x
theorem best_in {P : List Int → Bool} {all : List Int} {T : Nat} (h : ∀ y ∈ all, 0 ≤ y ∧ y < (T : Int)) (x : Nat) : ∀ y ∈ bestR P all T x, 0 ≤ y ∧ y < (T : Int) := by
  induction x with
  | zero => exact h
  | succ x ih =>
    unfold bestR
    split
    · exact chosen_in _ _
    · exact ih
def allR (ts : List (List Int)) : List Int := chosenS (2 ^ ts.length - 1) ts.length
def fewR (n : NetT) (fs : List FaultT) (ts : List (List Int)) : List Int × Int :=
  if askedR n fs ts = 0 then (bestR (fun l => findsR n fs ts l (allR ts)) (allR ts) ts.length (2 ^ ts.length), 0) else ([], askedR n fs ts)
def tellR (n : NetT) (fs : List FaultT) (ts : List (List Int)) : List Int × Int :=
  if askedR n fs ts = 0 then (bestR (fun l => tellsR n fs ts l (allR ts)) (allR ts) ts.length (2 ^ ts.length), 0) else ([], askedR n fs ts)
end Go.Proofs.YtfghooojingdhaaDoor
namespace Go.Proofs.YtfghooojingdhaaDoor
open Go Go.QL
def Asc (many : Nat) : Nat → List Int → Prop
  | _, [] => True
  | lo, x :: r => (lo : Int) ≤ x ∧ x < many ∧ Asc many (x + 1).toNat r
theorem asc_ge {many : Nat} : ∀ {s : List Int} {lo : Nat}, Asc many lo s → ∀ y ∈ s, (lo : Int) ≤ y ∧ y < many
  | [], _, _, y, hy => by cases hy
  | x :: r, lo, h, y, hy => by
    obtain ⟨h1, h2, h3⟩ := h
    rcases List.mem_cons.1 hy with rfl | hy
    · exact ⟨h1, h2⟩
    · have := asc_ge h3 y hy
      omega
theorem asc_len {many : Nat} : ∀ {s : List Int} {lo : Nat}, Asc many lo s → s.length ≤ many - lo
  | [], _, _ => Nat.zero_le _
  | x :: r, lo, h => by
    obtain ⟨h1, h2, h3⟩ := h
    have := asc_len h3
    simp only [List.length_cons]
    omega
theorem ext_mem {many : Nat} : ∀ (k : Nat) (l c : List Int), c ∈ extL many k l ↔ ∃ s, c = l ++ s ∧ s.length = k ∧ Asc many (nxL l) s
  | 0, l, c => by
    simp only [extL, List.mem_singleton]
    constructor
    · rintro rfl; exact ⟨[], by simp, rfl, trivial⟩
    · rintro ⟨s, rfl, h, _⟩; rw [List.length_eq_zero_iff.1 h, List.append_nil]
  | k + 1, l, c => by
    simp only [extL, List.mem_flatMap]
    constructor
    · rintro ⟨i, hi, hc⟩
      rw [List.mem_range'_1] at hi
      obtain ⟨s, rfl, hs, ha⟩ := (ext_mem k _ _).1 hc
      rw [nxL_snoc] at ha
      exact ⟨(i : Int) :: s, by simp, by simp [hs], by omega, by omega, ha⟩
    · rintro ⟨s, rfl, hs, ha⟩
      cases s with
      | nil => simp at hs
      | cons x r =>
        obtain ⟨h1, h2, h3⟩ := ha
        obtain ⟨i, rfl⟩ : ∃ i : Nat, x = i := ⟨x.toNat, by omega⟩
        refine ⟨i, List.mem_range'_1.2 ⟨by omega, by omega⟩, (ext_mem k _ _).2 ⟨r, by simp, by simpa using hs, ?_⟩⟩
        rw [nxL_snoc]; exact h3
theorem lex_app (s t : List Int) : ∀ l : List Int, lexS (l ++ s) (l ++ t) = lexS s t
  | [] => rfl
  | x :: r => by simp only [List.cons_append, lexS, if_true]; exact lex_app s t r
theorem lex_irr : ∀ l : List Int, lexS l l = false
  | [] => rfl
  | x :: r => by simp only [lexS, if_true]; exact lex_irr r
theorem lex_trans : ∀ {a b c : List Int}, lexS a b = true → lexS b c = true → lexS a c = true
  | [], _, _, h, _ => by simp [lexS] at h
  | _ :: _, [], _, h, _ => by simp [lexS] at h
  | _ :: _, _ :: _, [], _, h => by simp [lexS] at h
  | x :: r, y :: s, z :: t, h1, h2 => by
    simp only [lexS] at h1 h2 ⊢
    by_cases e : x = y
    · subst e
      rw [if_pos rfl] at h1
      by_cases e2 : x = z
      · subst e2
        rw [if_pos rfl] at h2 ⊢
        exact lex_trans h1 h2
      · rw [if_neg e2] at h2 ⊢; exact h2
    · rw [if_neg e] at h1
      have h1 := of_decide_eq_true h1
      by_cases e2 : y = z
      · subst e2
        rw [if_neg e]; exact decide_eq_true h1
      · rw [if_neg e2] at h2
        have h2 := of_decide_eq_true h2
        rw [if_neg (by omega)]; exact decide_eq_true (by omega)
theorem lex_tri : ∀ {a b : List Int}, a.length = b.length → lexS a b = false → lexS b a = false → a = b
  | [], [], _, _, _ => rfl
  | [], _ :: _, h, _, _ => by simp at h
  | _ :: _, [], h, _, _ => by simp at h
  | x :: r, y :: s, h, h1, h2 => by
    simp only [lexS] at h1 h2
    by_cases e : x = y
    · subst e
      rw [if_pos rfl] at h1 h2
      rw [lex_tri (by simpa using h) h1 h2]
    · rw [if_neg e] at h1
      rw [if_neg (fun h => e h.symm)] at h2
      have h1 := of_decide_eq_false h1
      have h2 := of_decide_eq_false h2
      omega
theorem before_irr (l : List Int) : beforeS l l = false := by unfold beforeS; rw [if_pos rfl]; exact lex_irr l
theorem before_trans {a b c : List Int} (h1 : beforeS a b = true) (h2 : beforeS b c = true) : beforeS a c = true := by
  unfold beforeS at *
  by_cases e : a.length = b.length
  · rw [if_pos e] at h1
    by_cases e2 : b.length = c.length
    · rw [if_pos e2] at h2; rw [if_pos (by omega)]; exact lex_trans h1 h2
    · rw [if_neg e2] at h2; rw [if_neg (by omega)]
      have h2 := of_decide_eq_true h2
      exact decide_eq_true (by omega)
  · rw [if_neg e] at h1
    have h1 := of_decide_eq_true h1
    by_cases e2 : b.length = c.length
    · rw [if_neg (by omega)]; exact decide_eq_true (by omega)
    · rw [if_neg e2] at h2
      have h2 := of_decide_eq_true h2
      rw [if_neg (by omega)]
      exact decide_eq_true (by omega)
theorem before_tri {a b : List Int} (h1 : beforeS a b = false) (h2 : beforeS b a = false) : a = b := by
  unfold beforeS at *
  by_cases e : a.length = b.length
  · rw [if_pos e] at h1; rw [if_pos e.symm] at h2; exact lex_tri e h1 h2
  · rw [if_neg e] at h1; rw [if_neg (fun h => e h.symm)] at h2
    have h1 := of_decide_eq_false h1
    have h2 := of_decide_eq_false h2
    omega
theorem before_len {a b : List Int} (h : beforeS a b = false) : b.length ≤ a.length := by
  unfold beforeS at h
  by_cases e : a.length = b.length
  · omega
  · rw [if_neg e] at h
    have h := of_decide_eq_false h
    omega
theorem ext_sorted (many : Nat) : ∀ (k : Nat) (l : List Int), (extL many k l).Pairwise fun a b => lexS a b = true
  | 0, l => List.pairwise_singleton _ _
  | k + 1, l => by
    simp only [extL]
    refine List.pairwise_flatMap.2 ⟨fun i _ => ext_sorted many k _, ?_⟩
    refine (List.pairwise_lt_range' (s := nxL l) (n := many - nxL l) (step := 1) (by omega)).imp ?_
    intro i j hij x hx y hy
    obtain ⟨s, rfl, _, _⟩ := (ext_mem k _ _).1 hx
    obtain ⟨t, rfl, _, _⟩ := (ext_mem k _ _).1 hy
    rw [List.append_assoc, List.append_assoc, lex_app]
    show (if (i : Int) = j then lexS s t else decide ((i : Int) < j)) = true
    rw [if_neg (by omega)]
    exact decide_eq_true (by omega)
theorem all_mem {many : Nat} {c : List Int} : c ∈ allL many ↔ Asc many 0 c := by
  unfold allL
  rw [List.mem_flatMap]
  constructor
  · rintro ⟨k, _, hc⟩
    obtain ⟨s, rfl, _, ha⟩ := (ext_mem k _ _).1 hc
    exact ha
  · intro h
    refine ⟨c.length, List.mem_range'_1.2 ⟨Nat.zero_le _, ?_⟩, (ext_mem _ _ _).2 ⟨c, rfl, rfl, h⟩⟩
    have := asc_len h
    omega
theorem all_sorted (many : Nat) : (allL many).Pairwise fun a b => beforeS a b = true := by
  unfold allL
  refine List.pairwise_flatMap.2 ⟨fun k _ => ?_, ?_⟩
  · refine List.Pairwise.imp_of_mem ?_ (ext_sorted many k [])
    intro a b ha hb h
    obtain ⟨s, rfl, hs, _⟩ := (ext_mem k _ _).1 ha
    obtain ⟨t, rfl, ht, _⟩ := (ext_mem k _ _).1 hb
    unfold beforeS
    rw [if_pos (by simp [hs, ht])]; exact h
  · refine (List.pairwise_lt_range' (s := 0) (n := many + 1) (step := 1) (by omega)).imp ?_
    intro i j hij x hx y hy
    obtain ⟨s, rfl, hs, _⟩ := (ext_mem i _ _).1 hx
    obtain ⟨t, rfl, ht, _⟩ := (ext_mem j _ _).1 hy
    unfold beforeS
    rw [if_neg (by simp [hs, ht]; omega)]
    exact decide_eq_true (by simp [hs, ht]; omega)
theorem goC_find {H : List Int → Bool} {Q : List Int → List Int → Prop} : ∀ {L : List (List Int)} (x : PV), L.Pairwise Q → (∃ l ∈ L, H l = true) →
    ∃ f ∈ L, H f = true ∧ (goC H L x).2 = intsPV f ∧ ∀ c ∈ L, H c = true → c = f ∨ Q f c
  | [], _, _, h => by obtain ⟨_, h, _⟩ := h; cases h
  | l :: r, x, hp, h => by
    simp only [goC]
    obtain ⟨hp1, hp2⟩ := List.pairwise_cons.1 hp
    by_cases hl : H l = true
    · rw [if_pos hl]
      refine ⟨l, List.mem_cons_self, hl, rfl, fun c hc _ => ?_⟩
      rcases List.mem_cons.1 hc with rfl | hc
      · exact .inl rfl
      · exact .inr (hp1 c hc)
    · rw [if_neg hl]
      have h' : ∃ l ∈ r, H l = true := by
        obtain ⟨m, hm, hH⟩ := h
        rcases List.mem_cons.1 hm with rfl | hm
        · exact absurd hH hl
        · exact ⟨m, hm, hH⟩
      obtain ⟨f, hf, hHf, hg, hmin⟩ := goC_find (intsPV l) hp2 h'
      refine ⟨f, List.mem_cons_of_mem _ hf, hHf, hg, fun c hc hHc => ?_⟩
      rcases List.mem_cons.1 hc with rfl | hc
      · exact absurd hHc hl
      · exact hmin c hc hHc
theorem best_spec {P : List Int → Bool} {all : List Int} {T : Nat} (hP : P all = true) : ∀ x, P (bestR P all T x) = true ∧ (bestR P all T x = all ∨ ∃ y, bestR P all T x = chosenS (y : Nat) T) ∧
    ∀ y : Nat, y < x → P (chosenS y T) = true → beforeS (chosenS y T) (bestR P all T x) = false
  | 0 => ⟨hP, .inl rfl, fun y hy => by omega⟩
  | x + 1 => by
    obtain ⟨h1, h2, h3⟩ := best_spec hP x
    simp only [bestR]
    by_cases hc : (beforeS (chosenS x T) (bestR P all T x) && P (chosenS x T)) = true
    · rw [if_pos hc]
      rw [Bool.and_eq_true] at hc
      refine ⟨hc.2, .inr ⟨x, rfl⟩, fun y hy hPy => ?_⟩
      by_cases e : y = x
      · subst e; exact before_irr _
      · cases hb : beforeS (chosenS y T) (chosenS x T) with
        | false => rfl
        | true => rw [← h3 y (by omega) hPy]; exact (before_trans hb hc.1).symm
    · rw [if_neg hc]
      refine ⟨h1, h2, fun y hy hPy => ?_⟩
      by_cases e : y = x
      · subst e
        cases hb : beforeS (chosenS y T) (bestR P all T y) with
        | false => rfl
        | true => rw [hb, hPy] at hc; exact absurd rfl hc
      · exact h3 y (by omega) hPy
theorem filter_asc {many : Nat} (p : Nat → Bool) : ∀ (k lo : Nat), lo + k ≤ many → Asc many lo (((List.range' lo k).filter p).map fun (i : Nat) => (i : Int))
  | 0, _, _ => trivial
  | k + 1, lo, h => by
    have ih := filter_asc (many := many) p k (lo + 1) (by omega)
    rw [List.range'_succ]
    by_cases hp : p lo = true
    · rw [List.filter_cons_of_pos hp]
      exact ⟨Int.le_refl _, by show (lo : Int) < many; omega, ih⟩
    · rw [List.filter_cons_of_neg hp]
      revert ih
      generalize (((List.range' (lo + 1) k).filter p).map fun (i : Nat) => (i : Int)) = s
      intro ih
      cases s with
      | nil => trivial
      | cons x r => exact ⟨by have := ih.1; omega, ih.2⟩
theorem chosen_asc (x : Int) (T : Nat) : Asc T 0 (chosenS x T) := by
  unfold chosenS
  rw [List.range_eq_range']
  exact filter_asc _ T 0 (by omega)
theorem asc_filter {many : Nat} : ∀ (k lo : Nat) (s : List Int), lo + k = many → Asc many lo s → ((List.range' lo k).filter fun (i : Nat) => decide ((i : Int) ∈ s)).map (fun (i : Nat) => (i : Int)) = s
  | 0, lo, s, h, ha => by
    have := asc_len ha
    rw [List.length_eq_zero_iff.1 (show s.length = 0 by omega)]; rfl
  | k + 1, lo, s, h, ha => by
    rw [List.range'_succ]
    cases s with
    | nil => simp
    | cons x r =>
      obtain ⟨h1, h2, h3⟩ := ha
      by_cases e : x = lo
      · subst e
        rw [List.filter_cons_of_pos (by simp)]
        have e1 : (((lo : Int) + 1).toNat) = lo + 1 := by omega
        rw [e1] at h3
        have ih := asc_filter k (lo + 1) r (by omega) h3
        rw [List.map_cons]
        congr 1
        rw [← ih]
        congr 1
        rw [ih]
        apply List.filter_congr
        intro i hi
        have := (List.mem_range'_1.1 hi).1
        apply decide_eq_decide.2
        rw [List.mem_cons]
        constructor
        · rintro (h | h)
          · omega
          · exact h
        · exact .inr
      · have hn : ¬ ((lo : Int) ∈ x :: r) := by
          intro hm
          rcases List.mem_cons.1 hm with rfl | hm
          · exact e rfl
          · have := (asc_ge h3 _ hm).1
            omega
        rw [List.filter_cons_of_neg (by simpa using hn)]
        exact asc_filter k (lo + 1) (x :: r) (by omega) ⟨by omega, h2, h3⟩
def numOf (p : Nat → Bool) : Nat → Nat
  | 0 => 0
  | k + 1 => if p k = true then 2 ^ k + numOf p k else numOf p k
theorem numOf_lt (p : Nat → Bool) : ∀ k, numOf p k < 2 ^ k
  | 0 => by simp [numOf]
  | k + 1 => by
    have := numOf_lt p k
    simp only [numOf]
    rw [Nat.pow_succ]
    split <;> omega
theorem numOf_bit (p : Nat → Bool) : ∀ (k i : Nat), i < k → (numOf p k).testBit i = p i
  | 0, i, h => by omega
  | k + 1, i, h => by
    have hlt := numOf_lt p k
    simp only [numOf]
    by_cases e : i = k
    · subst e
      split
      · rename_i hp; rw [Nat.testBit_two_pow_add_eq, Nat.testBit_lt_two_pow hlt, hp]; rfl
      · rename_i hp; rw [Nat.testBit_lt_two_pow hlt]; simpa using hp
    · split
      · rw [Nat.testBit_two_pow_add_gt (by omega)]; exact numOf_bit p k i (by omega)
      · exact numOf_bit p k i (by omega)
theorem bit_nat (x i : Nat) : (((x : Int) / 2 ^ i % 2) == 1) = x.testBit i := by
  rw [Nat.testBit_eq_decide_div_mod_eq]
  have : (x : Int) / 2 ^ i % 2 = ((x / 2 ^ i % 2 : Nat) : Int) := by simp
  rw [this]
  rw [Bool.eq_iff_iff]
  simp only [beq_iff_eq, decide_eq_true_eq]
  omega
theorem chosen_nat (x T : Nat) : chosenS (x : Int) T = ((List.range' 0 T).filter fun i => x.testBit i).map fun (i : Nat) => (i : Int) := by
  unfold chosenS
  rw [List.range_eq_range']
  congr 1
  apply List.filter_congr
  intro i _
  exact bit_nat x i
theorem asc_chosen {T : Nat} {s : List Int} (h : Asc T 0 s) : ∃ y : Nat, y < 2 ^ T ∧ chosenS (y : Int) T = s := by
  refine ⟨numOf (fun (i : Nat) => decide ((i : Int) ∈ s)) T, numOf_lt _ _, ?_⟩
  rw [chosen_nat]
  have := asc_filter T 0 s (by omega) h
  rw [← this]
  congr 1
  rw [this]
  apply List.filter_congr
  intro i hi
  exact numOf_bit _ T i (by have := (List.mem_range'_1.1 hi).2; omega)
theorem chosen_all (T : Nat) : chosenS (2 ^ T - 1) T = numsI T := by
  have e : ((2 : Int) ^ T - 1) = ((2 ^ T - 1 : Nat) : Int) := by
    have : 0 < 2 ^ T := Nat.pow_pos (by decide)
    rw [Int.natCast_sub this]; simp
  rw [e, chosen_nat]
  unfold numsI
  rw [List.range_eq_range']
  congr 1
  apply List.filter_eq_self.2
  intro i hi
  rw [Nat.testBit_two_pow_sub_one]
  have := (List.mem_range'_1.1 hi).2
  exact decide_eq_true (by omega)
theorem numsI_asc (T : Nat) : Asc T 0 (numsI T) := by rw [← chosen_all]; exact chosen_asc _ _
theorem holds_all (R : List (List Bool)) (all : List Int) (m : Nat) : holdsR R all m all = true := by
  unfold holdsR
  rw [List.all_eq_true]
  intro k _
  cases hasR R all k <;> rfl
theorem cover_best {R : List (List Bool)} {m : Nat} {P : List Int → Bool} (hP : ∀ c, Asc R.length 0 c → P c = holdsR R (numsI R.length) m c) :
    coverR R m = intsPV (bestR P (numsI R.length) R.length (2 ^ R.length)) := by
  have hH := holds_all R (numsI R.length) m
  obtain ⟨f, hf, hHf, hg, hmin⟩ := goC_find (H := holdsR R (numsI R.length) m) (.v (.slice none 0 0)) (all_sorted R.length) ⟨numsI R.length, all_mem.2 (numsI_asc _), hH⟩
  unfold coverR
  rw [hg]
  have hfa := all_mem.1 hf
  have hPa : P (numsI R.length) = true := by rw [hP _ (numsI_asc _)]; exact hH
  obtain ⟨h1, h2, h3⟩ := best_spec (T := R.length) hPa (2 ^ R.length)
  generalize bestR P (numsI R.length) R.length (2 ^ R.length) = b at h1 h2 h3
  have hba : Asc R.length 0 b := by
    rcases h2 with rfl | ⟨y, rfl⟩
    · exact numsI_asc _
    · exact chosen_asc _ _
  obtain ⟨y, hy, he⟩ := asc_chosen hfa
  have hfb : beforeS f b = false := by
    rw [← he]
    refine h3 y hy ?_
    rw [he, hP _ hfa]; exact hHf
  rcases hmin b (all_mem.2 hba) (by rw [← hP _ hba]; exact h1) with rfl | hq
  · rfl
  · rw [hfb] at hq; cases hq
theorem all_range_get {γ : Type} (C : List γ) (F : Nat → Bool) (G : γ → Bool) (h : ∀ k (hk : k < C.length), F k = G C[k]) : (List.range C.length).all F = C.all G := by
  rw [Bool.eq_iff_iff, List.all_eq_true, List.all_eq_true]
  constructor
  · intro h1 x hx
    obtain ⟨k, hk, rfl⟩ := List.getElem_of_mem hx
    rw [← h k hk]; exact h1 k (List.mem_range.2 hk)
  · intro h1 k hk
    have hk := List.mem_range.1 hk
    rw [h k hk]; exact h1 _ (List.getElem_mem hk)
theorem any_congr {l : List Int} {p q : Int → Bool} (h : ∀ i ∈ l, p i = q i) : l.any p = l.any q := by
  induction l with
  | nil => rfl
  | cons x r ih => rw [List.any_cons, List.any_cons, h x List.mem_cons_self, ih fun i hi => h i (List.mem_cons_of_mem _ hi)]
theorem bit_cols {γ : Type} (C : List γ) (ts : List (List Int)) (d : List Int → γ → Bool) {i k : Nat} (hi : i < ts.length) (hk : k < C.length) :
    bitR (ts.map fun t => C.map (d t)) i k = d (ts.getD i []) C[k] := by
  unfold bitR
  simp [List.getD_eq_getElem?_getD, hi, hk]
theorem holds_cols {γ : Type} (C : List γ) (ts : List (List Int)) (d : List Int → γ → Bool) (all l : List Int) (hall : ∀ i ∈ all, 0 ≤ i ∧ i < (ts.length : Int)) (hl : ∀ i ∈ l, 0 ≤ i ∧ i < (ts.length : Int)) :
    holdsR (ts.map fun t => C.map (d t)) all C.length l = C.all fun c => !((all.any fun i => d (ts.getD i.toNat []) c) && !(l.any fun i => d (ts.getD i.toNat []) c)) := by
  unfold holdsR
  refine all_range_get C _ _ fun k hk => ?_
  unfold hasR
  rw [any_congr (l := all) (q := fun i => d (ts.getD i.toNat []) C[k]) fun i hi => bit_cols C ts d (by have := hall i hi; omega) hk,
    any_congr (l := l) (q := fun i => d (ts.getD i.toNat []) C[k]) fun i hi => bit_cols C ts d (by have := hl i hi; omega) hk]
def pairs (K : Nat) : List (Nat × Nat) := (List.range K).flatMap fun a => (List.range a).map fun b => (a, b)
theorem pairRow_eq (L : List (List Int)) : pairRow L = (pairs L.length).map fun p => !sameInts (L.getD p.1 []) (L.getD p.2 []) := by
  unfold pairRow pairTo pairs
  rw [List.map_flatMap]
  rw [List.flatMap_def, List.flatMap_def]
  congr 1
  apply List.map_congr_left
  intro i hi
  have hi := List.mem_range.1 hi
  rw [List.map_map]
  apply List.ext_getElem
  · simp; omega
  · intro j h1 h2
    simp only [List.length_map, List.length_take, List.length_range] at h1 h2
    have : j < L.length := by omega
    simp [List.getD_eq_getElem?_getD, this]
theorem pairs_all (K : Nat) (F : Nat × Nat → Bool) : (pairs K).all F = (List.range K).all fun a => (List.range a).all fun b => F (a, b) := by
  unfold pairs
  rw [List.all_flatMap]
  congr 1
  funext a
  rw [List.all_map]; rfl
theorem pairs_mem {K : Nat} {p : Nat × Nat} : p ∈ pairs K ↔ p.2 < p.1 ∧ p.1 < K := by
  unfold pairs
  simp only [List.mem_flatMap, List.mem_map, List.mem_range]
  constructor
  · rintro ⟨a, ha, b, hb, rfl⟩; exact ⟨hb, ha⟩
  · intro h; exact ⟨p.1, h.2, p.2, h.1, rfl⟩
theorem lanes_pair (n : NetT) (fs : List FaultT) (t : List Int) : pairRow (lanesR n fs t) = (pairs (fs.length + 1)).map fun p => !sameInts (oR n (fAt fs p.1) t) (oR n (fAt fs p.2) t) := by
  have hl : (lanesR n fs t).length = fs.length + 1 := by unfold lanesR; simp
  rw [pairRow_eq, hl]
  apply List.map_congr_left
  intro p hp
  have := pairs_mem.1 hp
  have h1 : ∀ a, a < fs.length + 1 → (lanesR n fs t).getD a [] = oR n (fAt fs a) t := by
    intro a ha
    unfold lanesR
    simp [List.getD_eq_getElem?_getD, ha]
  rw [h1 _ (by omega), h1 _ (by omega)]
theorem wd_pairs (K : Nat) : (pairs K).length = wd K := by
  have := pairRow_len (List.replicate K [])
  rw [pairRow_eq, List.length_map, List.length_replicate] at this
  exact this
theorem few_eq {n : NetT} {fs : List FaultT} {ts : List (List Int)} (h : askedR n fs ts = 0) : (fewP n fs ts).1 = intsPV (fewR n fs ts).1 := by
  unfold fewP fewR
  rw [if_pos h, if_pos h]
  dsimp only
  have hl : (ts.map fun t => rowR n fs t).length = ts.length := List.length_map _
  have hc := cover_best (R := ts.map fun t => rowR n fs t) (m := fs.length) (P := fun l => findsR n fs ts l (allR ts)) (by
    rw [hl]
    intro c hc
    have ha : allR ts = numsI ts.length := chosen_all _
    rw [← ha]
    have := holds_cols fs ts (fun t f => !sameInts (oR n fine t) (oR n f t)) (allR ts) c (chosen_in _ _) (fun i hi => by have := asc_ge hc i hi; omega)
    unfold rowR
    rw [this]; rfl)
  rw [hc, hl, show allR ts = numsI ts.length from chosen_all _]
theorem tell_eq {n : NetT} {fs : List FaultT} {ts : List (List Int)} (h : askedR n fs ts = 0) : (tellP n fs ts).1 = intsPV (tellR n fs ts).1 := by
  unfold tellP tellR
  rw [if_pos h, if_pos h]
  dsimp only
  have hl : (ts.map fun t => pairRow (lanesR n fs t)).length = ts.length := List.length_map _
  have hc := cover_best (R := ts.map fun t => pairRow (lanesR n fs t)) (m := wd (fs.length + 1)) (P := fun l => tellsR n fs ts l (allR ts)) (by
    rw [hl]
    intro c hc
    have ha : allR ts = numsI ts.length := chosen_all _
    rw [← ha]
    have := holds_cols (pairs (fs.length + 1)) ts (fun t p => !sameInts (oR n (fAt fs p.1) t) (oR n (fAt fs p.2) t)) (allR ts) c (chosen_in _ _) (fun i hi => by have := asc_ge hc i hi; omega)
    rw [← wd_pairs]
    simp only [lanes_pair]
    rw [this, pairs_all]; rfl)
  rw [hc, hl, show allR ts = numsI ts.length from chosen_all _]
end Go.Proofs.YtfghooojingdhaaDoor
namespace Go.Proofs.YtfghooojingdhaaDoor
open Go Go.QL
set_option maxHeartbeats 800000
attribute [local irreducible] ACall FnC YC
theorem pfew_fn (n : NetT) (hi : i64 n.inn) (fs : List FaultT) (ts : List (List Int)) (hr : askedR n fs ts = 0 → RunsAt (fs.length + 1)) : FnC Tryd.prog 37 [netAV n, faultsAV fs, rowsAV ts] (outE (fewR n fs ts)) := by
  have h := fewest_fn n hi fs ts hr
  by_cases hc : askedR n fs ts = 0
  · have e : fewP n fs ts = (intsPV (fewR n fs ts).1, (fewR n fs ts).2) := Prod.ext (few_eq hc) (by unfold fewP fewR; rw [if_pos hc, if_pos hc])
    rw [e] at h; exact h
  · rw [show fewP n fs ts = (.v (.slice none 0 0), askedR n fs ts) from if_neg hc] at h
    rw [show fewR n fs ts = ([], askedR n fs ts) from if_neg hc]
    exact h.le ⟨_, rfl, LeAV1.nil 1, LeAV1.refl _, trivial⟩
theorem ptell_fn' (n : NetT) (hi : i64 n.inn) (fs : List FaultT) (ts : List (List Int)) (hr : askedR n fs ts = 0 → RunsAt (fs.length + 1)) : FnC Tryd.prog 39 [netAV n, faultsAV fs, rowsAV ts] (outE (tellR n fs ts)) := by
  have h := ptell_fn n hi fs ts hr
  by_cases hc : askedR n fs ts = 0
  · have e : tellP n fs ts = (intsPV (tellR n fs ts).1, (tellR n fs ts).2) := Prod.ext (tell_eq hc) (by unfold tellP tellR; rw [if_pos hc, if_pos hc])
    rw [e] at h; exact h
  · rw [show tellP n fs ts = (.v (.slice none 0 0), askedR n fs ts) from if_neg hc] at h
    rw [show tellR n fs ts = ([], askedR n fs ts) from if_neg hc]
    exact h.le ⟨_, rfl, LeAV1.nil 1, LeAV1.refl _, trivial⟩
end Go.Proofs.YtfghooojingdhaaDoor
namespace Go.Proofs
open Go.Shelf
def Tryd.lays171_ren : Go.Shelf.Ren := ⟨fun | 171 => 104 | 243 => 108 | 246 => 109 | 283 => 110 | 284 => 111 | 285 => 112 | 286 => 113 | 129 => 115 | 317 => 114 | 318 => 116 | 319 => 117 | 320 => 118 | 337 => 119 | 338 => 120 | n => n, fun | 3 => 3 | 9 => 9 | 2 => 2 | 4 => 4 | 171 => 152 | 0 => 0 | 53 => 153 | 37 => 45 | 5 => 5 | 173 => 156 | 212 => 159 | 51 => 40 | 20 => 20 | 213 => 160 | 46 => 161 | 232 => 164 | 233 => 165 | n => n, fun | 17 => 0 | 18 => 1 | 19 => 2 | n => n⟩
theorem Tryd.lays171 : Go.Proofs.Lays.n171 Tryd.prog Tryd.lays171_ren := {
  mixed := by kernel_rfl
  f129 := Tryd.func115.trans (congrArg some (by kernel_rfl))
  f171 := Tryd.func104.trans (congrArg some (by kernel_rfl))
  f243 := Tryd.func108.trans (congrArg some (by kernel_rfl))
  f246 := Tryd.func109.trans (congrArg some (by kernel_rfl))
  f283 := Tryd.func110.trans (congrArg some (by kernel_rfl))
  f284 := Tryd.func111.trans (congrArg some (by kernel_rfl))
  f285 := Tryd.func112.trans (congrArg some (by kernel_rfl))
  f286 := Tryd.func113.trans (congrArg some (by kernel_rfl))
  f317 := Tryd.func114.trans (congrArg some (by kernel_rfl))
  f318 := Tryd.func116.trans (congrArg some (by kernel_rfl))
  f319 := Tryd.func117.trans (congrArg some (by kernel_rfl))
  f320 := Tryd.func118.trans (congrArg some (by kernel_rfl))
  f337 := Tryd.func119.trans (congrArg some (by kernel_rfl))
  f338 := Tryd.func120.trans (congrArg some (by kernel_rfl))
  t0 := Tryd.underlying0
  a0 := Tryd.isAgg0
  z0 := Tryd.sizeOf0
  v0 := Tryd.zeroValue0
  t2 := Tryd.underlying2
  a2 := Tryd.isAgg2
  z2 := Tryd.sizeOf2
  v2 := Tryd.zeroValue2
  t3 := Tryd.underlying3
  a3 := Tryd.isAgg3
  z3 := Tryd.sizeOf3
  v3 := Tryd.zeroValue3
  t4 := Tryd.underlying4
  a4 := Tryd.isAgg4
  z4 := Tryd.sizeOf4
  v4 := Tryd.zeroValue4
  t5 := Tryd.underlying5
  a5 := Tryd.isAgg5
  z5 := Tryd.sizeOf5
  v5 := Tryd.zeroValue5
  t9 := Tryd.underlying9
  a9 := Tryd.isAgg9
  z9 := Tryd.sizeOf9
  v9 := Tryd.zeroValue9
  t20 := Tryd.underlying20
  a20 := Tryd.isAgg20
  z20 := Tryd.sizeOf20
  v20 := Tryd.zeroValue20
  t37 := Tryd.underlying45
  a37 := Tryd.isAgg45
  z37 := Tryd.sizeOf45
  v37 := Tryd.zeroValue45
  t46 := Tryd.underlying161
  a46 := Tryd.isAgg161
  z46 := Tryd.sizeOf161
  v46 := Tryd.zeroValue161
  t51 := Tryd.underlying40
  a51 := Tryd.isAgg40
  z51 := Tryd.sizeOf40
  v51 := Tryd.zeroValue40
  t53 := Tryd.underlying153
  a53 := Tryd.isAgg153
  z53 := Tryd.sizeOf153
  v53 := Tryd.zeroValue153
  t171 := Tryd.underlying152
  a171 := Tryd.isAgg152
  z171 := Tryd.sizeOf152
  v171 := Tryd.zeroValue152
  t173 := Tryd.underlying156
  a173 := Tryd.isAgg156
  z173 := Tryd.sizeOf156
  v173 := Tryd.zeroValue156
  t212 := Tryd.underlying159
  a212 := Tryd.isAgg159
  z212 := Tryd.sizeOf159
  v212 := Tryd.zeroValue159
  t213 := Tryd.underlying160
  a213 := Tryd.isAgg160
  z213 := Tryd.sizeOf160
  t232 := Tryd.underlying164
  a232 := Tryd.isAgg164
  z232 := Tryd.sizeOf164
  v232 := Tryd.zeroValue164
  t233 := Tryd.underlying165
  a233 := Tryd.isAgg165
  z233 := Tryd.sizeOf165
  v233 := Tryd.zeroValue165
  g17 := by kernel_rfl
  g18 := by kernel_rfl
  g19 := by kernel_rfl }
end Go.Proofs
namespace Go.Proofs.YtfghooojingdhaaDoor
open Go Go.QL Go.RowKit
set_option maxHeartbeats 800000
theorem itoa_fn (i : Nat) (hi : i < 100) : FnC Tryd.prog 104 [iv .i64 i] (sv ⟨(Lib.decDigits i).toArray⟩) := by
  refine ⟨⟨_, Tryd.func104, rfl, rfl⟩, fun K w vs hK hs hv => ?_⟩
  obtain ⟨v, rfl⟩ : ∃ v, vs = #[v] := by
    match vs, hs with
    | ⟨[v]⟩, _ => exact ⟨v, rfl⟩
  have h0 := hv 0 (iv .i64 i) v rfl rfl
  have hvi : v = .int .i64 i := by
    cases h0 with
    | d _ _ h => cases h; rfl
  subst hvi
  refine Calls.mono (show Calls Tryd.prog 104 #[.int .i64 i] w _ from Any.strconv_Itoa_small Tryd.lays171 i hi w) ?_
  rintro e w' ⟨rfl, rfl⟩
  exact ⟨_, K, rfl, Below.refl _ _, Ext.refl _ _, fun _ _ _ h => h, hK, vr_plain _ rfl⟩
end Go.Proofs.YtfghooojingdhaaDoor
namespace Go.Proofs.YtfghooojingdhaaDoor
open Go Go.QL
set_option maxHeartbeats 3200000
attribute [local irreducible] ACall FnC
def numB (n : Int) : ByteArray := ⟨(Lib.decDigits n.toNat).toArray⟩
theorem itoa_in {n : Int} (h : 0 ≤ n ∧ n < 100) : FnC Tryd.prog 104 [iv .i64 n] (sv (numB n)) := by
  have := itoa_fn n.toNat (by omega)
  rw [show ((n.toNat : Nat) : Int) = n by omega] at this
  exact this
def lineTo (word : ByteArray) (l : List Int) : ByteArray := l.foldl (fun a n => a ++ (⟨#[32]⟩ ++ numB n)) word
def lineB (word : ByteArray) (l : List Int) : ByteArray := lineTo word l ++ ⟨#[10]⟩
theorem lineTo_succ (word : ByteArray) (l : List Int) (i : Nat) (h : i < l.length) : lineTo word (l.take (i + 1)) = lineTo word (l.take i) ++ (⟨#[32]⟩ ++ numB l[i]) := by
  unfold lineTo
  rw [List.take_add_one, List.getElem?_eq_getElem h, List.foldl_append]; rfl
theorem dd_len (i : Nat) (h : i < 100) : (Lib.decDigits i).length ≤ 3 := by
  by_cases h1 : i < 10
  · rw [Lib.decDigits_one h1]; show 1 ≤ 3; omega
  · rw [Lib.decDigits_two h1 h]; show 2 ≤ 3; omega
theorem numB_size {n : Int} (h : 0 ≤ n ∧ n < 100) : (numB n).size ≤ 3 := by
  show ((Lib.decDigits n.toNat).toArray).size ≤ 3
  rw [List.size_toArray]
  exact dd_len n.toNat (by omega)
theorem lineTo_size (word : ByteArray) (l : List Int) (hl : ∀ n ∈ l, 0 ≤ n ∧ n < 100) : ∀ i, i ≤ l.length → (lineTo word (l.take i)).size ≤ word.size + 4 * i
  | 0, _ => Nat.le_refl _
  | i + 1, h => by
    rw [lineTo_succ word l i h, ByteArray.size_append, ByteArray.size_append]
    have h1 := lineTo_size word l hl i (by omega)
    have h2 := numB_size (hl l[i] (List.getElem_mem h))
    have h3 : (⟨#[32]⟩ : ByteArray).size = 1 := rfl
    omega
theorem svE {a b : ByteArray} (h : a = b) : some (sv a) = some (sv b) := by rw [h]
theorem line_fn (word : ByteArray) (l : List Int) (hl : ∀ n ∈ l, 0 ≤ n ∧ n < 100) (hwd : word.size ≤ 100) (hll : l.length ≤ 4096) : FnC Tryd.prog 85 [sv word, sl l] (sv (lineB word l)) := by
  refine FnC_of_AW hTt Tryd.func85 rfl (by kernel_rfl) (res := [.tmp 4]) rfl Tryd.ntmps85 (by simp) fun w0 K0 => ?_
  dsimp only [entry]
  repeat' first | with_reducible refine AW_seq ?_ | with_reducible refine AW_block ?_ | ((with_reducible refine AW_region hTt ?_); conv => whnf) | (refine fun hln => ?_; (try rw [List.length_map] at hln); unfold maxLen at hln; conv => whnf) | fail
  refine AW_loop (fun i : Nat => [(9, iv .i64 i), (8, iv .i64 l.length), (7, sl l), (0, sv (lineTo word (l.take i)))]) (fun _ => []) (fun i => i ≤ l.length) (fun i => l.length - i) 0 (Nat.zero_le _) impA ?_
  intro i hi
  rcases Nat.lt_or_ge i l.length with hil | hil
  · have o1 := itoa_in (hl l[i] (List.getElem_mem hil))
    have hst := lineTo_succ word l i hil
    have hz := lineTo_size word l hl i hi
    have hnz := numB_size (hl l[i] (List.getElem_mem hil))
    have g1 : (⟨#[32]⟩ : ByteArray).size + (numB l[i]).size ≤ maxLen := by
      show 1 + _ ≤ _
      unfold maxLen; omega
    have g2 : (lineTo word (l.take i)).size + ((⟨#[32]⟩ : ByteArray) ++ numB l[i]).size ≤ maxLen := by
      rw [ByteArray.size_append]
      show _ + (1 + _) ≤ _
      unfold maxLen; omega
    repeat' first | with_reducible refine AW_seq ?_ | with_reducible refine AW_block ?_ | ((first | with_reducible refine AW_skip ?_ | with_reducible refine AW_exit ?_ | with_reducible refine AW_region hTt ?_ | fail); conv => whnf) | (exact absurd hb (by omega)) | ((first | ((refine ⟨_, (o1).call rfl rfl, ?_⟩); (rintro _ _ ⟨rfl, rfl⟩)) | refine And.intro (gd_none g1) ?_ | refine And.intro (gd_none g2) ?_ | fail); conv => whnf) | (refine AW_cond rfl (fun hb => ?_) (fun hb => ?_) <;> first | (replace hb := of_decide_eq_true hb; try simp only [List.length_map] at hb) | (replace hb := of_decide_eq_false hb; try simp only [List.length_map] at hb)) | ((first | refine ⟨_, wrap_of (by first | omega | (simp only [List.length_map]; omega)), ?_⟩ | refine andA ?_ | with_reducible refine Exists.intro _ (And.intro (gd_any (And.intro (by omega) (map_get (by omega)))) ?_) | fail); conv => whnf) | fail
    exact ⟨i + 1, hil, by omega, (Imp.forget (by repeat' (first | exact trivial | refine And.intro ?_ ?_ | exact svE hst.symm | rfl | exact ivE (by first | omega | (simp only [List.length_map, List.length_append, List.length_singleton] <;> omega)) | exact oE (by first | omega | (simp only [List.length_map, List.length_append, List.length_singleton] <;> omega)))) (by repeat' (first | exact trivial | refine And.intro ?_ ?_ | exact svE hst.symm | rfl | exact ivE (by first | omega | (simp only [List.length_map, List.length_append, List.length_singleton] <;> omega)) | exact oE (by first | omega | (simp only [List.length_map, List.length_append, List.length_singleton] <;> omega)))) (by kernel_rfl) (by kernel_rfl) (by kernel_rfl))⟩
  · rw [show lineB word l = lineTo word (l.take i) ++ ⟨#[10]⟩ from by rw [List.take_of_length_le (by omega)]; rfl]
    have hz := lineTo_size word l hl i hi
    have g3 : (lineTo word (l.take i)).size + (⟨#[10]⟩ : ByteArray).size ≤ maxLen := by
      show _ + 1 ≤ _
      unfold maxLen; omega
    repeat' first | with_reducible refine AW_seq ?_ | with_reducible refine AW_block ?_ | ((first | with_reducible refine AW_skip ?_ | with_reducible refine AW_exit ?_ | with_reducible refine AW_ret ?_ | with_reducible refine AW_region hTt ?_ | fail); conv => whnf) | (exact absurd hb (by omega)) | ((refine And.intro (gd_none g3) ?_); conv => whnf) | (refine AW_cond rfl (fun hb => ?_) (fun hb => ?_) <;> first | (replace hb := of_decide_eq_true hb; try simp only [List.length_map] at hb) | (replace hb := of_decide_eq_false hb; try simp only [List.length_map] at hb)) | fail
    rfl
end Go.Proofs.YtfghooojingdhaaDoor
namespace Go.Proofs.YtfghooojingdhaaDoor
open Go Go.QL
set_option maxHeartbeats 3200000
attribute [local irreducible] ACall FnC
def kindB (k : Int) : ByteArray := ⟨(([[], [97, 110, 100], [111, 114], [120, 111, 114], [110, 111, 116], [100, 101, 108, 97, 121]] : List (List UInt8)).getD k.toNat []).toArray⟩
def gateB (g : GateT) : ByteArray := lineB (kindB g.kind) (if 4 ≤ g.kind then [g.a] else [g.a, g.b])
def textTo (n : NetT) (i : Nat) : ByteArray := (n.gates.take i).foldl (fun t g => t ++ gateB g) (lineB ⟨#[105, 110, 112, 117, 116, 115]⟩ [n.inn])
theorem kindB_size (k : Int) : (kindB k).size ≤ 5 := by
  unfold kindB
  generalize k.toNat = m
  match m with
  | 0 | 1 | 2 | 3 | 4 | 5 => decide
  | m + 6 => exact Nat.zero_le _
theorem lineB_size (word : ByteArray) (l : List Int) (hl : ∀ n ∈ l, 0 ≤ n ∧ n < 100) : (lineB word l).size ≤ word.size + 4 * l.length + 1 := by
  unfold lineB
  rw [ByteArray.size_append]
  have := lineTo_size word l hl l.length (Nat.le_refl _)
  rw [List.take_of_length_le (Nat.le_refl _)] at this
  have h3 : (⟨#[10]⟩ : ByteArray).size = 1 := rfl
  omega
theorem textTo_succ (n : NetT) (i : Nat) {g : GateT} (h : n.gates[i]? = some g) : textTo n (i + 1) = textTo n i ++ gateB g := by
  unfold textTo
  rw [List.take_add_one, h, List.foldl_append]; rfl
theorem textTo_size {n : NetT} (ok : NetOK n) : ∀ i, i ≤ n.gates.length → (textTo n i).size ≤ 20 + 20 * i
  | 0, _ => by
    have := lineB_size ⟨#[105, 110, 112, 117, 116, 115]⟩ [n.inn] (by intro x hx; rw [List.mem_singleton.1 hx]; have := ok.h1; have := ok.h6; omega)
    have h3 : (⟨#[105, 110, 112, 117, 116, 115]⟩ : ByteArray).size = 6 := rfl
    have h4 : [n.inn].length = 1 := rfl
    show (lineB _ _).size ≤ _
    omega
  | i + 1, h => by
    have hg : n.gates[i]? = some n.gates[i] := List.getElem?_eq_getElem (by omega)
    rw [textTo_succ n i hg, ByteArray.size_append]
    have h1 := textTo_size ok i (by omega)
    have hA := ok.ha i (by omega)
    have hB := ok.hb i (by omega)
    have hgl := ok.hl
    have h6 := ok.h6
    have h5 := kindB_size n.gates[i].kind
    have : (gateB n.gates[i]).size ≤ 14 := by
      unfold gateB
      split
      · have := lineB_size (kindB n.gates[i].kind) [n.gates[i].a] (by intro x hx; rw [List.mem_singleton.1 hx]; omega)
        have h4 : [n.gates[i].a].length = 1 := rfl
        omega
      · have := lineB_size (kindB n.gates[i].kind) [n.gates[i].a, n.gates[i].b] (by intro x hx; simp at hx; rcases hx with rfl | rfl <;> omega)
        have h4 : [n.gates[i].a, n.gates[i].b].length = 2 := rfl
        omega
    omega
def writeR (n : NetT) : ByteArray × Int :=
  if (checkR n).2.2 = 0 then (textTo n n.gates.length ++ lineB ⟨#[111, 117, 116, 112, 117, 116, 115]⟩ n.out, 0) else (⟨#[]⟩, (checkR n).2.2)
theorem write_fn (n : NetT) (hr : i64 n.inn) : FnC Tryd.prog 62 [netAV n] (.t [sv (writeR n).1, iv .i64 (writeR n).2]) := by
  have ck := pcheck_fn n hr
  by_cases hc : (checkR n).2.2 = 0
  · have ok := NetOK.of hc
    have o1 := line_fn ⟨#[105, 110, 112, 117, 116, 115]⟩ [n.inn] (by intro x hx; rw [List.mem_singleton.1 hx]; have := ok.h1; have := ok.h6; omega) (by decide) (by show 1 ≤ 4096; omega)
    rw [show writeR n = (textTo n n.gates.length ++ lineB ⟨#[111, 117, 116, 112, 117, 116, 115]⟩ n.out, 0) from if_pos hc]
    refine FnC_of_AW hTt Tryd.func62 rfl (by kernel_rfl) (res := [.tmp 2, .tmp 3]) rfl Tryd.ntmps62 (by simp) fun w0 K0 => ?_
    dsimp only [entry]
    repeat' first | with_reducible refine AW_seq ?_ | with_reducible refine AW_block ?_ | ((first | with_reducible refine AW_skip ?_ | with_reducible refine AW_ret ?_ | with_reducible refine AW_region hTt ?_ | fail); conv => whnf) | (exact absurd hb (by omega)) | ((first | ((refine ⟨_, (ck).call rfl rfl, ?_⟩); (rintro _ _ ⟨rfl, rfl⟩)) | ((refine ⟨_, (o1).call rfl rfl, ?_⟩); (rintro _ _ ⟨rfl, rfl⟩)) | fail); conv => whnf) | (refine AW_cond rfl (fun hb => ?_) (fun hb => ?_) <;> first | (replace hb := of_decide_eq_true hb; try simp only [List.length_map] at hb) | (replace hb := of_decide_eq_false hb; try simp only [List.length_map] at hb) | (simp only [List.length_map, bne_iff_ne, ne_eq, beq_iff_eq, bne_eq_false_iff_eq, beq_eq_false_iff_ne, decide_eq_true_eq, decide_eq_false_iff_not, Bool.not_eq_true', Bool.not_eq_false', Int.natCast_inj] at hb)) | ((refine andA ?_); conv => whnf) | (refine fun hln => ?_; (try rw [List.length_map] at hln); unfold maxLen at hln; conv => whnf) | fail
    refine AW_loop (fun i : Nat => [(27, iv .i64 i), (26, iv .i64 n.gates.length), (25, .x (.d (gatesPV n.gates))), (1, .x (.b 1 0)), (7, sv (textTo n i))]) (fun _ => [(1, netCells n)])
      (fun i => i ≤ n.gates.length) (fun i => n.gates.length - i) 0 (Nat.zero_le _) impA ?_
    intro i hi
    rcases Nat.lt_or_ge i n.gates.length with hil | hil
    · obtain ⟨⟨k, a, b⟩, hg⟩ : ∃ g, n.gates[i]? = some g := ⟨_, List.getElem?_eq_getElem hil⟩
      have hgi : n.gates[i] = ⟨k, a, b⟩ := by rw [List.getElem?_eq_getElem hil] at hg; exact Option.some.inj hg
      have hk := ok.hk i hil
      have hA := ok.ha i hil
      have hB := ok.hb i hil
      rw [hgi] at hk hA hB
      have hgl := ok.hl
      have h6 := ok.h6
      dsimp only at hk hA hB
      have hkd : (([[], [97, 110, 100], [111, 114], [120, 111, 114], [110, 111, 116], [100, 101, 108, 97, 121]] : List (List UInt8)).map fun b => [PV.v (.string ⟨b.toArray⟩)])[k.toNat]? = some [.v (.string (kindB k))] := by
        have : k = 1 ∨ k = 2 ∨ k = 3 ∨ k = 4 ∨ k = 5 := by omega
        rcases this with rfl | rfl | rfl | rfl | rfl <;> rfl
      have hks : (kindB k).size ≤ 100 := by
        have : k = 1 ∨ k = 2 ∨ k = 3 ∨ k = 4 ∨ k = 5 := by omega
        rcases this with rfl | rfl | rfl | rfl | rfl <;> decide
      have o2 := line_fn (kindB k) [a] (by intro x hx; rw [List.mem_singleton.1 hx]; omega) hks (by show 1 ≤ 4096; omega)
      have o3 := line_fn (kindB k) [a, b] (by intro x hx; simp at hx; rcases hx with rfl | rfl <;> omega) hks (by show 2 ≤ 4096; omega)
      clear hA hB
      have hts := textTo_size ok i hi
      have hsu := textTo_succ n i hg
      by_cases hk4 : 4 ≤ k
      · have hz := lineB_size (kindB k) [a] (by intro x hx; rw [List.mem_singleton.1 hx]; have := ok.ha i hil; rw [hgi] at this; dsimp only at this; omega)
        have g2 : (textTo n i).size + (lineB (kindB k) [a]).size ≤ maxLen := by
          have h4 : [a].length = 1 := rfl
          unfold maxLen; omega
        rw [show gateB ⟨k, a, b⟩ = lineB (kindB k) [a] from by unfold gateB; rw [if_pos hk4]] at hsu
        repeat' first | (refine AW_imp (Imp.freeze 35 (fr' := [(10, sl [a]), (9, .x (.b 9 0)), (27, iv .i64 i), (26, iv .i64 n.gates.length), (25, .x (.d (gatesPV n.gates))), (1, .x (.b 1 0)), (7, sv (textTo n i))]) (σ' := [(1, netCells n), (9, .box [.d (.v (.int .i64 k)), .d (.v (.int .i64 a)), .d (.v (.int .i64 b))])]) rfl ⟨⟨_, rfl, .inr ⟨1, rfl, Nat.le_of_ble_eq_true rfl, rfl⟩⟩, ⟨_, rfl, .inl rfl⟩, ⟨_, rfl, .inl rfl⟩, ⟨_, rfl, .inl rfl⟩, ⟨_, rfl, .inl rfl⟩, ⟨_, rfl, .inl rfl⟩, ⟨_, rfl, .inl rfl⟩, trivial⟩ ⟨rfl, rfl, trivial⟩ rfl rfl) ?_) | with_reducible refine AW_seq ?_ | with_reducible refine AW_block ?_ | ((first | with_reducible refine AW_skip ?_ | with_reducible refine AW_exit ?_ | with_reducible refine AW_region hTt ?_ | refine AW_draw hTt hMix (id := 11) 8 false [0, 0, 0, 4, 14, 30, 0, 126, 255, 511] (by kernel_rfl) rfl rfl (by kernel_rfl) ?_ | fail); conv => whnf) | (exact absurd hb (by omega)) | ((first | with_reducible refine Exists.intro _ (And.intro (gd_any (And.intro (by omega) (gate_some hg))) ?_) | refine ⟨_, fun _ => (kinds_fn).call rfl rfl, ?_⟩ | with_reducible refine Exists.intro _ (And.intro (gd_any (And.intro (by omega) hkd)) ?_) | refine ⟨_, fun _ => (o2).call rfl rfl, ?_⟩ | refine And.intro (gd_none g2) ?_ | fail); conv => whnf) | (refine AW_cond rfl (fun hb => ?_) (fun hb => ?_) <;> first | (replace hb := of_decide_eq_true hb; try simp only [List.length_map] at hb) | (replace hb := of_decide_eq_false hb; try simp only [List.length_map] at hb)) | ((first | refine ⟨_, wrap_of (by first | omega | (simp only [List.length_map]; omega)), ?_⟩ | refine andA ?_ | fail); conv => whnf) | fail
        exact ⟨i + 1, hil, by omega, (Imp.forget (by repeat' (first | exact trivial | refine And.intro ?_ ?_ | exact svE hsu.symm | rfl | exact ivE (by first | omega | (simp only [List.length_map, List.length_append, List.length_singleton] <;> omega)) | exact oE (by first | omega | (simp only [List.length_map, List.length_append, List.length_singleton] <;> omega)))) (by repeat' (first | exact trivial | refine And.intro ?_ ?_ | exact svE hsu.symm | rfl | exact ivE (by first | omega | (simp only [List.length_map, List.length_append, List.length_singleton] <;> omega)) | exact oE (by first | omega | (simp only [List.length_map, List.length_append, List.length_singleton] <;> omega)))) (by kernel_rfl) (by kernel_rfl) (by kernel_rfl))⟩
      · have hz := lineB_size (kindB k) [a, b] (by intro x hx; have h1 := ok.ha i hil; have h2 := ok.hb i hil; rw [hgi] at h1 h2; dsimp only at h1 h2; simp at hx; rcases hx with rfl | rfl <;> omega)
        have g2 : (textTo n i).size + (lineB (kindB k) [a, b]).size ≤ maxLen := by
          have h4 : [a, b].length = 2 := rfl
          unfold maxLen; omega
        rw [show gateB ⟨k, a, b⟩ = lineB (kindB k) [a, b] from by unfold gateB; rw [if_neg hk4]] at hsu
        repeat' first | (refine AW_imp (Imp.freeze 35 (fr' := [(10, sl [a, b]), (9, .x (.b 9 0)), (27, iv .i64 i), (26, iv .i64 n.gates.length), (25, .x (.d (gatesPV n.gates))), (1, .x (.b 1 0)), (7, sv (textTo n i))]) (σ' := [(1, netCells n), (9, .box [.d (.v (.int .i64 k)), .d (.v (.int .i64 a)), .d (.v (.int .i64 b))])]) rfl ⟨⟨_, rfl, .inr ⟨2, rfl, Nat.le_of_ble_eq_true rfl, rfl⟩⟩, ⟨_, rfl, .inl rfl⟩, ⟨_, rfl, .inl rfl⟩, ⟨_, rfl, .inl rfl⟩, ⟨_, rfl, .inl rfl⟩, ⟨_, rfl, .inl rfl⟩, ⟨_, rfl, .inl rfl⟩, trivial⟩ ⟨rfl, rfl, trivial⟩ rfl rfl) ?_) | with_reducible refine AW_seq ?_ | with_reducible refine AW_block ?_ | ((first | with_reducible refine AW_skip ?_ | with_reducible refine AW_exit ?_ | with_reducible refine AW_region hTt ?_ | refine AW_draw hTt hMix (id := 11) 8 false [0, 0, 0, 4, 14, 30, 0, 126, 255, 511] (by kernel_rfl) rfl rfl (by kernel_rfl) ?_ | fail); conv => whnf) | (exact absurd hb (by omega)) | ((first | with_reducible refine Exists.intro _ (And.intro (gd_any (And.intro (by omega) (gate_some hg))) ?_) | refine ⟨_, fun _ => (kinds_fn).call rfl rfl, ?_⟩ | with_reducible refine Exists.intro _ (And.intro (gd_any (And.intro (by omega) hkd)) ?_) | refine ⟨_, fun _ => (o3).call rfl rfl, ?_⟩ | refine And.intro (gd_none g2) ?_ | fail); conv => whnf) | (refine AW_cond rfl (fun hb => ?_) (fun hb => ?_) <;> first | (replace hb := of_decide_eq_true hb; try simp only [List.length_map] at hb) | (replace hb := of_decide_eq_false hb; try simp only [List.length_map] at hb)) | ((first | refine ⟨_, wrap_of (by first | omega | (simp only [List.length_map]; omega)), ?_⟩ | refine andA ?_ | fail); conv => whnf) | fail
        exact ⟨i + 1, hil, by omega, (Imp.forget (by repeat' (first | exact trivial | refine And.intro ?_ ?_ | exact svE hsu.symm | rfl | exact ivE (by first | omega | (simp only [List.length_map, List.length_append, List.length_singleton] <;> omega)) | exact oE (by first | omega | (simp only [List.length_map, List.length_append, List.length_singleton] <;> omega)))) (by repeat' (first | exact trivial | refine And.intro ?_ ?_ | exact svE hsu.symm | rfl | exact ivE (by first | omega | (simp only [List.length_map, List.length_append, List.length_singleton] <;> omega)) | exact oE (by first | omega | (simp only [List.length_map, List.length_append, List.length_singleton] <;> omega)))) (by kernel_rfl) (by kernel_rfl) (by kernel_rfl))⟩
    · have hie : i = n.gates.length := by omega
      subst hie
      have hgl := ok.hl
      have h6 := ok.h6
      have ho4 := ok.o4
      have hor : ∀ x ∈ n.out, 0 ≤ x ∧ x < 100 := fun x hx => by
        obtain ⟨j, hj, rfl⟩ := List.getElem_of_mem hx
        have := ok.ho j hj
        omega
      have o4 := line_fn ⟨#[111, 117, 116, 112, 117, 116, 115]⟩ n.out hor (by decide) (by omega)
      have hz := lineB_size ⟨#[111, 117, 116, 112, 117, 116, 115]⟩ n.out hor
      have hts := textTo_size ok n.gates.length (Nat.le_refl _)
      have g2 : (textTo n n.gates.length).size + (lineB ⟨#[111, 117, 116, 112, 117, 116, 115]⟩ n.out).size ≤ maxLen := by
        have h4 : (⟨#[111, 117, 116, 112, 117, 116, 115]⟩ : ByteArray).size = 7 := rfl
        unfold maxLen; omega
      repeat' first | with_reducible refine AW_seq ?_ | with_reducible refine AW_block ?_ | ((first | with_reducible refine AW_skip ?_ | with_reducible refine AW_exit ?_ | with_reducible refine AW_ret ?_ | with_reducible refine AW_region hTt ?_ | fail); conv => whnf) | (exact absurd hb (by omega)) | ((first | ((refine ⟨_, (o4).call rfl rfl, ?_⟩); (rintro _ _ ⟨rfl, rfl⟩)) | refine And.intro (gd_none g2) ?_ | fail); conv => whnf) | (refine AW_cond rfl (fun hb => ?_) (fun hb => ?_) <;> first | (replace hb := of_decide_eq_true hb; try simp only [List.length_map] at hb) | (replace hb := of_decide_eq_false hb; try simp only [List.length_map] at hb)) | ((refine andA ?_); conv => whnf) | fail
      rfl
  · rw [show writeR n = (⟨#[]⟩, (checkR n).2.2) from if_neg hc]
    refine FnC_of_AW hTt Tryd.func62 rfl (by kernel_rfl) (res := [.tmp 2, .tmp 3]) rfl Tryd.ntmps62 (by simp) fun w0 K0 => ?_
    dsimp only [entry]
    repeat' first | with_reducible refine AW_seq ?_ | ((first | with_reducible refine AW_skip ?_ | with_reducible refine AW_ret ?_ | with_reducible refine AW_region hTt ?_ | fail); conv => whnf) | (exact absurd hb (by omega)) | ((refine ⟨_, (ck).call rfl rfl, ?_⟩); (rintro _ _ ⟨rfl, rfl⟩); conv => whnf) | (refine AW_cond rfl (fun hb => ?_) (fun hb => ?_) <;> first | (replace hb := of_decide_eq_true hb; try simp only [List.length_map] at hb) | (replace hb := of_decide_eq_false hb; try simp only [List.length_map] at hb) | (simp only [List.length_map, bne_iff_ne, ne_eq, beq_iff_eq, bne_eq_false_iff_eq, beq_eq_false_iff_ne, decide_eq_true_eq, decide_eq_false_iff_not, Bool.not_eq_true', Bool.not_eq_false', Int.natCast_inj] at hb)) | fail
    rfl
end Go.Proofs.YtfghooojingdhaaDoor
namespace Go.Proofs.YtfghooojingdhaaDoor
open Go Go.QL
set_option maxHeartbeats 3200000
attribute [local irreducible] ACall FnC
theorem tab_some {L : List (List Bool)} {i : Nat} {r : List Bool} (h : L[i]? = some r) : (L.map fun r => [boolsPV r])[((i : Int)).toNat]? = some [boolsPV r] := by simp [h]
theorem bool_some {L : List Bool} {i : Nat} {b : Bool} (h : L[i]? = some b) : (L.map bPV)[((i : Int)).toNat]? = some [.v (.bool b)] := by
  rw [Int.toNat_natCast, List.getElem?_map, h]; rfl
theorem tables_ref (a b : List (List Bool)) : FnC Tryd.prog 36 [tableAV a, tableAV b] (bv (decide (a = b))) := by
  refine FnC_of_AW hTt Tryd.func36 rfl (by kernel_rfl) (res := [.tmp 4]) rfl Tryd.ntmps36 (by simp) fun w0 K0 => ?_
  dsimp only [entry]
  by_cases hl : a.length = b.length
  · repeat' first | with_reducible refine AW_seq ?_ | with_reducible refine AW_block ?_ | ((first | with_reducible refine AW_skip ?_ | with_reducible refine AW_ret ?_ | with_reducible refine AW_region hTt ?_ | fail); conv => whnf) | (exact absurd hb (by omega)) | (refine AW_cond rfl (fun hb => ?_) (fun hb => ?_) <;> first | (replace hb := of_decide_eq_true hb; try simp only [List.length_map] at hb) | (replace hb := of_decide_eq_false hb; try simp only [List.length_map] at hb) | (simp only [List.length_map, bne_iff_ne, ne_eq, beq_iff_eq, bne_eq_false_iff_eq, beq_eq_false_iff_ne, decide_eq_true_eq, decide_eq_false_iff_not, Bool.not_eq_true', Bool.not_eq_false', Int.natCast_inj] at hb)) | (refine fun hln => ?_; (try rw [List.length_map] at hln); unfold maxLen at hln; conv => whnf) | fail
    refine AW_loop (fun i : Nat => [(5, iv .i64 i), (0, tableAV a), (1, tableAV b)]) (fun _ => []) (fun i => i ≤ a.length ∧ a.take i = b.take i) (fun i => a.length - i) 0 (by simp) impA ?_
    rintro i ⟨hi, htk⟩
    rcases Nat.lt_or_ge i a.length with hil | hil
    · obtain ⟨x, hx⟩ : ∃ x, a[i]? = some x := ⟨_, List.getElem?_eq_getElem hil⟩
      obtain ⟨y, hy⟩ : ∃ y, b[i]? = some y := ⟨_, List.getElem?_eq_getElem (by omega)⟩
      have hfin : x ≠ y → decide (a = b) = false := fun hxy => decide_eq_false fun h => hxy (by rw [h, hy] at hx; exact (Option.some.inj hx).symm)
      have hst : x = y → a.take (i + 1) = b.take (i + 1) := fun h => by rw [List.take_add_one, List.take_add_one, htk, hx, hy, h]
      clear htk
      by_cases hxl : x.length = y.length
      · repeat' first | with_reducible refine AW_seq ?_ | with_reducible refine AW_block ?_ | ((first | with_reducible refine AW_skip ?_ | with_reducible refine AW_exit ?_ | with_reducible refine AW_ret ?_ | with_reducible refine AW_region hTt ?_ | refine AW_draw hTt hMix (id := 6) 10 false [0, 0, 3, 7, 15, 0, 0, 96, 224, 480, 1023] (by kernel_rfl) rfl rfl (by kernel_rfl) ?_ | fail); conv => whnf) | (exact absurd hb (by omega)) | ((first | with_reducible refine Exists.intro _ (And.intro (gd_any (And.intro (by omega) (tab_some hx))) ?_) | with_reducible refine Exists.intro _ (And.intro (gd_any (And.intro (by omega) (tab_some hy))) ?_) | fail); conv => whnf) | (refine AW_cond rfl (fun hb => ?_) (fun hb => ?_) <;> first | (replace hb := of_decide_eq_true hb; try simp only [List.length_map] at hb) | (replace hb := of_decide_eq_false hb; try simp only [List.length_map] at hb) | (simp only [List.length_map, bne_iff_ne, ne_eq, beq_iff_eq, bne_eq_false_iff_eq, beq_eq_false_iff_ne, decide_eq_true_eq, decide_eq_false_iff_not, Bool.not_eq_true', Bool.not_eq_false', Int.natCast_inj] at hb)) | ((refine andA ?_); conv => whnf) | (refine fun hln => ?_; (try rw [List.length_map] at hln); unfold maxLen at hln; conv => whnf) | fail
        refine AW_loop (fun k : Nat => [(6, iv .i64 k), (5, iv .i64 i), (0, tableAV a), (1, tableAV b)]) (fun _ => []) (fun k => k ≤ x.length ∧ x.take k = y.take k) (fun k => x.length - k) 0 (by simp) impA ?_
        rintro k ⟨hk, hkt⟩
        rcases Nat.lt_or_ge k x.length with hkl | hkl
        · obtain ⟨p, hp⟩ : ∃ p, x[k]? = some p := ⟨_, List.getElem?_eq_getElem hkl⟩
          obtain ⟨q, hq⟩ : ∃ q, y[k]? = some q := ⟨_, List.getElem?_eq_getElem (by omega)⟩
          have hpf : p ≠ q → decide (a = b) = false := fun hpq => hfin fun h => hpq (by rw [h, hq] at hp; exact (Option.some.inj hp).symm)
          have hks : p = q → x.take (k + 1) = y.take (k + 1) := fun h => by rw [List.take_add_one, List.take_add_one, hkt, hp, hq, h]
          clear hkt hst hfin
          by_cases hpq : p = q
          · subst hpq
            repeat' first | with_reducible refine AW_seq ?_ | with_reducible refine AW_block ?_ | ((first | with_reducible refine AW_skip ?_ | with_reducible refine AW_exit ?_ | with_reducible refine AW_ret ?_ | with_reducible refine AW_region hTt ?_ | refine AW_draw hTt hMix (id := 11) 14 false [0, 0, 3, 7, 0, 31, 63, 0, 0, 384, 896, 0, 3968, 8064, 16383] (by kernel_rfl) rfl rfl (by kernel_rfl) ?_ | fail); conv => whnf) | (exact absurd hb (by omega)) | (exfalso; simp at hb; done) | ((first | with_reducible refine Exists.intro _ (And.intro (gd_any (And.intro (by omega) (tab_some hx))) ?_) | with_reducible refine Exists.intro _ (And.intro (gd_any (And.intro (by omega) (tab_some hy))) ?_) | with_reducible refine Exists.intro _ (And.intro (gd_any (And.intro (by omega) (bool_some hp))) ?_) | with_reducible refine Exists.intro _ (And.intro (gd_any (And.intro (by omega) (bool_some hq))) ?_) | fail); conv => whnf) | (refine AW_cond rfl (fun hb => ?_) (fun hb => ?_) <;> first | (replace hb := of_decide_eq_true hb; try simp only [List.length_map] at hb) | (replace hb := of_decide_eq_false hb; try simp only [List.length_map] at hb) | (simp only [List.length_map, bne_iff_ne, ne_eq, beq_iff_eq, bne_eq_false_iff_eq, beq_eq_false_iff_ne, decide_eq_true_eq, decide_eq_false_iff_not, Bool.not_eq_true', Bool.not_eq_false', Int.natCast_inj] at hb)) | ((first | refine ⟨_, wrap_of (by first | omega | (simp only [List.length_map]; omega)), ?_⟩ | refine andA ?_ | fail); conv => whnf) | (refine fun hln => ?_; (try rw [List.length_map] at hln); unfold maxLen at hln; conv => whnf) | fail
            exact ⟨k + 1, ⟨hkl, hks rfl⟩, by omega, impA⟩
          · rw [hpf hpq]
            repeat' first | with_reducible refine AW_seq ?_ | with_reducible refine AW_block ?_ | ((first | with_reducible refine AW_skip ?_ | with_reducible refine AW_exit ?_ | with_reducible refine AW_ret ?_ | with_reducible refine AW_region hTt ?_ | refine AW_draw hTt hMix (id := 11) 14 false [0, 0, 3, 7, 0, 31, 63, 0, 0, 384, 896, 0, 3968, 8064, 16383] (by kernel_rfl) rfl rfl (by kernel_rfl) ?_ | fail); conv => whnf) | (exact absurd hb (by omega)) | ((first | with_reducible refine Exists.intro _ (And.intro (gd_any (And.intro (by omega) (tab_some hx))) ?_) | with_reducible refine Exists.intro _ (And.intro (gd_any (And.intro (by omega) (tab_some hy))) ?_) | with_reducible refine Exists.intro _ (And.intro (gd_any (And.intro (by omega) (bool_some hp))) ?_) | with_reducible refine Exists.intro _ (And.intro (gd_any (And.intro (by omega) (bool_some hq))) ?_) | fail); conv => whnf) | (refine AW_cond rfl (fun hb => ?_) (fun hb => ?_) <;> first | (replace hb := of_decide_eq_true hb; try simp only [List.length_map] at hb) | (replace hb := of_decide_eq_false hb; try simp only [List.length_map] at hb) | (simp only [List.length_map, bne_iff_ne, ne_eq, beq_iff_eq, bne_eq_false_iff_eq, beq_eq_false_iff_ne, decide_eq_true_eq, decide_eq_false_iff_not, Bool.not_eq_true', Bool.not_eq_false', Int.natCast_inj] at hb)) | ((refine andA ?_); conv => whnf) | (refine fun hln => ?_; (try rw [List.length_map] at hln); unfold maxLen at hln; conv => whnf) | fail
            rfl
        · have hxy : x = y := by
            have h1 := List.take_of_length_le (l := x) (i := k) (by omega)
            have h2 := List.take_of_length_le (l := y) (i := k) (by omega)
            rw [← h1, ← h2, hkt]
          repeat' first | with_reducible refine AW_seq ?_ | with_reducible refine AW_block ?_ | ((first | with_reducible refine AW_skip ?_ | with_reducible refine AW_exit ?_ | with_reducible refine AW_region hTt ?_ | refine AW_draw hTt hMix (id := 11) 14 false [0, 0, 3, 7, 0, 31, 63, 0, 0, 384, 896, 0, 3968, 8064, 16383] (by kernel_rfl) rfl rfl (by kernel_rfl) ?_ | fail); conv => whnf) | (exact absurd hb (by omega)) | ((with_reducible refine Exists.intro _ (And.intro (gd_any (And.intro (by omega) (tab_some hx))) ?_)); conv => whnf) | (refine AW_cond rfl (fun hb => ?_) (fun hb => ?_) <;> first | (replace hb := of_decide_eq_true hb; try simp only [List.length_map] at hb) | (replace hb := of_decide_eq_false hb; try simp only [List.length_map] at hb)) | ((first | refine ⟨_, wrap_of (by first | omega | (simp only [List.length_map]; omega)), ?_⟩ | refine andA ?_ | fail); conv => whnf) | (refine fun hln => ?_; (try rw [List.length_map] at hln); unfold maxLen at hln; conv => whnf) | fail
          exact ⟨i + 1, ⟨hil, hst hxy⟩, by omega, impA⟩
      · rw [hfin fun h => hxl (by rw [h])]
        repeat' first | with_reducible refine AW_seq ?_ | with_reducible refine AW_block ?_ | ((first | with_reducible refine AW_skip ?_ | with_reducible refine AW_exit ?_ | with_reducible refine AW_ret ?_ | with_reducible refine AW_region hTt ?_ | refine AW_draw hTt hMix (id := 6) 10 false [0, 0, 3, 7, 15, 0, 0, 96, 224, 480, 1023] (by kernel_rfl) rfl rfl (by kernel_rfl) ?_ | fail); conv => whnf) | (exact absurd hb (by omega)) | ((first | with_reducible refine Exists.intro _ (And.intro (gd_any (And.intro (by omega) (tab_some hx))) ?_) | with_reducible refine Exists.intro _ (And.intro (gd_any (And.intro (by omega) (tab_some hy))) ?_) | fail); conv => whnf) | (refine AW_cond rfl (fun hb => ?_) (fun hb => ?_) <;> first | (replace hb := of_decide_eq_true hb; try simp only [List.length_map] at hb) | (replace hb := of_decide_eq_false hb; try simp only [List.length_map] at hb) | (simp only [List.length_map, bne_iff_ne, ne_eq, beq_iff_eq, bne_eq_false_iff_eq, beq_eq_false_iff_ne, decide_eq_true_eq, decide_eq_false_iff_not, Bool.not_eq_true', Bool.not_eq_false', Int.natCast_inj] at hb)) | ((refine andA ?_); conv => whnf) | (refine fun hln => ?_; (try rw [List.length_map] at hln); unfold maxLen at hln; conv => whnf) | fail
        rfl
    · repeat' first | with_reducible refine AW_seq ?_ | with_reducible refine AW_block ?_ | ((first | with_reducible refine AW_skip ?_ | with_reducible refine AW_exit ?_ | with_reducible refine AW_ret ?_ | with_reducible refine AW_region hTt ?_ | refine AW_draw hTt hMix (id := 6) 10 false [0, 0, 3, 7, 15, 0, 0, 96, 224, 480, 1023] (by kernel_rfl) rfl rfl (by kernel_rfl) ?_ | fail); conv => whnf) | (exact absurd hb (by omega)) | (refine AW_cond rfl (fun hb => ?_) (fun hb => ?_) <;> first | (replace hb := of_decide_eq_true hb; try simp only [List.length_map] at hb) | (replace hb := of_decide_eq_false hb; try simp only [List.length_map] at hb)) | (refine fun hln => ?_; (try rw [List.length_map] at hln); unfold maxLen at hln; conv => whnf) | fail
      rw [show decide (a = b) = true from decide_eq_true (by
        have h1 := List.take_of_length_le (l := a) (i := i) (by omega)
        have h2 := List.take_of_length_le (l := b) (i := i) (by omega)
        rw [← h1, ← h2, htk])]
      rfl
  · rw [show decide (a = b) = false from decide_eq_false fun h => hl (by rw [h])]
    repeat' first | with_reducible refine AW_seq ?_ | with_reducible refine AW_block ?_ | ((first | with_reducible refine AW_skip ?_ | with_reducible refine AW_ret ?_ | with_reducible refine AW_region hTt ?_ | fail); conv => whnf) | (exact absurd hb (by omega)) | (refine AW_cond rfl (fun hb => ?_) (fun hb => ?_) <;> first | (replace hb := of_decide_eq_true hb; try simp only [List.length_map] at hb) | (replace hb := of_decide_eq_false hb; try simp only [List.length_map] at hb) | (simp only [List.length_map, bne_iff_ne, ne_eq, beq_iff_eq, bne_eq_false_iff_eq, beq_eq_false_iff_ne, decide_eq_true_eq, decide_eq_false_iff_not, Bool.not_eq_true', Bool.not_eq_false', Int.natCast_inj] at hb)) | (refine fun hln => ?_; (try rw [List.length_map] at hln); unfold maxLen at hln; conv => whnf) | fail
    rfl
end Go.Proofs.YtfghooojingdhaaDoor
namespace Go.Proofs.YtfghooojingdhaaDoor
open Go Go.QL
set_option maxHeartbeats 1600000
attribute [local irreducible] ACall FnC
structure Ent where
  p : Int × Int
  bef : Int × Int
  inp : Int
  path : List Int
def ent0 : Ent := ⟨(0, 0), (0, 0), 0, []⟩
abbrev StepT := Int × Int → Int → (Int × Int) × Bool
def seenE (E : List Ent) (q : Int × Int) : Bool := E.any fun e => e.p == q
def bfs (step : StepT) (N : Nat) : Nat → List Ent → Nat → Nat → Option (List Int)
  | 0, _, _, _ => none
  | f + 1, E, i, x =>
    if i < E.length then
      if x < N then
        if (step (E.getD i ent0).p x).2 = true then some ((E.getD i ent0).path ++ [(x : Int)])
        else if seenE E (step (E.getD i ent0).p x).1 = true then bfs step N f E i (x + 1)
        else bfs step N f (E ++ [⟨(step (E.getD i ent0).p x).1, (E.getD i ent0).p, x, (E.getD i ent0).path ++ [(x : Int)]⟩]) i (x + 1)
      else bfs step N f E (i + 1) 0
    else none
def fuel0 : Nat := 67000
def bound (i x : Nat) : Nat := (1025 - i) * 65 - x
def srch (step : StepT) (N : Nat) : Option (List Int) := bfs step N fuel0 [ent0] 0 0
def code (p : Int × Int) : Nat := p.1.toNat * 32 + p.2.toNat
def InR (p : Int × Int) : Prop := (0 ≤ p.1 ∧ p.1 < 32) ∧ (0 ≤ p.2 ∧ p.2 < 32)
theorem code_lt {p : Int × Int} (h : InR p) : code p < 1024 := by
  obtain ⟨⟨a, b⟩, c, d⟩ := h
  unfold code; omega
theorem code_inj {p q : Int × Int} (h : InR p) (k : InR q) (e : code p = code q) : p = q := by
  obtain ⟨⟨a, b⟩, c, d⟩ := h
  obtain ⟨⟨a', b'⟩, c', d'⟩ := k
  unfold code at e
  obtain ⟨x, y⟩ := p
  obtain ⟨x', y'⟩ := q
  dsimp only at *
  have : x = x' := by omega
  have : y = y' := by omega
  subst_vars; rfl
theorem left_all (m : Nat) : left [] m = m := by
  induction m with
  | zero => rfl
  | succ m ih => unfold left; rw [ih]; simp
structure SInv (N : Nat) (E : List Ent) : Prop where
  h0 : E[0]? = some ent0
  inj : ∀ (i j : Nat) (a b : Ent), E[i]? = some a → E[j]? = some b → a.p = b.p → i = j
  rng : ∀ e ∈ E, InR e.p
  par : ∀ (j : Nat) (e : Ent), 0 < j → E[j]? = some e → ∃ (j' : Nat) (e' : Ent), j' < j ∧ E[j']? = some e' ∧ e.bef = e'.p ∧ e.path = e'.path ++ [e.inp]
  len : E.length + left (E.map fun e => code e.p) 1024 ≤ 1024
  pth : ∀ (j : Nat) (e : Ent), E[j]? = some e → e.path.length ≤ j ∧ ∀ y ∈ e.path, 0 ≤ y ∧ y < N
theorem SInv.pos {N : Nat} {E : List Ent} (h : SInv N E) : 0 < E.length := (List.getElem?_eq_some_iff.1 h.h0).1
theorem SInv.le {N : Nat} {E : List Ent} (h : SInv N E) : E.length ≤ 1024 := by have := h.len; omega
theorem SInv.init (N : Nat) : SInv N [ent0] where
  h0 := rfl
  inj := fun i j a b h1 h2 _ => by
    have := (List.getElem?_eq_some_iff.1 h1).1
    have := (List.getElem?_eq_some_iff.1 h2).1
    simp at *; omega
  rng := fun e he => by
    rw [List.mem_singleton] at he; subst he
    exact ⟨⟨by decide, by decide⟩, by decide, by decide⟩
  par := fun j e hj h => by
    have := (List.getElem?_eq_some_iff.1 h).1
    simp at this; omega
  len := by
    have := left_lt [] (code ent0.p) 1024 (by decide) (by simp)
    rw [left_all] at this
    simp only [List.nil_append] at this
    simp only [List.map_cons, List.map_nil, List.length_singleton]
    omega
  pth := fun j e h => by
    have := (List.getElem?_eq_some_iff.1 h).1
    have hj : j = 0 := by simpa using this
    subst hj; cases h
    exact ⟨Nat.le_refl _, fun y hy => by cases hy⟩
theorem seen_no {E : List Ent} {q : Int × Int} (h : seenE E q = false) : ∀ e ∈ E, e.p ≠ q := by
  intro e he hq
  unfold seenE at h
  rw [List.any_eq_false] at h
  exact h e he (by simp [hq])
theorem seen_yes {E : List Ent} {q : Int × Int} (h : seenE E q = true) : ∃ (i : Nat) (e : Ent), E[i]? = some e ∧ e.p = q := by
  unfold seenE at h
  rw [List.any_eq_true] at h
  obtain ⟨e, he, hq⟩ := h
  obtain ⟨i, hi, rfl⟩ := List.getElem_of_mem he
  exact ⟨i, _, List.getElem?_eq_getElem hi, by simpa using hq⟩
theorem SInv.step {N : Nat} {E : List Ent} (h : SInv N E) {i x : Nat} {e : Ent} (hi : E[i]? = some e) (hx : x < N) {q : Int × Int} (hq : InR q) (hs : seenE E q = false) :
    SInv N (E ++ [⟨q, e.p, x, e.path ++ [(x : Int)]⟩]) := by
  have hil := (List.getElem?_eq_some_iff.1 hi).1
  have hne := seen_no hs
  have get : ∀ (j : Nat) (a : Ent), (E ++ [⟨q, e.p, x, e.path ++ [(x : Int)]⟩])[j]? = some a → (E[j]? = some a ∧ j < E.length) ∨ (j = E.length ∧ a = ⟨q, e.p, x, e.path ++ [(x : Int)]⟩) := by
    intro j a ha
    by_cases hj : j < E.length
    · rw [List.getElem?_append_left hj] at ha; exact .inl ⟨ha, hj⟩
    · rw [List.getElem?_append_right (by omega)] at ha
      have := (List.getElem?_eq_some_iff.1 ha).1
      have hj0 : j - E.length = 0 := by simpa using this
      rw [hj0] at ha; cases ha
      exact .inr ⟨by omega, rfl⟩
  refine ⟨?_, ?_, ?_, ?_, ?_, ?_⟩
  · rw [List.getElem?_append_left h.pos]; exact h.h0
  · intro a b ea eb ha hb hp
    rcases get a ea ha with ⟨ha, la⟩ | ⟨ha, rfl⟩ <;> rcases get b eb hb with ⟨hb, lb⟩ | ⟨hb, rfl⟩
    · exact h.inj a b ea eb ha hb hp
    · exact absurd hp (hne ea (List.mem_of_getElem? ha))
    · exact absurd hp.symm (hne eb (List.mem_of_getElem? hb))
    · omega
  · intro a ha
    rw [List.mem_append, List.mem_singleton] at ha
    rcases ha with ha | rfl
    · exact h.rng a ha
    · exact hq
  · intro j a hj ha
    rcases get j a ha with ⟨ha, la⟩ | ⟨rfl, rfl⟩
    · obtain ⟨j', e', h1, h2, h3⟩ := h.par j a hj ha
      exact ⟨j', e', h1, by rw [List.getElem?_append_left (by omega)]; exact h2, h3⟩
    · exact ⟨i, e, hil, by rw [List.getElem?_append_left hil]; exact hi, rfl, rfl⟩
  · have hc : code q ∉ E.map fun e => code e.p := by
      intro hm
      rw [List.mem_map] at hm
      obtain ⟨a, ha, hc⟩ := hm
      exact hne a ha (code_inj (h.rng a ha) hq hc)
    have hl := h.len
    have e2 : (E ++ [(⟨q, e.p, x, e.path ++ [(x : Int)]⟩ : Ent)]).map (fun e : Ent => code e.p) = E.map (fun e : Ent => code e.p) ++ [code q] := by rw [List.map_append]; rfl
    rw [e2, List.length_append, List.length_singleton]
    generalize E.map (fun e : Ent => code e.p) = S at hc hl ⊢
    have h2 := code_lt hq
    generalize code q = c at hc h2 ⊢
    have := left_lt S c 1024 h2 hc
    omega
  · intro j a ha
    rcases get j a ha with ⟨ha, la⟩ | ⟨rfl, rfl⟩
    · exact h.pth j a ha
    · obtain ⟨hl, hy⟩ := h.pth i e hi
      refine ⟨by simp; omega, fun y hm => ?_⟩
      simp only [List.mem_append, List.mem_singleton] at hm
      rcases hm with hm | rfl
      · exact hy y hm
      · omega
theorem bfs_ins {step : StepT} (hst : ∀ p x, InR (step p x).1) {N : Nat} : ∀ (f : Nat) (E : List Ent) (i x : Nat), SInv N E → ∀ l, bfs step N f E i x = some l → 0 < l.length ∧ l.length ≤ 1024 ∧ ∀ y ∈ l, 0 ≤ y ∧ y < N := by
  intro f
  induction f with
  | zero => intro E i x _ l h; cases h
  | succ f ih =>
    intro E i x hE l h
    unfold bfs at h
    split at h
    · rename_i hi
      split at h
      · rename_i hx
        have he? : E[i]? = some (E.getD i ent0) := by rw [List.getD_eq_getElem?_getD, List.getElem?_eq_getElem hi]; rfl
        split at h
        · cases h
          obtain ⟨h1, h2⟩ := hE.pth i _ he?
          have := hE.le
          refine ⟨by simp, by rw [List.length_append, List.length_singleton]; omega, fun y hy => ?_⟩
          simp only [List.mem_append, List.mem_singleton] at hy
          rcases hy with hy | rfl
          · exact h2 y hy
          · omega
        · split at h
          · exact ih _ _ _ hE l h
          · rename_i hs
            exact ih _ _ _ (hE.step he? hx (hst _ _) (by simpa using hs)) l h
      · exact ih _ _ _ hE l h
    · cases h
def stepS (a : NetT) (f : FaultT) (b : NetT) (g : FaultT) : StepT := fun p x =>
  (((beatR a f p.1 x).1, (beatR b g p.2 x).1), (beatR a f p.1 x).2 != (beatR b g p.2 x).2)
theorem stepS_in {a b : NetT} (oka : NetOK a) (okb : NetOK b) {f g : FaultT} (hf : FltOK f) (hg : FltOK g) (p : Int × Int) (x : Int) : InR (stepS a f b g p x).1 := by
  have h1 := beatR_st oka hf p.1 x
  have h2 := beatR_st okb hg p.2 x
  have p1 := pow32 oka.hd
  have p2 := pow32 okb.hd
  exact ⟨⟨h1.1, by show (beatR a f p.1 x).1 < 32; omega⟩, h2.1, by show (beatR b g p.2 x).1 < 32; omega⟩
def srchE (r : Option (List Int)) : AV := match r with
  | some l => outE (l, 0)
  | none => outE ([], 9)
end Go.Proofs.YtfghooojingdhaaDoor
namespace Go.Proofs.YtfghooojingdhaaDoor
open Go Go.QL
set_option maxHeartbeats 1600000
attribute [local irreducible] ACall FnC
structure SSt (Q : Type) where
  E : List Ent
  i : Nat
  x : Nat
  st : Nat
  f : Nat
  lv : (Int × Int) × Int
  q : Q
def pV (p : Int × Int) : Value := .agg #[.int .i64 p.1, .int .i64 p.2]
def fromAV (p : Int × Int) (x : Int) : AV := .a [.d (.v (.int .i64 p.1)), .d (.v (.int .i64 p.2)), .d (.v (.int .i64 x))]
def kvE (E : List Ent) : List (Value × AV) := E.map fun e => (pV e.p, fromAV e.bef e.inp)
def ePV (e : Ent) : List PV := [.v (.int .i64 e.p.1), .v (.int .i64 e.p.2)]
abbrev mapE (E : List Ent) : Ob := .x (.map (.st [.int .i64, .int .i64]) (kvE E))
theorem kvE_get {E : List Ent} {i : Nat} {e : Ent} (h : E[i]? = some e) : (kvE E)[i]? = some (pV e.p, fromAV e.bef e.inp) := by
  unfold kvE; rw [List.getElem?_map, h]; rfl
theorem kvE_app (E : List Ent) (e : Ent) : kvE (E ++ [e]) = kvE E ++ [(pV e.p, fromAV e.bef e.inp)] := by unfold kvE; rw [List.map_append]; rfl
theorem pV_inj {p q : Int × Int} (h : pV p = pV q) : p = q := by
  unfold pV at h
  injection h with h
  have h1 := congrArg Array.toList h
  simp at h1
  exact Prod.ext h1.1 h1.2
theorem kvE_no {E : List Ent} {q : Int × Int} (h : seenE E q = false) (i : Nat) (y : AV) : (kvE E)[i]? ≠ some (pV q, y) := by
  intro hc
  unfold kvE at hc
  rw [List.getElem?_map] at hc
  cases he : E[i]? with
  | none => rw [he] at hc; cases hc
  | some e =>
    rw [he] at hc
    have h1 : pV e.p = pV q := by injection hc with hc; injection hc
    exact seen_no h e (List.mem_of_getElem? he) (pV_inj h1)
theorem e_some {E : List Ent} {i : Nat} {e : Ent} (h : E[i]? = some e) : (E.map ePV)[((i : Int)).toNat]? = some [.v (.int .i64 e.p.1), .v (.int .i64 e.p.2)] := by simp [h, ePV]
theorem e_some0 {E : List Ent} {e : Ent} (h : E[0]? = some e) : (E.map ePV)[(0 : Int).toNat]? = some [.v (.int .i64 e.p.1), .v (.int .i64 e.p.2)] := by simp [h, ePV]
theorem shl_N (k : Int) (h0 : 0 ≤ k) (h1 : k ≤ 32) : IntKind.i64.wrap (1 * 2 ^ (min k.toNat IntKind.i64.bits)) = ((2 ^ k.toNat : Nat) : Int) := by
  rw [shl_one k h0 h1]; exact (Int.natCast_pow 2 _).symm
theorem N_le {n : NetT} (h6 : n.inn ≤ 6) : 2 ^ n.inn.toNat ≤ 64 := by
  have : n.inn.toNat ≤ 6 := by omega
  exact Nat.pow_le_pow_right (n := 2) (by decide) this
theorem ne_eqL {p : Int × Int} (h : p ≠ (0, 0)) : (!eqL [.int .i64 p.1, .int .i64 p.2] [.int .i64 0, .int .i64 0]) = true := by
  obtain ⟨a, b⟩ := p
  simp only [eqL, eqV, Bool.and_true, Bool.not_eq_true', Bool.and_eq_false_iff]
  by_cases ha : a = 0
  · right
    have : b ≠ 0 := fun hb => h (by rw [ha, hb])
    simpa using this
  · left; simpa using ha
theorem mpE {E E' : List Ent} (h : E = E') : some (mapE E) = some (mapE E') := by rw [h]
abbrev BQ := Nat × Nat × List W16
abbrev sgS (n : NetT) (s1 : Nat) (sk : List (W16 × W16)) (s2 : Nat) (q : BQ) : Sg := (910, .box [.b 900 0]) :: sB n s1 sk s2 (dl0 n) q.1 q.2.1 q.2.2
theorem show_cl {n : NetT} (ok : NetOK n) {s1 : Nat} {sk : List (W16 × W16)} (hsk : sk.length = n.inn.toNat + n.gates.length) {s2 : Nat} {f : FaultT} (h0 : SkLane sk 0 fine) (h1 : SkLane sk 1 f) (hf : FltOK f) (q : BQ) (p : Int × Int) (x : Int) :
    ACall Tryd.prog 69 [pairAV p, iv .i64 x, .x (.b 910 0)] (sgS n s1 sk s2 q)
      (fun r σ' => ∃ q' : BQ, r = .t [pairAV (stepS n fine n f p x).1, bv (stepS n fine n f p x).2] ∧ σ' = sgS n s1 sk s2 q') := by
  refine (showc_fn ok hsk (s1 := s1) (s2 := s2) (s3 := q.1) (k := q.2.1) (nw := q.2.2) p x).mono ?_
  rintro r σ' ⟨s3', rfl, rfl⟩
  refine ⟨(s3', _, _), ?_, rfl⟩
  have a := lane_beat ok hsk h0 fine_ok (by decide) [p.1, p.2] (by simp) (by simp) x
  have b := lane_beat ok hsk h1 hf (by decide) [p.1, p.2] (by simp) (by simp) x
  have e : showS n sk p x = stepS n fine n f p x := by
    unfold showS stepS sigS
    rw [a.1, a.2, b.1, b.2]; rfl
  rw [e]
abbrev BQ2 := Nat × Nat × List W16 × Nat × Nat × List W16
abbrev sgD (a b : NetT) (s2 t2 : Nat) (q : BQ2) : Sg := sAB a b s2 q.1 q.2.1 q.2.2.1 t2 q.2.2.2.1 q.2.2.2.2.1 q.2.2.2.2.2
theorem diff_cl {a b : NetT} (oka : NetOK a) (okb : NetOK b) {s2 t2 : Nat} (q : BQ2) (p : Int × Int) (x : Int) :
    ACall Tryd.prog 65 [pairAV p, iv .i64 x, .x (.b 910 0), .x (.b 911 0)] (sgD a b s2 t2 q)
      (fun r σ' => ∃ q' : BQ2, r = .t [pairAV (stepS a fine b fine p x).1, bv (stepS a fine b fine p x).2] ∧ σ' = sgD a b s2 t2 q') := by
  refine (diffc_fn oka okb (s2 := s2) (s3 := q.1) (k := q.2.1) (nw := q.2.2.1) (t2 := t2) (t3 := q.2.2.2.1) (l := q.2.2.2.2.1) (mw := q.2.2.2.2.2) p x).mono ?_
  rintro r σ' ⟨s3', t3', rfl, rfl⟩
  refine ⟨(s3', _, _, t3', _, _), ?_, rfl⟩
  have h := lane_beat oka (sk0_len a) (sk0_lane a 0) fine_ok (by decide) [p.1] (by simp) (by simp) x
  have k := lane_beat okb (sk0_len b) (sk0_lane b 0) fine_ok (by decide) [p.2] (by simp) (by simp) x
  have e : diffS a b p x = stepS a fine b fine p x := by
    unfold diffS stepS sig0
    rw [h.1, h.2, k.1, k.2]; rfl
  rw [e]
end Go.Proofs.YtfghooojingdhaaDoor
namespace Go.Proofs.YtfghooojingdhaaDoor
open Go Go.QL
set_option maxHeartbeats 3200000
attribute [local irreducible] ACall FnC
theorem search_show0 {n : NetT} (ok : NetOK n) {s1 : Nat} {sk : List (W16 × W16)} (hsk : sk.length = n.inn.toNat + n.gates.length) {s2 : Nat} {f : FaultT} (h0 : SkLane sk 0 fine) (h1 : SkLane sk 1 f) (hf : FltOK f) (q0 : BQ) :
    ACall Tryd.prog 64 [iv .i64 n.inn, .x (.f (.func 69) [] [.b 910 0])] (sgS n s1 sk s2 (q0))
      (fun r σ' => ∃ q : BQ, LeAV r (srchE (srch (stepS n fine n f) (2 ^ n.inn.toNat))) ∧ σ' = sgS n s1 sk s2 (q)) := by
  have hn1 := ok.h1; have hn6 := ok.h6
  have hN6 := N_le hn6
  obtain ⟨N, hN⟩ : ∃ N : Nat, (2 ^ n.inn.toNat) = N := ⟨_, rfl⟩
  have hshl := shl_N n.inn (by omega) (by omega)
  rw [hN] at hN6 hshl ⊢
  refine ACall_of_AWD hTt Tryd.func64 rfl (by kernel_rfl) (res := [.tmp 4, .tmp 5]) rfl Tryd.ntmps64 (by simp) fun w0 K0 B => ?_
  dsimp only [entry]
  repeat' first | with_reducible refine AW_seq ?_ | with_reducible refine AW_block ?_ | with_reducible refine AW_scope ?_ | ((first | with_reducible refine AW_label ?_ | with_reducible refine AW_region hTt ?_ | refine ⟨kvE [ent0], .inr ⟨fun i y => by simp, rfl⟩, ?_⟩ | refine andA ?_ | fail); conv => whnf) | fail
  refine AW_loop (fun s : SSt BQ => [(10, iv .i64 s.i), (9, bv false), (8, .x (.b 8 0)), (7, .x (.o 23 s.st s.E.length)), (6, .x (.h 18)), (0, iv .i64 n.inn), (1, .x (.f (.func 69) [] [.b 910 0]))])
    (fun s => (8, .box [.d (.v (.int .i64 s.lv.1.1)), .d (.v (.int .i64 s.lv.1.2)), .d (.v (.int .i64 s.lv.2))]) :: (23, .chain 100 2 s.st (s.E.map ePV)) :: (18, mapE s.E) :: sgS n s1 sk s2 (s.q))
    (fun s => s.x = 0 ∧ s.i ≤ s.E.length ∧ SInv N s.E ∧ bound s.i 0 ≤ s.f ∧ srch (stepS n fine n f) N = bfs (stepS n fine n f) N s.f s.E s.i 0) (fun s => 1025 - s.i) ⟨[ent0], 0, 0, 0, fuel0, ((0, 0), 0), q0⟩
    ⟨rfl, Nat.zero_le _, SInv.init _, by show bound 0 0 ≤ fuel0; decide, rfl⟩ impA ?_
  rintro ⟨E, i, x, st, f0, lv, q⟩ ⟨hx0, hi, hE, hbd, hsr⟩
  dsimp only at hx0 hi hE hbd hsr ⊢
  subst hx0
  have hle := hE.le
  rcases Nat.lt_or_ge i E.length with hil | hil
  · repeat' first | with_reducible refine AW_seq ?_ | with_reducible refine AW_block ?_ | ((first | with_reducible refine AW_skip ?_ | with_reducible refine AW_exit ?_ | with_reducible refine AW_region hTt ?_ | fail); conv => whnf) | (exact absurd hb (by omega)) | ((refine ⟨_, hshl, ?_⟩); conv => whnf) | (refine AW_cond rfl (fun hb => ?_) (fun hb => ?_) <;> first | (replace hb := of_decide_eq_true hb; try simp only [List.length_map] at hb) | (replace hb := of_decide_eq_false hb; try simp only [List.length_map] at hb)) | ((refine andA ?_); conv => whnf) | (refine fun hln => ?_; (try rw [List.length_map] at hln); unfold maxLen at hln; conv => whnf) | fail
    refine AW_loop (fun s : SSt BQ => [(32, iv .i64 s.x), (31, iv .i64 N), (10, iv .i64 i), (9, bv false), (8, .x (.b 8 0)), (7, .x (.o 23 s.st s.E.length)), (6, .x (.h 18)), (0, iv .i64 n.inn), (1, .x (.f (.func 69) [] [.b 910 0]))])
      (fun s => (8, .box [.d (.v (.int .i64 s.lv.1.1)), .d (.v (.int .i64 s.lv.1.2)), .d (.v (.int .i64 s.lv.2))]) :: (23, .chain 100 2 s.st (s.E.map ePV)) :: (18, mapE s.E) :: sgS n s1 sk s2 (s.q))
      (fun s => s.i = i ∧ i < s.E.length ∧ s.x ≤ N ∧ SInv N s.E ∧ bound i s.x ≤ s.f ∧ srch (stepS n fine n f) N = bfs (stepS n fine n f) N s.f s.E i s.x) (fun s => N - s.x) ⟨E, i, 0, st, f0, lv, q⟩
      ⟨rfl, hil, Nat.zero_le _, hE, hbd, hsr⟩ impA ?_
    clear hsr hbd hE hle hi hil
    rintro ⟨E, i', x, st, f0, lv, q⟩ ⟨hii, hil, hx, hE, hbd, hsr⟩
    dsimp only at hii hil hx hE hbd hsr ⊢
    subst hii
    have hle := hE.le
    obtain ⟨f1, rfl⟩ : ∃ f1, f0 = f1 + 1 := ⟨f0 - 1, by unfold bound at hbd; omega⟩
    rcases Nat.lt_or_ge x N with hxN | hxN
    · obtain ⟨e, he⟩ : ∃ e, E[i']? = some e := ⟨_, List.getElem?_eq_getElem hil⟩
      have heD : E.getD i' ent0 = e := by rw [List.getD_eq_getElem?_getD, he]; rfl
      rw [bfs, if_pos hil, if_pos hxN, heD] at hsr
      have hcl := show_cl ok hsk (s1 := s1) (s2 := s2) h0 h1 hf q e.p x
      have hin := stepS_in ok ok fine_ok hf e.p x
      generalize hst : stepS n fine n f e.p x = sx at hsr hcl hin
      obtain ⟨nx, df⟩ := sx
      dsimp only at hsr hcl hin
      cases df with
      | true =>
        rw [if_pos rfl] at hsr
        rw [hsr]
        repeat' first | with_reducible refine AW_seq ?_ | with_reducible refine AW_block ?_ | ((first | with_reducible refine AW_skip ?_ | with_reducible refine AW_exit ?_ | with_reducible refine AW_region hTt ?_ | fail); conv => whnf) | (exact absurd hb (by omega)) | ((first | refine ⟨_, gd_any (e_some he), ⟨Nat.le_of_ble_eq_true rfl, rfl⟩, ?_⟩ | ((refine ⟨_, (hcl).frame (asc []) (by repeat (first | exact trivial | refine ⟨rfl, ?_⟩)) rfl (by rintro _ _ ⟨_, rfl, rfl⟩; rfl), ?_⟩); (rintro _ _ ⟨_, _, ⟨_, rfl, rfl⟩, rfl, rfl⟩)) | fail); conv => whnf) | (refine AW_cond rfl (fun _ => ?_) (fun hb => absurd hb (by decide))) | (refine AW_cond rfl (fun hb => absurd hb (by decide)) (fun _ => ?_)) | (refine AW_cond rfl (fun hb => ?_) (fun hb => ?_) <;> first | (replace hb := of_decide_eq_true hb; try simp only [List.length_map] at hb) | (replace hb := of_decide_eq_false hb; try simp only [List.length_map] at hb)) | ((first | refine andA ?_ | with_reducible refine And.intro (gd_any (And.intro (by omega) (And.intro (by first | omega | (simp only [List.length_map]; omega)) (by first | omega | (simp only [List.length_map]; omega) | (simp only [List.length_set, List.length_map]; omega))))) ?_ | fail); conv => whnf) | fail
        rename_i q' _ _
        have hpl := hE.pth i' e he
        refine AW_loop (fun s : Ent × Nat × List Int × Nat => [(16, .x (.o 72 s.2.2.2 s.2.2.1.length)), (6, .x (.h 18)), (17, .x (.b 17 0)), (7, .x (.o 23 st E.length))])
          (fun s => (72, .chain 3 1 s.2.2.2 (s.2.2.1.map iPV)) :: (17, .box [.d (.v (.int .i64 s.1.p.1)), .d (.v (.int .i64 s.1.p.2))]) :: (23, .chain 100 2 st (E.map ePV)) :: (18, mapE E) :: sgS n s1 sk s2 (q'))
          (fun s => E[s.2.1]? = some s.1 ∧ s.2.2.1 ++ s.1.path.reverse = (e.path ++ [(x : Int)]).reverse) (fun s => s.2.1) (e, i', [(x : Int)], 0) ⟨he, by simp⟩ impA ?_
        rintro ⟨⟨c, cb, ci, cp⟩, j, l, sl'⟩ ⟨hj, hl⟩
        dsimp only at hj hl ⊢
        have hcp := (hE.pth j _ hj).1
        have hll : l.length ≤ 1025 := by
          have := congrArg List.length hl
          simp only [List.length_append, List.length_reverse, List.length_singleton] at this
          omega
        rcases Nat.eq_zero_or_pos j with hj0 | hj0
        · subst hj0
          have hc0 := hE.h0
          rw [hj] at hc0
          injection hc0 with hc0
          have e1 : c = (0, 0) := congrArg Ent.p hc0
          have e2 : cp = [] := congrArg Ent.path hc0
          subst e1; subst e2
          clear hc0
          dsimp only
          repeat' first | with_reducible refine AW_seq ?_ | ((first | with_reducible refine AW_exit ?_ | with_reducible refine AW_region hTt ?_ | refine AW_draw hTt hMix (id := 24) 4 false [0, 0, 2, 6, 15] (by kernel_rfl) rfl rfl (by kernel_rfl) ?_ | refine ⟨_, gd_none (e_some0 hE.h0), ⟨Nat.le_of_ble_eq_true rfl, rfl⟩, ?_⟩ | fail); conv => whnf) | (refine AW_cond rfl (fun hb => absurd hb (by decide)) (fun _ => ?_)) | ((first | refine andA ?_ | with_reducible refine And.intro (gd_any (And.intro (by omega) (And.intro (by first | omega | (simp only [List.length_map]; omega)) (by first | omega | (simp only [List.length_map]; omega) | (simp only [List.length_set, List.length_map]; omega))))) ?_ | fail); conv => whnf) | fail
          have e3 : l = (e.path ++ [(x : Int)]).reverse := by simpa using hl
          have hrev := reverse_fn l sl' (by omega)
          repeat' first | with_reducible refine AW_seq ?_ | ((first | with_reducible refine AW_ret ?_ | with_reducible refine AW_region hTt ?_ | ((refine ⟨_, (hrev).frame (asc [(700, 72)]) (by repeat (first | exact trivial | refine ⟨rfl, ?_⟩)) rfl (by rintro _ _ ⟨rfl, rfl⟩; rfl), ?_⟩); (rintro _ _ ⟨_, _, ⟨rfl, rfl⟩, rfl, rfl⟩)) | fail); conv => whnf) | fail
          have e4 : l.reverse = e.path ++ [(x : Int)] := by rw [e3, List.reverse_reverse]
          refine ⟨_, sgS n s1 sk s2 (q'), ⟨rfl, rfl, rfl, rfl, rfl, trivial⟩, rfl, (?_ : _ = some (AV.t [sl (e.path ++ [(x : Int)]), iv .i64 0])), q', ?_, rfl⟩
          · rw [← e4]
            exact outKeep2 (x := .x (.o 72 sl' _)) (y := iv .i64 0) rfl (keepO (xs := l.reverse.map iPV) rfl rfl (by simp)) rfl
          · exact LeAV.refl _
        · have hne : c ≠ (0, 0) := by
            intro h0
            have := hE.inj j 0 _ ent0 hj hE.h0 h0
            omega
          have hnq := ne_eqL hne
          obtain ⟨j', e', hjj, hj', hb1, hb2⟩ := hE.par j _ hj0 hj
          dsimp only at hb1 hb2
          repeat' first | ((refine AW_imp (fr' := [(16, .x (.o 72 (sl' + 1) (l.length + 1))), (6, .x (.h 18)), (7, .x (.o 23 st E.length)), (91, .a [.d (.v (.int .i64 c.1)), .d (.v (.int .i64 c.2))])]) (σ' := (72, .chain 3 1 (sl' + 1) ((l ++ [ci]).map iPV)) :: (23, .chain 100 2 st (E.map ePV)) :: (18, mapE E) :: sgS n s1 sk s2 (q')) (Imp.forget (by repeat' (first | exact trivial | refine And.intro ?_ ?_ | exact chE (by rw [List.take_of_length_le (by simp), List.map_append]; try rfl) | rfl | exact ivE (by first | omega | (simp only [List.length_map, List.length_append, List.length_singleton] <;> omega)) | exact oE (by first | omega | (simp only [List.length_map, List.length_append, List.length_singleton] <;> omega)))) (by repeat' (first | exact trivial | refine And.intro ?_ ?_ | exact chE (by rw [List.take_of_length_le (by simp), List.map_append]; try rfl) | rfl | exact ivE (by first | omega | (simp only [List.length_map, List.length_append, List.length_singleton] <;> omega)) | exact oE (by first | omega | (simp only [List.length_map, List.length_append, List.length_singleton] <;> omega)))) (by kernel_rfl) (by kernel_rfl) (by kernel_rfl)) (AW_region (id := 28) hTt ?_)); conv => whnf) | with_reducible refine AW_seq ?_ | with_reducible refine AW_block ?_ | ((first | with_reducible refine AW_skip ?_ | with_reducible refine AW_region hTt ?_ | refine AW_draw hTt hMix (id := 24) 4 false [0, 0, 2, 6, 15] (by kernel_rfl) rfl rfl (by kernel_rfl) ?_ | refine ⟨_, gd_none (e_some0 hE.h0), ⟨Nat.le_of_ble_eq_true rfl, rfl⟩, ?_⟩ | fail); conv => whnf) | (refine AW_cond (b := true) (congrArg (fun z => some (none, bv z)) hnq) (fun _ => ?_) (fun hb => absurd hb (by decide))) | ((first | refine ⟨fromAV cb ci, true, .inl ⟨rfl, j, kvE_get hj⟩, rfl, ?_⟩ | refine andA ?_ | with_reducible refine And.intro (gd_any (And.intro (by omega) (And.intro (by first | omega | (simp only [List.length_map]; omega)) (by first | omega | (simp only [List.length_map]; omega) | (simp only [List.length_set, List.length_map]; omega))))) ?_ | fail); conv => whnf) | ((refine And.intro (by refine ⟨?_, ?_, ?_⟩ <;> simp [chunk, maxLen] <;> omega) ?_); conv => whnf) | fail
          subst hb1; subst hb2
          refine ⟨(e', j', l ++ [ci], sl' + 1), ⟨hj', ?_⟩, hjj, impA⟩
          rw [← hl]
          simp
      | false =>
        rw [if_neg (by decide)] at hsr
        by_cases hs : seenE E nx = true
        · rw [if_pos hs] at hsr
          obtain ⟨k, ek, hk, hkp⟩ := seen_yes hs
          subst hkp
          repeat' first | with_reducible refine AW_seq ?_ | with_reducible refine AW_block ?_ | ((first | with_reducible refine AW_skip ?_ | with_reducible refine AW_exit ?_ | with_reducible refine AW_region hTt ?_ | fail); conv => whnf) | (exact absurd hb (by omega)) | ((first | refine ⟨_, gd_any (e_some he), ⟨Nat.le_of_ble_eq_true rfl, rfl⟩, ?_⟩ | ((refine ⟨_, (hcl).frame (asc []) (by repeat (first | exact trivial | refine ⟨rfl, ?_⟩)) rfl (by rintro _ _ ⟨_, rfl, rfl⟩; rfl), ?_⟩); (rintro _ _ ⟨_, _, ⟨_, rfl, rfl⟩, rfl, rfl⟩)) | refine ⟨fromAV ek.bef ek.inp, true, .inl ⟨rfl, k, kvE_get hk⟩, rfl, ?_⟩ | fail); conv => whnf) | (refine AW_cond rfl (fun hb => absurd hb (by decide)) (fun _ => ?_)) | (refine AW_cond rfl (fun hb => ?_) (fun hb => ?_) <;> first | (replace hb := of_decide_eq_true hb; try simp only [List.length_map] at hb) | (replace hb := of_decide_eq_false hb; try simp only [List.length_map] at hb)) | ((first | refine ⟨_, wrap_of (by first | omega | (simp only [List.length_map]; omega)), ?_⟩ | refine andA ?_ | with_reducible refine And.intro (gd_any (And.intro (by omega) (And.intro (by first | omega | (simp only [List.length_map]; omega)) (by first | omega | (simp only [List.length_map]; omega) | (simp only [List.length_set, List.length_map]; omega))))) ?_ | fail); conv => whnf) | fail
          rename_i q' _ _
          exact ⟨⟨E, i', x + 1, st, f1, (e.p, x), q'⟩, ⟨rfl, hil, hxN, hE, by show bound i' (x + 1) ≤ f1; unfold bound at hbd ⊢; omega, hsr⟩, by show N - (x + 1) < N - x; omega, impA⟩
        · have hs' : seenE E nx = false := by simpa using hs
          rw [if_neg hs] at hsr
          have hE2 := hE.step he hxN hin hs'
          repeat' first | with_reducible refine AW_seq ?_ | with_reducible refine AW_block ?_ | ((first | with_reducible refine AW_skip ?_ | with_reducible refine AW_exit ?_ | with_reducible refine AW_region hTt ?_ | fail); conv => whnf) | (exact absurd hb (by omega)) | ((first | refine ⟨_, gd_any (e_some he), ⟨Nat.le_of_ble_eq_true rfl, rfl⟩, ?_⟩ | ((refine ⟨_, (hcl).frame (asc []) (by repeat (first | exact trivial | refine ⟨rfl, ?_⟩)) rfl (by rintro _ _ ⟨_, rfl, rfl⟩; rfl), ?_⟩); (rintro _ _ ⟨_, _, ⟨_, rfl, rfl⟩, rfl, rfl⟩)) | refine ⟨_, false, .inr ⟨rfl, rfl, kvE_no hs'⟩, rfl, ?_⟩ | refine ⟨kvE (E ++ [⟨nx, e.p, x, e.path ++ [(x : Int)]⟩]), .inr ⟨kvE_no hs', kvE_app _ _⟩, ?_⟩ | fail); conv => whnf) | (refine AW_cond rfl (fun _ => ?_) (fun hb => absurd hb (by decide))) | (refine AW_cond rfl (fun hb => absurd hb (by decide)) (fun _ => ?_)) | (refine AW_cond rfl (fun hb => ?_) (fun hb => ?_) <;> first | (replace hb := of_decide_eq_true hb; try simp only [List.length_map] at hb) | (replace hb := of_decide_eq_false hb; try simp only [List.length_map] at hb)) | ((first | refine ⟨_, wrap_of (by first | omega | (simp only [List.length_map]; omega)), ?_⟩ | refine andA ?_ | with_reducible refine And.intro (gd_any (And.intro (by omega) (And.intro (by first | omega | (simp only [List.length_map]; omega)) (by first | omega | (simp only [List.length_map]; omega) | (simp only [List.length_set, List.length_map]; omega))))) ?_ | fail); conv => whnf) | ((refine And.intro (by refine ⟨?_, ?_, ?_⟩ <;> simp [chunk, maxLen] <;> omega) ?_); conv => whnf) | fail
          rename_i q' _ _
          exact ⟨⟨E ++ [⟨nx, e.p, x, e.path ++ [(x : Int)]⟩], i', x + 1, st + 1, f1, (e.p, x), q'⟩, ⟨rfl, by show i' < (E ++ [_]).length; rw [List.length_append]; omega, hxN, hE2, by show bound i' (x + 1) ≤ f1; unfold bound at hbd ⊢; omega, hsr⟩, by show N - (x + 1) < N - x; omega,
            (Imp.forget (by repeat' (first | exact trivial | refine And.intro ?_ ?_ | exact chE (by rw [List.take_of_length_le (by simp), List.map_append]; try rfl) | exact oE (by rw [List.length_append]; rfl) | rfl | exact ivE (by first | omega | (simp only [List.length_map, List.length_append, List.length_singleton] <;> omega)) | exact oE (by first | omega | (simp only [List.length_map, List.length_append, List.length_singleton] <;> omega)))) (by repeat' (first | exact trivial | refine And.intro ?_ ?_ | exact chE (by rw [List.take_of_length_le (by simp), List.map_append]; try rfl) | exact oE (by rw [List.length_append]; rfl) | rfl | exact ivE (by first | omega | (simp only [List.length_map, List.length_append, List.length_singleton] <;> omega)) | exact oE (by first | omega | (simp only [List.length_map, List.length_append, List.length_singleton] <;> omega)))) (by kernel_rfl) (by kernel_rfl) (by kernel_rfl))⟩
    · have hxe : x = N := by omega
      subst hxe
      rw [bfs, if_pos hil, if_neg (by omega)] at hsr
      repeat' first | with_reducible refine AW_seq ?_ | with_reducible refine AW_block ?_ | ((first | with_reducible refine AW_skip ?_ | with_reducible refine AW_exit ?_ | with_reducible refine AW_region hTt ?_ | fail); conv => whnf) | (exact absurd hb (by omega)) | (refine AW_cond rfl (fun hb => ?_) (fun hb => ?_) <;> first | (replace hb := of_decide_eq_true hb; try simp only [List.length_map] at hb) | (replace hb := of_decide_eq_false hb; try simp only [List.length_map] at hb)) | ((refine ⟨_, wrap_of (by first | omega | (simp only [List.length_map]; omega)), ?_⟩); conv => whnf) | fail
      exact ⟨⟨E, i' + 1, 0, st, f1, lv, q⟩, ⟨rfl, hil, hE, by show bound (i' + 1) 0 ≤ f1; unfold bound at hbd ⊢; omega, hsr⟩, by show 1025 - (i' + 1) < 1025 - i'; omega, impA⟩
  · obtain ⟨f1, rfl⟩ : ∃ f1, f0 = f1 + 1 := ⟨f0 - 1, by unfold bound at hbd; omega⟩
    rw [bfs, if_neg (by omega)] at hsr
    rw [hsr]
    repeat' first | with_reducible refine AW_seq ?_ | with_reducible refine AW_block ?_ | ((first | with_reducible refine AW_skip ?_ | with_reducible refine AW_exit ?_ | with_reducible refine AW_ret ?_ | with_reducible refine AW_region hTt ?_ | fail); conv => whnf) | (exact absurd hb (by omega)) | (refine AW_cond rfl (fun _ => ?_) (fun hb => absurd hb (by decide))) | (refine AW_cond rfl (fun hb => ?_) (fun hb => ?_) <;> first | (replace hb := of_decide_eq_true hb; try simp only [List.length_map] at hb) | (replace hb := of_decide_eq_false hb; try simp only [List.length_map] at hb)) | ((refine andA ?_); conv => whnf) | (refine fun hln => ?_; (try rw [List.length_map] at hln); unfold maxLen at hln; conv => whnf) | fail
    exact ⟨_, sgS n s1 sk s2 (q), ⟨rfl, rfl, rfl, rfl, rfl, trivial⟩, rfl, rfl, q, ⟨_, rfl, LeAV1.nil 1, LeAV1.refl _, trivial⟩, rfl⟩
theorem search_show {n : NetT} (ok : NetOK n) {s1 : Nat} {sk : List (W16 × W16)} (hsk : sk.length = n.inn.toNat + n.gates.length) {s2 : Nat} {f : FaultT} (h0 : SkLane sk 0 fine) (h1 : SkLane sk 1 f) (hf : FltOK f) (q0 : BQ) :
    ACall Tryd.prog 64 [iv .i64 n.inn, .x (.f (.func 69) [] [.b 910 0])] (sgS n s1 sk s2 (q0))
      (fun r σ' => ∃ q : BQ, r = srchE (srch (stepS n fine n f) (2 ^ n.inn.toNat)) ∧ σ' = sgS n s1 sk s2 (q)) :=
  (search_show0 ok hsk h0 h1 hf q0).le fun r σ' ⟨q, h, e⟩ => ⟨_, h, q, rfl, e⟩
end Go.Proofs.YtfghooojingdhaaDoor
namespace Go.Proofs.YtfghooojingdhaaDoor
open Go Go.QL
set_option maxHeartbeats 3200000
attribute [local irreducible] ACall FnC
theorem search_diff0 {a b : NetT} (oka : NetOK a) (okb : NetOK b) {s2 t2 : Nat} (q0 : BQ2) :
    ACall Tryd.prog 64 [iv .i64 a.inn, .x (.f (.func 65) [] [.b 910 0, .b 911 0])] (sgD a b s2 t2 (q0))
      (fun r σ' => ∃ q : BQ2, LeAV r (srchE (srch (stepS a fine b fine) (2 ^ a.inn.toNat))) ∧ σ' = sgD a b s2 t2 (q)) := by
  have hn1 := oka.h1; have hn6 := oka.h6
  have hN6 := N_le hn6
  obtain ⟨N, hN⟩ : ∃ N : Nat, (2 ^ a.inn.toNat) = N := ⟨_, rfl⟩
  have hshl := shl_N a.inn (by omega) (by omega)
  rw [hN] at hN6 hshl ⊢
  refine ACall_of_AWD hTt Tryd.func64 rfl (by kernel_rfl) (res := [.tmp 4, .tmp 5]) rfl Tryd.ntmps64 (by simp) fun w0 K0 B => ?_
  dsimp only [entry]
  repeat' first | with_reducible refine AW_seq ?_ | with_reducible refine AW_block ?_ | with_reducible refine AW_scope ?_ | ((first | with_reducible refine AW_label ?_ | with_reducible refine AW_region hTt ?_ | refine ⟨kvE [ent0], .inr ⟨fun i y => by simp, rfl⟩, ?_⟩ | refine andA ?_ | fail); conv => whnf) | fail
  refine AW_loop (fun s : SSt BQ2 => [(10, iv .i64 s.i), (9, bv false), (8, .x (.b 8 0)), (7, .x (.o 23 s.st s.E.length)), (6, .x (.h 18)), (0, iv .i64 a.inn), (1, .x (.f (.func 65) [] [.b 910 0, .b 911 0]))])
    (fun s => (8, .box [.d (.v (.int .i64 s.lv.1.1)), .d (.v (.int .i64 s.lv.1.2)), .d (.v (.int .i64 s.lv.2))]) :: (23, .chain 100 2 s.st (s.E.map ePV)) :: (18, mapE s.E) :: sgD a b s2 t2 (s.q))
    (fun s => s.x = 0 ∧ s.i ≤ s.E.length ∧ SInv N s.E ∧ bound s.i 0 ≤ s.f ∧ srch (stepS a fine b fine) N = bfs (stepS a fine b fine) N s.f s.E s.i 0) (fun s => 1025 - s.i) ⟨[ent0], 0, 0, 0, fuel0, ((0, 0), 0), q0⟩
    ⟨rfl, Nat.zero_le _, SInv.init _, by show bound 0 0 ≤ fuel0; decide, rfl⟩ impA ?_
  rintro ⟨E, i, x, st, f0, lv, q⟩ ⟨hx0, hi, hE, hbd, hsr⟩
  dsimp only at hx0 hi hE hbd hsr ⊢
  subst hx0
  have hle := hE.le
  rcases Nat.lt_or_ge i E.length with hil | hil
  · repeat' first | with_reducible refine AW_seq ?_ | with_reducible refine AW_block ?_ | ((first | with_reducible refine AW_skip ?_ | with_reducible refine AW_exit ?_ | with_reducible refine AW_region hTt ?_ | fail); conv => whnf) | (exact absurd hb (by omega)) | ((refine ⟨_, hshl, ?_⟩); conv => whnf) | (refine AW_cond rfl (fun hb => ?_) (fun hb => ?_) <;> first | (replace hb := of_decide_eq_true hb; try simp only [List.length_map] at hb) | (replace hb := of_decide_eq_false hb; try simp only [List.length_map] at hb)) | ((refine andA ?_); conv => whnf) | (refine fun hln => ?_; (try rw [List.length_map] at hln); unfold maxLen at hln; conv => whnf) | fail
    refine AW_loop (fun s : SSt BQ2 => [(32, iv .i64 s.x), (31, iv .i64 N), (10, iv .i64 i), (9, bv false), (8, .x (.b 8 0)), (7, .x (.o 23 s.st s.E.length)), (6, .x (.h 18)), (0, iv .i64 a.inn), (1, .x (.f (.func 65) [] [.b 910 0, .b 911 0]))])
      (fun s => (8, .box [.d (.v (.int .i64 s.lv.1.1)), .d (.v (.int .i64 s.lv.1.2)), .d (.v (.int .i64 s.lv.2))]) :: (23, .chain 100 2 s.st (s.E.map ePV)) :: (18, mapE s.E) :: sgD a b s2 t2 (s.q))
      (fun s => s.i = i ∧ i < s.E.length ∧ s.x ≤ N ∧ SInv N s.E ∧ bound i s.x ≤ s.f ∧ srch (stepS a fine b fine) N = bfs (stepS a fine b fine) N s.f s.E i s.x) (fun s => N - s.x) ⟨E, i, 0, st, f0, lv, q⟩
      ⟨rfl, hil, Nat.zero_le _, hE, hbd, hsr⟩ impA ?_
    clear hsr hbd hE hle hi hil
    rintro ⟨E, i', x, st, f0, lv, q⟩ ⟨hii, hil, hx, hE, hbd, hsr⟩
    dsimp only at hii hil hx hE hbd hsr ⊢
    subst hii
    have hle := hE.le
    obtain ⟨f1, rfl⟩ : ∃ f1, f0 = f1 + 1 := ⟨f0 - 1, by unfold bound at hbd; omega⟩
    rcases Nat.lt_or_ge x N with hxN | hxN
    · obtain ⟨e, he⟩ : ∃ e, E[i']? = some e := ⟨_, List.getElem?_eq_getElem hil⟩
      have heD : E.getD i' ent0 = e := by rw [List.getD_eq_getElem?_getD, he]; rfl
      rw [bfs, if_pos hil, if_pos hxN, heD] at hsr
      have hcl := diff_cl oka okb (s2 := s2) (t2 := t2) q e.p x
      have hin := stepS_in oka okb fine_ok fine_ok e.p x
      generalize hst : stepS a fine b fine e.p x = sx at hsr hcl hin
      obtain ⟨nx, df⟩ := sx
      dsimp only at hsr hcl hin
      cases df with
      | true =>
        rw [if_pos rfl] at hsr
        rw [hsr]
        repeat' first | with_reducible refine AW_seq ?_ | with_reducible refine AW_block ?_ | ((first | with_reducible refine AW_skip ?_ | with_reducible refine AW_exit ?_ | with_reducible refine AW_region hTt ?_ | fail); conv => whnf) | (exact absurd hb (by omega)) | ((first | refine ⟨_, gd_any (e_some he), ⟨Nat.le_of_ble_eq_true rfl, rfl⟩, ?_⟩ | ((refine ⟨_, (hcl).frame (asc []) (by repeat (first | exact trivial | refine ⟨rfl, ?_⟩)) rfl (by rintro _ _ ⟨_, rfl, rfl⟩; rfl), ?_⟩); (rintro _ _ ⟨_, _, ⟨_, rfl, rfl⟩, rfl, rfl⟩)) | fail); conv => whnf) | (refine AW_cond rfl (fun _ => ?_) (fun hb => absurd hb (by decide))) | (refine AW_cond rfl (fun hb => absurd hb (by decide)) (fun _ => ?_)) | (refine AW_cond rfl (fun hb => ?_) (fun hb => ?_) <;> first | (replace hb := of_decide_eq_true hb; try simp only [List.length_map] at hb) | (replace hb := of_decide_eq_false hb; try simp only [List.length_map] at hb)) | ((first | refine andA ?_ | with_reducible refine And.intro (gd_any (And.intro (by omega) (And.intro (by first | omega | (simp only [List.length_map]; omega)) (by first | omega | (simp only [List.length_map]; omega) | (simp only [List.length_set, List.length_map]; omega))))) ?_ | fail); conv => whnf) | fail
        rename_i q' _ _
        have hpl := hE.pth i' e he
        refine AW_loop (fun s : Ent × Nat × List Int × Nat => [(16, .x (.o 72 s.2.2.2 s.2.2.1.length)), (6, .x (.h 18)), (17, .x (.b 17 0)), (7, .x (.o 23 st E.length))])
          (fun s => (72, .chain 3 1 s.2.2.2 (s.2.2.1.map iPV)) :: (17, .box [.d (.v (.int .i64 s.1.p.1)), .d (.v (.int .i64 s.1.p.2))]) :: (23, .chain 100 2 st (E.map ePV)) :: (18, mapE E) :: sgD a b s2 t2 (q'))
          (fun s => E[s.2.1]? = some s.1 ∧ s.2.2.1 ++ s.1.path.reverse = (e.path ++ [(x : Int)]).reverse) (fun s => s.2.1) (e, i', [(x : Int)], 0) ⟨he, by simp⟩ impA ?_
        rintro ⟨⟨c, cb, ci, cp⟩, j, l, sl'⟩ ⟨hj, hl⟩
        dsimp only at hj hl ⊢
        have hcp := (hE.pth j _ hj).1
        have hll : l.length ≤ 1025 := by
          have := congrArg List.length hl
          simp only [List.length_append, List.length_reverse, List.length_singleton] at this
          omega
        rcases Nat.eq_zero_or_pos j with hj0 | hj0
        · subst hj0
          have hc0 := hE.h0
          rw [hj] at hc0
          injection hc0 with hc0
          have e1 : c = (0, 0) := congrArg Ent.p hc0
          have e2 : cp = [] := congrArg Ent.path hc0
          subst e1; subst e2
          clear hc0
          dsimp only
          repeat' first | with_reducible refine AW_seq ?_ | ((first | with_reducible refine AW_exit ?_ | with_reducible refine AW_region hTt ?_ | refine AW_draw hTt hMix (id := 24) 4 false [0, 0, 2, 6, 15] (by kernel_rfl) rfl rfl (by kernel_rfl) ?_ | refine ⟨_, gd_none (e_some0 hE.h0), ⟨Nat.le_of_ble_eq_true rfl, rfl⟩, ?_⟩ | fail); conv => whnf) | (refine AW_cond rfl (fun hb => absurd hb (by decide)) (fun _ => ?_)) | ((first | refine andA ?_ | with_reducible refine And.intro (gd_any (And.intro (by omega) (And.intro (by first | omega | (simp only [List.length_map]; omega)) (by first | omega | (simp only [List.length_map]; omega) | (simp only [List.length_set, List.length_map]; omega))))) ?_ | fail); conv => whnf) | fail
          have e3 : l = (e.path ++ [(x : Int)]).reverse := by simpa using hl
          have hrev := reverse_fn l sl' (by omega)
          repeat' first | with_reducible refine AW_seq ?_ | ((first | with_reducible refine AW_ret ?_ | with_reducible refine AW_region hTt ?_ | ((refine ⟨_, (hrev).frame (asc [(700, 72)]) (by repeat (first | exact trivial | refine ⟨rfl, ?_⟩)) rfl (by rintro _ _ ⟨rfl, rfl⟩; rfl), ?_⟩); (rintro _ _ ⟨_, _, ⟨rfl, rfl⟩, rfl, rfl⟩)) | fail); conv => whnf) | fail
          have e4 : l.reverse = e.path ++ [(x : Int)] := by rw [e3, List.reverse_reverse]
          refine ⟨_, sgD a b s2 t2 (q'), ⟨rfl, rfl, rfl, rfl, rfl, rfl, rfl, rfl, rfl, rfl, trivial⟩, rfl, (?_ : _ = some (AV.t [sl (e.path ++ [(x : Int)]), iv .i64 0])), q', ?_, rfl⟩
          · rw [← e4]
            exact outKeep2 (x := .x (.o 72 sl' _)) (y := iv .i64 0) rfl (keepO (xs := l.reverse.map iPV) rfl rfl (by simp)) rfl
          · exact LeAV.refl _
        · have hne : c ≠ (0, 0) := by
            intro h0
            have := hE.inj j 0 _ ent0 hj hE.h0 h0
            omega
          have hnq := ne_eqL hne
          obtain ⟨j', e', hjj, hj', hb1, hb2⟩ := hE.par j _ hj0 hj
          dsimp only at hb1 hb2
          repeat' first | ((refine AW_imp (fr' := [(16, .x (.o 72 (sl' + 1) (l.length + 1))), (6, .x (.h 18)), (7, .x (.o 23 st E.length)), (91, .a [.d (.v (.int .i64 c.1)), .d (.v (.int .i64 c.2))])]) (σ' := (72, .chain 3 1 (sl' + 1) ((l ++ [ci]).map iPV)) :: (23, .chain 100 2 st (E.map ePV)) :: (18, mapE E) :: sgD a b s2 t2 (q')) (Imp.forget (by repeat' (first | exact trivial | refine And.intro ?_ ?_ | exact chE (by rw [List.take_of_length_le (by simp), List.map_append]; try rfl) | rfl | exact ivE (by first | omega | (simp only [List.length_map, List.length_append, List.length_singleton] <;> omega)) | exact oE (by first | omega | (simp only [List.length_map, List.length_append, List.length_singleton] <;> omega)))) (by repeat' (first | exact trivial | refine And.intro ?_ ?_ | exact chE (by rw [List.take_of_length_le (by simp), List.map_append]; try rfl) | rfl | exact ivE (by first | omega | (simp only [List.length_map, List.length_append, List.length_singleton] <;> omega)) | exact oE (by first | omega | (simp only [List.length_map, List.length_append, List.length_singleton] <;> omega)))) (by kernel_rfl) (by kernel_rfl) (by kernel_rfl)) (AW_region (id := 28) hTt ?_)); conv => whnf) | with_reducible refine AW_seq ?_ | with_reducible refine AW_block ?_ | ((first | with_reducible refine AW_skip ?_ | with_reducible refine AW_region hTt ?_ | refine AW_draw hTt hMix (id := 24) 4 false [0, 0, 2, 6, 15] (by kernel_rfl) rfl rfl (by kernel_rfl) ?_ | refine ⟨_, gd_none (e_some0 hE.h0), ⟨Nat.le_of_ble_eq_true rfl, rfl⟩, ?_⟩ | fail); conv => whnf) | (refine AW_cond (b := true) (congrArg (fun z => some (none, bv z)) hnq) (fun _ => ?_) (fun hb => absurd hb (by decide))) | ((first | refine ⟨fromAV cb ci, true, .inl ⟨rfl, j, kvE_get hj⟩, rfl, ?_⟩ | refine andA ?_ | with_reducible refine And.intro (gd_any (And.intro (by omega) (And.intro (by first | omega | (simp only [List.length_map]; omega)) (by first | omega | (simp only [List.length_map]; omega) | (simp only [List.length_set, List.length_map]; omega))))) ?_ | fail); conv => whnf) | ((refine And.intro (by refine ⟨?_, ?_, ?_⟩ <;> simp [chunk, maxLen] <;> omega) ?_); conv => whnf) | fail
          subst hb1; subst hb2
          refine ⟨(e', j', l ++ [ci], sl' + 1), ⟨hj', ?_⟩, hjj, impA⟩
          rw [← hl]
          simp
      | false =>
        rw [if_neg (by decide)] at hsr
        by_cases hs : seenE E nx = true
        · rw [if_pos hs] at hsr
          obtain ⟨k, ek, hk, hkp⟩ := seen_yes hs
          subst hkp
          repeat' first | with_reducible refine AW_seq ?_ | with_reducible refine AW_block ?_ | ((first | with_reducible refine AW_skip ?_ | with_reducible refine AW_exit ?_ | with_reducible refine AW_region hTt ?_ | fail); conv => whnf) | (exact absurd hb (by omega)) | ((first | refine ⟨_, gd_any (e_some he), ⟨Nat.le_of_ble_eq_true rfl, rfl⟩, ?_⟩ | ((refine ⟨_, (hcl).frame (asc []) (by repeat (first | exact trivial | refine ⟨rfl, ?_⟩)) rfl (by rintro _ _ ⟨_, rfl, rfl⟩; rfl), ?_⟩); (rintro _ _ ⟨_, _, ⟨_, rfl, rfl⟩, rfl, rfl⟩)) | refine ⟨fromAV ek.bef ek.inp, true, .inl ⟨rfl, k, kvE_get hk⟩, rfl, ?_⟩ | fail); conv => whnf) | (refine AW_cond rfl (fun hb => absurd hb (by decide)) (fun _ => ?_)) | (refine AW_cond rfl (fun hb => ?_) (fun hb => ?_) <;> first | (replace hb := of_decide_eq_true hb; try simp only [List.length_map] at hb) | (replace hb := of_decide_eq_false hb; try simp only [List.length_map] at hb)) | ((first | refine ⟨_, wrap_of (by first | omega | (simp only [List.length_map]; omega)), ?_⟩ | refine andA ?_ | with_reducible refine And.intro (gd_any (And.intro (by omega) (And.intro (by first | omega | (simp only [List.length_map]; omega)) (by first | omega | (simp only [List.length_map]; omega) | (simp only [List.length_set, List.length_map]; omega))))) ?_ | fail); conv => whnf) | fail
          rename_i q' _ _
          exact ⟨⟨E, i', x + 1, st, f1, (e.p, x), q'⟩, ⟨rfl, hil, hxN, hE, by show bound i' (x + 1) ≤ f1; unfold bound at hbd ⊢; omega, hsr⟩, by show N - (x + 1) < N - x; omega, impA⟩
        · have hs' : seenE E nx = false := by simpa using hs
          rw [if_neg hs] at hsr
          have hE2 := hE.step he hxN hin hs'
          repeat' first | with_reducible refine AW_seq ?_ | with_reducible refine AW_block ?_ | ((first | with_reducible refine AW_skip ?_ | with_reducible refine AW_exit ?_ | with_reducible refine AW_region hTt ?_ | fail); conv => whnf) | (exact absurd hb (by omega)) | ((first | refine ⟨_, gd_any (e_some he), ⟨Nat.le_of_ble_eq_true rfl, rfl⟩, ?_⟩ | ((refine ⟨_, (hcl).frame (asc []) (by repeat (first | exact trivial | refine ⟨rfl, ?_⟩)) rfl (by rintro _ _ ⟨_, rfl, rfl⟩; rfl), ?_⟩); (rintro _ _ ⟨_, _, ⟨_, rfl, rfl⟩, rfl, rfl⟩)) | refine ⟨_, false, .inr ⟨rfl, rfl, kvE_no hs'⟩, rfl, ?_⟩ | refine ⟨kvE (E ++ [⟨nx, e.p, x, e.path ++ [(x : Int)]⟩]), .inr ⟨kvE_no hs', kvE_app _ _⟩, ?_⟩ | fail); conv => whnf) | (refine AW_cond rfl (fun _ => ?_) (fun hb => absurd hb (by decide))) | (refine AW_cond rfl (fun hb => absurd hb (by decide)) (fun _ => ?_)) | (refine AW_cond rfl (fun hb => ?_) (fun hb => ?_) <;> first | (replace hb := of_decide_eq_true hb; try simp only [List.length_map] at hb) | (replace hb := of_decide_eq_false hb; try simp only [List.length_map] at hb)) | ((first | refine ⟨_, wrap_of (by first | omega | (simp only [List.length_map]; omega)), ?_⟩ | refine andA ?_ | with_reducible refine And.intro (gd_any (And.intro (by omega) (And.intro (by first | omega | (simp only [List.length_map]; omega)) (by first | omega | (simp only [List.length_map]; omega) | (simp only [List.length_set, List.length_map]; omega))))) ?_ | fail); conv => whnf) | ((refine And.intro (by refine ⟨?_, ?_, ?_⟩ <;> simp [chunk, maxLen] <;> omega) ?_); conv => whnf) | fail
          rename_i q' _ _
          exact ⟨⟨E ++ [⟨nx, e.p, x, e.path ++ [(x : Int)]⟩], i', x + 1, st + 1, f1, (e.p, x), q'⟩, ⟨rfl, by show i' < (E ++ [_]).length; rw [List.length_append]; omega, hxN, hE2, by show bound i' (x + 1) ≤ f1; unfold bound at hbd ⊢; omega, hsr⟩, by show N - (x + 1) < N - x; omega,
            (Imp.forget (by repeat' (first | exact trivial | refine And.intro ?_ ?_ | exact chE (by rw [List.take_of_length_le (by simp), List.map_append]; try rfl) | exact oE (by rw [List.length_append]; rfl) | rfl | exact ivE (by first | omega | (simp only [List.length_map, List.length_append, List.length_singleton] <;> omega)) | exact oE (by first | omega | (simp only [List.length_map, List.length_append, List.length_singleton] <;> omega)))) (by repeat' (first | exact trivial | refine And.intro ?_ ?_ | exact chE (by rw [List.take_of_length_le (by simp), List.map_append]; try rfl) | exact oE (by rw [List.length_append]; rfl) | rfl | exact ivE (by first | omega | (simp only [List.length_map, List.length_append, List.length_singleton] <;> omega)) | exact oE (by first | omega | (simp only [List.length_map, List.length_append, List.length_singleton] <;> omega)))) (by kernel_rfl) (by kernel_rfl) (by kernel_rfl))⟩
    · have hxe : x = N := by omega
      subst hxe
      rw [bfs, if_pos hil, if_neg (by omega)] at hsr
      repeat' first | with_reducible refine AW_seq ?_ | with_reducible refine AW_block ?_ | ((first | with_reducible refine AW_skip ?_ | with_reducible refine AW_exit ?_ | with_reducible refine AW_region hTt ?_ | fail); conv => whnf) | (exact absurd hb (by omega)) | (refine AW_cond rfl (fun hb => ?_) (fun hb => ?_) <;> first | (replace hb := of_decide_eq_true hb; try simp only [List.length_map] at hb) | (replace hb := of_decide_eq_false hb; try simp only [List.length_map] at hb)) | ((refine ⟨_, wrap_of (by first | omega | (simp only [List.length_map]; omega)), ?_⟩); conv => whnf) | fail
      exact ⟨⟨E, i' + 1, 0, st, f1, lv, q⟩, ⟨rfl, hil, hE, by show bound (i' + 1) 0 ≤ f1; unfold bound at hbd ⊢; omega, hsr⟩, by show 1025 - (i' + 1) < 1025 - i'; omega, impA⟩
  · obtain ⟨f1, rfl⟩ : ∃ f1, f0 = f1 + 1 := ⟨f0 - 1, by unfold bound at hbd; omega⟩
    rw [bfs, if_neg (by omega)] at hsr
    rw [hsr]
    repeat' first | with_reducible refine AW_seq ?_ | with_reducible refine AW_block ?_ | ((first | with_reducible refine AW_skip ?_ | with_reducible refine AW_exit ?_ | with_reducible refine AW_ret ?_ | with_reducible refine AW_region hTt ?_ | fail); conv => whnf) | (exact absurd hb (by omega)) | (refine AW_cond rfl (fun _ => ?_) (fun hb => absurd hb (by decide))) | (refine AW_cond rfl (fun hb => ?_) (fun hb => ?_) <;> first | (replace hb := of_decide_eq_true hb; try simp only [List.length_map] at hb) | (replace hb := of_decide_eq_false hb; try simp only [List.length_map] at hb)) | ((refine andA ?_); conv => whnf) | (refine fun hln => ?_; (try rw [List.length_map] at hln); unfold maxLen at hln; conv => whnf) | fail
    exact ⟨_, sgD a b s2 t2 (q), ⟨rfl, rfl, rfl, rfl, rfl, rfl, rfl, rfl, rfl, rfl, trivial⟩, rfl, rfl, q, ⟨_, rfl, LeAV1.nil 1, LeAV1.refl _, trivial⟩, rfl⟩
theorem search_diff {a b : NetT} (oka : NetOK a) (okb : NetOK b) {s2 t2 : Nat} (q0 : BQ2) :
    ACall Tryd.prog 64 [iv .i64 a.inn, .x (.f (.func 65) [] [.b 910 0, .b 911 0])] (sgD a b s2 t2 (q0))
      (fun r σ' => ∃ q : BQ2, r = srchE (srch (stepS a fine b fine) (2 ^ a.inn.toNat)) ∧ σ' = sgD a b s2 t2 (q)) :=
  (search_diff0 oka okb q0).le fun r σ' ⟨q, h, e⟩ => ⟨_, h, q, rfl, e⟩
end Go.Proofs.YtfghooojingdhaaDoor
