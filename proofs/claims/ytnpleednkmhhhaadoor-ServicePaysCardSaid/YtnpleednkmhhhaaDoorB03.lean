/- The logic of walks, and what the functions of the program return: part 3. No condition. -/
import Derived.Test.YtnpleednkmhhhaaDoorB02
import Derived.Shelf.LaysM
import Derived.Shelf.Strings.BuilderK
import Derived.Shelf.Strings.BuilderRune
import Derived.Shelf.Strings.Repeat
import Derived.Shelf.Strconv.Itoa3
import Derived.Test.YtnpleednkmhhhaaDoorProg
import Derived.Lib.AppendIntMem
import Derived.Lib.ItoaLen
import Derived.WalkKit
import Derived.BigCall
set_option linter.all false
namespace Go.QL.DC
open Go Go.RowKit Go.QL
structure En where
  i : Nat
  d : Option Tmp
  x : AV
  ob : Sg
def frs : List En → Fr
  | [] => []
  | ⟨_, d, x, _⟩ :: r => match d with | some d => (d, x) :: frs r | none => frs r
def obs : List En → Sg
  | [] => []
  | ⟨_, _, _, ob⟩ :: r => ob ++ obs r
def pickE (m : Nat) : List En → List En
  | [] => []
  | ⟨i, d, x, ob⟩ :: r => bif bitOf m i then ⟨i, d, x, ob⟩ :: pickE m r else pickE m r
def addOb (ob : Sg) (σ : Sg) : Sg := ob ++ σ
def ndB : List Nat → Bool
  | [] => true
  | x :: r => r.all (fun y => !Nat.beq x y) && ndB r
def newNames (nob σ : Sg) : Bool := nob.all (fun p => !(lk p.1 σ).isSome) && ndB (nob.map (·.1))
def oL : Option (Nat × Ob) → Sg
  | some p => [p]
  | none => []
def opDrC (P : Program) (tt : TT) (all : List Oper) (ob : Bool) (fr : Fr) (σ σt : Sg) (id : Nat) (o : Oper) (kk : Option Bool → AV → Sg → Prop) : Prop :=
  match o.op with
  | .call ⟨.value f, args, _⟩ => guardK all fr o.guard fun gd => ev1 fr gd f fun fv => evL fr gd args.toList fun vs =>
    (match fv, gd with
    | .x (.f (.func fid) first captured), none => ∃ rv nob, (ob && newNames nob σt) = true ∧ (∀ σE, (∀ p ∈ nob, lk p.1 σE = none) → ACall P fid (first.map .x ++ vs ++ captured.map .x) σE fun r' σ' => r' = rv ∧ σ' = nob ++ σE) ∧ kk none rv nob
    | _, _ => False)
  | _ => opDr P tt all ob fr σ id o fun gd v nob => kk gd v (oL nob)
def vcDr (P : Program) (tt : TT) (nt : Nat) (all : List Oper) (ob : Bool) (ms : List Nat) (fr0 : Fr) (σ0 : Sg) (k : Fr → Sg → Prop) : List Oper → List En → Nat → Fr → Sg → Prop
  | [], _, _, fr, σ => k fr σ
  | o :: r, es, i, fr, σ =>
    idFor σ o.dst fun id => opDrC P tt all ob (selF (frs (pickE (ms.getD i 0) es) ++ fr0) (looks all o)) (obs (pickE (ms.getD i 0) es) ++ σ0) σ id o fun gd v nob =>
      putE nt o.dst gd v fun x => vcDr P tt nt all ob ms fr0 σ0 k r (⟨i, o.dst, x, nob⟩ :: es) (i + 1) (addFr o.dst x fr) (addOb nob σ)
section
variable {P : Program} {Γ : Cx} {Qq : Exit → Act → World → Prop}
def SemE (P : Program) (Γ : Cx) (all : List Oper) (ob : Bool) (fr : Fr) (σ : Sg) (i : Nat) (o : Oper) (x : AV) (nob : Sg) : Prop :=
  ∀ (Qq : Exit → Act → World → Prop) (frE : Fr) (σE : Sg) (g : Gh) (a : Act) (w : World), Sup fr frE → Sup σ σE → (ob = false → σE = σ) → (∀ p, p ∈ nob → lk p.1 σE = none) → Rel Γ frE σE g a w →
    ∀ K : Act → World → Prop, (∀ v g' w', Rel Γ frE (addOb nob σE) g' a w' → VR (addOb nob σE) g' w' x v → K (a.put o.dst v) w') → all.toArray[i]? = some o → wpOpIn (FX Γ.ro) 0 P all.toArray Qq i K a w
theorem SemE.of {all : List Oper} {ob : Bool} {fr : Fr} {σ : Sg} {i : Nat} {o : Oper} {x : AV} {nob : Option (Nat × Ob)} (h : QL.SemE P Γ all ob fr σ i o x nob) : SemE P Γ all ob fr σ i o x (oL nob) := by
  intro Qq frE σE g a w hf hs hob hid hr K hK ho
  refine h Qq frE σE g a w hf hs hob (fun p hp => hid p (by subst hp; exact List.mem_singleton.2 rfl)) hr K (fun v g' w' hr' hv => hK v g' w' ?_ ?_) ho
  · cases nob <;> exact hr'
  · cases nob <;> exact hv
theorem opDrC_ok {tt : TT} (htt : tt.ok P) (hL : Laid P Γ.K0.K Γ.w0) {all : List Oper} {ob : Bool} {fr : Fr} {σ σt : Sg} {id : Nat} (hid : lk id σt = none) {o : Oper} {kk : Option Bool → AV → Sg → Prop}
    (h : opDrC P tt all ob fr σ σt id o kk) (i : Nat) :
    ∃ gd x nob, kk gd x nob ∧ (nob = [] ∨ (ob = true ∧ newNames nob σt = true)) ∧ SemE P Γ all ob fr σ i o (wrapG gd x) nob := by
  unfold opDrC at h
  split at h
  · rename_i f args ts hop
    have hnd : ∀ c, o.op ≠ .defer c := fun c hc => by rw [hc] at hop; cases hop
    obtain ⟨gd, h, hgd⟩ := guardK_ok h
    obtain ⟨fv, h2, hfv⟩ := ev1_on h
    clear h
    obtain ⟨vs, h, hl, hvs⟩ := evL_on h2
    clear h2
    split at h
    · rename_i fid first captured
      obtain ⟨rv, nob, hnn, hac, hk⟩ := h
      simp only [Bool.and_eq_true] at hnn
      refine ⟨none, rv, nob, hk, .inr hnn, ?_⟩
      intro Qq frE σE g a w hf hs hob hid' hr K hK ho
      obtain ⟨hwant, _⟩ := hgd Γ σE g a w (hr.subF hf) o rfl
      unfold wpOpIn
      simp only [ho]
      rw [if_pos (hwant.2 (.inl rfl))]
      have hac := hac σE hid'
      have hrD := hr.subF hf
      have hsr : SR σE g w (.f (.func fid) first captured) (a.eval f) := hfv (.inl rfl) Γ σE g a w hrD
      generalize hae : a.eval f = fval at hsr
      cases hsr with
      | f _ _ _ v1 v2 s1 s2 r1 r2 =>
        have hvl : vs.length = (args.map a.eval).size := by simpa using hl
        have hargs := call_args (us := args.map a.eval) s1 s2 r1 r2 hvl (fun j x v hx hv => by
          rw [Array.getElem?_map] at hv
          cases ha : args[j]? with
          | none => rw [ha] at hv; cases hv
          | some y => rw [ha] at hv; cases hv; exact hvs (.inl rfl) Γ σE g a w hrD _ x y hx (by simpa using ha))
        have hsize : (v1 ++ args.map a.eval ++ v2).size = (first.map AV.x ++ vs ++ captured.map AV.x).length := by
          simp at hvl; simp [s1, s2, hvl]
        refine ⟨fun _ _ => trivial, ?_⟩
        rw [Oper.semAt_eq _ _ o hnd, run_call hop hae hac.1 w]
        refine ⟨depthX, callsIn_FX.2 ?_⟩
        refine (hac.2 Γ.w0 Γ.K0 g w _ hL hr.hp hsize hargs).mono fun e w' ⟨v, g', σ', r, he, hd, hv, hR⟩ => ?_
        obtain ⟨rfl, rfl⟩ := hR
        subst he
        exact hK v g' w' (hr.did hd) (VR_of_VR2 hv)
    · exact h.elim
  · obtain ⟨gd, x, nob, hk, hn, hs⟩ := opDr_ok (Γ := Γ) htt hL h i
    refine ⟨gd, x, oL nob, hk, ?_, SemE.of hs⟩
    rcases hn with rfl | ⟨h1, _, b, rfl⟩
    · exact .inl rfl
    · exact .inr ⟨h1, by simp [newNames, oL, hid, ndB]⟩
theorem mem_frs {E : List En} {p : Nat × AV} : p ∈ frs E ↔ ∃ e ∈ E, e.d = some p.1 ∧ e.x = p.2 := by
  induction E with
  | nil => simp [frs]
  | cons e r ih =>
    unfold frs
    cases hd : e.d with
    | none =>
      simp only [ih, List.mem_cons]
      constructor
      · rintro ⟨e', h, h'⟩; exact ⟨e', .inr h, h'⟩
      · rintro ⟨e', rfl | h, h'⟩
        · rw [hd] at h'; cases h'.1
        · exact ⟨e', h, h'⟩
    | some d =>
      simp only [List.mem_cons, ih]
      constructor
      · rintro (rfl | ⟨e', h, h'⟩)
        · exact ⟨e, .inl rfl, hd, rfl⟩
        · exact ⟨e', .inr h, h'⟩
      · rintro ⟨e', rfl | h, h1, h2⟩
        · left; rw [hd] at h1; cases h1; obtain ⟨a, b⟩ := p; cases h2; rfl
        · exact .inr ⟨e', h, h1, h2⟩
theorem mem_obs {E : List En} {p : Nat × Ob} : p ∈ obs E ↔ ∃ e ∈ E, p ∈ e.ob := by
  induction E with
  | nil => simp [obs]
  | cons e r ih =>
    unfold obs
    rw [List.mem_append, ih]
    constructor
    · rintro (h | ⟨e', h, h'⟩)
      · exact ⟨e, List.mem_cons_self, h⟩
      · exact ⟨e', List.mem_cons_of_mem _ h, h'⟩
    · rintro ⟨e', h, h'⟩
      rcases List.mem_cons.1 h with rfl | h
      · exact .inl h'
      · exact .inr ⟨e', h, h'⟩
theorem mem_pickE {m : Nat} {e : En} : ∀ {E : List En}, e ∈ pickE m E → e ∈ E ∧ m.testBit e.i = true
  | [], h => by simp [pickE] at h
  | x :: r, h => by
    unfold pickE at h
    rw [bitOf_eq] at h
    cases hb : m.testBit x.i with
    | true =>
      rw [hb] at h
      rcases List.mem_cons.1 h with rfl | h
      · exact ⟨List.mem_cons_self, hb⟩
      · exact ⟨List.mem_cons_of_mem _ (mem_pickE h).1, (mem_pickE h).2⟩
    | false =>
      rw [hb] at h
      exact ⟨List.mem_cons_of_mem _ (mem_pickE h).1, (mem_pickE h).2⟩
theorem pickE_mem {m : Nat} {e : En} : ∀ {E : List En}, e ∈ E → m.testBit e.i = true → e ∈ pickE m E
  | [], h, _ => by simp at h
  | x :: r, h, hb => by
    unfold pickE
    rw [bitOf_eq]
    rcases List.mem_cons.1 h with rfl | h
    · rw [hb]; exact List.mem_cons_self
    · cases m.testBit x.i with
      | true => exact List.mem_cons_of_mem _ (pickE_mem h hb)
      | false => exact pickE_mem h hb
theorem addFr_eq (e : En) (E : List En) (fr0 : Fr) : addFr e.d e.x (frs E ++ fr0) = frs (e :: E) ++ fr0 := by
  unfold addFr; simp only [frs]; cases e.d <;> rfl
theorem addOb_eq (e : En) (E : List En) (σ0 : Sg) : addOb e.ob (obs E ++ σ0) = obs (e :: E) ++ σ0 := by
  unfold addOb; simp only [obs]; rw [List.append_assoc]
theorem ndB_ok : ∀ {l : Sg}, ndB (l.map (·.1)) = true → ∀ p ∈ l, ∀ q ∈ l, p.1 = q.1 → p = q
  | [], _, p, hp, _, _, _ => by cases hp
  | x :: r, h, p, hp, q, hq, e => by
    simp only [List.map_cons, ndB, Bool.and_eq_true, List.all_eq_true] at h
    have hx : ∀ y ∈ r, x.1 ≠ y.1 := fun y hy he => by
      have := h.1 y.1 (List.mem_map.2 ⟨y, hy, rfl⟩)
      rw [he] at this; simp at this
    rcases List.mem_cons.1 hp with hp1 | hp1 <;> rcases List.mem_cons.1 hq with hq1 | hq1
    · rw [hp1, hq1]
    · exact absurd (by rw [← hp1]; exact e) (hx q hq1)
    · exact absurd (by rw [← hq1]; exact e.symm) (hx p hp1)
    · exact ndB_ok h.2 p hp1 q hq1 e
theorem newNames_ok {nob σ : Sg} (h : newNames nob σ = true) : (∀ p ∈ nob, lk p.1 σ = none) ∧ ∀ p ∈ nob, ∀ q ∈ nob, p.1 = q.1 → p = q := by
  unfold newNames at h
  simp only [Bool.and_eq_true, List.all_eq_true] at h
  refine ⟨fun p hp => ?_, ndB_ok h.2⟩
  have := h.1 p hp
  cases hl : lk p.1 σ with
  | none => rfl
  | some _ => rw [hl] at this; cases this
structure GoodE (P : Program) (Γ : Cx) (all : List Oper) (ob : Bool) (ms : List Nat) (fr0 : Fr) (σ0 : Sg) (es : List En) : Prop where
  idx : ∀ e ∈ es, ∀ e' ∈ es, e.i = e'.i → e = e'
  ids : ∀ e ∈ es, ∀ e' ∈ es, ∀ p q, p ∈ e.ob → q ∈ e'.ob → p.1 = q.1 → e = e' ∧ p = q
  id0 : ∀ e ∈ es, ∀ p, p ∈ e.ob → lk p.1 σ0 = none ∧ ob = true
  sem : ∀ e ∈ es, ∃ o D, all[e.i]? = some o ∧ e.d = o.dst ∧ (∀ t, o.dst = some t → t < Γ.nt) ∧ (∀ e' ∈ D, e' ∈ es ∧ (ms.getD e.i 0).testBit e'.i = true) ∧ (∀ e' ∈ es, (ms.getD e.i 0).testBit e'.i = true → e'.i < e.i → e' ∈ D) ∧
    SemE P Γ all ob (selF (frs D ++ fr0) (looks all o)) (obs D ++ σ0) e.i o e.x e.ob
theorem vcDr_ok {tt : TT} (htt : tt.ok P) (hL : Laid P Γ.K0.K Γ.w0) {all : List Oper} {ob : Bool} {ms : List Nat} {fr0 : Fr} {σ0 : Sg} {k : Fr → Sg → Prop} : ∀ (rest : List Oper) (es : List En) (i : Nat),
    vcDr P tt Γ.nt all ob ms fr0 σ0 k rest es i (frs es ++ fr0) (obs es ++ σ0) → (∀ (j : Nat) (o : Oper), rest[j]? = some o → all[i + j]? = some o) → (∀ e ∈ es, e.i < i) → (∀ j, j < i → ∃ e ∈ es, e.i = j) → GoodE P Γ all ob ms fr0 σ0 es →
    ∃ es', k (frs es' ++ fr0) (obs es' ++ σ0) ∧ GoodE P Γ all ob ms fr0 σ0 es' ∧ (∀ e ∈ es', e.i < i + rest.length) ∧ (∀ j, j < i + rest.length → ∃ e ∈ es', e.i = j)
  | [], es, i, h, _, hlt, hcov, hg => ⟨es, h, hg, hlt, hcov⟩
  | o :: rest, es, i, h, hall, hlt, hcov, hg => by
    unfold vcDr at h
    obtain ⟨id, hidn, h⟩ := idFor_ok h
    obtain ⟨gd, x, nob, hk, hnob, hsem⟩ := opDrC_ok (Γ := Γ) htt hL hidn h i
    obtain ⟨hk, hd⟩ := putE_ok hk
    let en : En := ⟨i, o.dst, wrapG gd x, nob⟩
    have e1 := addFr_eq en es fr0
    have e2 := addOb_eq en es σ0
    have hk : vcDr P tt Γ.nt all ob ms fr0 σ0 k rest (en :: es) (i + 1) (frs (en :: es) ++ fr0) (obs (en :: es) ++ σ0) := by
      rw [← e1, ← e2]; exact hk
    have hfresh : ob = true ∧ newNames nob (obs es ++ σ0) = true → (∀ p ∈ nob, ∀ e ∈ es, ∀ q ∈ e.ob, q.1 ≠ p.1) ∧ (∀ p ∈ nob, lk p.1 σ0 = none) ∧ ∀ p ∈ nob, ∀ q ∈ nob, p.1 = q.1 → p = q := by
      rintro ⟨_, hn⟩
      obtain ⟨h1, h2⟩ := newNames_ok hn
      have key : ∀ (L l0 : List (Nat × Ob)) (t : Nat), lk t (L ++ l0) = none → ∀ p ∈ L, p.1 ≠ t := by
        intro L l0 t
        induction L with
        | nil => intro _ p hp; simp at hp
        | cons q r ih =>
          intro h p hp
          obtain ⟨j, y⟩ := q
          rw [List.cons_append, lk_cons] at h
          by_cases ej : j = t
          · rw [if_pos ej] at h; cases h
          · rw [if_neg ej] at h
            rcases List.mem_cons.1 hp with rfl | hp
            · exact ej
            · exact ih h p hp
      refine ⟨fun p hp e he q hq => key _ _ _ (h1 p hp) q (mem_obs.2 ⟨e, he, hq⟩), fun p hp => ?_, h2⟩
      rw [← lk_app_none (L := obs es) (key _ _ _ (h1 p hp))]; exact h1 p hp
    have hnob : ∀ p ∈ nob, ob = true ∧ newNames nob (obs es ++ σ0) = true := fun p hp => by
      rcases hnob with hn | hn
      · rw [hn] at hp; cases hp
      · exact hn
    have := vcDr_ok htt hL rest (en :: es) (i + 1) hk (fun j o' hj => by
      have := hall (j + 1) o' hj
      rwa [Nat.add_assoc, Nat.add_comm 1 j]) (fun e he => by
      rcases List.mem_cons.1 he with rfl | he
      · exact Nat.lt_succ_self _
      · exact Nat.lt_succ_of_lt (hlt e he)) (fun j hj => by
      by_cases hji : j = i
      · exact ⟨en, List.mem_cons_self, hji.symm⟩
      · obtain ⟨e, he, h'⟩ := hcov j (by omega); exact ⟨e, List.mem_cons_of_mem _ he, h'⟩) ?_
    · obtain ⟨es', h1, h2, h3, h4⟩ := this
      refine ⟨es', h1, h2, fun e he => ?_, fun j hj => ?_⟩
      · have := h3 e he; simp; omega
      · exact h4 j (by simp at hj; omega)
    · refine ⟨fun e he e' he' hii => ?_, fun e he e' he' p q hp hq hpq => ?_, fun e he p hp => ?_, fun e he => ?_⟩
      · rcases List.mem_cons.1 he with rfl | he <;> rcases List.mem_cons.1 he' with rfl | he'
        · rfl
        · have := hlt e' he'; have : i = e'.i := hii; omega
        · have := hlt e he; have : e.i = i := hii; omega
        · exact hg.idx e he e' he' hii
      · rcases List.mem_cons.1 he with rfl | he <;> rcases List.mem_cons.1 he' with rfl | he'
        · exact ⟨rfl, (hfresh (hnob p hp)).2.2 p hp q hq hpq⟩
        · exact absurd hpq.symm ((hfresh (hnob p hp)).1 p hp e' he' q hq)
        · exact absurd hpq ((hfresh (hnob q hq)).1 q hq e he p hp)
        · exact hg.ids e he e' he' p q hp hq hpq
      · rcases List.mem_cons.1 he with rfl | he
        · exact ⟨(hfresh (hnob p hp)).2.1 p hp, (hnob p hp).1⟩
        · exact hg.id0 e he p hp
      · rcases List.mem_cons.1 he with rfl | he
        · refine ⟨o, pickE (ms.getD i 0) es, by simpa using hall 0 o rfl, rfl, hd, fun e' he' => ⟨List.mem_cons_of_mem _ (mem_pickE he').1, (mem_pickE he').2⟩, fun e' he' hb hlt' => ?_, hsem⟩
          rcases List.mem_cons.1 he' with rfl | he'
          · exact absurd hlt' (Nat.lt_irrefl _)
          · exact pickE_mem he' hb
        · obtain ⟨o', D, a1, a2, a3, a4, a6, a5⟩ := hg.sem e he
          refine ⟨o', D, a1, a2, a3, fun e' he' => ⟨List.mem_cons_of_mem _ (a4 e' he').1, (a4 e' he').2⟩, fun e' he' hb hlt' => ?_, a5⟩
          rcases List.mem_cons.1 he' with rfl | he'
          · have := hlt e he; have hlt' : i < e.i := hlt'; omega
          · exact a6 e' he' hb hlt'
theorem mem_frs_sub {D E : List En} (h : ∀ e ∈ D, e ∈ E) : ∀ p, p ∈ frs D → p ∈ frs E := fun p hp => by
  obtain ⟨e, he, h'⟩ := mem_frs.1 hp; exact mem_frs.2 ⟨e, h e he, h'⟩
variable {fr : Fr} {σ : Sg} {Q : Exit → Fr → Sg → Prop}
theorem AW_drawC {tt : TT} (htt : tt.ok P) (hmix : P.follows .mixedOrders = true) (m : Nat) (ob : Bool) (ms : List Nat) {id : Nat} {ops : List Oper} (hms : okMasks ms m ops 0 = true) (hlen : Nat.ble m ops.length = true)
    (hds : okDsts (ops.take m) [] = true) (hrd : okReads ops ms (ops.take m) (ops.take m) 0 = true)
    (h : vcDr P tt Γ.nt ops ob ms fr σ (fun fr' σ' => vcOps P tt Γ.nt ops (Q .normal) (ops.drop m) fr' σ') (ops.take m) [] 0 fr σ) : AW P Γ (.region id ops.toArray true) Q fr σ := by
  refine AW.mk fun hLd g a w hr => ?_
  have hm := MaskOK.of hms
  have hlen : m ≤ ops.length := Nat.le_of_ble_eq_true hlen
  have htake : (ops.take m).length = m := by simp; omega
  obtain ⟨es, hk, hg, hlt, hcov⟩ := vcDr_ok (Γ := Γ) htt hLd (ops.take m) [] 0 h (fun j o hj => by
      rw [List.getElem?_take] at hj
      by_cases hjm : j < m
      · rw [if_pos hjm] at hj; simpa using hj
      · rw [if_neg hjm] at hj; cases hj) (fun e he => by simp at he) (fun j hj => by omega)
      ⟨fun e he => by simp at he, fun e he => by simp at he, fun e he => by simp at he, fun e he => by simp at he⟩
  rw [htake] at hlt hcov
  simp only [Nat.zero_add] at hlt hcov
  obtain ⟨_, hd1⟩ := okDsts_ok hds
  have hrd := fun j o h => okReadsAt_ok (okReads_ok hrd j o h)
  simp only [Nat.zero_add] at hrd
  have hop : ∀ e ∈ es, ∃ o, (ops.take m)[e.i]? = some o ∧ e.d = o.dst := fun e he => by
    obtain ⟨o, D, h1, h2, _⟩ := hg.sem e he
    exact ⟨o, by rw [List.getElem?_take, if_pos (hlt e he)]; exact h1, h2⟩
  have hfF : ∀ p ∈ frs es, ∀ q ∈ frs es, p.1 = q.1 → p = q := by
    intro p hp q hq hpq
    obtain ⟨e, he, h1, h2⟩ := mem_frs.1 hp
    obtain ⟨e', he', h1', h2'⟩ := mem_frs.1 hq
    obtain ⟨o, ho, hd⟩ := hop e he
    obtain ⟨o', ho', hd'⟩ := hop e' he'
    have := hd1 e.i e'.i o o' p.1 ho ho' (by rw [← hd, h1]) (by rw [← hd', h1', hpq])
    have := hg.idx e he e' he' this
    subst this
    obtain ⟨p1, p2⟩ := p; obtain ⟨q1, q2⟩ := q
    simp only at *
    subst hpq; subst h2; subst h2'; rfl
  have hfO : ∀ p ∈ obs es, ∀ q ∈ obs es, p.1 = q.1 → p = q := by
    intro p hp q hq hpq
    obtain ⟨e, he, h1⟩ := mem_obs.1 hp
    obtain ⟨e', he', h1'⟩ := mem_obs.1 hq
    exact (hg.ids e he e' he' p q h1 h1' hpq).2
  have hfO0 : ∀ p ∈ obs es, lk p.1 σ = none := by
    intro p hp
    obtain ⟨e, he, h1⟩ := mem_obs.1 hp
    exact (hg.id0 e he p h1).1
  have supO : ∀ D E : List En, (∀ e ∈ D, e ∈ E) → (∀ e ∈ E, e ∈ es) → Sup (obs D ++ σ) (obs E ++ σ) := fun D E h1 h2 =>
    sup_app hfO hfO0 (fun p hp => by obtain ⟨e, he, h'⟩ := mem_obs.1 hp; exact mem_obs.2 ⟨e, h1 e he, h'⟩) (fun p hp => by obtain ⟨e, he, h'⟩ := mem_obs.1 hp; exact mem_obs.2 ⟨e, h2 e he, h'⟩)
  let InvA : (Nat → Prop) → Act → World → Prop := fun L a w => ∃ (E : List En) (g : Gh), (∀ e ∈ E, e ∈ es) ∧ (∀ j, L j ↔ ∃ e ∈ E, e.i = j) ∧ (∀ k, L k → ∀ b, (ms.getD k 0).testBit b = true → L b) ∧ Rel Γ (frs E ++ fr) (obs E ++ σ) g a w
  let InvB : (Nat → Prop) → Act → World → Prop := fun L a w => ∃ j, m ≤ j ∧ j ≤ ops.length ∧ (∀ b, L b ↔ b < j) ∧ wpLs Γ.ro P ops.toArray (Lift Γ Q) (ops.drop j) a w
  have conv : ∀ L a w, InvA L a w → (∀ b, b < m → L b) → InvB L a w := by
    intro L a w ⟨E, g, h1, h2, _, h3⟩ hall
    refine ⟨m, Nat.le_refl _, hlen, fun b => ⟨fun hb => ?_, hall b⟩, ?_⟩
    · obtain ⟨e, he, hi⟩ := (h2 b).1 hb
      rw [← hi]; exact hlt e (h1 e he)
    · have hsub : ∀ e ∈ es, e ∈ E := by
        intro e he
        obtain ⟨e', he', hi⟩ := (h2 e.i).1 (hall e.i (hlt e he))
        have := hg.idx e' (h1 e' he') e he hi
        subst this; exact he'
      have hr' : Rel Γ (frs es ++ fr) (obs es ++ σ) g a w := h3.same (lk_app_same (fun p hp q hq => hfF p ((mem_frs_sub h1) p hp) q ((mem_frs_sub h1) q hq)) (fun p => ⟨mem_frs_sub hsub p, mem_frs_sub h1 p⟩)) (supO E es h1 (fun e he => he)) (supO es E hsub h1)
      exact vcOps_ok htt hLd (fun _ _ h => h) (ops.drop m) _ _ hk g a w hr'
  refine wpIn_region_any hmix ?_
  refine wpAny_inv hm (fun L a w => InvA L a w ∨ InvB L a w) ?_ ?_ _ _ _ _ (by simp) ?_ ?_ ?_
  · -- a step
    intro L a w hinv i hi hL hbits
    have hi' : i < ops.length := by simpa using hi
    have stepB : InvB L a w → wpOpIn (FX Γ.ro) 0 P ops.toArray (Lift Γ Q) i (fun a w => InvA (fun j => L j ∨ j = i) a w ∨ InvB (fun j => L j ∨ j = i) a w) a w := by
      intro ⟨j, hj1, hj2, hj3, hj4⟩
      have hji : j ≤ i := by
        rcases Nat.lt_or_ge i j with h' | h'
        · exact absurd ((hj3 i).2 h') hL
        · exact h'
      have hij : i = j := by
        rcases Nat.lt_or_ge j i with h' | h'
        · have := hm.tail i _ (Array.getElem?_eq_getElem (by simpa using hi')) (by omega) j h'
          have := (hj3 j).1 (hbits j this)
          omega
        · omega
      subst hij
      rw [List.drop_eq_getElem_cons hi'] at hj4
      have hoi : ops.toArray[i]? = some ops[i] := by simp [hi']
      have hnew : ∀ a w, wpLs Γ.ro P ops.toArray (Lift Γ Q) (ops.drop (i + 1)) a w → InvA (fun j => L j ∨ j = i) a w ∨ InvB (fun j => L j ∨ j = i) a w := by
        intro a w hw
        refine .inr ⟨i + 1, by omega, by omega, fun b => ?_, hw⟩
        show (L b ∨ b = i) ↔ b < i + 1
        rw [hj3 b]; omega
      unfold wpOpIn
      simp only [hoi]
      unfold wpLs wpLk at hj4
      split
      · rename_i hwant
        rw [if_pos hwant] at hj4
        exact Oper.wpIn_mono hnew hj4
      · rename_i hwant
        rw [if_neg hwant] at hj4
        exact ⟨fun _ _ => trivial, hnew _ _ hj4⟩
    rcases hinv with hA | hB
    · rcases Nat.lt_or_ge i m with him | him
      · obtain ⟨E, g, h1, h2, hcl, h3⟩ := hA
        obtain ⟨en, hen, heni⟩ := hcov i him
        obtain ⟨o, D, a1, a2, a3, a4, a6, a5⟩ := hg.sem en hen
        rw [heni] at a1 a4 a5 a6
        have hDE : ∀ e ∈ D, e ∈ E := by
          intro e he
          obtain ⟨he1, he2⟩ := a4 e he
          obtain ⟨e', he', hi'⟩ := (h2 e.i).1 (hbits e.i he2)
          have := hg.idx e' (h1 e' he') e he1 hi'
          subst this; exact he'
        have hsup : Sup (selF (frs D ++ fr) (looks ops o)) (frs E ++ fr) := by
          intro t v hl
          obtain ⟨ht, hl⟩ := selF_get hl
          rcases lk_app hl with hl | ⟨hn, hl⟩
          · exact lk_app_mem (fun p hp q hq => hfF p (mem_frs_sub h1 p hp) q (mem_frs_sub h1 q hq)) (mem_frs_sub hDE _ hl)
          · rw [lk_app_none]
            · exact hl
            · intro p hp hpt
              obtain ⟨e, he, h1', h2'⟩ := mem_frs.1 hp
              obtain ⟨oe, hoe, hde⟩ := hop e (h1 e he)
              have hLe : L e.i := (h2 e.i).2 ⟨e, he, rfl⟩
              rcases hrd i o (by rw [List.getElem?_take, if_pos him]; exact a1) e.i oe t hoe (by rw [← hde, h1', hpt]) ht with hk | hk | hk
              · exact hL (hk ▸ hLe)
              · have hlt' : e.i < i := hm.lt i o (by simpa using a1) e.i hk
                exact hn p (mem_frs.2 ⟨e, a6 e (h1 e he) hk hlt', h1', h2'⟩) hpt
              · exact hL (hcl e.i hLe i hk)
        refine a5 _ (frs E ++ fr) (obs E ++ σ) g a w hsup (supO D E hDE h1) ?_ ?_ h3 _ ?_ (by simpa using a1)
        · intro hob
          have hn : ∀ X : List En, (∀ e ∈ X, e ∈ es) → obs X = [] := by
            intro X hX
            cases hx : obs X with
            | nil => rfl
            | cons p r =>
              obtain ⟨e, he, hp⟩ := mem_obs.1 (show p ∈ obs X by rw [hx]; exact List.mem_cons_self)
              have := (hg.id0 e (hX e he) p hp).2
              rw [hob] at this; cases this
          rw [hn E h1, hn D (fun e he => h1 e (hDE e he))]
        · intro p hp
          rw [lk_app_none]
          · exact (hg.id0 en hen p hp).1
          · intro q hq he
            obtain ⟨e', he', hq'⟩ := mem_obs.1 hq
            have := (hg.ids e' (h1 e' he') en hen q p hq' hp he).1
            subst this
            exact hL ((h2 i).2 ⟨e', he', heni⟩)
        · intro v g' w' hr' hv
          left
          refine ⟨en :: E, g', fun e he => ?_, fun j => ?_, fun k hk b hb => ?_, ?_⟩
          · rcases List.mem_cons.1 he with rfl | he
            · exact hen
            · exact h1 e he
          · show (L j ∨ j = i) ↔ _
            rw [h2 j]
            constructor
            · rintro (⟨e, he, h'⟩ | rfl)
              · exact ⟨e, List.mem_cons_of_mem _ he, h'⟩
              · exact ⟨en, List.mem_cons_self, heni⟩
            · rintro ⟨e, he, h'⟩
              rcases List.mem_cons.1 he with rfl | he
              · exact .inr (h'.symm.trans heni)
              · exact .inl ⟨e, he, h'⟩
          · rcases hk with hk | rfl
            · exact .inl (hcl k hk b hb)
            · exact .inl (hbits b hb)
          · rw [← addFr_eq, ← addOb_eq]
            rw [a2]
            cases hdd : o.dst with
            | none => exact hr'
            | some d => exact hr'.put (a3 d hdd) hv
      · have hall : ∀ b, b < i → L b := fun b hb => hbits b (hm.tail i _ (Array.getElem?_eq_getElem (by simpa using hi')) him b hb)
        exact stepB (conv L a w hA fun b hb => hall b (by omega))
    · exact stepB hB
  · -- the end
    intro L a w hinv hall
    have hB : InvB L a w := by
      rcases hinv with hA | hB
      · exact conv L a w hA fun b hb => hall b (by simp; omega)
      · exact hB
    obtain ⟨j, hj1, hj2, hj3, hj4⟩ := hB
    have : j = ops.length := by
      rcases Nat.lt_or_ge j ops.length with h' | h'
      · have := (hj3 j).1 (hall j (by simpa using h')); omega
      · omega
    subst this
    rw [List.drop_length] at hj4
    exact hj4
  · intro i hi
    have : (Array.replicate ops.length false)[i]?.getD false = false := by
      rw [Array.getElem?_replicate]; split <;> rfl
    simp [this] at hi
  · unfold unl
    refine Nat.le_trans (List.length_filter_le _ _) (by simp)
  · left
    refine ⟨[], g, fun e he => by simp at he, fun j => ?_, fun k hk => ?_, hr.drawn _⟩
    rotate_left
    · have : (Array.replicate ops.length false)[k]?.getD false = false := by
        rw [Array.getElem?_replicate]; split <;> rfl
      simp [this] at hk
    have : (Array.replicate ops.length false)[j]?.getD false = false := by
      rw [Array.getElem?_replicate]; split <;> rfl
    simp [this]
end
theorem dropK_nil : ∀ (σ : Sg), dropK [] σ = σ
  | [] => rfl
  | (i, o) :: r => by
    show (bif false then _ else _) = _
    rw [cond_false, dropK_nil r]
theorem ACall.anew {P : Program} {f : FuncId} {args : List AV} {rv : AV} {nob : Sg} (h : ACall P f args [] (fun r σ' => r = rv ∧ σ' = nob)) (ρ : Nat → Nat) {args' : List AV} {rv' : AV} {nob' : Sg}
    (ha : args' = args.map (rnAV ρ)) (hr : rv' = rnAV ρ rv) (hn : nob' = rnSg ρ nob) (hc : (args.all (rsAV2 []) && injK ρ (nob.map (·.1))) = true) (σE : Sg) (hf : ∀ p ∈ nob', lk p.1 σE = none) :
    ACall P f args' σE (fun r' σ' => r' = rv' ∧ σ' = nob' ++ σE) := by
  subst ha; subst hr; subst hn
  simp only [Bool.and_eq_true] at hc
  refine (h.frame ρ (σ := σE) trivial (by simp [hc.1, rsSg, injK]) ?_).mono ?_
  · rintro r1 σ1 ⟨rfl, rfl⟩
    unfold okNames
    simp only [List.map_nil, List.all_nil, Bool.and_true, List.any_nil, Bool.false_or, Bool.and_eq_true, List.all_eq_true, Bool.not_eq_true']
    refine ⟨hc.2, fun i hi => ?_⟩
    obtain ⟨p, hp, rfl⟩ := List.mem_map.1 hi
    have hm : ∃ q ∈ rnSg ρ σ1, q.1 = ρ p.1 := by
      clear hc hf hi h
      induction σ1 with
      | nil => cases hp
      | cons x r ih =>
        rcases List.mem_cons.1 hp with rfl | hp
        · exact ⟨_, List.mem_cons_self, rfl⟩
        · obtain ⟨q, hq, e⟩ := ih hp
          exact ⟨q, List.mem_cons_of_mem _ hq, e⟩
    obtain ⟨q, hq, e⟩ := hm
    have h1 := hf q hq
    rw [e] at h1
    cases hb : (σE.map (·.1)).any (Nat.beq (ρ p.1)) with
    | false => rfl
    | true =>
      have := lk_isSome_mem.2 (any_beq.1 hb)
      rw [h1] at this; cases this
  · rintro r σ' ⟨r1, σ1, ⟨rfl, rfl⟩, rfl, rfl⟩
    refine ⟨rfl, ?_⟩
    unfold after
    congr 1
    exact dropK_nil σE
end Go.QL.DC
namespace Go.Proofs.YtnpleednkmhhhaaDoor
open Go Go.QL
set_option maxHeartbeats 1600000
attribute [local irreducible] ACall FnC YC
def valS (p : List Int) (num den : Int) : Nat → Int × Int
  | 0 => (0, 1)
  | j + 1 => ((valS p num den j).1 * num + p.getD (p.length - 1 - j) 0 * (valS p num den j).2, (valS p num den j).2 * den)
def valP (p : List Int) (num den : Int) : Int := (valS p num den p.length).1
def valB : Nat → Int × Int
  | 0 => (0, 1)
  | j + 1 => ((valB j).1 * 4000 + 100 * (valB j).2, (valB j).2 * 4000)
def pOK (p : List Int) : Prop := p.length ≤ 5 ∧ ∀ c ∈ p, -100 ≤ c ∧ c ≤ 100
theorem pOK.get {p : List Int} (h : pOK p) (i : Nat) : -100 ≤ p.getD i 0 ∧ p.getD i 0 ≤ 100 := by
  rw [List.getD_eq_getElem?_getD]
  cases hg : p[i]? with
  | none => simp
  | some c => exact h.2 c (List.mem_of_getElem? hg)
theorem val_bd {p : List Int} (hp : pOK p) {num den : Int} (hn : -4000 ≤ num ∧ num ≤ 4000) (hd : -4000 ≤ den ∧ den ≤ 4000) : ∀ j, (-(valB j).1 ≤ (valS p num den j).1 ∧ (valS p num den j).1 ≤ (valB j).1) ∧ (-(valB j).2 ≤ (valS p num den j).2 ∧ (valS p num den j).2 ≤ (valB j).2)
  | 0 => by simp [valB, valS]
  | j + 1 => by
    obtain ⟨h1, h2⟩ := val_bd hp hn hd j
    have a := mul_bd h1 hn
    have b := mul_bd (hp.get (p.length - 1 - j)) h2
    have c := mul_bd h2 hd
    simp only [valB, valS]
    omega
theorem valB_lim : ∀ j, j < 5 → (valB j).1 * 4000 ≤ 4611686018427387904 ∧ 100 * (valB j).2 ≤ 4611686018427387904 ∧ (valB j).1 * 4000 + 100 * (valB j).2 ≤ 4611686018427387904 ∧ (valB j).2 * 4000 ≤ 4611686018427387904 := by decide
theorem val_lim {p : List Int} (hp : pOK p) {num den : Int} (hn : -4000 ≤ num ∧ num ≤ 4000) (hd : -4000 ≤ den ∧ den ≤ 4000) (j : Nat) (hj : j < p.length) :
    lim ((valS p num den j).1 * num) ∧ lim (p.getD (p.length - 1 - j) 0 * (valS p num den j).2) ∧ lim ((valS p num den j).1 * num + p.getD (p.length - 1 - j) 0 * (valS p num den j).2) ∧ lim ((valS p num den j).2 * den) := by
  obtain ⟨h1, h2⟩ := val_bd hp hn hd j
  have a := mul_bd h1 hn
  have b := mul_bd (hp.get (p.length - 1 - j)) h2
  have c := mul_bd h2 hd
  have hl := valB_lim j (by have := hp.1; omega)
  unfold lim
  omega
theorem backward_fn (p : List Int) : ACall Tryd.prog 100 [sl p] [] (fun r σ' => r = .x (.f (.func 110) [] [.b 1 0]) ∧ σ' = [(1, .box [.d (intsPV p)])]) := by
  refine ACall_of_AWD hTt Tryd.func100 rfl (by kernel_rfl) (res := [.tmp 2]) rfl Tryd.ntmps100 (by simp) fun w0 K0 B => ?_
  dsimp only [entry]
  repeat' first | with_reducible refine AW_seq ?_ | ((first | with_reducible refine AW_ret ?_ | with_reducible refine AW_region hTt ?_ | fail); conv => whnf) | fail
  exact ⟨_, [(1, .box [.d (intsPV p)])], ⟨rfl, trivial⟩, rfl, rfl, rfl, rfl⟩
abbrev frV : Fr := [(11, .x (.f (.func 110) [] [.b 960 0])), (4, .x (.b 4 0)), (5, .x (.b 5 0)), (6, .x (.b 6 0)), (7, .x (.b 7 0))]
abbrev sgV (asg bdy : Code) (p : PV) (num den : Int) (s : Int × Int) : Sg :=
  [(930, .x (.loop .ready none #[12, 13] asg bdy 25 frV 931)), (931, .x .dfr), (7, .box [.d (.v (.int .i64 s.2))]), (6, .box [.d (.v (.int .i64 s.1))]), (5, .box [.d (.v (.int .i64 den))]), (4, .box [.d (.v (.int .i64 num))]), (960, .box [.d p])]
theorem back1_fn {asg bdy : Code} {p : List Int} (hp : p.length ≤ 5) (num den : Int)
    (hy : ∀ j, j < p.length → YC Tryd.prog 930 [iv .i64 ((p.length : Int) - 1 - j), iv .i64 (p.getD (p.length - 1 - j) 0)] (sgV asg bdy (intsPV p) num den (valS p num den j)) (fun r σ' => r = bv true ∧ σ' = sgV asg bdy (intsPV p) num den (valS p num den (j + 1)))) :
    ACall Tryd.prog 110 [.x (.h 930), .x (.b 960 0)] (sgV asg bdy (intsPV p) num den (0, 1)) (fun r σ' => r = .t [] ∧ σ' = sgV asg bdy (intsPV p) num den (valS p num den p.length)) := by
  refine ACall_of_AWD hTt Tryd.func110 rfl (by kernel_rfl) (res := []) rfl Tryd.ntmps110 (by simp) fun w0 K0 B => ?_
  dsimp only [entry]
  repeat' first | with_reducible refine AW_seq ?_ | with_reducible refine AW_block ?_ | ((first | with_reducible refine AW_region hTt ?_ | refine ⟨_, wrap_of (by first | omega | (simp only [List.length_map]; omega)), ?_⟩ | fail); conv => whnf) | (refine fun hln => ?_; (try rw [List.length_map] at hln); unfold maxLen at hln; conv => whnf) | fail
  refine AW_loop (fun j : Nat => [(3, iv .i64 ((p.length : Int) - 1 - j)), (0, .x (.h 930)), (1, .x (.b 960 0))]) (fun j => sgV asg bdy (intsPV p) num den (valS p num den j)) (fun j => j ≤ p.length) (fun j => p.length - j) 0 (Nat.zero_le _) impA ?_
  intro j hj
  rcases Nat.lt_or_ge j p.length with hjl | hjl
  · have hy1 := hy j hjl
    have hel : p[((p.length : Int) - 1 - j).toNat]? = some (p.getD (p.length - 1 - j) 0) := by
      rw [show ((p.length : Int) - 1 - j).toNat = p.length - 1 - j by omega, List.getD_eq_getElem?_getD, List.getElem?_eq_getElem (by omega)]; rfl
    generalize hS : valS p num den (j + 1) = S1 at hy1
    repeat' first | with_reducible refine AW_seq ?_ | with_reducible refine AW_block ?_ | ((first | with_reducible refine AW_skip ?_ | with_reducible refine AW_exit ?_ | with_reducible refine AW_region hTt ?_ | fail); conv => whnf) | (exact absurd hb (by omega)) | ((first | with_reducible refine Exists.intro _ (And.intro (gd_any (And.intro (by omega) (map_some' hel))) ?_) | ((refine ⟨_, hy1, ?_⟩); (rintro _ _ ⟨rfl, rfl⟩)) | fail); conv => whnf) | (refine AW_cond rfl (fun hb => absurd (show false = true from hb) (by decide)) (fun _ => ?_)) | (refine AW_cond rfl (fun hb => ?_) (fun hb => ?_) <;> first | (replace hb := of_decide_eq_true hb; try simp only [List.length_map] at hb) | (replace hb := of_decide_eq_false hb; try simp only [List.length_map] at hb)) | ((first | refine ⟨_, wrap_of (by first | omega | (simp only [List.length_map]; omega)), ?_⟩ | refine andA ?_ | fail); conv => whnf) | fail
    subst hS
    exact ⟨j + 1, hjl, by omega, impA⟩
  · obtain rfl : j = p.length := by omega
    repeat' first | with_reducible refine AW_seq ?_ | with_reducible refine AW_block ?_ | ((first | with_reducible refine AW_skip ?_ | with_reducible refine AW_exit ?_ | with_reducible refine AW_region hTt ?_ | fail); conv => whnf) | (exact absurd hb (by omega)) | (refine AW_cond rfl (fun hb => ?_) (fun hb => ?_) <;> first | (replace hb := of_decide_eq_true hb; try simp only [List.length_map] at hb) | (replace hb := of_decide_eq_false hb; try simp only [List.length_map] at hb)) | fail
    exact ⟨_, sgV asg bdy (intsPV p) num den (valS p num den p.length), ⟨rfl, rfl, rfl, rfl, rfl, rfl, rfl, trivial⟩, rfl, rfl, rfl, rfl⟩
theorem value_fn {p : List Int} (hp : pOK p) {num den : Int} (hn : -4000 ≤ num ∧ num ≤ 4000) (hd : -4000 ≤ den ∧ den ≤ 4000) : FnC Tryd.prog 85 [sl p, iv .i64 num, iv .i64 den] (iv .i64 (valP p num den)) := by
  have hl := val_lim hp hn hd
  have hp5 := hp.1
  clear hp hn hd
  have c1 := DC.ACall.anew (backward_fn p) (asc [(1, 960)]) (args' := [sl p]) (rv' := .x (.f (.func 110) [] [.b 960 0])) (nob' := [(960, .box [.d (intsPV p)])]) rfl rfl rfl rfl
    [(7, .box [.d (.v (.int .i64 1))]), (6, .box [.d (.v (.int .i64 0))]), (5, .box [.d (.v (.int .i64 den))]), (4, .box [.d (.v (.int .i64 num))])] (by intro p hp; rw [List.mem_singleton.1 hp]; rfl)
  refine FnC.of_ACall ?_ rfl
  refine ACall_of_AWM hTt [931] Tryd.func85 rfl (by kernel_rfl) (res := [.cell 6 3]) rfl Tryd.ntmps85 (by simp) fun w0 K0 B => ?_
  dsimp only [entry]
  repeat' first | with_reducible refine AW_seq ?_ | with_reducible refine AW_block ?_ | ((first | with_reducible refine AW_region hTt ?_ | ((refine ⟨_, c1, ?_⟩); (rintro _ _ ⟨rfl, rfl⟩)) | fail); conv => whnf) | fail
  refine AW_imp (Imp.forget (fr' := frV) (σ' := [(7, .box [.d (.v (.int .i64 1))]), (6, .box [.d (.v (.int .i64 0))]), (5, .box [.d (.v (.int .i64 den))]), (4, .box [.d (.v (.int .i64 num))]), (960, .box [.d (intsPV p)])])
    ⟨rfl, rfl, rfl, rfl, rfl, trivial⟩ ⟨rfl, rfl, rfl, rfl, rfl, trivial⟩ rfl) ?_
  refine AW_rangeFunc 930 931 rfl rfl rfl (by decide) (by simp) rfl _ (back1_fn hp5 num den ?hy) ?hk
  case hk =>
    rintro rv σ' ⟨rfl, rfl⟩
    refine ⟨rfl, .ready, none, rfl, by decide, ?_⟩
    dsimp only
    conv => whnf
    repeat' first | with_reducible refine AW_seq ?_ | ((first | with_reducible refine AW_ret ?_ | with_reducible refine AW_region hTt ?_ | fail); conv => whnf) | fail
    exact ⟨[(6, .x (.b 6 0))], [(6, .box [.d (.v (.int .i64 (valP p num den)))])], ⟨rfl, trivial⟩, ⟨rfl, trivial⟩, rfl, iv .i64 (valP p num den), [], trivial, rfl, rfl, rfl, rfl⟩
  case hy =>
    intro j hj
    obtain ⟨l1, l2, l3, l4⟩ := hl j hj
    have e1 : valS p num den (j + 1) = ((valS p num den j).1 * num + p.getD (p.length - 1 - j) 0 * (valS p num den j).2, (valS p num den j).2 * den) := rfl
    rw [e1]
    generalize valS p num den j = S at *
    generalize p.getD (p.length - 1 - j) 0 = c at *
    obtain ⟨n, w⟩ := S
    dsimp only at l1 l2 l3 l4 ⊢
    unfold lim at l1 l2 l3 l4
    have w1 : IntKind.i64.wrap (n * num) = n * num := wrap_of (by omega)
    have w2 : IntKind.i64.wrap (c * w) = c * w := wrap_of (by omega)
    have w3 : IntKind.i64.wrap (n * num + c * w) = n * num + c * w := wrap_of (by omega)
    have w4 : IntKind.i64.wrap (w * den) = w * den := wrap_of (by omega)
    refine YC_of_AW (pend := none) rfl rfl (by decide) rfl ?_
    intro w0 K0 B b
    dsimp only [bindP]
    repeat' first | ((with_reducible refine AW_region hTt ?_); conv => whnf) | fail
    refine ⟨_, rfl, ?_⟩
    repeat' first | with_reducible refine AW_seq ?_ | with_reducible refine AW_block ?_ | ((first | with_reducible refine AW_region hTt ?_ | refine ⟨_, w1, ?_⟩ | refine ⟨_, w2, ?_⟩ | refine ⟨_, w3, ?_⟩ | refine ⟨_, w4, ?_⟩ | fail); conv => whnf) | fail
    refine ⟨setOb 930 (.x (.loop .busy none #[12, 13] ?a ?b 25 frV 931)) (sgV ?a ?b (intsPV p) num den (n * num + c * w, w * den)), none, ?h1, ?h2, ?h3, ?h4⟩
    case h3 => exact rfl
    case h1 => exact ⟨rfl, rfl, rfl, rfl, rfl, rfl, rfl, trivial⟩
    case h2 => rfl
    case h4 => exact ⟨rfl, rfl⟩
theorem compare_fn (x y : Int) : FnC Tryd.prog 97 [iv .i64 x, iv .i64 y] (iv .i64 (if x < y then -1 else if y < x then 1 else 0)) := by
  have h0 : ∀ x, FnC Tryd.prog 108 [iv .i64 x] (bv false) := by
    intro x
    have h : FnC Tryd.prog 108 [iv .i64 x] (bv (x != x)) := by
      refine FnC_of_AW hTt Tryd.func108 rfl (by kernel_rfl) (res := [.tmp 2]) rfl Tryd.ntmps108 (by simp) fun w0 K0 => ?_
      dsimp only [entry]
      repeat' first | with_reducible refine AW_seq ?_ | ((first | with_reducible refine AW_ret ?_ | with_reducible refine AW_region hTt ?_ | fail); conv => whnf) | fail
      rfl
    rwa [bne_self_eq_false] at h
  refine FnC_of_AW hTt Tryd.func97 rfl (by kernel_rfl) (res := [.tmp 4]) rfl Tryd.ntmps97 (by simp) fun w0 K0 => ?_
  dsimp only [entry]
  by_cases h1 : x < y
  · rw [if_pos h1]
    repeat' first | with_reducible refine AW_seq ?_ | ((first | with_reducible refine AW_skip ?_ | with_reducible refine AW_ret ?_ | with_reducible refine AW_region hTt ?_ | ((refine ⟨_, (h0 _).call rfl rfl, ?_⟩); (rintro _ _ ⟨rfl, rfl⟩)) | fail); conv => whnf) | (exact absurd hb (by omega)) | (refine AW_cond rfl (fun hb => absurd (show false = true from hb) (by decide)) (fun _ => ?_)) | (refine AW_cond rfl (fun hb => ?_) (fun hb => ?_) <;> first | (replace hb := of_decide_eq_true hb; try simp only [List.length_map] at hb) | (replace hb := of_decide_eq_false hb; try simp only [List.length_map] at hb)) | fail
    rfl
  · rw [if_neg h1]
    by_cases h2 : y < x
    · rw [if_pos h2]
      repeat' first | with_reducible refine AW_seq ?_ | ((first | with_reducible refine AW_skip ?_ | with_reducible refine AW_ret ?_ | with_reducible refine AW_region hTt ?_ | ((refine ⟨_, (h0 _).call rfl rfl, ?_⟩); (rintro _ _ ⟨rfl, rfl⟩)) | fail); conv => whnf) | (exact absurd hb (by omega)) | (refine AW_cond rfl (fun hb => absurd (show false = true from hb) (by decide)) (fun _ => ?_)) | (refine AW_cond rfl (fun hb => ?_) (fun hb => ?_) <;> first | (replace hb := of_decide_eq_true hb; try simp only [List.length_map] at hb) | (replace hb := of_decide_eq_false hb; try simp only [List.length_map] at hb)) | fail
      rfl
    · rw [if_neg h2]
      repeat' first | with_reducible refine AW_seq ?_ | ((first | with_reducible refine AW_skip ?_ | with_reducible refine AW_ret ?_ | with_reducible refine AW_region hTt ?_ | ((refine ⟨_, (h0 _).call rfl rfl, ?_⟩); (rintro _ _ ⟨rfl, rfl⟩)) | fail); conv => whnf) | (exact absurd hb (by omega)) | (refine AW_cond rfl (fun hb => absurd (show false = true from hb) (by decide)) (fun _ => ?_)) | (refine AW_cond rfl (fun hb => ?_) (fun hb => ?_) <;> first | (replace hb := of_decide_eq_true hb; try simp only [List.length_map] at hb) | (replace hb := of_decide_eq_false hb; try simp only [List.length_map] at hb)) | fail
      rfl
def sgnI (n : Int) : Int := if n < 0 then -1 else if 0 < n then 1 else 0
theorem sign_fn {p : List Int} (hp : pOK p) {num den : Int} (hn : -4000 ≤ num ∧ num ≤ 4000) (hd : -4000 ≤ den ∧ den ≤ 4000) : FnC Tryd.prog 63 [sl p, iv .i64 num, iv .i64 den] (iv .i64 (sgnI (valP p num den))) := by
  have h1 := value_fn hp hn hd
  have h2 := compare_fn (valP p num den) 0
  refine FnC_of_AW hTt Tryd.func63 rfl (by kernel_rfl) (res := [.tmp 6]) rfl Tryd.ntmps63 (by simp) fun w0 K0 => ?_
  dsimp only [entry]
  repeat' first | with_reducible refine AW_seq ?_ | ((first | with_reducible refine AW_ret ?_ | with_reducible refine AW_region hTt ?_ | ((refine ⟨_, (h1).call rfl rfl, ?_⟩); (rintro _ _ ⟨rfl, rfl⟩)) | ((refine ⟨_, (h2).call rfl rfl, ?_⟩); (rintro _ _ ⟨rfl, rfl⟩)) | fail); conv => whnf) | fail
  rfl
end Go.Proofs.YtnpleednkmhhhaaDoor
namespace Go.Proofs
open Go.Shelf
def Tryd.lays105_ren : Go.Shelf.Ren := ⟨fun | 99 => 91 | 105 => 52 | 165 => 92 | 166 => 93 | 169 => 55 | 170 => 94 | 206 => 104 | 212 => 90 | 240 => 95 | 241 => 105 | 263 => 102 | 264 => 103 | 276 => 106 | 277 => 115 | n => n, fun | 0 => 0 | 3 => 3 | 4 => 4 | 5 => 5 | 9 => 9 | 20 => 20 | 37 => 98 | 46 => 133 | 51 => 152 | 53 => 155 | 70 => 97 | 72 => 100 | 75 => 102 | 76 => 104 | 80 => 106 | 109 => 134 | 127 => 141 | 146 => 153 | 148 => 156 | 164 => 158 | n => n, fun | n => n⟩
theorem Tryd.lays105 : Go.Proofs.Lays.n105 Tryd.prog Tryd.lays105_ren := {
  mixed := by kernel_rfl
  f99 := Tryd.func91.trans (congrArg some (by kernel_rfl))
  f105 := Tryd.func52.trans (congrArg some (by kernel_rfl))
  f165 := Tryd.func92.trans (congrArg some (by kernel_rfl))
  f166 := Tryd.func93.trans (congrArg some (by kernel_rfl))
  f169 := Tryd.func55.trans (congrArg some (by kernel_rfl))
  f170 := Tryd.func94.trans (congrArg some (by kernel_rfl))
  f206 := Tryd.func104.trans (congrArg some (by kernel_rfl))
  f212 := Tryd.func90.trans (congrArg some (by kernel_rfl))
  f240 := Tryd.func95.trans (congrArg some (by kernel_rfl))
  f241 := Tryd.func105.trans (congrArg some (by kernel_rfl))
  f263 := Tryd.func102.trans (congrArg some (by kernel_rfl))
  f264 := Tryd.func103.trans (congrArg some (by kernel_rfl))
  f276 := Tryd.func106.trans (congrArg some (by kernel_rfl))
  f277 := Tryd.func115.trans (congrArg some (by kernel_rfl))
  t0 := Tryd.underlying0
  a0 := Tryd.isAgg0
  z0 := Tryd.sizeOf0
  v0 := Tryd.zeroValue0
  t3 := Tryd.underlying3
  a3 := Tryd.isAgg3
  z3 := Tryd.sizeOf3
  v3 := Tryd.zeroValue3
  t4 := Tryd.underlying4
  a4 := Tryd.isAgg4
  z4 := Tryd.sizeOf4
  v4 := Tryd.zeroValue4
  t5 := Tryd.underlying5
  a5 := Tryd.isAgg5
  z5 := Tryd.sizeOf5
  v5 := Tryd.zeroValue5
  t9 := Tryd.underlying9
  a9 := Tryd.isAgg9
  z9 := Tryd.sizeOf9
  v9 := Tryd.zeroValue9
  t20 := Tryd.underlying20
  a20 := Tryd.isAgg20
  z20 := Tryd.sizeOf20
  v20 := Tryd.zeroValue20
  t37 := Tryd.underlying98
  a37 := Tryd.isAgg98
  z37 := Tryd.sizeOf98
  v37 := Tryd.zeroValue98
  t46 := Tryd.underlying133
  a46 := Tryd.isAgg133
  z46 := Tryd.sizeOf133
  v46 := Tryd.zeroValue133
  t51 := Tryd.underlying152
  a51 := Tryd.isAgg152
  z51 := Tryd.sizeOf152
  v51 := Tryd.zeroValue152
  t53 := Tryd.underlying155
  a53 := Tryd.isAgg155
  z53 := Tryd.sizeOf155
  v53 := Tryd.zeroValue155
  t70 := Tryd.underlying97
  a70 := Tryd.isAgg97
  z70 := Tryd.sizeOf97
  v70 := Tryd.zeroValue97
  t72 := Tryd.underlying100
  a72 := Tryd.isAgg100
  z72 := Tryd.sizeOf100
  v72 := Tryd.zeroValue100
  t75 := Tryd.underlying102
  a75 := Tryd.isAgg102
  z75 := Tryd.sizeOf102
  v75 := Tryd.zeroValue102
  t76 := Tryd.underlying104
  a76 := Tryd.isAgg104
  z76 := Tryd.sizeOf104
  v76 := Tryd.zeroValue104
  t109 := Tryd.underlying134
  a109 := Tryd.isAgg134
  z109 := Tryd.sizeOf134
  v109 := Tryd.zeroValue134
  t127 := Tryd.underlying141
  a127 := Tryd.isAgg141
  z127 := Tryd.sizeOf141
  v127 := Tryd.zeroValue141
  t146 := Tryd.underlying153
  a146 := Tryd.isAgg153
  z146 := Tryd.sizeOf153
  v146 := Tryd.zeroValue153
  t148 := Tryd.underlying156
  a148 := Tryd.isAgg156
  z148 := Tryd.sizeOf156
  v148 := Tryd.zeroValue156
  t164 := Tryd.underlying158
  a164 := Tryd.isAgg158
  z164 := Tryd.sizeOf158
  v164 := Tryd.zeroValue158 }
theorem Tryd.bx105 : Builder.Extra Tryd.prog Tryd.lays105_ren := {
  sizeBuilder := by kernel_rfl
  liesBuilder := by kernel_rfl
  t5 := Tryd.underlying5
  a5 := Tryd.isAgg5
  z5 := Tryd.sizeOf5
  v5 := Tryd.zeroValue5
  infoByte := by kernel_rfl
  cellsByte := by kernel_rfl
  sizeByte := by kernel_rfl
  neB5 := by decide }
def Tryd.lays167_ren : Go.Shelf.Ren := ⟨fun | 167 => 53 | 240 => 95 | 276 => 106 | n => n, fun | 0 => 0 | 4 => 4 | 5 => 5 | 9 => 9 | 20 => 20 | 37 => 98 | 70 => 97 | 72 => 100 | 75 => 102 | 80 => 106 | 164 => 158 | n => n, fun | n => n⟩
theorem Tryd.lays167 : Go.Proofs.Lays.n167 Tryd.prog Tryd.lays167_ren := {
  mixed := by kernel_rfl
  f167 := Tryd.func53.trans (congrArg some (by kernel_rfl))
  f240 := Tryd.func95.trans (congrArg some (by kernel_rfl))
  f276 := Tryd.func106.trans (congrArg some (by kernel_rfl))
  t0 := Tryd.underlying0
  a0 := Tryd.isAgg0
  z0 := Tryd.sizeOf0
  v0 := Tryd.zeroValue0
  t4 := Tryd.underlying4
  a4 := Tryd.isAgg4
  z4 := Tryd.sizeOf4
  v4 := Tryd.zeroValue4
  t5 := Tryd.underlying5
  a5 := Tryd.isAgg5
  z5 := Tryd.sizeOf5
  v5 := Tryd.zeroValue5
  t9 := Tryd.underlying9
  a9 := Tryd.isAgg9
  z9 := Tryd.sizeOf9
  v9 := Tryd.zeroValue9
  t20 := Tryd.underlying20
  a20 := Tryd.isAgg20
  z20 := Tryd.sizeOf20
  v20 := Tryd.zeroValue20
  t37 := Tryd.underlying98
  a37 := Tryd.isAgg98
  z37 := Tryd.sizeOf98
  v37 := Tryd.zeroValue98
  t70 := Tryd.underlying97
  a70 := Tryd.isAgg97
  z70 := Tryd.sizeOf97
  v70 := Tryd.zeroValue97
  t72 := Tryd.underlying100
  a72 := Tryd.isAgg100
  z72 := Tryd.sizeOf100
  v72 := Tryd.zeroValue100
  t75 := Tryd.underlying102
  a75 := Tryd.isAgg102
  z75 := Tryd.sizeOf102
  v75 := Tryd.zeroValue102
  t164 := Tryd.underlying158
  a164 := Tryd.isAgg158
  z164 := Tryd.sizeOf158
  v164 := Tryd.zeroValue158 }
theorem Tryd.bx167 : Builder.Extra Tryd.prog Tryd.lays167_ren := {
  sizeBuilder := by kernel_rfl
  liesBuilder := by kernel_rfl
  t5 := Tryd.underlying5
  a5 := Tryd.isAgg5
  z5 := Tryd.sizeOf5
  v5 := Tryd.zeroValue5
  infoByte := by kernel_rfl
  cellsByte := by kernel_rfl
  sizeByte := by kernel_rfl
  neB5 := by decide }
def Tryd.lays168_ren : Go.Shelf.Ren := ⟨fun | 168 => 54 | 240 => 95 | 242 => 96 | 276 => 106 | 278 => 107 | n => n, fun | 0 => 0 | 3 => 3 | 4 => 4 | 5 => 5 | 9 => 9 | 20 => 20 | 21 => 21 | 37 => 98 | 46 => 133 | 51 => 152 | 70 => 97 | 72 => 100 | 75 => 102 | 80 => 106 | 164 => 158 | n => n, fun | n => n⟩
theorem Tryd.lays168 : Go.Proofs.Lays.n168 Tryd.prog Tryd.lays168_ren := {
  mixed := by kernel_rfl
  f168 := Tryd.func54.trans (congrArg some (by kernel_rfl))
  f240 := Tryd.func95.trans (congrArg some (by kernel_rfl))
  f242 := Tryd.func96.trans (congrArg some (by kernel_rfl))
  f276 := Tryd.func106.trans (congrArg some (by kernel_rfl))
  f278 := Tryd.func107.trans (congrArg some (by kernel_rfl))
  t0 := Tryd.underlying0
  a0 := Tryd.isAgg0
  z0 := Tryd.sizeOf0
  v0 := Tryd.zeroValue0
  t3 := Tryd.underlying3
  a3 := Tryd.isAgg3
  z3 := Tryd.sizeOf3
  v3 := Tryd.zeroValue3
  t4 := Tryd.underlying4
  a4 := Tryd.isAgg4
  z4 := Tryd.sizeOf4
  v4 := Tryd.zeroValue4
  t5 := Tryd.underlying5
  a5 := Tryd.isAgg5
  z5 := Tryd.sizeOf5
  v5 := Tryd.zeroValue5
  t9 := Tryd.underlying9
  a9 := Tryd.isAgg9
  z9 := Tryd.sizeOf9
  v9 := Tryd.zeroValue9
  t20 := Tryd.underlying20
  a20 := Tryd.isAgg20
  z20 := Tryd.sizeOf20
  v20 := Tryd.zeroValue20
  t21 := Tryd.underlying21
  a21 := Tryd.isAgg21
  z21 := Tryd.sizeOf21
  v21 := Tryd.zeroValue21
  t37 := Tryd.underlying98
  a37 := Tryd.isAgg98
  z37 := Tryd.sizeOf98
  v37 := Tryd.zeroValue98
  t46 := Tryd.underlying133
  a46 := Tryd.isAgg133
  z46 := Tryd.sizeOf133
  v46 := Tryd.zeroValue133
  t51 := Tryd.underlying152
  a51 := Tryd.isAgg152
  z51 := Tryd.sizeOf152
  v51 := Tryd.zeroValue152
  t70 := Tryd.underlying97
  a70 := Tryd.isAgg97
  z70 := Tryd.sizeOf97
  v70 := Tryd.zeroValue97
  t72 := Tryd.underlying100
  a72 := Tryd.isAgg100
  z72 := Tryd.sizeOf100
  v72 := Tryd.zeroValue100
  t75 := Tryd.underlying102
  a75 := Tryd.isAgg102
  z75 := Tryd.sizeOf102
  v75 := Tryd.zeroValue102
  t164 := Tryd.underlying158
  a164 := Tryd.isAgg158
  z164 := Tryd.sizeOf158
  v164 := Tryd.zeroValue158 }
theorem Tryd.bx168 : Builder.Extra Tryd.prog Tryd.lays168_ren := {
  sizeBuilder := by kernel_rfl
  liesBuilder := by kernel_rfl
  t5 := Tryd.underlying5
  a5 := Tryd.isAgg5
  z5 := Tryd.sizeOf5
  v5 := Tryd.zeroValue5
  infoByte := by kernel_rfl
  cellsByte := by kernel_rfl
  sizeByte := by kernel_rfl
  neB5 := by decide }
def Tryd.lays169_ren : Go.Shelf.Ren := ⟨fun | 169 => 55 | n => n, fun | 0 => 0 | 3 => 3 | 5 => 5 | 9 => 9 | 37 => 98 | 70 => 97 | 72 => 100 | 127 => 141 | n => n, fun | n => n⟩
theorem Tryd.lays169 : Go.Proofs.Lays.n169 Tryd.prog Tryd.lays169_ren := {
  mixed := by kernel_rfl
  f169 := Tryd.func55.trans (congrArg some (by kernel_rfl))
  t0 := Tryd.underlying0
  a0 := Tryd.isAgg0
  z0 := Tryd.sizeOf0
  v0 := Tryd.zeroValue0
  t3 := Tryd.underlying3
  a3 := Tryd.isAgg3
  z3 := Tryd.sizeOf3
  v3 := Tryd.zeroValue3
  t9 := Tryd.underlying9
  a9 := Tryd.isAgg9
  z9 := Tryd.sizeOf9
  v9 := Tryd.zeroValue9
  t37 := Tryd.underlying98
  a37 := Tryd.isAgg98
  z37 := Tryd.sizeOf98
  v37 := Tryd.zeroValue98
  t70 := Tryd.underlying97
  a70 := Tryd.isAgg97
  z70 := Tryd.sizeOf97
  v70 := Tryd.zeroValue97
  t72 := Tryd.underlying100
  a72 := Tryd.isAgg100
  z72 := Tryd.sizeOf100
  v72 := Tryd.zeroValue100
  t127 := Tryd.underlying141
  a127 := Tryd.isAgg141
  z127 := Tryd.sizeOf141
  v127 := Tryd.zeroValue141 }
theorem Tryd.bx169 : Builder.Extra Tryd.prog Tryd.lays169_ren := {
  sizeBuilder := by kernel_rfl
  liesBuilder := by kernel_rfl
  t5 := Tryd.underlying5
  a5 := Tryd.isAgg5
  z5 := Tryd.sizeOf5
  v5 := Tryd.zeroValue5
  infoByte := by kernel_rfl
  cellsByte := by kernel_rfl
  sizeByte := by kernel_rfl
  neB5 := by decide }
def Tryd.laysM171_ren : Go.Shelf.Ren := ⟨fun | 129 => 117 | 171 => 51 | 243 => 89 | 246 => 101 | 283 => 111 | 284 => 112 | 285 => 113 | 286 => 114 | 317 => 116 | 318 => 118 | 319 => 119 | 320 => 120 | 337 => 121 | 338 => 122 | n => n, fun | 0 => 0 | 2 => 2 | 3 => 3 | 4 => 4 | 5 => 5 | 9 => 9 | 20 => 20 | 37 => 98 | 46 => 133 | 51 => 152 | 53 => 155 | 171 => 161 | 173 => 164 | 212 => 168 | 213 => 169 | 232 => 172 | 233 => 173 | n => n, fun | 17 => 0 | 18 => 2 | 19 => 3 | n => n⟩
theorem Tryd.laysM171 : Go.Proofs.LaysM.n171 Tryd.prog Tryd.laysM171_ren := {
  mixed := by kernel_rfl
  f129 := Tryd.func117.trans (congrArg some (by kernel_rfl))
  f171 := Tryd.func51.trans (congrArg some (by kernel_rfl))
  f243 := Tryd.func89.trans (congrArg some (by kernel_rfl))
  f246 := Tryd.func101.trans (congrArg some (by kernel_rfl))
  f283 := Tryd.func111.trans (congrArg some (by kernel_rfl))
  f284 := Tryd.func112.trans (congrArg some (by kernel_rfl))
  f285 := Tryd.func113.trans (congrArg some (by kernel_rfl))
  f286 := Tryd.func114.trans (congrArg some (by kernel_rfl))
  f317 := Tryd.func116.trans (congrArg some (by kernel_rfl))
  f318 := Tryd.func118.trans (congrArg some (by kernel_rfl))
  f319 := Tryd.func119.trans (congrArg some (by kernel_rfl))
  f320 := Tryd.func120.trans (congrArg some (by kernel_rfl))
  f337 := Tryd.func121.trans (congrArg some (by kernel_rfl))
  f338 := Tryd.func122.trans (congrArg some (by kernel_rfl))
  t0 := Tryd.underlying0
  a0 := Tryd.isAgg0
  z0 := Tryd.sizeOf0
  v0 := Tryd.zeroValue0
  t2 := Tryd.underlying2
  a2 := Tryd.isAgg2
  z2 := Tryd.sizeOf2
  v2 := Tryd.zeroValue2
  t3 := Tryd.underlying3
  a3 := Tryd.isAgg3
  z3 := Tryd.sizeOf3
  v3 := Tryd.zeroValue3
  t4 := Tryd.underlying4
  a4 := Tryd.isAgg4
  z4 := Tryd.sizeOf4
  v4 := Tryd.zeroValue4
  t5 := Tryd.underlying5
  a5 := Tryd.isAgg5
  z5 := Tryd.sizeOf5
  v5 := Tryd.zeroValue5
  t9 := Tryd.underlying9
  a9 := Tryd.isAgg9
  z9 := Tryd.sizeOf9
  v9 := Tryd.zeroValue9
  t20 := Tryd.underlying20
  a20 := Tryd.isAgg20
  z20 := Tryd.sizeOf20
  v20 := Tryd.zeroValue20
  t37 := Tryd.underlying98
  a37 := Tryd.isAgg98
  z37 := Tryd.sizeOf98
  v37 := Tryd.zeroValue98
  t46 := Tryd.underlying133
  a46 := Tryd.isAgg133
  z46 := Tryd.sizeOf133
  v46 := Tryd.zeroValue133
  t51 := Tryd.underlying152
  a51 := Tryd.isAgg152
  z51 := Tryd.sizeOf152
  v51 := Tryd.zeroValue152
  t53 := Tryd.underlying155
  a53 := Tryd.isAgg155
  z53 := Tryd.sizeOf155
  v53 := Tryd.zeroValue155
  t171 := Tryd.underlying161
  a171 := Tryd.isAgg161
  z171 := Tryd.sizeOf161
  v171 := Tryd.zeroValue161
  t173 := Tryd.underlying164
  a173 := Tryd.isAgg164
  z173 := Tryd.sizeOf164
  v173 := Tryd.zeroValue164
  t212 := Tryd.underlying168
  a212 := Tryd.isAgg168
  z212 := Tryd.sizeOf168
  v212 := Tryd.zeroValue168
  t213 := Tryd.underlying169
  a213 := Tryd.isAgg169
  z213 := Tryd.sizeOf169
  t232 := Tryd.underlying172
  a232 := Tryd.isAgg172
  z232 := Tryd.sizeOf172
  v232 := Tryd.zeroValue172
  t233 := Tryd.underlying173
  a233 := Tryd.isAgg173
  z233 := Tryd.sizeOf173
  v233 := Tryd.zeroValue173
  g17 := by kernel_rfl
  g18 := by kernel_rfl
  g19 := by kernel_rfl
  i0 := by kernel_rfl
  i2 := by kernel_rfl
  i3 := by kernel_rfl
  i4 := by kernel_rfl
  i5 := by kernel_rfl
  i9 := by kernel_rfl
  i20 := by kernel_rfl
  i37 := by kernel_rfl
  i46 := by kernel_rfl
  i51 := by kernel_rfl
  i53 := by kernel_rfl
  i171 := by kernel_rfl
  i173 := by kernel_rfl
  i212 := by kernel_rfl
  i232 := by kernel_rfl
  i233 := by kernel_rfl
  m17 := by kernel_rfl
  m18 := by kernel_rfl
  m19 := by kernel_rfl }
end Go.Proofs
namespace Go.Proofs.YtnpleednkmhhhaaDoor
open Go Go.QL Go.RowKit
set_option maxHeartbeats 1600000
attribute [local irreducible] ACall FnC YC
theorem itoa_fn (n : Int) (h0 : -9223372036854775808 ≤ n) (h1 : n ≤ 9223372036854775807) : FnC Tryd.prog 51 [iv .i64 n] (sv ⟨(Lib.itoa n).toArray⟩) := by
  unfold FnC
  refine ⟨⟨_, Tryd.func51, rfl, rfl⟩, fun K w vs hL hK hs hv => ?_⟩
  obtain ⟨v, rfl⟩ : ∃ v, vs = #[v] := by
    match vs, hs with
    | ⟨[v]⟩, _ => exact ⟨v, rfl⟩
  have h2 := hv 0 (iv .i64 n) v rfl rfl
  have hvi : v = .int .i64 n := by
    cases h2 with
    | d _ _ h => cases h; rfl
  subst hvi
  refine Calls.mono (show Calls Tryd.prog 51 #[.int .i64 n] w _ from Any.strconv_Itoa Tryd.laysM171 n h0 h1 w (hL.tab (by decide +kernel) (by kernel_rfl : _ = some 0))) ?_
  rintro e w' ⟨rfl, k, os, rfl⟩
  have hb := Lib.below_grow w.heap.size w (Nat.le_refl _) k os
  refine ⟨_, K, rfl, hb, ⟨fun _ _ h => h, fun b o hk => ?_⟩, fun _ _ _ h => h, fun b o hk => Nat.lt_of_lt_of_le (hK b o hk) hb.size, vr_plain _ rfl⟩
  exact hb.cell (hK b o hk)
theorem repeat_fn (s : ByteArray) (c : Nat) (hc : c ≤ 1000) (hs : s.size ≤ 1000) : FnC Tryd.prog 52 [sv s, iv .i64 c] (sv ⟨(Lib.repeatL s.data.toList c).toArray⟩) := by
  unfold FnC
  refine ⟨⟨_, Tryd.func52, rfl, rfl⟩, fun K w vs hL hK hs' hv => ?_⟩
  obtain ⟨u, v, rfl⟩ : ∃ u v, vs = #[u, v] := by
    match vs, hs' with
    | ⟨[u, v]⟩, _ => exact ⟨u, v, rfl⟩
  have h1 := hv 0 (sv s) u rfl rfl
  have h2 := hv 1 (iv .i64 c) v rfl rfl
  obtain rfl : u = .string s := by
    cases h1 with
    | d _ _ h => cases h; rfl
  obtain rfl : v = .int .i64 c := by
    cases h2 with
    | d _ _ h => cases h; rfl
  have hm : s.size * c ≤ 1000 * 1000 := Nat.mul_le_mul hs hc
  refine Calls.mono (show Calls Tryd.prog 52 #[.string s, .int .i64 c] w _ from Any.strings_Repeat Tryd.lays105 Tryd.bx105 s c w (by omega) (by omega)) ?_
  rintro e w' ⟨rfl, hb⟩
  refine ⟨_, K, rfl, hb, ⟨fun _ _ h => h, fun b o hk => ?_⟩, fun _ _ _ h => h, fun b o hk => Nat.lt_of_lt_of_le (hK b o hk) hb.size, vr_plain _ rfl⟩
  exact hb.cell (hK b o hk)
theorem wbyte_k (B b : Nat) (bs : List Value) (c : Int) (w : World) (h : Lib.IsBuilderF 100 5 B b bs w) (hlen : bs.length + 1 ≤ 140737488355328) (hBw : B ≤ w.heap.size) :
    Calls Tryd.prog 53 #[.pointer (some ⟨b, 0, none⟩), .int .u8 c] w fun e w' => e = .returned .nilIface ∧ (Lib.BuilderAtF 100 5 B b (.pointer (some ⟨b, 0, none⟩)) (bs ++ [.int .u8 c]) w' ∧ Below B w w' ∧ Lib.OthersKept 5 (some b) w w') :=
  Any.Builder_WriteByte_k Tryd.lays167 Tryd.bx167 B b bs c w h hlen hBw
theorem wrune_k (B b : Nat) (bs : List Value) (r : Int) (hr0 : -2147483648 ≤ r) (hr1 : r ≤ 2147483647) (w : World) (h : Lib.IsBuilderF 100 5 B b bs w) (hlen : bs.length + 4 ≤ 140737488355328) (hBw : B ≤ w.heap.size) :
    Calls Tryd.prog 54 #[.pointer (some ⟨b, 0, none⟩), .int .i32 r] w fun e w' => e = .returned (.tuple #[.int .i64 (Lib.runeCells r).length, .nilIface]) ∧ (Lib.BuilderAtF 100 5 B b (.pointer (some ⟨b, 0, none⟩)) (bs ++ Lib.runeCells r) w' ∧ Below B w w' ∧ Lib.OthersKept 5 (some b) w w') :=
  Any.Builder_WriteRune_k Tryd.lays168 Tryd.bx168 B b bs r hr0 hr1 w h hlen hBw
theorem bstring_k (B b : Nat) (l : List UInt8) (w : World) (h : Lib.IsBuilderF 100 5 B b (Lib.byteCells l) w) (hBw : B ≤ w.heap.size) :
    Calls Tryd.prog 55 #[.pointer (some ⟨b, 0, none⟩)] w fun e w' => e = .returned (.string ⟨l.toArray⟩) ∧ (Lib.IsBuilderF 100 5 B b (Lib.byteCells l) w' ∧ Below B w w' ∧ Lib.OthersKept 5 (some b) w w') :=
  Any.Builder_String_any_k Tryd.lays169 Tryd.bx169 B b l w h hBw
def dotTo (s : ByteArray) (kd : Nat) (pos : Nat) : List UInt8 := (List.range pos).flatMap fun j => if j = kd then [46, s.data.getD j 0] else [s.data.getD j 0]
theorem dotTo_succ (s : ByteArray) (kd pos : Nat) : dotTo s kd (pos + 1) = dotTo s kd pos ++ (if pos = kd then [46, s.data.getD pos 0] else [s.data.getD pos 0]) := by
  unfold dotTo; rw [List.range_succ, List.flatMap_append]; simp
theorem dotTo_len (s : ByteArray) (kd : Nat) : ∀ pos, (dotTo s kd pos).length ≤ 2 * pos
  | 0 => by simp [dotTo]
  | pos + 1 => by
    rw [dotTo_succ, List.length_append]
    have := dotTo_len s kd pos
    have : (if pos = kd then [46, s.data.getD pos 0] else [s.data.getD pos 0]).length ≤ 2 := by split <;> simp
    omega
theorem byte_getD (s : ByteArray) (pos : Nat) (h : pos < s.size) : s.data.getD pos 0 = s[pos]'h := by
  have : pos < s.data.size := h
  unfold Array.getD; rw [dif_pos this]; rfl
theorem cells_one (c : UInt8) : Lib.byteCells [c] = [Value.int .u8 (c.toNat : Int)] := rfl
theorem rune_one (c : UInt8) (h : c.toNat < 128) : Lib.runeCells (c.toNat : Int) = [Value.int .u8 (c.toNat : Int)] := by
  unfold Lib.runeCells
  rw [Lib.encodeRuneZ_one (by omega) (by omega)]; rfl
def Stp (P : Program) (Γ : Cx) (c : Code) (Q : Exit → Fr → Sg → Prop) (fr : Fr) (σ : Sg) : Prop := AW P Γ c Q fr σ
theorem Stp.at11 {P : Program} {Γ : Cx} {y : Code} {ops : Array Oper} {b : Bool} {Q : Exit → Fr → Sg → Prop} {fr : Fr} {σ : Sg} (h : Stp P Γ (.seq (.region 11 ops b) y) Q fr σ) : AW P Γ (.seq (.region 11 ops b) y) Q fr σ := h
attribute [irreducible] Stp
def unitsP (x : R2) (p : Nat) : Int := (2 * ((x.1.natAbs : Int) * 10 ^ p) + x.2).tdiv (2 * x.2)
theorem ten18 {p : Nat} (hp : p ≤ 6) : (1 : Int) ≤ 10 ^ p ∧ (10 : Int) ^ p ≤ 1000000 := by
  have : p = 0 ∨ p = 1 ∨ p = 2 ∨ p = 3 ∨ p = 4 ∨ p = 5 ∨ p = 6 := by omega
  rcases this with rfl | rfl | rfl | rfl | rfl | rfl | rfl <;> decide
theorem units_rng {x : R2} {p : Nat} (hx : -1000000000000 ≤ x.1 ∧ x.1 ≤ 1000000000000) (hd : 1 ≤ x.2 ∧ x.2 ≤ 1000000000000) (hp : p ≤ 6) :
    (0 ≤ (x.1.natAbs : Int) * 10 ^ p ∧ (x.1.natAbs : Int) * 10 ^ p ≤ 1000000000000000000) ∧ 0 ≤ unitsP x p ∧ unitsP x p ≤ 3000000000000000000 := by
  have h10 := ten18 hp
  have hm := mul_bd (a := (x.1.natAbs : Int)) (b := 10 ^ p) (A := 1000000000000) (B := 1000000) (by omega) (by omega)
  have h0 : 0 ≤ (x.1.natAbs : Int) * 10 ^ p := Int.mul_nonneg (by omega) (by omega)
  refine ⟨by omega, ?_⟩
  unfold unitsP
  rw [Int.tdiv_eq_ediv_of_nonneg (by omega)]
  refine ⟨Int.ediv_nonneg (by omega) (by omega), ?_⟩
  have := Int.ediv_le_self (2 * x.2) (a := 2 * ((x.1.natAbs : Int) * 10 ^ p) + x.2) (by omega)
  omega
def padL (x : R2) (p : Nat) : List UInt8 := Lib.repeatL [48] ((p : Int) + 1 - (Lib.itoa (unitsP x p)).length).toNat ++ Lib.itoa (unitsP x p)
def padS (x : R2) (p : Nat) : ByteArray := ⟨(padL x p).toArray⟩
def printB (x : R2) (p : Nat) : List UInt8 := (if x.1 < 0 ∧ 0 < unitsP x p then [45] else []) ++ dotTo (padS x p) ((padS x p).size - p) (padS x p).size
theorem ba_append (a b : List UInt8) : (⟨a.toArray⟩ : ByteArray) ++ ⟨b.toArray⟩ = ⟨(a ++ b).toArray⟩ := by
  apply ByteArray.ext
  rw [ByteArray.data_append]
  simp
theorem dec_dig (u : Nat) : ∀ c ∈ Lib.decDigits u, 48 ≤ c.toNat ∧ c.toNat ≤ 57 := by
  induction u using Nat.strongRecOn with
  | _ u ih =>
    intro c hc
    rw [Lib.decDigits] at hc
    by_cases h : u < 10
    · rw [dif_pos h, List.mem_singleton] at hc
      subst hc
      rw [UInt8.toNat_ofNat', Nat.mod_eq_of_lt (by omega)]; omega
    · rw [dif_neg h, List.mem_append, List.mem_singleton] at hc
      rcases hc with hc | rfl
      · exact ih (u / 10) (by omega) c hc
      · rw [UInt8.toNat_ofNat', Nat.mod_eq_of_lt (by omega)]; omega
theorem rep_mem (n : Nat) : ∀ c ∈ Lib.repeatL [48] n, c = 48 := by
  induction n with
  | zero => intro c h; cases h
  | succ n ih =>
    intro c h
    rw [Lib.repeatL, List.mem_append, List.mem_singleton] at h
    exact h.elim id (ih c)
theorem padL_dig {x : R2} {p : Nat} (h : 0 ≤ unitsP x p) : ∀ c ∈ padL x p, 48 ≤ c.toNat ∧ c.toNat ≤ 57 := by
  intro c hc
  unfold padL at hc
  rcases List.mem_append.1 hc with hc | hc
  · rw [rep_mem _ c hc]; decide
  · unfold Lib.itoa at hc
    rw [if_neg (by omega)] at hc
    exact dec_dig _ c hc
theorem padS_dig {x : R2} {p : Nat} (h : 0 ≤ unitsP x p) (pos : Nat) (hp : pos < (padS x p).size) : 48 ≤ ((padS x p)[pos]'hp).toNat ∧ ((padS x p)[pos]'hp).toNat ≤ 57 := by
  refine padL_dig h _ ?_
  have h2 : pos < (padL x p).length := hp
  show (padL x p).toArray[pos]'(by simpa using h2) ∈ padL x p
  simp
theorem arr82 (t : Array Value) (h : t.size = 82) : t = #[t.getD 0 undef, t.getD 1 undef, t.getD 2 undef, t.getD 3 undef, t.getD 4 undef, t.getD 5 undef, t.getD 6 undef, t.getD 7 undef, t.getD 8 undef, t.getD 9 undef, t.getD 10 undef, t.getD 11 undef, t.getD 12 undef, t.getD 13 undef, t.getD 14 undef, t.getD 15 undef, t.getD 16 undef, t.getD 17 undef, t.getD 18 undef, t.getD 19 undef, t.getD 20 undef, t.getD 21 undef, t.getD 22 undef, t.getD 23 undef, t.getD 24 undef, t.getD 25 undef, t.getD 26 undef, t.getD 27 undef, t.getD 28 undef, t.getD 29 undef, t.getD 30 undef, t.getD 31 undef, t.getD 32 undef, t.getD 33 undef, t.getD 34 undef, t.getD 35 undef, t.getD 36 undef, t.getD 37 undef, t.getD 38 undef, t.getD 39 undef, t.getD 40 undef, t.getD 41 undef, t.getD 42 undef, t.getD 43 undef, t.getD 44 undef, t.getD 45 undef, t.getD 46 undef, t.getD 47 undef, t.getD 48 undef, t.getD 49 undef, t.getD 50 undef, t.getD 51 undef, t.getD 52 undef, t.getD 53 undef, t.getD 54 undef, t.getD 55 undef, t.getD 56 undef, t.getD 57 undef, t.getD 58 undef, t.getD 59 undef, t.getD 60 undef, t.getD 61 undef, t.getD 62 undef, t.getD 63 undef, t.getD 64 undef, t.getD 65 undef, t.getD 66 undef, t.getD 67 undef, t.getD 68 undef, t.getD 69 undef, t.getD 70 undef, t.getD 71 undef, t.getD 72 undef, t.getD 73 undef, t.getD 74 undef, t.getD 75 undef, t.getD 76 undef, t.getD 77 undef, t.getD 78 undef, t.getD 79 undef, t.getD 80 undef, t.getD 81 undef] := by
  have e : t.toList = List.ofFn fun i : Fin 82 => t.getD i.val undef := by
    refine List.ext_getElem (by simp [h]) fun i h1 h2 => ?_
    have hi : i < t.size := by simpa using h1
    rw [List.getElem_ofFn]
    simp [Array.getD, hi]
  have e2 : t = ⟨List.ofFn fun i : Fin 82 => t.getD i.val undef⟩ := by rw [← e]
  exact e2.trans rfl
theorem arr82k (t : Array Value) (h : t.size = 82) {a1 a2 a6 a7 : Value} (h1 : t.getD 1 undef = a1) (h2 : t.getD 2 undef = a2) (h6 : t.getD 6 undef = a6) (h7 : t.getD 7 undef = a7) :
    ∃ v0 v3 v4 v5 v8 v9 v10 v11 v12 v13 v14 v15 v16 v17 v18 v19 v20 v21 v22 v23 v24 v25 v26 v27 v28 v29 v30 v31 v32 v33 v34 v35 v36 v37 v38 v39 v40 v41 v42 v43 v44 v45 v46 v47 v48 v49 v50 v51 v52 v53 v54 v55 v56 v57 v58 v59 v60 v61 v62 v63 v64 v65 v66 v67 v68 v69 v70 v71 v72 v73 v74 v75 v76 v77 v78 v79 v80 v81, t = #[v0, a1, a2, v3, v4, v5, a6, a7, v8, v9, v10, v11, v12, v13, v14, v15, v16, v17, v18, v19, v20, v21, v22, v23, v24, v25, v26, v27, v28, v29, v30, v31, v32, v33, v34, v35, v36, v37, v38, v39, v40, v41, v42, v43, v44, v45, v46, v47, v48, v49, v50, v51, v52, v53, v54, v55, v56, v57, v58, v59, v60, v61, v62, v63, v64, v65, v66, v67, v68, v69, v70, v71, v72, v73, v74, v75, v76, v77, v78, v79, v80, v81] := by
  subst h1 h2 h6 h7
  exact ⟨_, _, _, _, _, _, _, _, _, _, _, _, _, _, _, _, _, _, _, _, _, _, _, _, _, _, _, _, _, _, _, _, _, _, _, _, _, _, _, _, _, _, _, _, _, _, _, _, _, _, _, _, _, _, _, _, _, _, _, _, _, _, _, _, _, _, _, _, _, _, _, _, _, _, _, _, _, _, arr82 t h⟩
theorem print_go (x : R2) (p : Nat) (hx : -1000000000000 ≤ x.1 ∧ x.1 ≤ 1000000000000) (hd : 1 ≤ x.2 ∧ x.2 ≤ 1000000000000) (hp : p ≤ 6) : FnC Tryd.prog 17 [r2AV x, iv .i64 p] (.t [sv ⟨(printB x p).toArray⟩, iv .i64 0]) := by
  have o1 := out_fn (-1000000000000) 1000000000000 [x.1]
  have o2 := out_fn 1 1000000000000 [x.2]
  have o3 := out_fn 0 6 [(p : Int)]
  rw [outL_false.2 (by intro n hn; rw [List.mem_singleton.1 hn]; exact hx)] at o1
  rw [outL_false.2 (by intro n hn; rw [List.mem_singleton.1 hn]; exact hd)] at o2
  rw [outL_false.2 (by intro n hn; rw [List.mem_singleton.1 hn]; omega)] at o3
  obtain ⟨hu1, hu2⟩ := units_rng hx hd hp
  have hten := fun k (hk : k ≤ p) => units_rng (p := k) hx hd (by omega)
  have e0 : unitsP x p = (2 * ((x.1.natAbs : Int) * 10 ^ p) + x.2).tdiv (2 * x.2) := rfl
  have oi := itoa_fn (unitsP x p) (by omega) (by omega)
  generalize hN : unitsP x p = N at *
  have hl := Lib.itoa_length_le N (by omega) (by omega)
  obtain ⟨ds, hds⟩ : ∃ ds : ByteArray, ds = ⟨(Lib.itoa N).toArray⟩ := ⟨_, rfl⟩
  have hdl : ds.size = (Lib.itoa N).length := by rw [hds]; simp [ByteArray.size]
  rw [← hdl] at hl
  rw [← hds] at oi
  have orp := repeat_fn ⟨#[48]⟩ ((p : Int) + 1 - ds.size).toNat (by omega) (by decide)
  rw [show ((((p : Int) + 1 - ds.size).toNat : Nat) : Int) = if (p : Int) + 1 - ds.size > 0 then (p : Int) + 1 - ds.size else 0 by split <;> omega] at orp
  obtain ⟨zs, hzs⟩ : ∃ zs : ByteArray, zs = ⟨(Lib.repeatL (⟨#[48]⟩ : ByteArray).data.toList ((p : Int) + 1 - ds.size).toNat).toArray⟩ := ⟨_, rfl⟩
  rw [← hzs] at orp
  have hzl : zs.size = ((p : Int) + 1 - ds.size).toNat := by rw [hzs]; exact (Lib.repeatL_length _ _).trans (Nat.mul_one _)
  obtain ⟨num, den⟩ := x
  dsimp only at hx hd e0 hten hu1
  have wn : IntKind.i64.wrap (0 - num) = -num := by rw [Int.zero_sub]; exact wrap_of (by omega)
  have hmx : (if (-num) > num then -num else num) = (num.natAbs : Int) * 10 ^ 0 := by rw [Int.pow_zero]; split <;> omega
  refine FnC_of_AWL hTt Tryd.func17 rfl (by kernel_rfl) (res := [.tmp 4, .tmp 5]) rfl Tryd.ntmps17 (by simp) fun w0 K0 => ?_
  dsimp only [entry]
  repeat' first | with_reducible refine AW_seq ?_ | with_reducible refine AW_block ?_ | ((first | with_reducible refine AW_skip ?_ | with_reducible refine AW_region hTt ?_ | ((refine ⟨_, (o1).call rfl rfl, ?_⟩); (rintro _ _ ⟨rfl, rfl⟩)) | refine ⟨_, fun _ => (o2).call rfl rfl, ?_⟩ | refine ⟨_, fun _ => (o3).call rfl rfl, ?_⟩ | refine ⟨_, wn, ?_⟩ | fail); conv => whnf) | (refine AW_cond rfl (fun hb => absurd (show false = true from hb) (by decide)) (fun _ => ?_)) | ((refine andA ?_); conv => whnf) | fail
  clear o1 o2 o3 wn
  refine AW_loop (fun k : Nat => [(33, iv .i64 k), (32, iv .i64 p), (6, iv .i64 ((num.natAbs : Int) * 10 ^ k)), (1, iv .i64 p), (2, .x (.b 2 0))]) (fun _ => [(2, .box [.d (.v (.int .i64 num)), .d (.v (.int .i64 den))])])
    (fun k => k ≤ p) (fun k => p - k) 0 (Nat.zero_le _) (Imp.forget (by repeat' (first | exact trivial | refine And.intro ?_ ?_ | exact ivE hmx | rfl | exact ivE (by first | omega | (simp only [List.length_map, List.length_append, List.length_singleton] <;> omega)) | exact oE (by first | omega | (simp only [List.length_map, List.length_append, List.length_singleton] <;> omega)))) (by repeat' (first | exact trivial | refine And.intro ?_ ?_ | exact ivE hmx | rfl | exact ivE (by first | omega | (simp only [List.length_map, List.length_append, List.length_singleton] <;> omega)) | exact oE (by first | omega | (simp only [List.length_map, List.length_append, List.length_singleton] <;> omega)))) (by kernel_rfl) (by kernel_rfl) (by kernel_rfl)) ?_
  intro k hk
  rcases Nat.lt_or_ge k p with hkl | hkl
  · have hb1 := (hten (k + 1) hkl).1
    have e1 : (num.natAbs : Int) * 10 ^ (k + 1) = (num.natAbs : Int) * 10 ^ k * 10 := by rw [Int.pow_succ, Int.mul_assoc]
    rw [e1] at hb1
    have w1 : IntKind.i64.wrap ((num.natAbs : Int) * 10 ^ k * 10) = (num.natAbs : Int) * 10 ^ (k + 1) := by rw [e1]; exact wrap_of (by omega)
    repeat' first | with_reducible refine AW_seq ?_ | with_reducible refine AW_block ?_ | ((first | with_reducible refine AW_skip ?_ | with_reducible refine AW_exit ?_ | with_reducible refine AW_region hTt ?_ | fail); conv => whnf) | (exact absurd hb (by omega)) | ((refine ⟨_, w1, ?_⟩); conv => whnf) | (refine AW_cond rfl (fun hb => ?_) (fun hb => ?_) <;> first | (replace hb := of_decide_eq_true hb; try simp only [List.length_map] at hb) | (replace hb := of_decide_eq_false hb; try simp only [List.length_map] at hb) | (simp only [List.length_map, bne_iff_ne, ne_eq, beq_iff_eq, bne_eq_false_iff_eq, beq_eq_false_iff_ne, decide_eq_true_eq, decide_eq_false_iff_not, Bool.not_eq_true', Bool.not_eq_false', Int.natCast_inj] at hb) | skip) | ((refine ⟨_, wrap_of (by first | omega | (simp only [List.length_map]; omega)), ?_⟩); conv => whnf) | fail
    exact ⟨k + 1, by omega, by omega, impA⟩
  · obtain rfl : k = p := by omega
    generalize (num.natAbs : Int) * 10 ^ k = M at *
    have w1 : IntKind.i64.wrap (2 * M) = 2 * M := wrap_of (by omega)
    have w2 : IntKind.i64.wrap (2 * M + den) = 2 * M + den := wrap_of (by omega)
    have w3 : IntKind.i64.wrap (2 * den) = 2 * den := wrap_of (by omega)
    have w4 : IntKind.i64.wrap ((2 * M + den).tdiv (2 * den)) = N := by rw [← e0]; exact wrap_of (by omega)
    have w5 : IntKind.i64.wrap ((k : Int) + 1 - ds.size) = (k : Int) + 1 - ds.size := wrap_of (by omega)
    have hzm : zs.size + ds.size ≤ maxLen := by unfold maxLen; omega
    have nz : 2 * den ≠ 0 := by omega
    repeat' first | (with_reducible refine Stp.at11 ?_) | with_reducible refine AW_seq ?_ | with_reducible refine AW_block ?_ | ((first | with_reducible refine AW_skip ?_ | with_reducible refine AW_exit ?_ | with_reducible refine AW_region hTt ?_ | fail); conv => whnf) | (exact absurd hb (by omega)) | ((first | refine ⟨_, w1, ?_⟩ | refine ⟨_, w2, ?_⟩ | refine ⟨_, w3, ?_⟩ | refine ⟨_, w4, ?_⟩ | refine And.intro (gd_none nz) ?_ | refine ⟨_, w5, ?_⟩ | refine And.intro (gd_none hzm) ?_ | ((refine ⟨_, (oi).call rfl rfl, ?_⟩); (rintro _ _ ⟨rfl, rfl⟩)) | ((refine ⟨_, (orp).call rfl rfl, ?_⟩); (rintro _ _ ⟨rfl, rfl⟩)) | fail); conv => whnf) | (refine AW_cond rfl (fun hb => ?_) (fun hb => ?_) <;> first | (replace hb := of_decide_eq_true hb; try simp only [List.length_map] at hb) | (replace hb := of_decide_eq_false hb; try simp only [List.length_map] at hb) | (simp only [List.length_map, bne_iff_ne, ne_eq, beq_iff_eq, bne_eq_false_iff_eq, beq_eq_false_iff_ne, decide_eq_true_eq, decide_eq_false_iff_not, Bool.not_eq_true', Bool.not_eq_false', Int.natCast_inj] at hb) | skip) | ((first | refine ⟨_, wrap_of (by first | omega | (simp only [List.length_map]; omega)), ?_⟩ | refine andA ?_ | fail); conv => whnf) | fail
    clear hten
    unfold Stp
    refine AW_imp (fr' := [(1, iv .i64 k), (2, .x (.b 2 0)), (6, iv .i64 N), (7, sv (zs ++ ds))]) (σ' := [(2, .box [.d (.v (.int .i64 num)), .d (.v (.int .i64 den))])]) impA ?_
    clear w1 w2 w3 w4 w5 nz hzm hmx oi orp hb hkl hk hu1 e0 M
    refine AW.mk fun hL g a w hr => ?_
    have f1 := vr_plain_inv (hr.fr 1 _ rfl).2
    have f2 := (hr.fr 2 _ rfl).2
    have f6 := vr_plain_inv (hr.fr 6 _ rfl).2
    have f7 := vr_plain_inv (hr.fr 7 _ rfl).2
    have hsz := hr.size
    refine (wpIn_wide (n := 0)).2 ?_
    have hgo := hr.hp
    have hdf := hr.defers.nil
    obtain ⟨tmps, dfs⟩ := a
    dsimp only at hdf hsz f1 f2 f6 f7
    subst hdf
    obtain ⟨bx, hbx⟩ : ∃ bx : Nat, tmps.getD 2 undef = .pointer (some ⟨bx, 0, none⟩) ∧ ∃ T, w.heap[bx]? = some (.cells #[.int .i64 num, .int .i64 den] T (0, 0)) := by
      obtain ⟨b, vs, T, h1, h2, h3, h4, h5, h6⟩ := hr.hp.obs 2 _ rfl
      have f2' : SR _ g w (.b 2 0) (tmps.getD 2 undef) := f2
      generalize tmps.getD 2 undef = u at f2'
      cases f2' with
      | b _ _ cs k' hl' hμ' =>
        rw [h1] at hμ'
        cases hμ'
        obtain ⟨u0, a0, b0⟩ := h5 0 _ rfl
        obtain ⟨u1, a1, b1⟩ := h5 1 _ rfl
        obtain rfl := vr_plain_inv (show VR2 _ _ _ (.x (.d (.v (.int .i64 num)))) u0 from b0)
        obtain rfl := vr_plain_inv (show VR2 _ _ _ (.x (.d (.v (.int .i64 den)))) u1 from b1)
        refine ⟨_, rfl, T, ?_⟩
        rw [h3]
        congr 2
        match vs, h4, a0, a1 with
        | ⟨[x, y]⟩, _, a0, a1 => simp at a0 a1; rw [a0, a1]
    obtain ⟨f2, T, hbox⟩ := hbx
    have fin : ∀ (a' : Act) (w' : World) (out : ByteArray), Below w.heap.size w w' → a'.tmps.size = 82 → a'.tmps.getD 4 undef = .string out → a'.tmps.getD 5 undef = .int .i64 0 → a'.defers = [] → out = ⟨(printB (num, den) k).toArray⟩ →
        Lift (Cx.lone w0 K0 82) (PostL Tt [ResultVar.tmp 4, ResultVar.tmp 5] (.t [sv ⟨(printB (num, den) k).toArray⟩, iv .i64 0])) .ret a' w' := by
      intro a' w' out hb h1 h2 h3 h4 h5
      have hw := (hgo.weaken (σ' := []) (fun t v h => by cases h) rfl).grow (K' := g.K) hb ⟨fun _ _ h => h, fun b o hk => hb.cell (hgo.val b o hk)⟩ (fun _ _ _ h => h) (fun b o hk => Nat.lt_of_lt_of_le (hgo.val b o hk) hb.size)
      refine ⟨[(4, sv out), (5, iv .i64 0)], [], _, ⟨hw.hp, fun t v ht => ?_, h1, by rw [h4]; exact DR.empty, fun s v h => h.elim⟩, ?_⟩
      · rw [lk_cons] at ht
        by_cases e4 : 4 = t
        · subst e4; rw [if_pos rfl] at ht; cases ht
          exact ⟨(show 4 < 82 by decide), by rw [h2]; exact VR_of_VR2 (vr_plain _ rfl)⟩
        · rw [if_neg e4, lk_cons] at ht
          by_cases e5 : 5 = t
          · subst e5; rw [if_pos rfl] at ht; cases ht
            exact ⟨(show 5 < 82 by decide), by rw [h3]; exact VR_of_VR2 (vr_plain _ rfl)⟩
          · rw [if_neg e5] at ht; cases ht
      · subst h5
        exact ⟨_, rfl, LeAV.refl _⟩
    clear hr
    obtain ⟨v0, v3, v4, v5, v8, v9, v10, v11, v12, v13, v14, v15, v16, v17, v18, v19, v20, v21, v22, v23, v24, v25, v26, v27, v28, v29, v30, v31, v32, v33, v34, v35, v36, v37, v38, v39, v40, v41, v42, v43, v44, v45, v46, v47, v48, v49, v50, v51, v52, v53, v54, v55, v56, v57, v58, v59, v60, v61, v62, v63, v64, v65, v66, v67, v68, v69, v70, v71, v72, v73, v74, v75, v76, v77, v78, v79, v80, v81, rfl⟩ := arr82k tmps hsz f1 f2 f6 f7
    clear hsz f1 f2 f6 f7
    have hbl : bx < w.heap.size := (Array.getElem?_eq_some_iff.1 hbox).1
    have hc0 : ∀ ob, (w.alloc ob).cell? ⟨bx, 0, none⟩ = some (.int .i64 num) := fun ob => by
      unfold World.cell?
      have : (w.alloc ob).heap[bx]? = w.heap[bx]? := by simp only [World.alloc, Array.getElem?_push, if_neg (Nat.ne_of_lt hbl)]
      dsimp only
      rw [this, hbox]; rfl
    have hSS : zs ++ ds = padS (num, den) k := by
      rw [hzs, hds, ← hN, ba_append]
      rfl
    have hSl : (k : Int) + 1 ≤ (zs ++ ds).size ∧ (zs ++ ds).size ≤ 30 := by rw [ByteArray.size_append]; omega
    have hasc : ∀ pos (h : pos < (zs ++ ds).size), ((zs ++ ds)[pos]'h).toNat < 128 := by
      rw [hSS]
      intro pos h
      have := padS_dig (by rw [hN]; exact hu2.1) pos h
      omega
    have hout : printB (num, den) k = (if num < 0 ∧ 0 < N then [45] else []) ++ dotTo (zs ++ ds) ((zs ++ ds).size - k) (zs ++ ds).size := by rw [hSS]; unfold printB; rw [hN]
    clear hSS
    generalize printB (num, den) k = out0 at *
    generalize zs ++ ds = S at *
    have wS : IntKind.i64.wrap ((S.size : Int) - k) = (S.size : Int) - k := wrap_of (by omega)
    clear hds hdl hzs hzl hN hgo hbox hl hd hx hL
    by_cases hneg : num < 0 ∧ 0 < N
    · rw [if_pos hneg] at hout
      obtain ⟨hn1, hn2⟩ := hneg
      have hn2' : N > 0 := hn2
      go_wp2_with (go_at_call 53; refine (wbyte_k w.heap.size w.heap.size [] 45 _ (Lib.IsBuilderF.of (Lib.fresh_isBuilder 100 5 w)) (by decide) (by simp)).mono ?_)
      rintro _ W rfl h1 b1 k1
      have hbe : w.heap.size < W.heap.size := by have := b1.size; simp at this; omega
      have hbw : Below w.heap.size w W := ((Below.refl _ w).alloc (Nat.le_refl _) _).trans b1
      have hI : Lib.IsBuilderF 100 5 w.heap.size w.heap.size (Lib.byteCells [45]) W := Or.inr h1
      clear b1 k1 h1
      go_wp2
      have hWb : w.heap.size < W.heap.size := hbe
      go_loopw [] (fun wr => ∃ pos : Nat, pos ≤ S.size ∧ Lib.IsBuilderF 100 5 w.heap.size w.heap.size (Lib.byteCells ([45] ++ dotTo S (S.size - k) pos)) wr ∧ wr.heap[W.heap.size]? = some (.stringIter S pos) ∧ Below w.heap.size w wr) (fun wr => S.size - wr.iterPos W.heap.size)
      case atStart =>
        refine ⟨0, Nat.zero_le _, ?_, ?_, ?_⟩
        · rw [show dotTo S (S.size - k) 0 = [] from rfl, List.append_nil]; exact hI.alloc _
        · exact World.iter_heap W S 0
        · exact hbw.alloc (by omega) _
      case round =>
        obtain ⟨pos, hpl, hI, hit, hbw⟩ := hrel
        have hsz : W.heap.size < wr.heap.size := (Array.getElem?_eq_some_iff.1 hit).1
        have hdl := dotTo_len S (S.size - k) pos
        have hlenA : (Lib.byteCells ([45] ++ dotTo S (S.size - k) pos)).length ≤ 70 := by
          rw [Lib.byteCells_length, List.length_append]
          have : ([45] : List UInt8).length = 1 := rfl
          omega
        have hne : W.heap.size ≠ w.heap.size := by omega
        by_cases hp : pos < S.size
        · have hnx : ∀ ty, (Instr.next (.pointer (some ⟨W.heap.size, 0, none⟩)) true ty).run Tryd.prog wr = _ := fun ty => Lib.run_next_ascii_at wr W.heap.size S pos ty hit hp (hasc pos hp)
          have hc8 := hasc pos hp
          have hgd := byte_getD S pos hp
          have hds := dotTo_succ S (S.size - k) pos
          have hI2 := hI.iterAt hit (pos + 1)
          have hit2 := Lib.iterAt_heap wr W.heap.size S pos (pos + 1) hit
          have hbw2 := Lib.below_iterAt hbw (k := W.heap.size) (by omega) S (pos + 1)
          have hsz2 : w.heap.size ≤ (wr.iterAt W.heap.size S (pos + 1)).heap.size := by rw [Lib.iterAt_size]; omega
          rw [hgd] at hds
          clear hgd
          generalize S[pos]'hp = c at *
          by_cases hk : pos = S.size - k
          · have hcond : ((pos : Int) == (S.size : Int) - k) = true := by rw [beq_iff_eq]; omega
            have hcnd2 : ((pos : Int) = (S.size : Int) - k) := by omega
            rw [if_pos hk] at hds
            subst hk
            go_wp2_with (go_at_call 53; refine (wbyte_k w.heap.size w.heap.size _ 46 _ hI2 (by omega) hsz2).mono ?_)
            rintro e W1 ⟨rfl, h1, b1, k1⟩
            go_wp2_with (go_at_call 54; refine (wrune_k w.heap.size w.heap.size _ (c.toNat : Int) (by omega) (by omega) _ (Or.inr h1) (by simp [Lib.byteCells_length] at hlenA ⊢; omega) (by have := b1.size; omega)).mono ?_)
            rintro e W2 ⟨rfl, h2, b2, k2⟩
            go_wp2
            go_roundw
            case rel =>
              refine ⟨S.size - k + 1, hp, ?_, k2.iter (k1.iter hit2 hne) hne, (hbw2.trans b1).trans b2⟩
              rw [rune_one c hc8] at h2
              rw [hds, show Lib.byteCells ([45] ++ (dotTo S (S.size - k) (S.size - k) ++ [46, c])) = Lib.byteCells ([45] ++ dotTo S (S.size - k) (S.size - k)) ++ [.int .u8 46] ++ [.int .u8 (c.toNat : Int)] by simp [Lib.byteCells]]
              exact Or.inr h2
            case measure =>
              simp only [World.iterPos, k2.iter (k1.iter hit2 hne) hne, hit]
              omega
          · have hcond : ((pos : Int) == (S.size : Int) - k) = false := by rw [beq_eq_false_iff_ne]; omega
            have hcnd2 : ¬ ((pos : Int) = (S.size : Int) - k) := by omega
            rw [if_neg hk] at hds
            go_wp2_with (go_at_call 54; refine (wrune_k w.heap.size w.heap.size _ (c.toNat : Int) (by omega) (by omega) _ hI2 (by omega) hsz2).mono ?_)
            rintro e W2 ⟨rfl, h2, b2, k2⟩
            go_wp2
            go_roundw
            case rel =>
              refine ⟨pos + 1, hp, ?_, k2.iter hit2 hne, hbw2.trans b2⟩
              rw [rune_one c hc8] at h2
              rw [hds, show Lib.byteCells ([45] ++ (dotTo S (S.size - k) pos ++ [c])) = Lib.byteCells ([45] ++ dotTo S (S.size - k) pos) ++ [.int .u8 (c.toNat : Int)] by simp [Lib.byteCells]]
              exact Or.inr h2
            case measure =>
              simp only [World.iterPos, k2.iter hit2 hne, hit]
              omega
        · have hnx : ∀ ty, (Instr.next (.pointer (some ⟨W.heap.size, 0, none⟩)) true ty).run Tryd.prog wr = _ := fun ty => Lib.run_next_end_at wr W.heap.size S pos ty hit hp
          obtain rfl : pos = S.size := by omega
          go_wp2_with (go_at_call 55; refine (bstring_k w.heap.size w.heap.size _ _ hI (by omega)).mono ?_)
          rintro e W1 ⟨rfl, _, b1, _⟩
          go_wp2
          exact fin _ _ _ (hbw.trans b1) rfl rfl rfl rfl (by subst hout; rfl)
    · rw [if_neg hneg] at hout
      obtain ⟨W, hW⟩ : ∃ W, W = w.alloc (.cells #[.pointer none, .slice none 0 0] 100) := ⟨_, rfl⟩
      have hbe : w.heap.size < W.heap.size := by rw [hW]; simp
      have hbw : Below w.heap.size w W := by rw [hW]; exact (Below.refl _ w).alloc (Nat.le_refl _) _
      have hI : Lib.IsBuilderF 100 5 w.heap.size w.heap.size (Lib.byteCells []) W := by rw [hW]; exact Lib.IsBuilderF.of (Lib.fresh_isBuilder 100 5 w)
      have hWs : W.heap.size = w.heap.size + 1 := by rw [hW]; simp
      have hn0 : ¬ num < 0 ∨ (num < 0 ∧ ¬ N > 0) := by
        by_cases h : num < 0
        · exact .inr ⟨h, fun h2 => hneg ⟨h, h2⟩⟩
        · exact .inl h
      clear hneg
      rcases hn0 with hn1 | ⟨hn1, hn2⟩
      all_goals
        go_wp2
        rw [← hW]
        have hWb : w.heap.size < w.heap.size + 1 := Nat.lt_succ_self _
        go_loopw [] (fun wr => ∃ pos : Nat, pos ≤ S.size ∧ Lib.IsBuilderF 100 5 w.heap.size w.heap.size (Lib.byteCells ([] ++ dotTo S (S.size - k) pos)) wr ∧ wr.heap[(w.heap.size + 1)]? = some (.stringIter S pos) ∧ Below w.heap.size w wr) (fun wr => S.size - wr.iterPos (w.heap.size + 1))
        case atStart =>
          refine ⟨0, Nat.zero_le _, ?_, ?_, ?_⟩
          · rw [show dotTo S (S.size - k) 0 = [] from rfl, List.append_nil]; exact hI.alloc _
          · have := World.iter_heap W S 0; rwa [hWs] at this
          · exact hbw.alloc (by omega) _
        case round =>
          obtain ⟨pos, hpl, hI, hit, hbw⟩ := hrel
          have hsz : (w.heap.size + 1) < wr.heap.size := (Array.getElem?_eq_some_iff.1 hit).1
          have hdl := dotTo_len S (S.size - k) pos
          have hlenA : (Lib.byteCells ([] ++ dotTo S (S.size - k) pos)).length ≤ 70 := by
            rw [Lib.byteCells_length, List.length_append]
            have : ([] : List UInt8).length = 0 := rfl
            omega
          have hne : (w.heap.size + 1) ≠ w.heap.size := by omega
          by_cases hp : pos < S.size
          · have hnx : ∀ ty, (Instr.next (.pointer (some ⟨(w.heap.size + 1), 0, none⟩)) true ty).run Tryd.prog wr = _ := fun ty => Lib.run_next_ascii_at wr (w.heap.size + 1) S pos ty hit hp (hasc pos hp)
            have hc8 := hasc pos hp
            have hgd := byte_getD S pos hp
            have hds := dotTo_succ S (S.size - k) pos
            have hI2 := hI.iterAt hit (pos + 1)
            have hit2 := Lib.iterAt_heap wr (w.heap.size + 1) S pos (pos + 1) hit
            have hbw2 := Lib.below_iterAt hbw (k := (w.heap.size + 1)) (by omega) S (pos + 1)
            have hsz2 : w.heap.size ≤ (wr.iterAt (w.heap.size + 1) S (pos + 1)).heap.size := by rw [Lib.iterAt_size]; omega
            rw [hgd] at hds
            clear hgd
            generalize S[pos]'hp = c at *
            by_cases hk : pos = S.size - k
            · have hcond : ((pos : Int) == (S.size : Int) - k) = true := by rw [beq_iff_eq]; omega
              have hcnd2 : ((pos : Int) = (S.size : Int) - k) := by omega
              rw [if_pos hk] at hds
              subst hk
              go_wp2_with (go_at_call 53; refine (wbyte_k w.heap.size w.heap.size _ 46 _ hI2 (by omega) hsz2).mono ?_)
              rintro e W1 ⟨rfl, h1, b1, k1⟩
              go_wp2_with (go_at_call 54; refine (wrune_k w.heap.size w.heap.size _ (c.toNat : Int) (by omega) (by omega) _ (Or.inr h1) (by simp [Lib.byteCells_length] at hlenA ⊢; omega) (by have := b1.size; omega)).mono ?_)
              rintro e W2 ⟨rfl, h2, b2, k2⟩
              go_wp2
              go_roundw
              case rel =>
                refine ⟨S.size - k + 1, hp, ?_, k2.iter (k1.iter hit2 hne) hne, (hbw2.trans b1).trans b2⟩
                rw [rune_one c hc8] at h2
                rw [hds, show Lib.byteCells ([] ++ (dotTo S (S.size - k) (S.size - k) ++ [46, c])) = Lib.byteCells ([] ++ dotTo S (S.size - k) (S.size - k)) ++ [.int .u8 46] ++ [.int .u8 (c.toNat : Int)] by simp [Lib.byteCells]]
                exact Or.inr h2
              case measure =>
                simp only [World.iterPos, k2.iter (k1.iter hit2 hne) hne, hit]
                omega
            · have hcond : ((pos : Int) == (S.size : Int) - k) = false := by rw [beq_eq_false_iff_ne]; omega
              have hcnd2 : ¬ ((pos : Int) = (S.size : Int) - k) := by omega
              rw [if_neg hk] at hds
              go_wp2_with (go_at_call 54; refine (wrune_k w.heap.size w.heap.size _ (c.toNat : Int) (by omega) (by omega) _ hI2 (by omega) hsz2).mono ?_)
              rintro e W2 ⟨rfl, h2, b2, k2⟩
              go_wp2
              go_roundw
              case rel =>
                refine ⟨pos + 1, hp, ?_, k2.iter hit2 hne, hbw2.trans b2⟩
                rw [rune_one c hc8] at h2
                rw [hds, show Lib.byteCells ([] ++ (dotTo S (S.size - k) pos ++ [c])) = Lib.byteCells ([] ++ dotTo S (S.size - k) pos) ++ [.int .u8 (c.toNat : Int)] by simp [Lib.byteCells]]
                exact Or.inr h2
              case measure =>
                simp only [World.iterPos, k2.iter hit2 hne, hit]
                omega
          · have hnx : ∀ ty, (Instr.next (.pointer (some ⟨(w.heap.size + 1), 0, none⟩)) true ty).run Tryd.prog wr = _ := fun ty => Lib.run_next_end_at wr (w.heap.size + 1) S pos ty hit hp
            obtain rfl : pos = S.size := by omega
            go_wp2_with (go_at_call 55; refine (bstring_k w.heap.size w.heap.size _ _ hI (by omega)).mono ?_)
            rintro e W1 ⟨rfl, _, b1, _⟩
            go_wp2
            exact fin _ _ _ (hbw.trans b1) rfl rfl rfl rfl (by subst hout; rfl)
end Go.Proofs.YtnpleednkmhhhaaDoor
namespace Go.QL
open Go Go.RowKit
def allN (g : Nat → Oper → Prop) : List Oper → Nat → Prop
  | [], _ => True
  | o :: r, i => g i o ∧ allN g r (i + 1)
theorem allN_get {g : Nat → Oper → Prop} : ∀ {l : List Oper} {k : Nat}, allN g l k → ∀ (j : Nat) (o : Oper), l[j]? = some o → g (k + j) o
  | [], _, _, j, o, h => by simp at h
  | x :: r, k, h, 0, o, hj => by cases hj; exact h.1
  | x :: r, k, h, j + 1, o, hj => by
    have := allN_get h.2 j o hj
    rwa [show k + 1 + j = k + (j + 1) by omega] at this
def vcAny (P : Program) (tt : TT) (nt : Nat) (all : List Oper) (ms : List Nat) (full : Nat) (k : Fr → Sg → Prop) : Nat → Nat → Fr → Sg → Prop
  | 0, done, fr, σ => bif Nat.beq done full then k fr σ else False
  | f + 1, done, fr, σ => bif Nat.beq done full then k fr σ else
    allN (fun i o => bif Nat.beq (Nat.land done (Nat.pow 2 i)) 0 && Nat.beq (Nat.land (ms.getD i 0) done) (ms.getD i 0) then
      vcOps P tt nt all (fun fr' σ' => vcAny P tt nt all ms full k f (Nat.lor done (Nat.pow 2 i)) fr' σ') [o] fr σ else True) all 0
section
variable {P : Program} {Γ : Cx} {fr : Fr} {σ : Sg} {Q : Exit → Fr → Sg → Prop}
theorem land_pow {d i : Nat} (h : d.testBit i = false) : Nat.land d (Nat.pow 2 i) = 0 := by
  show d &&& 2 ^ i = 0
  apply Nat.eq_of_testBit_eq
  intro j
  rw [Nat.testBit_and, Nat.zero_testBit, Nat.testBit_two_pow]
  by_cases e : i = j
  · subst e; simp [h]
  · simp [e]
theorem land_sub {m d : Nat} (h : ∀ b, m.testBit b = true → d.testBit b = true) : Nat.land m d = m := by
  show m &&& d = m
  apply Nat.eq_of_testBit_eq
  intro j
  rw [Nat.testBit_and]
  cases hm : m.testBit j with
  | false => rfl
  | true => rw [h j hm]; rfl
theorem AW_drawA {tt : TT} (htt : tt.ok P) (hmix : P.follows .mixedOrders = true) (ms : List Nat) {id : Nat} {ops : List Oper} (hms : okMasks ms ops.length ops 0 = true) (fr' : Fr) (σ' : Sg)
    (h : vcAny P tt Γ.nt ops ms (Nat.sub (Nat.pow 2 ops.length) 1) (fun fr1 σ1 => Imp Γ fr1 σ1 fr' σ') ops.length 0 fr σ) (hk : Q .normal fr' σ') : AW P Γ (.region id ops.toArray true) Q fr σ := by
  refine AW.mk fun hLd g a w hr => ?_
  have hm := MaskOK.of hms
  generalize hfull : Nat.sub (Nat.pow 2 ops.length) 1 = full at h
  have hfb : ∀ j, full.testBit j = decide (j < ops.length) := by
    intro j; rw [← hfull]; exact Nat.testBit_two_pow_sub_one ops.length j
  let Inv : (Nat → Prop) → Act → World → Prop := fun L a w => ∃ (fr1 : Fr) (σ1 : Sg) (g : Gh) (f done : Nat), Rel Γ fr1 σ1 g a w ∧ vcAny P tt Γ.nt ops ms full (fun fr1 σ1 => Imp Γ fr1 σ1 fr' σ') f done fr1 σ1 ∧ (∀ j, L j ↔ done.testBit j = true) ∧ (∀ j, L j → j < ops.length)
  refine wpIn_region_any hmix ?_
  refine wpAny_inv hm Inv ?_ ?_ _ _ _ _ (by simp) ?_ ?_ ?_
  · intro L a w ⟨fr1, σ1, g1, f, done, hr1, hv, hL, hlt⟩ i hi hLi hbits
    have hi' : i < ops.length := by simpa using hi
    have hdi : done.testBit i = false := by
      cases hb : done.testBit i with
      | false => rfl
      | true => exact absurd ((hL i).2 hb) hLi
    have hne : Nat.beq done full = false := by
      cases hb : Nat.beq done full with
      | false => rfl
      | true =>
        have := Nat.eq_of_beq_eq_true hb
        rw [this, hfb] at hdi
        simp [hi'] at hdi
    cases f with
    | zero => unfold vcAny at hv; rw [hne] at hv; exact hv.elim
    | succ f =>
      unfold vcAny at hv
      rw [hne] at hv
      simp only [cond_false] at hv
      have hoi : ops.toArray[i]? = some ops[i] := by simp [hi']
      have h1 := allN_get hv i ops[i] (List.getElem?_eq_getElem hi')
      rw [Nat.zero_add, land_pow hdi, land_sub (fun b hb => (hL b).1 (hbits b hb))] at h1
      have e1 : Nat.beq 0 0 = true := rfl
      have e2 : Nat.beq (ms.getD i 0) (ms.getD i 0) = true := by rw [Nat.beq_eq]
      rw [e1, e2] at h1
      simp only [Bool.and_self, cond_true] at h1
      have h2 := vcOps_okK (Γ := Γ) htt hLd (Qx := Lift Γ Q) (K := Inv (fun j => L j ∨ j = i)) (fun fr2 σ2 g2 a2 w2 hr2 hv2 => by
        refine ⟨fr2, σ2, g2, f, _, hr2, hv2, fun j => ?_, fun j hj => ?_⟩
        · show (L j ∨ j = i) ↔ (done ||| 2 ^ i).testBit j = true
          rw [Nat.testBit_or, Nat.testBit_two_pow, hL j]
          simp only [Bool.or_eq_true, decide_eq_true_eq]
          exact ⟨fun h => h.elim .inl (fun e => .inr e.symm), fun h => h.elim .inl (fun e => .inr e.symm)⟩
        · rcases hj with hj | rfl
          · exact hlt j hj
          · exact hi') [ops[i]] fr1 σ1 h1 g1 a w hr1
      unfold wpOpIn
      simp only [hoi]
      unfold wpLk at h2
      split
      · rename_i hwant
        rw [if_pos hwant] at h2
        exact Oper.wpIn_mono (fun a w h => h) h2
      · rename_i hwant
        rw [if_neg hwant] at h2
        exact ⟨fun _ _ => trivial, h2⟩
  · intro L a w ⟨fr1, σ1, g1, f, done, hr1, hv, hL, hlt⟩ hall
    have hd : done = full := by
      apply Nat.eq_of_testBit_eq
      intro j
      rw [hfb]
      by_cases hj : j < ops.length
      · rw [(hL j).1 (hall j (by simpa using hj))]; simp [hj]
      · cases hb : done.testBit j with
        | true => exact absurd (hlt j ((hL j).2 hb)) hj
        | false => simp [hj]
    have hb : Nat.beq done full = true := by rw [hd, Nat.beq_eq]
    have hi : Imp Γ fr1 σ1 fr' σ' := by
      cases f with
      | zero => unfold vcAny at hv; rw [hb] at hv; exact hv
      | succ f => unfold vcAny at hv; rw [hb] at hv; exact hv
    obtain ⟨g', hr'⟩ := hi g1 a w hr1
    exact ⟨fr', σ', g', hr', hk⟩
  · intro i hi
    have : (Array.replicate ops.length false)[i]?.getD false = false := by
      rw [Array.getElem?_replicate]; split <;> rfl
    simp [this] at hi
  · unfold unl
    refine Nat.le_trans (List.length_filter_le _ _) (by simp)
  · refine ⟨fr, σ, g, ops.length, 0, hr.drawn _, h, fun j => ?_, fun j hj => ?_⟩
    · have : (Array.replicate ops.length false)[j]?.getD false = false := by
        rw [Array.getElem?_replicate]; split <;> rfl
      simp [this]
    · have : (Array.replicate ops.length false)[j]?.getD false = false := by
        rw [Array.getElem?_replicate]; split <;> rfl
      simp [this] at hj
end
end Go.QL
namespace Go.Proofs.YtnpleednkmhhhaaDoor
open Go Go.QL
set_option maxHeartbeats 3200000
attribute [local irreducible] ACall FnC YC
theorem idxr_fn (fid : FuncId) (cs : List SV) (p : List Int → Bool) (xs : List (List Int)) (σ : Sg)
    (hf : ∀ x ∈ xs, ACall Tryd.prog fid ([].map AV.x ++ [.x (.d (intsPV x))] ++ cs.map .x) σ (fun r σ' => r = bv (p x) ∧ σ' = σ)) :
    ACall Tryd.prog 83 [rowsAV xs, .x (.f (.func fid) [] cs)] σ (fun r σ' => r = iv .i64 (idxI p xs) ∧ σ' = σ) := by
  refine ACall_of_AW hTt Tryd.func83 rfl (by kernel_rfl) (res := [.tmp 4]) rfl Tryd.ntmps83 (by simp) fun w0 K0 B => ?_
  dsimp only [entry]
  repeat' first | with_reducible refine AW_seq ?_ | with_reducible refine AW_block ?_ | ((with_reducible refine AW_region hTt ?_); conv => whnf) | (refine fun hln => ?_; (try rw [List.length_map] at hln); unfold maxLen at hln; conv => whnf) | fail
  refine AW_loop (fun i : Nat => [(8, iv .i64 i), (7, iv .i64 xs.length), (0, rowsAV xs), (1, .x (.f (.func fid) [] cs))]) (fun _ => σ)
    (fun i => i ≤ xs.length ∧ fstI p xs 0 = fstI p (xs.drop i) i) (fun i => xs.length - i) 0 (by simp) (Imp.slots ⟨rfl, congrArg (fun k : Nat => some (iv .i64 k)) (List.length_map _), rfl, rfl, trivial⟩) ?_
  rintro i ⟨hi, hfo⟩
  rcases Nat.lt_or_ge i xs.length with hil | hil
  · have hc := hf xs[i] (List.getElem_mem hil)
    rw [List.drop_eq_getElem_cons hil] at hfo
    simp only [fstI] at hfo
    generalize p xs[i] = b at hc hfo
    cases b with
    | true =>
      rw [if_pos rfl] at hfo
      repeat' first | with_reducible refine AW_seq ?_ | with_reducible refine AW_block ?_ | ((first | with_reducible refine AW_skip ?_ | with_reducible refine AW_exit ?_ | with_reducible refine AW_ret ?_ | with_reducible refine AW_region hTt ?_ | fail); conv => whnf) | (exact absurd hb (by omega)) | ((refine ⟨_, hc, ?_⟩); (rintro _ _ ⟨rfl, rfl⟩); conv => whnf) | (refine AW_cond rfl (fun _ => ?_) (fun hb => absurd (show true = false from hb) (by decide))) | (refine AW_cond rfl (fun hb => ?_) (fun hb => ?_) <;> first | (replace hb := of_decide_eq_true hb; try simp only [List.length_map] at hb) | (replace hb := of_decide_eq_false hb; try simp only [List.length_map] at hb) | (simp only [List.length_map, bne_iff_ne, ne_eq, beq_iff_eq, bne_eq_false_iff_eq, beq_eq_false_iff_ne, decide_eq_true_eq, decide_eq_false_iff_not, Bool.not_eq_true', Bool.not_eq_false', Int.natCast_inj] at hb) | skip) | ((first | refine andA ?_ | with_reducible refine Exists.intro _ (And.intro (gd_any (And.intro (by omega) (map_get (by omega)))) ?_) | fail); conv => whnf) | fail
      exact ⟨_, rfl, by unfold idxI; rw [hfo], rfl⟩
    | false =>
      rw [if_neg (by decide)] at hfo
      repeat' first | with_reducible refine AW_seq ?_ | with_reducible refine AW_block ?_ | ((first | with_reducible refine AW_skip ?_ | with_reducible refine AW_exit ?_ | with_reducible refine AW_ret ?_ | with_reducible refine AW_region hTt ?_ | fail); conv => whnf) | (exact absurd hb (by omega)) | ((refine ⟨_, hc, ?_⟩); (rintro _ _ ⟨rfl, rfl⟩); conv => whnf) | (refine AW_cond rfl (fun hb => absurd (show false = true from hb) (by decide)) (fun _ => ?_)) | (refine AW_cond rfl (fun hb => ?_) (fun hb => ?_) <;> first | (replace hb := of_decide_eq_true hb; try simp only [List.length_map] at hb) | (replace hb := of_decide_eq_false hb; try simp only [List.length_map] at hb) | (simp only [List.length_map, bne_iff_ne, ne_eq, beq_iff_eq, bne_eq_false_iff_eq, beq_eq_false_iff_ne, decide_eq_true_eq, decide_eq_false_iff_not, Bool.not_eq_true', Bool.not_eq_false', Int.natCast_inj] at hb) | skip) | ((first | refine ⟨_, wrap_of (by first | omega | (simp only [List.length_map]; omega)), ?_⟩ | refine andA ?_ | with_reducible refine Exists.intro _ (And.intro (gd_any (And.intro (by omega) (map_get (by omega)))) ?_) | fail); conv => whnf) | fail
      exact ⟨i + 1, ⟨by omega, hfo⟩, by omega, Imp.slots ⟨rfl, rfl, rfl, rfl, trivial⟩⟩
  · rw [List.drop_eq_nil_of_le hil] at hfo
    repeat' first | with_reducible refine AW_seq ?_ | with_reducible refine AW_block ?_ | ((first | with_reducible refine AW_skip ?_ | with_reducible refine AW_exit ?_ | with_reducible refine AW_ret ?_ | with_reducible refine AW_region hTt ?_ | fail); conv => whnf) | (exact absurd hb (by omega)) | (refine AW_cond rfl (fun hb => ?_) (fun hb => ?_) <;> first | (replace hb := of_decide_eq_true hb; try simp only [List.length_map] at hb) | (replace hb := of_decide_eq_false hb; try simp only [List.length_map] at hb) | (simp only [List.length_map, bne_iff_ne, ne_eq, beq_iff_eq, bne_eq_false_iff_eq, beq_eq_false_iff_ne, decide_eq_true_eq, decide_eq_false_iff_not, Bool.not_eq_true', Bool.not_eq_false', Int.natCast_inj] at hb) | skip) | fail
    exact ⟨_, rfl, by unfold idxI; rw [hfo]; rfl, rfl⟩
theorem containsr_fn (fid : FuncId) (cs : List SV) (p : List Int → Bool) (xs : List (List Int)) (σ : Sg)
    (hf : ∀ x ∈ xs, ACall Tryd.prog fid ([].map AV.x ++ [.x (.d (intsPV x))] ++ cs.map .x) σ (fun r σ' => r = bv (p x) ∧ σ' = σ)) :
    ACall Tryd.prog 40 [rowsAV xs, .x (.f (.func fid) [] cs)] σ (fun r σ' => r = bv (xs.any p) ∧ σ' = σ) := by
  have hc := idxr_fn fid cs p xs σ hf
  rw [← idxI_any]
  refine ACall_of_AW hTt Tryd.func40 rfl (by kernel_rfl) (res := [.tmp 4]) rfl Tryd.ntmps40 (by simp) fun w0 K0 B => ?_
  dsimp only [entry]
  repeat' first | with_reducible refine AW_seq ?_ | ((first | with_reducible refine AW_ret ?_ | with_reducible refine AW_region hTt ?_ | ((refine ⟨_, hc, ?_⟩); (rintro _ _ ⟨rfl, rfl⟩)) | fail); conv => whnf) | fail
  exact ⟨_, rfl, rfl, rfl⟩
structure SysT where
  rows : List (List Int)
  right : List Int
deriving DecidableEq
def sysAV (s : SysT) : AV := .a [.d (.s 1 (s.rows.map fun r => [intsPV r])), .d (intsPV s.right)]
abbrev Mat := Nat → Nat → Int
abbrev cellsM (m : Mat) : List SV := [.d (.v (.int .i64 (m 0 0))), .d (.v (.int .i64 (m 0 1))), .d (.v (.int .i64 (m 0 2))), .d (.v (.int .i64 (m 0 3))), .d (.v (.int .i64 (m 0 4))),
  .d (.v (.int .i64 (m 1 0))), .d (.v (.int .i64 (m 1 1))), .d (.v (.int .i64 (m 1 2))), .d (.v (.int .i64 (m 1 3))), .d (.v (.int .i64 (m 1 4))),
  .d (.v (.int .i64 (m 2 0))), .d (.v (.int .i64 (m 2 1))), .d (.v (.int .i64 (m 2 2))), .d (.v (.int .i64 (m 2 3))), .d (.v (.int .i64 (m 2 4))),
  .d (.v (.int .i64 (m 3 0))), .d (.v (.int .i64 (m 3 1))), .d (.v (.int .i64 (m 3 2))), .d (.v (.int .i64 (m 3 3))), .d (.v (.int .i64 (m 3 4)))]
abbrev cellsR (v : Nat → Int) : List SV := [.d (.v (.int .i64 (v 0))), .d (.v (.int .i64 (v 1))), .d (.v (.int .i64 (v 2))), .d (.v (.int .i64 (v 3))), .d (.v (.int .i64 (v 4)))]
theorem piv_fn (v : Nat → Int) (k : Nat) (hk : k < 5) : ACall Tryd.prog 43 [.a (cellsR v), .x (.b 9 0)] [(9, .box [.d (.v (.int .i64 k))])] (fun r σ' => r = bv (v k != 0) ∧ σ' = [(9, .box [.d (.v (.int .i64 k))])]) := by
  match k, hk with
  | 0, _ | 1, _ | 2, _ | 3, _ | 4, _ =>
    refine ACall_of_AWD hTt Tryd.func43 rfl (by kernel_rfl) (res := [.tmp 3]) rfl Tryd.ntmps43 (by simp) fun w0 K0 B => ?_
    dsimp only [entry]
    repeat' first | with_reducible refine AW_seq ?_ | ((first | with_reducible refine AW_ret ?_ | with_reducible refine AW_region hTt ?_ | refine andA ?_ | fail); conv => whnf) | fail
    exact ⟨_, [(9, .box [.d (.v (.int .i64 _))])], ⟨rfl, trivial⟩, rfl, rfl, rfl, rfl⟩
  | k + 5, h => exact absurd h (by omega)
def pivR (m : Mat) (k cnt : Nat) : Option Nat := fstI (fun j => m (k + j) k != 0) (List.range cnt) 0
theorem pivi_fn (m : Mat) (k cnt : Nat) (hk : k < 4) (hc : k + cnt ≤ 4) : ACall Tryd.prog 42 [.x (.sb 5 (0 + k * 5) cnt (4 - k)), .x (.f (.func 43) [] [.b 9 0])] [(9, .box [.d (.v (.int .i64 k))]), (5, .box (cellsM m))]
    (fun r σ' => r = iv .i64 (match pivR m k cnt with | some j => (j : Int) | none => -1) ∧ σ' = [(9, .box [.d (.v (.int .i64 k))]), (5, .box (cellsM m))]) := by
  have hpiv := fun r => piv_fn (fun c => m r c) k (by omega)
  have hgo : ∀ i, i ≤ cnt → (∀ j, j < i → m (k + j) k = 0) → pivR m k cnt = fstI (fun j => m (k + j) k != 0) ((List.range cnt).drop i) i := by
    intro i
    induction i with
    | zero => intro _ _; rfl
    | succ i ih =>
      intro hi hz
      rw [ih (by omega) (fun j hj => hz j (by omega)), List.drop_eq_getElem_cons (by rw [List.length_range]; omega)]
      simp only [fstI, List.getElem_range]
      rw [if_neg (by rw [hz i (by omega)]; decide)]
  refine ACall_of_AWD hTt Tryd.func42 rfl (by kernel_rfl) (res := [.tmp 4]) rfl Tryd.ntmps42 (by simp) fun w0 K0 B => ?_
  dsimp only [entry]
  repeat' first | with_reducible refine AW_seq ?_ | with_reducible refine AW_block ?_ | ((with_reducible refine AW_region hTt ?_); conv => whnf) | fail
  refine AW_loop (fun i : Nat => [(8, iv .i64 i), (7, iv .i64 cnt), (0, .x (.sb 5 (0 + k * 5) cnt (4 - k))), (1, .x (.f (.func 43) [] [.b 9 0]))]) (fun _ => [(9, .box [.d (.v (.int .i64 k))]), (5, .box (cellsM m))])
    (fun i => i ≤ cnt ∧ ∀ j, j < i → m (k + j) k = 0) (fun i => cnt - i) 0 ⟨Nat.zero_le _, fun j hj => absurd hj (Nat.not_lt_zero _)⟩ impA ?_
  rintro i ⟨hi, hz⟩
  have hp := hgo i hi hz
  rcases Nat.lt_or_ge i cnt with hil | hil
  · rw [List.drop_eq_getElem_cons (by rw [List.length_range]; omega)] at hp
    simp only [fstI, List.getElem_range] at hp
    have hpi := hpiv (k + i)
    have hzs : m (k + i) k = 0 → ∀ j, j < i + 1 → m (k + j) k = 0 := fun h j hj => by
      by_cases e : j = i
      · rw [e]; exact h
      · exact hz j (by omega)
    by_cases hm : m (k + i) k = 0
    · have hz1 := hzs hm
      have hb0 : (m (k + i) k != 0) = false := by rw [hm]; rfl
      rw [hb0] at hpi
      clear hp hgo hpiv hz hzs hb0 hm
      have hki : (k = 0 ∨ k = 1 ∨ k = 2 ∨ k = 3) ∧ (i = 0 ∨ i = 1 ∨ i = 2 ∨ i = 3) := by omega
      obtain ⟨rfl | rfl | rfl | rfl, rfl | rfl | rfl | rfl⟩ := hki
      all_goals first
        | (exfalso; omega)
        | skip
      all_goals
        repeat' first | with_reducible refine AW_seq ?_ | with_reducible refine AW_block ?_ | ((first | with_reducible refine AW_skip ?_ | with_reducible refine AW_exit ?_ | with_reducible refine AW_ret ?_ | with_reducible refine AW_region hTt ?_ | fail); conv => whnf) | (exact absurd hb (by omega)) | ((refine ⟨_, (hpi).frame (asc []) (by repeat (first | exact trivial | refine ⟨rfl, ?_⟩)) rfl (by rintro _ _ ⟨rfl, rfl⟩; rfl), ?_⟩); (rintro _ _ ⟨_, _, ⟨rfl, rfl⟩, rfl, rfl⟩); conv => whnf) | (refine AW_cond rfl (fun hb => absurd (show false = true from hb) (by decide)) (fun _ => ?_)) | (refine AW_cond rfl (fun hb => ?_) (fun hb => ?_) <;> first | (replace hb := of_decide_eq_true hb; try simp only [List.length_map] at hb) | (replace hb := of_decide_eq_false hb; try simp only [List.length_map] at hb) | (simp only [List.length_map, bne_iff_ne, ne_eq, beq_iff_eq, bne_eq_false_iff_eq, beq_eq_false_iff_ne, decide_eq_true_eq, decide_eq_false_iff_not, Bool.not_eq_true', Bool.not_eq_false', Int.natCast_inj] at hb) | skip) | ((first | refine ⟨_, wrap_of (by first | omega | (simp only [List.length_map]; omega)), ?_⟩ | refine andA ?_ | fail); conv => whnf) | fail
        exact ⟨_, ⟨by omega, hz1⟩, by omega, impA⟩
    · have hb0 : (m (k + i) k != 0) = true := by simpa using hm
      rw [hb0] at hpi hp
      rw [if_pos rfl] at hp
      rw [hp]
      clear hp hgo hpiv hz hzs hb0 hm
      have hki : (k = 0 ∨ k = 1 ∨ k = 2 ∨ k = 3) ∧ (i = 0 ∨ i = 1 ∨ i = 2 ∨ i = 3) := by omega
      obtain ⟨rfl | rfl | rfl | rfl, rfl | rfl | rfl | rfl⟩ := hki
      all_goals first
        | (exfalso; omega)
        | skip
      all_goals
        repeat' first | with_reducible refine AW_seq ?_ | with_reducible refine AW_block ?_ | ((first | with_reducible refine AW_skip ?_ | with_reducible refine AW_exit ?_ | with_reducible refine AW_ret ?_ | with_reducible refine AW_region hTt ?_ | fail); conv => whnf) | (exact absurd hb (by omega)) | ((refine ⟨_, (hpi).frame (asc []) (by repeat (first | exact trivial | refine ⟨rfl, ?_⟩)) rfl (by rintro _ _ ⟨rfl, rfl⟩; rfl), ?_⟩); (rintro _ _ ⟨_, _, ⟨rfl, rfl⟩, rfl, rfl⟩); conv => whnf) | (refine AW_cond rfl (fun _ => ?_) (fun hb => absurd (show true = false from hb) (by decide))) | (refine AW_cond rfl (fun hb => ?_) (fun hb => ?_) <;> first | (replace hb := of_decide_eq_true hb; try simp only [List.length_map] at hb) | (replace hb := of_decide_eq_false hb; try simp only [List.length_map] at hb) | (simp only [List.length_map, bne_iff_ne, ne_eq, beq_iff_eq, bne_eq_false_iff_eq, beq_eq_false_iff_ne, decide_eq_true_eq, decide_eq_false_iff_not, Bool.not_eq_true', Bool.not_eq_false', Int.natCast_inj] at hb) | skip) | ((refine andA ?_); conv => whnf) | fail
        exact ⟨_, [(9, .box [.d (.v (.int .i64 _))]), (5, .box (cellsM m))], ⟨rfl, rfl, trivial⟩, rfl, rfl, rfl, rfl⟩
  · rw [List.drop_eq_nil_of_le (by rw [List.length_range]; omega)] at hp
    simp only [fstI] at hp
    rw [hp]
    repeat' first | with_reducible refine AW_seq ?_ | with_reducible refine AW_block ?_ | ((first | with_reducible refine AW_skip ?_ | with_reducible refine AW_exit ?_ | with_reducible refine AW_ret ?_ | with_reducible refine AW_region hTt ?_ | fail); conv => whnf) | (exact absurd hb (by omega)) | (refine AW_cond rfl (fun hb => ?_) (fun hb => ?_) <;> first | (replace hb := of_decide_eq_true hb; try simp only [List.length_map] at hb) | (replace hb := of_decide_eq_false hb; try simp only [List.length_map] at hb) | (simp only [List.length_map, bne_iff_ne, ne_eq, beq_iff_eq, bne_eq_false_iff_eq, beq_eq_false_iff_ne, decide_eq_true_eq, decide_eq_false_iff_not, Bool.not_eq_true', Bool.not_eq_false', Int.natCast_inj] at hb) | skip) | fail
    exact ⟨_, [(9, .box [.d (.v (.int .i64 k))]), (5, .box (cellsM m))], ⟨rfl, rfl, trivial⟩, rfl, rfl, rfl, rfl⟩
end Go.Proofs.YtnpleednkmhhhaaDoor
namespace Go.Proofs.YtnpleednkmhhhaaDoor
open Go Go.QL
set_option maxHeartbeats 1600000
attribute [local irreducible] ACall FnC
structure RuleT where
  normal : Int
  extra : Int
  free : Int
  tax : Int
  stamp : Int
deriving DecidableEq
structure WorkerT where
  minutes : Int
  rate : Int
deriving DecidableEq
structure PayT where
  gross : Int
  tax : Int
  stamp : Int
  net : Int
deriving DecidableEq
def ruleAV (r : RuleT) : AV := .a [.d (.v (.int .i64 r.normal)), .d (.v (.int .i64 r.extra)), .d (.v (.int .i64 r.free)), .d (.v (.int .i64 r.tax)), .d (.v (.int .i64 r.stamp))]
def workerPV (w : WorkerT) : List PV := [.v (.int .i64 w.minutes), .v (.int .i64 w.rate)]
def workerAV (w : WorkerT) : AV := .a [.d (.v (.int .i64 w.minutes)), .d (.v (.int .i64 w.rate))]
def workersAV (l : List WorkerT) : AV := .x (.d (.s 2 (l.map workerPV)))
def payPV (p : PayT) : List PV := [.v (.int .i64 p.gross), .v (.int .i64 p.tax), .v (.int .i64 p.stamp), .v (.int .i64 p.net)]
def payAV (p : PayT) : AV := .a [.d (.v (.int .i64 p.gross)), .d (.v (.int .i64 p.tax)), .d (.v (.int .i64 p.stamp)), .d (.v (.int .i64 p.net))]
def ruleOK (r : RuleT) : Prop := (0 ≤ r.normal ∧ r.normal ≤ 10080) ∧ (0 ≤ r.extra ∧ r.extra ≤ 1000) ∧ (0 ≤ r.free ∧ r.free ≤ 10000) ∧ (0 ≤ r.tax ∧ r.tax ≤ 1000) ∧ (0 ≤ r.stamp ∧ r.stamp ≤ 10000)
def workerOK (w : WorkerT) : Prop := (0 ≤ w.minutes ∧ w.minutes ≤ 10080) ∧ (0 ≤ w.rate ∧ w.rate ≤ 1000)
def mx (a b : Int) : Int := if b > a then b else a
def mn (a b : Int) : Int := if b < a then b else a
def grossP (r : RuleT) (w : WorkerT) : Int := ((w.minutes * 1000 + mx 0 (w.minutes - r.normal) * r.extra) * w.rate).tdiv 60000
def taxP (r : RuleT) (g : Int) : Int := (mx 0 (g - r.free) * r.tax).tdiv 1000
def payP (r : RuleT) (w : WorkerT) : PayT :=
  ⟨grossP r w, taxP r (grossP r w), mn r.stamp (grossP r w - taxP r (grossP r w)), grossP r w - taxP r (grossP r w) - mn r.stamp (grossP r w - taxP r (grossP r w))⟩
theorem mx_rng {a b N : Int} (h : a ≤ N) (h2 : b ≤ N) : a ≤ mx a b ∧ mx a b ≤ N := by unfold mx; split <;> omega
theorem pay_fn (r : RuleT) (w : WorkerT) (hr : ruleOK r) (hw : workerOK w) : FnC Tryd.prog 78 [ruleAV r, workerAV w] (payAV (payP r w)) := by
  obtain ⟨n, e, f, t, s⟩ := r
  obtain ⟨m, k⟩ := w
  obtain ⟨h1, h2, h3, h4, h5⟩ := hr
  obtain ⟨h6, h7⟩ := hw
  dsimp only at *
  have w0 : IntKind.i64.wrap (m - n) = m - n := wrap_of (by omega)
  have m1 := mx_rng (a := 0) (b := m - n) (N := 10080) (by omega) (by omega)
  have m2 := mul_bd (a := mx 0 (m - n)) (b := e) (A := 10080) (B := 1000) (by omega) (by omega)
  have m2' := Int.mul_nonneg (a := mx 0 (m - n)) (b := e) (by omega) (by omega)
  have w2 : IntKind.i64.wrap (mx 0 (m - n) * e) = mx 0 (m - n) * e := wrap_of (by omega)
  have w3 : IntKind.i64.wrap (m * 1000 + mx 0 (m - n) * e) = m * 1000 + mx 0 (m - n) * e := wrap_of (by omega)
  have m4 := mul_bd (a := m * 1000 + mx 0 (m - n) * e) (b := k) (A := 20160000) (B := 1000) (by omega) (by omega)
  have m4' := Int.mul_nonneg (a := m * 1000 + mx 0 (m - n) * e) (b := k) (by omega) (by omega)
  have w4 : IntKind.i64.wrap ((m * 1000 + mx 0 (m - n) * e) * k) = (m * 1000 + mx 0 (m - n) * e) * k := wrap_of (by omega)
  have eg : grossP ⟨n, e, f, t, s⟩ ⟨m, k⟩ = ((m * 1000 + mx 0 (m - n) * e) * k).tdiv 60000 := rfl
  have rg : 0 ≤ grossP ⟨n, e, f, t, s⟩ ⟨m, k⟩ ∧ grossP ⟨n, e, f, t, s⟩ ⟨m, k⟩ ≤ 336000 := by
    rw [eg, Int.tdiv_eq_ediv_of_nonneg m4']; omega
  have w5 : IntKind.i64.wrap (((m * 1000 + mx 0 (m - n) * e) * k).tdiv 60000) = grossP ⟨n, e, f, t, s⟩ ⟨m, k⟩ := by rw [← eg]; exact wrap_of (by omega)
  unfold payP
  generalize grossP ⟨n, e, f, t, s⟩ ⟨m, k⟩ = g at rg w5 ⊢
  clear eg
  have w6 : IntKind.i64.wrap (g - f) = g - f := wrap_of (by omega)
  have m6 := mx_rng (a := 0) (b := g - f) (N := 336000) (by omega) (by omega)
  have m7 := mul_bd (a := mx 0 (g - f)) (b := t) (A := 336000) (B := 1000) (by omega) (by omega)
  have m7' := Int.mul_nonneg (a := mx 0 (g - f)) (b := t) (by omega) (by omega)
  have w7 : IntKind.i64.wrap (mx 0 (g - f) * t) = mx 0 (g - f) * t := wrap_of (by omega)
  have et : taxP ⟨n, e, f, t, s⟩ g = (mx 0 (g - f) * t).tdiv 1000 := rfl
  have rt : 0 ≤ taxP ⟨n, e, f, t, s⟩ g ∧ taxP ⟨n, e, f, t, s⟩ g ≤ 336000 := by
    rw [et, Int.tdiv_eq_ediv_of_nonneg m7']; omega
  have w8 : IntKind.i64.wrap ((mx 0 (g - f) * t).tdiv 1000) = taxP ⟨n, e, f, t, s⟩ g := by rw [← et]; exact wrap_of (by omega)
  generalize taxP ⟨n, e, f, t, s⟩ g = x at rt w8 ⊢
  clear et
  have w9 : IntKind.i64.wrap (g - x) = g - x := wrap_of (by omega)
  have m9 : -336000 ≤ mn s (g - x) ∧ mn s (g - x) ≤ 336000 := by unfold mn; split <;> omega
  have w10 : IntKind.i64.wrap (g - x - mn s (g - x)) = g - x - mn s (g - x) := wrap_of (by omega)
  refine FnC_of_AW hTt Tryd.func78 rfl (by kernel_rfl) (res := [.cell 4 94]) rfl Tryd.ntmps78 (by simp) fun w0 K0 => ?_
  dsimp only [entry]
  repeat' first | with_reducible refine AW_seq ?_ | ((first | with_reducible refine AW_ret ?_ | with_reducible refine AW_region hTt ?_ | refine ⟨_, w2, ?_⟩ | refine ⟨_, w3, ?_⟩ | refine ⟨_, w4, ?_⟩ | refine ⟨_, w5, ?_⟩ | refine ⟨_, w6, ?_⟩ | refine ⟨_, w7, ?_⟩ | refine ⟨_, w8, ?_⟩ | refine ⟨_, w9, ?_⟩ | refine ⟨_, w10, ?_⟩ | refine ⟨_, wrap_of (by first | omega | (simp only [List.length_map]; omega)), ?_⟩ | refine andA ?_ | fail); conv => whnf) | fail
  rfl
end Go.Proofs.YtnpleednkmhhhaaDoor
namespace Go.Proofs.YtnpleednkmhhhaaDoor
open Go Go.QL
set_option maxHeartbeats 1600000
attribute [local irreducible] ACall FnC
def paysAV (l : List PayT) : AV := .x (.d (.s 4 (l.map payPV)))
def ruleBad (r : RuleT) : Bool := bif outL 0 10080 [r.normal] then true else bif outL 0 1000 [r.extra, r.tax] then true else outL 0 10000 [r.free, r.stamp]
def workerBad (w : WorkerT) : Bool := bif outL 0 10080 [w.minutes] then true else outL 0 1000 [w.rate]
theorem ruleBad_ok {r : RuleT} (h : ruleBad r = false) : ruleOK r := by
  unfold ruleBad at h
  cases h1 : outL 0 10080 [r.normal] with
  | true => rw [h1] at h; cases h
  | false =>
    rw [h1] at h
    simp only [cond_false] at h
    cases h2 : outL 0 1000 [r.extra, r.tax] with
    | true => rw [h2] at h; cases h
    | false =>
      rw [h2] at h
      simp only [cond_false] at h
      rw [outL_false] at h h1 h2
      exact ⟨h1 _ (by simp), h2 _ (by simp), h _ (by simp), h2 _ (by simp), h _ (by simp)⟩
theorem workerBad_ok {w : WorkerT} (h : workerBad w = false) : workerOK w := by
  unfold workerBad at h
  cases h1 : outL 0 10080 [w.minutes] with
  | true => rw [h1] at h; cases h
  | false =>
    rw [h1] at h
    simp only [cond_false] at h
    rw [outL_false] at h h1
    exact ⟨h1 _ (by simp), h _ (by simp)⟩
def wagesP (r : RuleT) (l : List WorkerT) : List PayT × Int :=
  if ruleBad r = true then ([], 7) else if 40 < l.length then ([], 3) else if l.any workerBad = true then ([], 7) else (l.map (payP r), 0)
theorem wages_fn (r : RuleT) (l : List WorkerT) : FnC Tryd.prog 27 [ruleAV r, workersAV l] (.t [paysAV (wagesP r l).1, iv .i64 (wagesP r l).2]) := by
  have o1 := out_fn 0 10080 [r.normal]
  have o2 := out_fn 0 1000 [r.extra, r.tax]
  have o3 := out_fn 0 10000 [r.free, r.stamp]
  have hok := @ruleBad_ok r
  unfold wagesP
  by_cases hrb : ruleBad r = true
  · rw [if_pos hrb]
    unfold ruleBad at hrb
    generalize outL 0 10080 [r.normal] = b1 at o1 hrb
    generalize outL 0 1000 [r.extra, r.tax] = b2 at o2 hrb
    generalize outL 0 10000 [r.free, r.stamp] = b3 at o3 hrb
    clear hok
    refine FnC_of_AWL hTt Tryd.func27 rfl (by kernel_rfl) (res := [.tmp 4, .tmp 5]) rfl Tryd.ntmps27 (by simp) fun w0 K0 => ?_
    dsimp only [entry]
    cases b1
    · cases b2
      · cases b3
        · cases hrb
        · repeat' first | with_reducible refine AW_seq ?_ | with_reducible refine AW_block ?_ | ((first | with_reducible refine AW_ret ?_ | with_reducible refine AW_region hTt ?_ | ((refine ⟨_, (o1).call rfl rfl, ?_⟩); (rintro _ _ ⟨rfl, rfl⟩)) | refine ⟨_, fun _ => (o2).call rfl rfl, ?_⟩ | refine ⟨_, fun _ => (o3).call rfl rfl, ?_⟩ | fail); conv => whnf) | (refine AW_cond rfl (fun _ => ?_) (fun hb => absurd (show true = false from hb) (by decide))) | ((refine andA ?_); conv => whnf) | fail
          exact ⟨_, rfl, ⟨_, rfl, LeAV1.nil _, LeAV1.refl _, trivial⟩⟩
      · repeat' first | with_reducible refine AW_seq ?_ | with_reducible refine AW_block ?_ | ((first | with_reducible refine AW_ret ?_ | with_reducible refine AW_region hTt ?_ | ((refine ⟨_, (o1).call rfl rfl, ?_⟩); (rintro _ _ ⟨rfl, rfl⟩)) | refine ⟨_, fun _ => (o2).call rfl rfl, ?_⟩ | refine ⟨_, fun _ => (o3).call rfl rfl, ?_⟩ | fail); conv => whnf) | (refine AW_cond rfl (fun _ => ?_) (fun hb => absurd (show true = false from hb) (by decide))) | ((refine andA ?_); conv => whnf) | fail
        exact ⟨_, rfl, ⟨_, rfl, LeAV1.nil _, LeAV1.refl _, trivial⟩⟩
    · repeat' first | with_reducible refine AW_seq ?_ | with_reducible refine AW_block ?_ | ((first | with_reducible refine AW_ret ?_ | with_reducible refine AW_region hTt ?_ | ((refine ⟨_, (o1).call rfl rfl, ?_⟩); (rintro _ _ ⟨rfl, rfl⟩)) | refine ⟨_, fun _ => (o2).call rfl rfl, ?_⟩ | refine ⟨_, fun _ => (o3).call rfl rfl, ?_⟩ | fail); conv => whnf) | (refine AW_cond rfl (fun _ => ?_) (fun hb => absurd (show true = false from hb) (by decide))) | ((refine andA ?_); conv => whnf) | fail
      exact ⟨_, rfl, ⟨_, rfl, LeAV1.nil _, LeAV1.refl _, trivial⟩⟩
  · rw [if_neg hrb]
    have hok := hok (by simpa using hrb)
    unfold ruleBad at hrb
    generalize outL 0 10080 [r.normal] = b1 at o1 hrb
    generalize outL 0 1000 [r.extra, r.tax] = b2 at o2 hrb
    generalize outL 0 10000 [r.free, r.stamp] = b3 at o3 hrb
    cases b1 with
    | true => exact absurd rfl hrb
    | false =>
    cases b2 with
    | true => exact absurd rfl hrb
    | false =>
    cases b3 with
    | true => exact absurd rfl hrb
    | false =>
    clear hrb
    by_cases hlen : 40 < l.length
    · rw [if_pos hlen]
      refine FnC_of_AWL hTt Tryd.func27 rfl (by kernel_rfl) (res := [.tmp 4, .tmp 5]) rfl Tryd.ntmps27 (by simp) fun w0 K0 => ?_
      dsimp only [entry]
      repeat' first | with_reducible refine AW_seq ?_ | with_reducible refine AW_block ?_ | ((first | with_reducible refine AW_skip ?_ | with_reducible refine AW_ret ?_ | with_reducible refine AW_region hTt ?_ | ((refine ⟨_, (o1).call rfl rfl, ?_⟩); (rintro _ _ ⟨rfl, rfl⟩)) | refine ⟨_, fun _ => (o2).call rfl rfl, ?_⟩ | refine ⟨_, fun _ => (o3).call rfl rfl, ?_⟩ | fail); conv => whnf) | (exact absurd hb (by omega)) | (refine AW_cond rfl (fun hb => absurd (show false = true from hb) (by decide)) (fun _ => ?_)) | (refine AW_cond rfl (fun hb => ?_) (fun hb => ?_) <;> first | (replace hb := of_decide_eq_true hb; try simp only [List.length_map] at hb) | (replace hb := of_decide_eq_false hb; try simp only [List.length_map] at hb)) | ((refine andA ?_); conv => whnf) | (refine fun hln => ?_; (try rw [List.length_map] at hln); unfold maxLen at hln; conv => whnf) | fail
      exact ⟨_, rfl, ⟨_, rfl, LeAV1.nil _, LeAV1.refl _, trivial⟩⟩
    · rw [if_neg hlen]
      have hp : ∀ (i : Nat) (h : i < l.length), workerBad l[i] = false → FnC Tryd.prog 78 [ruleAV r, workerAV l[i]] (payAV (payP r l[i])) := fun i h hw => pay_fn r l[i] hok (workerBad_ok hw)
      have q1 : ∀ (i : Nat) (h : i < l.length), FnC Tryd.prog 39 [iv .i64 0, iv .i64 10080, sl [l[i].minutes]] (bv (outL 0 10080 [l[i].minutes])) := fun i h => out_fn ..
      have q2 : ∀ (i : Nat) (h : i < l.length), FnC Tryd.prog 39 [iv .i64 0, iv .i64 1000, sl [l[i].rate]] (bv (outL 0 1000 [l[i].rate])) := fun i h => out_fn ..
      clear hok
      have nilE : ∃ r', some (AV.t [.x (.d (.v (.slice none 0 0))), iv .i64 7]) = some r' ∧ LeAV r' (.t [paysAV [], iv .i64 7]) := ⟨_, rfl, ⟨_, rfl, LeAV1.nil _, LeAV1.refl _, trivial⟩⟩
      have hany : ∀ (i : Nat) (h : i < l.length), workerBad l[i] = true → l.any workerBad = true := fun i h hw => List.any_eq_true.2 ⟨_, List.getElem_mem h, hw⟩
      refine FnC_of_AWL hTt Tryd.func27 rfl (by kernel_rfl) (res := [.tmp 4, .tmp 5]) rfl Tryd.ntmps27 (by simp) fun w0 K0 => ?_
      dsimp only [entry]
      repeat' first | with_reducible refine AW_seq ?_ | with_reducible refine AW_block ?_ | ((first | with_reducible refine AW_skip ?_ | with_reducible refine AW_ret ?_ | with_reducible refine AW_region hTt ?_ | ((refine ⟨_, (o1).call rfl rfl, ?_⟩); (rintro _ _ ⟨rfl, rfl⟩)) | refine ⟨_, fun _ => (o2).call rfl rfl, ?_⟩ | refine ⟨_, fun _ => (o3).call rfl rfl, ?_⟩ | fail); conv => whnf) | (exact absurd hb (by omega)) | (refine AW_cond rfl (fun hb => absurd (show false = true from hb) (by decide)) (fun _ => ?_)) | (refine AW_cond rfl (fun hb => ?_) (fun hb => ?_) <;> first | (replace hb := of_decide_eq_true hb; try simp only [List.length_map] at hb) | (replace hb := of_decide_eq_false hb; try simp only [List.length_map] at hb)) | ((refine andA ?_); conv => whnf) | (refine fun hln => ?_; (try rw [List.length_map] at hln); unfold maxLen at hln; conv => whnf) | fail
      clear o1 o2 o3
      refine AW_imp (Imp.nil 900 94 4 (fr' := [(35, iv .i64 0), (34, iv .i64 l.length), (33, workersAV l), (4, .x (.o 900 0 0)), (2, .x (.b 2 0))]) (σ' := [(2, .box [.d (.v (.int .i64 r.normal)), .d (.v (.int .i64 r.extra)), .d (.v (.int .i64 r.free)), .d (.v (.int .i64 r.tax)), .d (.v (.int .i64 r.stamp))])]) rfl ?_ ?_ rfl rfl) ?_
      · exact ⟨⟨_, rfl, .inl rfl⟩, ⟨_, rfl, .inl (by rw [List.length_map])⟩, ⟨_, rfl, .inl rfl⟩, ⟨_, rfl, .inr ⟨rfl, rfl⟩⟩, ⟨_, rfl, .inl rfl⟩, trivial⟩
      · exact ⟨⟨_, rfl, .inl rfl⟩, trivial⟩
      refine AW_loop (fun i : Nat => [(35, iv .i64 i), (34, iv .i64 l.length), (33, workersAV l), (4, .x (.o 900 i i)), (2, .x (.b 2 0))])
        (fun i => [(900, .chain 94 4 i ((l.take i).map fun w => payPV (payP r w))), (2, .box [.d (.v (.int .i64 r.normal)), .d (.v (.int .i64 r.extra)), .d (.v (.int .i64 r.free)), .d (.v (.int .i64 r.tax)), .d (.v (.int .i64 r.stamp))])])
        (fun i => i ≤ l.length ∧ (l.take i).any workerBad = false) (fun i => l.length - i) 0 ⟨Nat.zero_le _, rfl⟩ impA ?_
      rintro i ⟨hi, hin⟩
      have htl : ((l.take i).map fun w => payPV (payP r w)).length = i := by rw [List.length_map, List.length_take]; omega
      rcases Nat.lt_or_ge i l.length with hil | hil
      · have c1 := q1 i hil
        have c2 := q2 i hil
        have c3 := hp i hil
        have hbad := hany i hil
        have hcap : ((l.take i).map fun w => payPV (payP r w)).length ≤ 40 := by rw [htl]; omega
        clear q1 q2 hp hany
        have hnx : (l.take (i + 1)) = l.take i ++ [l[i]] := by rw [List.take_add_one, List.getElem?_eq_getElem hil]; rfl
        have hwb : workerBad l[i] = bif outL 0 10080 [l[i].minutes] then true else outL 0 1000 [l[i].rate] := rfl
        have hch : ((l.take i).map fun w => payPV (payP r w)).take i ++ [payPV (payP r l[i])] = (l.take (i + 1)).map fun w => payPV (payP r w) := by
          rw [List.take_of_length_le (by rw [htl]; exact Nat.le_refl _), hnx, List.map_append]; rfl
        generalize outL 0 10080 [l[i].minutes] = b1 at c1 hwb
        generalize outL 0 1000 [l[i].rate] = b2 at c2 hwb
        cases b1 with
        | true =>
          rw [if_pos (hbad hwb)]
          repeat' first | with_reducible refine AW_seq ?_ | with_reducible refine AW_block ?_ | ((first | with_reducible refine AW_skip ?_ | with_reducible refine AW_exit ?_ | with_reducible refine AW_ret ?_ | with_reducible refine AW_region hTt ?_ | fail); conv => whnf) | (exact absurd hb (by omega)) | ((first | ((refine ⟨_, (c1).call rfl rfl, ?_⟩); (rintro _ _ ⟨rfl, rfl⟩)) | refine ⟨_, fun _ => (c2).call rfl rfl, ?_⟩ | fail); conv => whnf) | (refine AW_cond rfl (fun _ => ?_) (fun hb => absurd (show true = false from hb) (by decide))) | (refine AW_cond rfl (fun hb => ?_) (fun hb => ?_) <;> first | (replace hb := of_decide_eq_true hb; try simp only [List.length_map] at hb) | (replace hb := of_decide_eq_false hb; try simp only [List.length_map] at hb)) | ((first | refine andA ?_ | with_reducible refine Exists.intro _ (And.intro (gd_any (And.intro (by omega) (map_get (by omega)))) ?_) | fail); conv => whnf) | fail
          exact nilE
        | false =>
        cases b2 with
        | true =>
          rw [if_pos (hbad hwb)]
          repeat' first | with_reducible refine AW_seq ?_ | with_reducible refine AW_block ?_ | ((first | with_reducible refine AW_skip ?_ | with_reducible refine AW_exit ?_ | with_reducible refine AW_ret ?_ | with_reducible refine AW_region hTt ?_ | fail); conv => whnf) | (exact absurd hb (by omega)) | ((first | ((refine ⟨_, (c1).call rfl rfl, ?_⟩); (rintro _ _ ⟨rfl, rfl⟩)) | refine ⟨_, fun _ => (c2).call rfl rfl, ?_⟩ | fail); conv => whnf) | (refine AW_cond rfl (fun _ => ?_) (fun hb => absurd (show true = false from hb) (by decide))) | (refine AW_cond rfl (fun hb => ?_) (fun hb => ?_) <;> first | (replace hb := of_decide_eq_true hb; try simp only [List.length_map] at hb) | (replace hb := of_decide_eq_false hb; try simp only [List.length_map] at hb)) | ((first | refine andA ?_ | with_reducible refine Exists.intro _ (And.intro (gd_any (And.intro (by omega) (map_get (by omega)))) ?_) | fail); conv => whnf) | fail
          exact nilE
        | false =>
          have c3 := c3 hwb
          clear nilE hbad
          repeat' first | with_reducible refine AW_seq ?_ | with_reducible refine AW_block ?_ | ((first | with_reducible refine AW_skip ?_ | with_reducible refine AW_exit ?_ | with_reducible refine AW_ret ?_ | with_reducible refine AW_region hTt ?_ | fail); conv => whnf) | (exact absurd hb (by omega)) | ((first | ((refine ⟨_, (c1).call rfl rfl, ?_⟩); (rintro _ _ ⟨rfl, rfl⟩)) | refine ⟨_, fun _ => (c2).call rfl rfl, ?_⟩ | ((refine ⟨_, (c3).call rfl rfl, ?_⟩); (rintro _ _ ⟨rfl, rfl⟩)) | fail); conv => whnf) | ((refine And.intro (by refine ⟨?_, ?_, ?_⟩ <;> simp [chunk, maxLen] <;> omega) ?_); conv => whnf) | (refine AW_cond rfl (fun hb => absurd (show false = true from hb) (by decide)) (fun _ => ?_)) | (refine AW_cond rfl (fun hb => ?_) (fun hb => ?_) <;> first | (replace hb := of_decide_eq_true hb; try simp only [List.length_map] at hb) | (replace hb := of_decide_eq_false hb; try simp only [List.length_map] at hb)) | ((first | refine ⟨_, wrap_of (by first | omega | (simp only [List.length_map]; omega)), ?_⟩ | refine andA ?_ | with_reducible refine Exists.intro _ (And.intro (gd_any (And.intro (by omega) (map_get (by omega)))) ?_) | fail); conv => whnf) | fail
          exact ⟨i + 1, ⟨hil, by rw [hnx, List.any_append, hin]; simp only [List.any_cons, List.any_nil, hwb]; rfl⟩, by omega, (Imp.forget (by repeat' (first | exact trivial | refine And.intro ?_ ?_ | exact congrArg (fun xs : List (List PV) => some (Ob.chain 94 4 (i + 1) xs)) hch | rfl | exact ivE (by first | omega | (simp only [List.length_map, List.length_append, List.length_singleton] <;> omega)) | exact oE (by first | omega | (simp only [List.length_map, List.length_append, List.length_singleton] <;> omega)))) (by repeat' (first | exact trivial | refine And.intro ?_ ?_ | exact congrArg (fun xs : List (List PV) => some (Ob.chain 94 4 (i + 1) xs)) hch | rfl | exact ivE (by first | omega | (simp only [List.length_map, List.length_append, List.length_singleton] <;> omega)) | exact oE (by first | omega | (simp only [List.length_map, List.length_append, List.length_singleton] <;> omega)))) (by kernel_rfl) (by kernel_rfl) (by kernel_rfl))⟩
      · have hie : i = l.length := by omega
        subst hie
        have htl' := htl
        rw [List.take_length] at hin htl
        rw [if_neg (by rw [hin]; exact Bool.noConfusion)]
        repeat' first | with_reducible refine AW_seq ?_ | with_reducible refine AW_block ?_ | ((first | with_reducible refine AW_skip ?_ | with_reducible refine AW_exit ?_ | with_reducible refine AW_ret ?_ | with_reducible refine AW_region hTt ?_ | fail); conv => whnf) | (exact absurd hb (by omega)) | (refine AW_cond rfl (fun hb => ?_) (fun hb => ?_) <;> first | (replace hb := of_decide_eq_true hb; try simp only [List.length_map] at hb) | (replace hb := of_decide_eq_false hb; try simp only [List.length_map] at hb)) | fail
        have e : List.take l.length (List.map (fun w => payPV (payP r w)) (List.take l.length l)) = (l.map (payP r)).map payPV := by
          rw [List.take_length, List.take_of_length_le (by rw [htl]; exact Nat.le_refl _), List.map_map]; rfl
        exact ⟨_, outO2 rfl rfl rfl (by rw [htl']; exact Nat.le_refl _), leS e⟩
end Go.Proofs.YtnpleednkmhhhaaDoor
namespace Go.Proofs.YtnpleednkmhhhaaDoor
open Go Go.QL
set_option maxHeartbeats 1600000
attribute [local irreducible] ACall FnC YC
def dif (l : List Int) : List Int := (List.range (l.length - 1)).map fun i => l.getD (i + 1) 0 - l.getD i 0
def diffR : Nat → List Int → List Int
  | 0, l => l
  | k + 1, l => dif (diffR k l)
theorem dif_len (l : List Int) : (dif l).length = l.length - 1 := by simp [dif]
theorem diffR_len (l : List Int) : ∀ k, (diffR k l).length = l.length - k
  | 0 => by simp [diffR]
  | k + 1 => by rw [diffR, dif_len, diffR_len l k]; omega
theorem dif_get {l : List Int} {i : Nat} (h : i + 1 < l.length) : (dif l)[i]? = some (l.getD (i + 1) 0 - l.getD i 0) := by
  unfold dif
  rw [List.getElem?_map, List.getElem?_range (by omega)]; rfl
theorem getD_mem {l : List Int} {i : Nat} (h : i < l.length) : l.getD i 0 ∈ l := by
  rw [List.getD_eq_getElem?_getD, List.getElem?_eq_getElem h]; exact List.getElem_mem h
theorem dif_bd {l : List Int} {B : Int} (h : ∀ x ∈ l, -B ≤ x ∧ x ≤ B) : ∀ x ∈ dif l, -(2 * B) ≤ x ∧ x ≤ 2 * B := by
  intro x hx
  unfold dif at hx
  rw [List.mem_map] at hx
  obtain ⟨i, hi, rfl⟩ := hx
  rw [List.mem_range] at hi
  have h1 := h _ (getD_mem (show i + 1 < l.length by omega))
  have h2 := h _ (getD_mem (show i < l.length by omega))
  omega
theorem diffR_bd {l : List Int} {B : Int} (h : ∀ x ∈ l, -B ≤ x ∧ x ≤ B) : ∀ k, ∀ x ∈ diffR k l, -(2 ^ k * B) ≤ x ∧ x ≤ 2 ^ k * B
  | 0 => by simpa [diffR] using h
  | k + 1 => by
    have := dif_bd (diffR_bd h k)
    rw [show (2 : Int) ^ (k + 1) * B = 2 * (2 ^ k * B) by rw [Int.pow_succ, Int.mul_comm (2 ^ k) 2, Int.mul_assoc]]
    exact this
abbrev iPV (n : Int) : List PV := [.v (.int .i64 n)]
theorem clone_fn (xs : List (List PV)) (n : Nat) (hn : n ≤ xs.length) (hm : n ≤ 1000) :
    ACall Tryd.prog 99 [.x (.o 961 0 n)] [(961, .chain 3 1 0 xs)] (fun r σ' => r = .x (.d (.s 1 (xs.take n))) ∧ σ' = [(961, .chain 3 1 0 xs)]) := by
  have key : ACall Tryd.prog 99 [.x (.o 961 0 n)] [(961, .chain 3 1 0 xs)] (fun r σ' => ((r = .x (.d (.v (.slice none 0 0))) ∧ n = 0) ∨ r = .x (.d (.s 1 (xs.take n)))) ∧ σ' = [(961, .chain 3 1 0 xs)]) := by
    have htl : (xs.take n).length = n := by rw [List.length_take]; omega
    refine ACall_of_AWD hTt Tryd.func99 rfl (by kernel_rfl) (res := [.tmp 2]) rfl Tryd.ntmps99 (by simp) fun w0 K0 B => ?_
    dsimp only [entry]
    repeat' first | with_reducible refine AW_seq ?_ | ((first | with_reducible refine AW_skip ?_ | with_reducible refine AW_ret ?_ | with_reducible refine AW_region hTt ?_ | refine And.intro ⟨rfl, rfl, hn⟩ ?_ | fail); conv => whnf) | ((refine And.intro (by rw [htl]; refine ⟨?_, ?_, ?_⟩ <;> simp [chunk, maxLen] <;> omega) ?_); conv => whnf) | (refine AW_cond rfl (fun hb => ?_) (fun hb => ?_) <;> first | (replace hb := of_decide_eq_true hb; try simp only [List.length_map] at hb) | (replace hb := of_decide_eq_false hb; try simp only [List.length_map] at hb) | skip) | ((refine andA ?_); conv => whnf) | (refine fun hln => ?_; (try rw [List.length_map] at hln); unfold maxLen at hln; conv => whnf) | fail
    · exact ⟨_, [(961, .chain 3 1 0 xs)], ⟨rfl, trivial⟩, rfl, rfl, .inl ⟨rfl, hln hb⟩, rfl⟩
    · refine ⟨_, [(961, .chain 3 1 0 xs)], ⟨rfl, trivial⟩, rfl, outK1 rfl rfl rfl (by show 0 + (xs.take n).length ≤ ([] ++ xs.take n).length; simp), .inr ?_, rfl⟩
      show AV.x (.d (.s 1 (([] ++ xs.take n).take (0 + (xs.take n).length)))) = _
      rw [List.nil_append, Nat.zero_add, List.take_length]
  refine key.le ?_
  rintro r σ' ⟨h, rfl⟩
  rcases h with ⟨rfl, rfl⟩ | rfl
  · exact ⟨_, LeAV1.nil 1, rfl, rfl⟩
  · exact ⟨_, LeAV.refl _, rfl, rfl⟩
abbrev frO : Fr := [(7, .x (.f (.func 109) [] [.b 960 0])), (3, .x (.b 3 0)), (4, .x (.b 4 0))]
abbrev sgO (asg bdy : Code) (go : Bool) (r : Int) (res : PV) (xs : List (List PV)) (n : Nat) : Sg :=
  [(930, .x (bif go then .loop .ready none #[8] asg bdy 15 frO 931 else .loop .done (some .ret) #[8] asg bdy 15 frO 931)), (931, .x .dfr), (4, .box [.d res]), (3, .box [.d (.v (.int .i64 r))]), (960, .box [.o 961 0 n]), (961, .chain 3 1 0 xs)]
theorem sgO_ok (asg bdy : Code) (go : Bool) (r r' : Int) (res res' : PV) (xs xs' : List (List PV)) (n n' : Nat) : (rsSg (sgO asg bdy go r res xs n) (sgO asg bdy go r res xs n) && idsIn ((sgO asg bdy true r' res' xs' n').map (·.1)) (sgO asg bdy go r res xs n)) = true := by
  cases go <;> rfl
def mixL (z rest : List Int) (i : Nat) : List Int := (dif z).take i ++ z.drop i ++ rest
theorem mixL_len {z rest : List Int} {i : Nat} (hi : i ≤ z.length - 1) : (mixL z rest i).length = z.length + rest.length := by
  unfold mixL
  rw [List.length_append, List.length_append, List.length_take, List.length_drop, dif_len]; omega
theorem mixL_get0 {z rest : List Int} {i : Nat} (hi : i + 1 < z.length) : (mixL z rest i)[i]? = some (z.getD i 0) := by
  unfold mixL
  have hl : ((dif z).take i).length = i := by rw [List.length_take, dif_len]; omega
  rw [List.append_assoc, List.getElem?_append_right (by omega), hl, Nat.sub_self, List.getElem?_append_left (by rw [List.length_drop]; omega), List.getElem?_drop, Nat.add_zero, List.getD_eq_getElem?_getD, List.getElem?_eq_getElem (by omega)]; rfl
theorem mixL_get1 {z rest : List Int} {i : Nat} (hi : i + 1 < z.length) : (mixL z rest i)[i + 1]? = some (z.getD (i + 1) 0) := by
  unfold mixL
  have hl : ((dif z).take i).length = i := by rw [List.length_take, dif_len]; omega
  rw [List.append_assoc, List.getElem?_append_right (by omega), hl, List.getElem?_append_left (by rw [List.length_drop]; omega), List.getElem?_drop, show i + (i + 1 - i) = i + 1 by omega, List.getD_eq_getElem?_getD, List.getElem?_eq_getElem (by omega)]; rfl
theorem mixL_set {z rest : List Int} {i : Nat} (hi : i + 1 < z.length) : (mixL z rest i).set i (z.getD (i + 1) 0 - z.getD i 0) = mixL z rest (i + 1) := by
  unfold mixL
  have hl : ((dif z).take i).length = i := by rw [List.length_take, dif_len]; omega
  rw [List.append_assoc, List.set_append_right _ _ (by omega), hl, Nat.sub_self, List.set_append_left _ _ (by rw [List.length_drop]; omega)]
  rw [List.drop_eq_getElem_cons (show i < z.length by omega), List.set_cons_zero]
  rw [List.take_add_one, dif_get hi]
  simp
theorem mixL_end {z rest : List Int} : (mixL z rest (z.length - 1)).take (z.length - 1) = dif z := by
  unfold mixL
  rw [List.append_assoc, List.take_append_of_le_length (by rw [List.length_take, dif_len]; omega), List.take_take, List.take_of_length_le (by rw [dif_len]; omega)]
theorem orders1_fn {asg bdy : Code} {table : List Int} (ht : ∀ x ∈ table, -1000000000 ≤ x ∧ x ≤ 1000000000) (hlen : table.length ≤ 30) (order : Nat) (ho : order ≤ 5) (res : PV)
    (hy1 : ∀ (r : Int) (xs : List (List PV)) (n : Nat), 0 < r → r ≤ 5 → n ≤ xs.length → n ≤ 1000 → YC Tryd.prog 930 [.x (.o 961 0 n)] (sgO asg bdy true r res xs n) (fun rv σ' => rv = bv true ∧ σ' = sgO asg bdy true (r - 1) res xs n))
    (hy2 : ∀ (xs : List (List PV)) (n : Nat), n ≤ xs.length → n ≤ 1000 → YC Tryd.prog 930 [.x (.o 961 0 n)] (sgO asg bdy true 0 res xs n) (fun rv σ' => rv = bv false ∧ σ' = sgO asg bdy false 0 (.s 1 (xs.take n)) xs n)) :
    ACall Tryd.prog 109 [.x (.h 930), .x (.b 960 0)] (sgO asg bdy true order res (table.map iPV) table.length)
      (fun rv σ' => rv = .t [] ∧ ∃ ys : List (List PV), σ' = sgO asg bdy false 0 (intsPV (diffR order table)) ys (table.length - order)) := by
  refine ACall_of_AWD hTt Tryd.func109 rfl (by kernel_rfl) (res := []) rfl Tryd.ntmps109 (by simp) fun w0 K0 B => ?_
  dsimp only [entry]
  repeat' first | with_reducible refine AW_block ?_ | fail
  refine AW_loop (fun _ : Nat × List Int => [(0, .x (.h 930)), (1, .x (.b 960 0))]) (fun p => sgO asg bdy true ((order : Int) - p.1) res (p.2.map iPV) (table.length - p.1))
    (fun p => p.1 ≤ order ∧ p.2.length = table.length ∧ p.2.take (table.length - p.1) = diffR p.1 table) (fun p => order - p.1) (0, table) ⟨Nat.zero_le _, rfl, by simp [diffR]⟩ (Imp.forget (by repeat' (first | exact trivial | refine And.intro ?_ ?_ | exact congrArg (fun r : Int => some (Ob.box [.d (.v (.int .i64 r))])) (by simp) | rfl | exact ivE (by first | omega | (simp only [List.length_map, List.length_append, List.length_singleton] <;> omega)) | exact oE (by first | omega | (simp only [List.length_map, List.length_append, List.length_singleton] <;> omega)))) (by repeat' (first | exact trivial | refine And.intro ?_ ?_ | exact congrArg (fun r : Int => some (Ob.box [.d (.v (.int .i64 r))])) (by simp) | rfl | exact ivE (by first | omega | (simp only [List.length_map, List.length_append, List.length_singleton] <;> omega)) | exact oE (by first | omega | (simp only [List.length_map, List.length_append, List.length_singleton] <;> omega)))) (by kernel_rfl) (by kernel_rfl) (by kernel_rfl)) ?_
  rintro ⟨k, ys⟩ ⟨hk, hyl, hyt⟩
  dsimp only at hk hyl hyt ⊢
  have hml : (ys.map iPV).length = ys.length := List.length_map _
  rcases Nat.lt_or_ge k order with hko | hko
  · have hy := hy1 ((order : Int) - k) (ys.map iPV) (table.length - k) (by omega) (by omega) (by rw [hml]; omega) (by omega)
    rw [show (order : Int) - k - 1 = (order : Int) - (k + 1 : Nat) by omega] at hy
    have hnl := diffR_len table k
    have hbd := diffR_bd ht k
    have hpw : (2 : Int) ^ k ≤ 16 := by
      match k, hk, hko with
      | 0, _, _ | 1, _, _ | 2, _, _ | 3, _, _ | 4, _, _ => decide
      | k + 5, _, h => omega
    have hdk : diffR (k + 1) table = dif (diffR k table) := rfl
    clear hy1 hy2 ht
    rcases Nat.eq_zero_or_pos (table.length - k) with hn | hn
    · have hnx : diffR (k + 1) table = [] := List.eq_nil_of_length_eq_zero (by rw [diffR_len]; omega)
      repeat' first | with_reducible refine AW_seq ?_ | with_reducible refine AW_block ?_ | ((first | with_reducible refine AW_skip ?_ | with_reducible refine AW_exit ?_ | with_reducible refine AW_region hTt ?_ | fail); conv => whnf) | (exact absurd hb (by omega)) | ((refine ⟨_, hy, ?_⟩); (rintro _ _ ⟨rfl, rfl⟩); conv => whnf) | (refine AW_cond rfl (fun _ => ?_) (fun hb => absurd (show true = false from hb) (by decide))) | (refine AW_cond rfl (fun hb => ?_) (fun hb => ?_) <;> first | (replace hb := of_decide_eq_true hb; try simp only [List.length_map] at hb) | (replace hb := of_decide_eq_false hb; try simp only [List.length_map] at hb)) | ((refine andA ?_); conv => whnf) | (refine fun hln => ?_; (try rw [List.length_map] at hln); unfold maxLen at hln; conv => whnf) | fail
      refine ⟨(k + 1, ys), ⟨hko, hyl, by rw [hnx, show table.length - (k + 1) = 0 by omega]; rfl⟩, by show order - (k + 1) < order - k; omega, ?_⟩
      dsimp only
      rw [show table.length - (k + 1) = table.length - k by omega]
      exact impA
    · rw [← hyt] at hbd hdk
      obtain ⟨z, rest, hz, hyz⟩ : ∃ z rest, z = ys.take (table.length - k) ∧ ys = mixL z rest 0 := ⟨_, ys.drop (table.length - k), rfl, by unfold mixL; simp⟩
      have hzl : z.length = table.length - k := by rw [hz, List.length_take]; omega
      rw [← hz] at hbd hdk
      rw [hyz] at hy hyl hml ⊢
      clear hz hyz hyt hnl ys
      generalize hnn : table.length - k = n at *
      have hn1 : (1 : Int) ≤ (n : Int) := by omega
      have hrl : n + rest.length = table.length := by rw [mixL_len (Nat.zero_le _)] at hyl; omega
      repeat' first | with_reducible refine AW_seq ?_ | with_reducible refine AW_block ?_ | ((first | with_reducible refine AW_skip ?_ | with_reducible refine AW_exit ?_ | with_reducible refine AW_region hTt ?_ | fail); conv => whnf) | (exact absurd hb (by omega)) | ((first | ((refine ⟨_, hy, ?_⟩); (rintro _ _ ⟨rfl, rfl⟩)) | refine And.intro (gd_none ⟨hn1, Int.le_refl _⟩) ?_ | fail); conv => whnf) | (refine AW_cond rfl (fun _ => ?_) (fun hb => absurd (show true = false from hb) (by decide))) | (refine AW_cond rfl (fun hb => ?_) (fun hb => ?_) <;> first | (replace hb := of_decide_eq_true hb; try simp only [List.length_map] at hb) | (replace hb := of_decide_eq_false hb; try simp only [List.length_map] at hb)) | ((refine andA ?_); conv => whnf) | (refine fun hln => ?_; (try rw [List.length_map] at hln); unfold maxLen at hln; conv => whnf) | fail
      refine AW_loop (fun i : Nat => [(13, iv .i64 i), (12, iv .i64 ((n - 1 : Nat) : Int)), (0, .x (.h 930)), (1, .x (.b 960 0))]) (fun i => sgO asg bdy true ((order : Int) - (k + 1 : Nat)) res ((mixL z rest i).map iPV) n)
        (fun i => i ≤ n - 1) (fun i => n - i) 0 (Nat.zero_le _) (Imp.forget (by repeat' (first | exact trivial | refine And.intro ?_ ?_ | exact ivE (by simp) | rfl | exact ivE (by first | omega | (simp only [List.length_map, List.length_append, List.length_singleton] <;> omega)) | exact oE (by first | omega | (simp only [List.length_map, List.length_append, List.length_singleton] <;> omega)))) (by repeat' (first | exact trivial | refine And.intro ?_ ?_ | exact ivE (by simp) | rfl | exact ivE (by first | omega | (simp only [List.length_map, List.length_append, List.length_singleton] <;> omega)) | exact oE (by first | omega | (simp only [List.length_map, List.length_append, List.length_singleton] <;> omega)))) (by kernel_rfl) (by kernel_rfl) (by kernel_rfl)) ?_
      intro i hi
      rcases Nat.lt_or_ge i (n - 1) with hin | hin
      · have g0 : ((mixL z rest i).map iPV)[((i : Int)).toNat]? = some (iPV (z.getD i 0)) := by rw [Int.toNat_natCast, List.getElem?_map, mixL_get0 (by omega)]; rfl
        have g1 : ((mixL z rest i).map iPV)[((i : Int) + 1).toNat]? = some (iPV (z.getD (i + 1) 0)) := by rw [show ((i : Int) + 1).toNat = i + 1 by omega, List.getElem?_map, mixL_get1 (by omega)]; rfl
        have hset : ((mixL z rest i).map iPV).set ((i : Int)).toNat (iPV (z.getD (i + 1) 0 - z.getD i 0)) = (mixL z rest (i + 1)).map iPV := by rw [Int.toNat_natCast, ← mixL_set (by omega), List.map_set]
        have hl2 : n ≤ ((mixL z rest i).map iPV).length := by rw [List.length_map, mixL_len (by omega)]; omega
        have b0 := hbd _ (getD_mem (show i < z.length by omega))
        have b1 := hbd _ (getD_mem (show i + 1 < z.length by omega))
        have wd : IntKind.i64.wrap (z.getD (i + 1) 0 - z.getD i 0) = z.getD (i + 1) 0 - z.getD i 0 := wrap_of (by omega)
        generalize z.getD (i + 1) 0 = x1 at *
        generalize z.getD i 0 = x0 at *
        clear hbd hdk hy b0 b1
        repeat' first | with_reducible refine AW_seq ?_ | with_reducible refine AW_block ?_ | ((first | with_reducible refine AW_skip ?_ | with_reducible refine AW_exit ?_ | with_reducible refine AW_region hTt ?_ | refine AW_draw hTt hMix (id := 5) 12 false [0, 0, 0, 0, 8, 28, 60, 0, 0, 384, 896, 2044, 4095, 8191] (by kernel_rfl) rfl rfl (by kernel_rfl) ?_ | fail); conv => whnf) | (exact absurd hb (by omega)) | ((first | refine ⟨_, wd, ?_⟩ | with_reducible refine And.intro (gd_any ⟨by omega, by omega, hl2⟩) ?_ | with_reducible refine Exists.intro _ (And.intro (gd_any g1) (And.intro (And.intro (Nat.le_of_ble_eq_true rfl) rfl) ?_)) | with_reducible refine Exists.intro _ (And.intro (gd_any g0) (And.intro (And.intro (Nat.le_of_ble_eq_true rfl) rfl) ?_)) | with_reducible refine Exists.intro _ (And.intro g0 (And.intro (Nat.le_of_ble_eq_true rfl) ?_)) | fail); conv => whnf) | (refine AW_cond rfl (fun hb => ?_) (fun hb => ?_) <;> first | (replace hb := of_decide_eq_true hb; try simp only [List.length_map] at hb) | (replace hb := of_decide_eq_false hb; try simp only [List.length_map] at hb)) | ((first | refine ⟨_, wrap_of (by first | omega | (simp only [List.length_map]; omega)), ?_⟩ | refine andA ?_ | fail); conv => whnf) | fail
        exact ⟨i + 1, by omega, by omega, impA⟩
      · obtain rfl : i = n - 1 := by omega
        have hl2 : ((mixL z rest (n - 1)).map iPV).length = table.length := by rw [List.length_map, mixL_len (by omega)]; omega
        repeat' first | with_reducible refine AW_seq ?_ | with_reducible refine AW_block ?_ | ((first | with_reducible refine AW_skip ?_ | with_reducible refine AW_exit ?_ | with_reducible refine AW_region hTt ?_ | refine AW_draw hTt hMix (id := 5) 12 false [0, 0, 0, 0, 8, 28, 60, 0, 0, 384, 896, 2044, 4095, 8191] (by kernel_rfl) rfl rfl (by kernel_rfl) ?_ | fail); conv => whnf) | (exact absurd hb (by omega)) | ((refine And.intro (gd_none ⟨by omega, by omega⟩) ?_); conv => whnf) | (refine AW_cond rfl (fun hb => ?_) (fun hb => ?_) <;> first | (replace hb := of_decide_eq_true hb; try simp only [List.length_map] at hb) | (replace hb := of_decide_eq_false hb; try simp only [List.length_map] at hb)) | ((first | refine ⟨_, wrap_of (by first | omega | (simp only [List.length_map]; omega)), ?_⟩ | refine andA ?_ | fail); conv => whnf) | (refine fun hln => ?_; (try rw [List.length_map] at hln); unfold maxLen at hln; conv => whnf) | fail
        have hb9 : some (Ob.box [SV.o 961 0 ((n : Int) - 1).toNat]) = some (Ob.box [SV.o 961 0 (n - 1)]) := by rw [show ((n : Int) - 1).toNat = n - 1 by omega]
        refine ⟨(k + 1, mixL z rest (n - 1)), ⟨hko, by rw [mixL_len (by omega)]; omega, ?_⟩, by show order - (k + 1) < order - k; omega, ?_⟩
        · dsimp only
          rw [show table.length - (k + 1) = z.length - 1 by omega, hdk, ← hzl]
          exact mixL_end
        · dsimp only
          rw [show table.length - (k + 1) = n - 1 by omega]
          exact (Imp.forget (by repeat' (first | exact trivial | refine And.intro ?_ ?_ | exact hb9 | rfl | exact ivE (by first | omega | (simp only [List.length_map, List.length_append, List.length_singleton] <;> omega)) | exact oE (by first | omega | (simp only [List.length_map, List.length_append, List.length_singleton] <;> omega)))) (by repeat' (first | exact trivial | refine And.intro ?_ ?_ | exact hb9 | rfl | exact ivE (by first | omega | (simp only [List.length_map, List.length_append, List.length_singleton] <;> omega)) | exact oE (by first | omega | (simp only [List.length_map, List.length_append, List.length_singleton] <;> omega)))) (by kernel_rfl) (by kernel_rfl) (by kernel_rfl))
  · obtain rfl : k = order := by omega
    have hy := hy2 (ys.map iPV) (table.length - k) (by rw [hml]; omega) (by omega)
    rw [show (k : Int) - k = 0 by omega]
    repeat' first | with_reducible refine AW_seq ?_ | ((first | with_reducible refine AW_exit ?_ | with_reducible refine AW_region hTt ?_ | ((refine ⟨_, hy, ?_⟩); (rintro _ _ ⟨rfl, rfl⟩)) | fail); conv => whnf) | (refine AW_cond rfl (fun hb => absurd (show false = true from hb) (by decide)) (fun _ => ?_)) | fail
    refine ⟨_, sgO asg bdy false 0 (.s 1 ((ys.map iPV).take (table.length - k))) (ys.map iPV) (table.length - k), ⟨rfl, rfl, rfl, rfl, rfl, rfl, trivial⟩, sgO_ok _ _ _ _ _ _ _ _ _ _ _, rfl, rfl, ys.map iPV, ?_⟩
    rw [← List.map_take, hyt]; rfl
end Go.Proofs.YtnpleednkmhhhaaDoor
namespace Go.Proofs.YtnpleednkmhhhaaDoor
open Go Go.QL
set_option maxHeartbeats 3200000
attribute [local irreducible] ACall FnC YC
abbrev cI (x : Int) : SV := .d (.v (.int .i64 x))
theorem cells_eq {m m' : Mat} (h : ∀ r c, r < 4 → c < 5 → m r c = m' r c) : cellsM m = cellsM m' := by
  simp only [cellsM, h 0 0 (by decide) (by decide), h 0 1 (by decide) (by decide), h 0 2 (by decide) (by decide), h 0 3 (by decide) (by decide), h 0 4 (by decide) (by decide),
    h 1 0 (by decide) (by decide), h 1 1 (by decide) (by decide), h 1 2 (by decide) (by decide), h 1 3 (by decide) (by decide), h 1 4 (by decide) (by decide),
    h 2 0 (by decide) (by decide), h 2 1 (by decide) (by decide), h 2 2 (by decide) (by decide), h 2 3 (by decide) (by decide), h 2 4 (by decide) (by decide),
    h 3 0 (by decide) (by decide), h 3 1 (by decide) (by decide), h 3 2 (by decide) (by decide), h 3 3 (by decide) (by decide), h 3 4 (by decide) (by decide)]
def setRowM (m : Mat) (i : Nat) (v : Nat → Int) : Mat := fun r c => bif Nat.beq r i then v c else m r c
def setAt (v : Nat → Int) (c : Nat) (x : Int) : Nat → Int := fun j => bif Nat.beq j c then x else v j
theorem four {i : Nat} (h : i < 4) : i = 0 ∨ i = 1 ∨ i = 2 ∨ i = 3 := by omega
theorem five {i : Nat} (h : i < 5) : i = 0 ∨ i = 1 ∨ i = 2 ∨ i = 3 ∨ i = 4 := by omega
theorem at_row {σ : Sg} {id off n i : Nat} {m : Mat} (h : lk id σ = some (.box (cellsM m))) (ho : off = i * 5) (hn : n = 5) (hi : i < 4) : cellsAt σ (.b id off) n = some (cellsR (fun c => m i c)) := by
  subst ho; subst hn
  simp only [cellsAt, h]
  rcases four hi with rfl | rfl | rfl | rfl <;> rfl
theorem at_el {σ : Sg} {id off n i c : Nat} {m : Mat} (h : lk id σ = some (.box (cellsM m))) (ho : off = i * 5 + c) (hn : n = 1) (hi : i < 4) (hc : c < 5) : cellsAt σ (.b id off) n = some [cI (m i c)] := by
  subst ho; subst hn
  simp only [cellsAt, h]
  rcases four hi with rfl | rfl | rfl | rfl <;> rcases five hc with rfl | rfl | rfl | rfl | rfl <;> rfl
theorem at_v {σ : Sg} {id off n c : Nat} {v : Nat → Int} (h : lk id σ = some (.box (cellsR v))) (ho : off = c) (hn : n = 1) (hc : c < 5) : cellsAt σ (.b id off) n = some [cI (v c)] := by
  subst ho; subst hn
  simp only [cellsAt, h]
  rcases five hc with rfl | rfl | rfl | rfl | rfl <;> rfl
theorem seg_row {i : Nat} (hi : i < 4) (m : Mat) (v : Nat → Int) : seg (cellsM m) (i * 5) (cellsR v) = cellsM (setRowM m i v) := by
  rcases four hi with rfl | rfl | rfl | rfl <;> rfl
theorem seg_v {c : Nat} (hc : c < 5) (v : Nat → Int) (x : Int) : seg (cellsR v) c [cI x] = cellsR (setAt v c x) := by
  rcases five hc with rfl | rfl | rfl | rfl | rfl <;> rfl
def getM (s : SysT) : Mat := fun r c => if c = 4 then s.right.getD r 0 else (s.rows.getD r []).getD c 0
def mPart (s : SysT) (i : Nat) : Mat := fun r c => if r < i then getM s r c else 0
theorem seg_in {i : Nat} (hi : i < 4) (m : Mat) {r : List Int} (hr : r.length ≤ 4) (q : Int) : seg (seg (cellsM m) (i * 5) (((r.map iPV).take 5).flatten.map .d)) (i * 5 + 4) [cI q] =
    cellsM (setRowM m i (fun c => bif Nat.beq c 4 then q else bif Nat.blt c r.length then r.getD c 0 else m i c)) := by
  match r, hr with
  | [], _ | [a], _ | [a, b], _ | [a, b, c], _ | [a, b, c, d], _ => rcases four hi with rfl | rfl | rfl | rfl <;> rfl
  | _ :: _ :: _ :: _ :: _ :: _, h => simp at h
theorem part_next {s : SysT} {i : Nat} {r : List Int} {q : Int} (hi : i < 4) (hr : s.rows.getD i [] = r) (hq : s.right.getD i 0 = q) :
    cellsM (setRowM (mPart s i) i (fun c => bif Nat.beq c 4 then q else bif Nat.blt c r.length then r.getD c 0 else mPart s i i c)) = cellsM (mPart s (i + 1)) := by
  refine cells_eq fun a c ha hc => ?_
  unfold setRowM mPart getM
  cases hb : Nat.beq a i with
  | false =>
    have : a ≠ i := fun e => by subst e; rw [Nat.beq_refl] at hb; cases hb
    simp only [cond_false]
    by_cases h1 : a < i
    · simp only [if_pos h1, if_pos (show a < i + 1 by omega)]
    · simp only [if_neg h1, if_neg (show ¬ a < i + 1 by omega)]
  | true =>
    have := Nat.eq_of_beq_eq_true hb
    subst this
    simp only [cond_true, if_pos (show a < a + 1 by omega), if_neg (show ¬ a < a by omega)]
    cases h4 : Nat.beq c 4 with
    | true =>
      have := Nat.eq_of_beq_eq_true h4
      subst this
      simp only [if_pos trivial, if_pos rfl, hq, cond_true]
    | false =>
      have : c ≠ 4 := fun e => by subst e; cases h4
      simp only [if_neg this, hr, cond_false]
      cases hl : Nat.blt c r.length with
      | true => rfl
      | false =>
        simp only [cond_false]
        have : ¬ c < r.length := fun h => by rw [show Nat.blt c r.length = true from Nat.ble_eq_true_of_le h] at hl; cases hl
        rw [List.getD_eq_getElem?_getD, List.getElem?_eq_none (by omega)]; rfl
end Go.Proofs.YtnpleednkmhhhaaDoor
namespace Go.Proofs.YtnpleednkmhhhaaDoor
open Go Go.QL
set_option maxHeartbeats 3200000
attribute [local irreducible] ACall FnC YC
theorem ne_nat {a b : Nat} : ((a : Int) != (b : Int)) = decide (a ≠ b) := by
  by_cases h : a = b
  · subst h; simp
  · have : (a : Int) ≠ (b : Int) := by omega
    simp [h, this]
abbrev rwPV (rows : List (List Int)) : List (List PV) := rows.map fun r => [intsPV r]
abbrev sgN (n : Nat) (rows : List (List Int)) (right : List Int) : Sg := [(4, .box [.d (.v (.int .i64 n))]), (1, .box [.d (.s 1 (rwPV rows)), .d (intsPV right)])]
theorem solve1_fn (n : Nat) (rows : List (List Int)) (right : List Int) (r : List Int) : ACall Tryd.prog 41 [.x (.d (intsPV r)), .x (.b 4 0)] (sgN n rows right) (fun v σ' => v = bv (decide (r.length ≠ n)) ∧ σ' = sgN n rows right) := by
  have hl : (r.map fun n => [PV.v (.int .i64 n)]).length = r.length := List.length_map _
  refine ACall_of_AWD hTt Tryd.func41 rfl (by kernel_rfl) (res := [.tmp 3]) rfl Tryd.ntmps41 (by simp) fun w0 K0 B => ?_
  dsimp only [entry]
  repeat' first | with_reducible refine AW_seq ?_ | ((first | with_reducible refine AW_ret ?_ | with_reducible refine AW_region hTt ?_ | fail); conv => whnf) | (refine fun hln => ?_; (try rw [List.length_map] at hln); unfold maxLen at hln; conv => whnf) | fail
  refine ⟨_, sgN n rows right, ⟨rfl, rfl, trivial⟩, rfl, rfl, ?_, rfl⟩
  rw [← hl]
  exact congrArg bv ((by rw [hl] : (((r.map fun n => [PV.v (.int .i64 n)]).length : Int) != (n : Int)) = ((r.length : Int) != (n : Int))).trans ne_nat |>.trans (by rw [hl]))
def longE (s : SysT) : Bool := outL 1 4 [(s.rows.length : Int)] || decide (s.right.length ≠ s.rows.length) || s.rows.any (fun r => decide (r.length ≠ s.rows.length))
theorem long_f {b1 b3 : Bool} {x y : Int} (h : (b1 || (x != y) || b3) = true) (hb : (bif bif b1 then true else x != y then true else b3) = false) : False := by
  cases b1 <;> cases b3 <;> cases hx : x != y <;> simp [hx] at h hb
theorem long_t {b1 b3 : Bool} {x y : Int} (h : (b1 || (x != y) || b3) = false) (hb : (bif bif b1 then true else x != y then true else b3) = true) : False := by
  cases b1 <;> cases b3 <;> cases hx : x != y <;> simp [hx] at h hb
theorem solve_long (s : SysT) (h : longE s = true) : FnC Tryd.prog 13 [sysAV s] (.t [r2sAV [], iv .i64 3]) := by
  obtain ⟨rows, right⟩ := s
  have hl1 : (rwPV rows).length = rows.length := List.length_map _
  have o1 := out_fn 1 4 [((rwPV rows).length : Int)]
  have hc := containsr_fn 41 [.b 4 0] (fun r => decide (r.length ≠ (rwPV rows).length)) rows (sgN (rwPV rows).length rows right) (fun x _ => solve1_fn _ _ _ x)
  unfold longE at h
  dsimp only at h
  rw [← ne_nat] at h
  rw [hl1] at o1 hc
  change FnC _ _ [.a [.d (.s 1 (rwPV rows)), .d (intsPV right)]] _
  generalize outL 1 4 [(rows.length : Int)] = b1 at o1 h
  generalize rows.any (fun r => decide (r.length ≠ rows.length)) = b3 at hc h
  rw [← hl1] at o1 hc
  refine FnC_of_AWL hTt Tryd.func13 rfl (by kernel_rfl) (res := [.tmp 2, .tmp 3]) rfl Tryd.ntmps13 (by simp) fun w0 K0 => ?_
  dsimp only [entry]
  repeat' first | with_reducible refine AW_seq ?_ | ((first | with_reducible refine AW_skip ?_ | with_reducible refine AW_ret ?_ | with_reducible refine AW_region hTt ?_ | ((refine ⟨_, (o1).call rfl rfl, ?_⟩); (rintro _ _ ⟨rfl, rfl⟩)) | refine ⟨_, fun _ => hc, ?_⟩ | fail); conv => whnf) | (exact (long_f h hb).elim) | (refine AW_cond rfl (fun hb => ?_) (fun hb => ?_) <;> first | (replace hb := of_decide_eq_true hb; try simp only [List.length_map] at hb) | (replace hb := of_decide_eq_false hb; try simp only [List.length_map] at hb) | (simp only [List.length_map, bne_iff_ne, ne_eq, beq_iff_eq, bne_eq_false_iff_eq, beq_eq_false_iff_ne, decide_eq_true_eq, decide_eq_false_iff_not, Bool.not_eq_true', Bool.not_eq_false', Int.natCast_inj] at hb) | skip) | ((refine andA ?_); conv => whnf) | (refine fun hln => ?_; (try rw [List.length_map] at hln); unfold maxLen at hln; conv => whnf) | fail
  exact ⟨_, rfl, leN⟩
end Go.Proofs.YtnpleednkmhhhaaDoor
namespace Go.Proofs.YtnpleednkmhhhaaDoor
open Go Go.QL
set_option maxHeartbeats 3200000
attribute [local irreducible] ACall FnC YC Imp
def rangeE (s : SysT) : Bool := s.rows.any (outL (-100) 100) || outL (-10000) 10000 s.right
theorem long_ok {s : SysT} (h : longE s = false) : (1 ≤ s.rows.length ∧ s.rows.length ≤ 4) ∧ s.right.length = s.rows.length ∧ ∀ r ∈ s.rows, r.length = s.rows.length := by
  unfold longE at h
  rw [Bool.or_eq_false_iff, Bool.or_eq_false_iff] at h
  obtain ⟨⟨h1, h2⟩, h3⟩ := h
  refine ⟨?_, by simpa using h2, fun r hr => ?_⟩
  · have := outL_false.1 h1 _ (List.mem_singleton.2 rfl); omega
  · have := List.any_eq_false.1 h3 r hr; simpa using this
theorem dec_rec {p : Prop} {d : Decidable p} {F : ¬p → Prop} {G : p → Prop} (h : p) (g : G h) : @Decidable.rec p (fun _ => Prop) F G d := by
  cases d with
  | isTrue _ => exact g
  | isFalse hn => exact absurd h hn
theorem seg_in_len {i : Nat} (hi : i < 4) (m : Mat) {r : List Int} (hr : r.length ≤ 4) : (seg (cellsM m) (0 + i * 5 + 0 * 1) (((r.map iPV).take (5 - 0)).flatten.map .d)).length = 20 := by
  rw [show 0 + i * 5 + 0 * 1 = i * 5 by omega]
  match r, hr with
  | [], _ | [a], _ | [a, b], _ | [a, b, c], _ | [a, b, c, d], _ => rcases four hi with rfl | rfl | rfl | rfl <;> rfl
  | _ :: _ :: _ :: _ :: _ :: _, h => simp at h
theorem seg_next {s : SysT} {i : Nat} (hi : i < 4) (h1 : i < s.rows.length) (h2 : i < s.right.length) (hr : s.rows[i].length ≤ 4) :
    seg (seg (cellsM (mPart s i)) (0 + i * 5 + 0 * 1) (((s.rows[i].map iPV).take (5 - 0)).flatten.map .d)) (0 + i * 5 + 4 * 1) [cI s.right[i]] = cellsM (mPart s (i + 1)) := by
  rw [show 0 + i * 5 + 0 * 1 = i * 5 by omega, show 0 + i * 5 + 4 * 1 = i * 5 + 4 by omega, seg_in hi _ hr]
  exact part_next hi (by rw [List.getD_eq_getElem?_getD, List.getElem?_eq_getElem h1]; rfl) (by rw [List.getD_eq_getElem?_getD, List.getElem?_eq_getElem h2]; rfl)
def newV (p r : Nat → Int) (k : Nat) (before : Int) (c : Nat) : Int :=
  IntKind.i64.wrap ((IntKind.i64.wrap (IntKind.i64.wrap (p k * r c) - IntKind.i64.wrap (r k * p c))).tdiv before)
def swapM (m : Mat) (k j : Nat) : Mat := fun r c => if r = k then m j c else if r = j then m k c else m r c
def elimTo (m : Mat) (k : Nat) (before : Int) (i : Nat) : Mat := fun r c => if r < i ∧ r ≠ k then newV (m k) (m r) k before c else m r c
def gaussR (n : Nat) : Nat → Nat → Int → Mat → Option Mat
  | 0, _, _, m => some m
  | f + 1, k, before, m => match pivR m k (n - k) with
    | none => none
    | some j => gaussR n f (k + 1) (swapM m k (k + j) k k) (elimTo (swapM m k (k + j)) k before n)
def solveP (s : SysT) : List R2 × Int :=
  if longE s = true then ([], 3) else if rangeE s = true then ([], 7)
  else match gaussR s.rows.length s.rows.length 0 1 (getM s) with
    | none => ([], 8)
    | some m => ((List.range s.rows.length).map fun r => redP (m r 4) (m r r), 0)
theorem AW_cut {P : Program} {Γ : Cx} {fr : Fr} {σ : Sg} {Q : Exit → Fr → Sg → Prop} {x y : Code} (fr' : Fr) (σ' : Sg) (h : AW P Γ x (Exit.thn (fun fr σ => Imp Γ fr σ fr' σ') Q) fr σ) (k : AW P Γ y Q fr' σ') : AW P Γ (.seq x y) Q fr σ := by
  refine AW_seq (AW_mono h ?_)
  intro e fr σ hq
  cases e <;> first | exact AW_imp hq k | exact hq
theorem pivR_some {m : Mat} {k cnt j : Nat} (h : pivR m k cnt = some j) : j < cnt ∧ m (k + j) k ≠ 0 := by
  have key : ∀ (l : List Nat) (i : Nat), (∀ x, (h : x < l.length) → l[x] = i + x) → fstI (fun j => m (k + j) k != 0) l i = some j → j < i + l.length ∧ m (k + j) k ≠ 0 := by
    intro l
    induction l with
    | nil => intro i _ h; cases h
    | cons a l ih =>
      intro i hl h
      have h0 : a = i := hl 0 (by simp)
      simp only [fstI] at h
      by_cases hm : m (k + a) k = 0
      · rw [if_neg (by simp [hm])] at h
        obtain ⟨h1, h2⟩ := ih (i + 1) (fun x hx => by have := hl (x + 1) (by simpa using hx); simp at this; omega) h
        exact ⟨by simp; omega, h2⟩
      · rw [if_pos (by simpa using hm)] at h
        injection h with h
        subst h0; subst h
        exact ⟨by simp, hm⟩
  have := key (List.range cnt) 0 (fun x hx => by rw [List.getElem_range]; omega) h
  rw [List.length_range] at this
  exact ⟨by omega, this.2⟩
theorem eqV_int {a b : Int} : eqV (.int .i64 a) (.int .i64 b) = (a == b) := rfl
theorem swap_eq {m : Mat} {k j : Nat} (h : eqL [.int .i64 (m k 0), .int .i64 (m k 1), .int .i64 (m k 2), .int .i64 (m k 3), .int .i64 (m k 4)] [.int .i64 (m j 0), .int .i64 (m j 1), .int .i64 (m j 2), .int .i64 (m j 3), .int .i64 (m j 4)] = true) : cellsM m = cellsM (swapM m k j) := by
  simp only [eqL, eqV_int, Bool.and_true, Bool.and_eq_true, beq_iff_eq] at h
  obtain ⟨h0, h1, h2, h3, h4⟩ := h
  have key : ∀ c, c < 5 → m k c = m j c := fun c hc => by
    rcases five hc with rfl | rfl | rfl | rfl | rfl <;> assumption
  refine cells_eq fun r c _ hc => ?_
  unfold swapM
  by_cases e : r = k
  · rw [if_pos e, e]; exact key c hc
  · rw [if_neg e]
    by_cases e2 : r = j
    · rw [if_pos e2, e2]; exact (key c hc).symm
    · rw [if_neg e2]
theorem swap_seg {m : Mat} {k j : Nat} (hk : k < 4) (hj : j < 4) : seg (seg (cellsM m) (0 + k * 5) (cellsR fun c => m j c)) (0 + j * 5) (cellsR fun c => m k c) = cellsM (swapM m k j) := by
  rw [Nat.zero_add, Nat.zero_add, seg_row hk, seg_row hj]
  refine cells_eq fun a c ha hc => ?_
  unfold setRowM swapM
  by_cases e : a = j
  · subst e
    rw [Nat.beq_refl, cond_true]
    by_cases e2 : a = k
    · rw [if_pos e2, e2]
    · rw [if_neg e2, if_pos rfl]
  · have h1 : Nat.beq a j = false := by
      cases h : Nat.beq a j with
      | false => rfl
      | true => exact absurd (Nat.eq_of_beq_eq_true h) e
    rw [h1, cond_false]
    by_cases e2 : a = k
    · subst e2
      rw [Nat.beq_refl, cond_true, if_pos rfl]
    · have h2 : Nat.beq a k = false := by
        cases h : Nat.beq a k with
        | false => rfl
        | true => exact absurd (Nat.eq_of_beq_eq_true h) e2
      rw [h2, cond_false, if_neg e2, if_neg e]
theorem elim_zero (m : Mat) (k : Nat) (before : Int) : cellsM m = cellsM (elimTo m k before 0) := by
  refine cells_eq fun r c _ _ => ?_
  unfold elimTo
  rw [if_neg (by omega)]
theorem elim_same (m : Mat) (k : Nat) (before : Int) : cellsM (elimTo m k before k) = cellsM (elimTo m k before (k + 1)) := by
  refine cells_eq fun r c _ _ => ?_
  unfold elimTo
  by_cases h : r < k
  · rw [if_pos ⟨h, by omega⟩, if_pos ⟨by omega, by omega⟩]
  · rw [if_neg (by omega), if_neg (by omega)]
theorem elim_next {m : Mat} {k : Nat} {before : Int} {i : Nat} (hi : i < 4) (hik : i ≠ k) : cellsM (setRowM (elimTo m k before i) i (newV (m k) (elimTo m k before i i) k before)) = cellsM (elimTo m k before (i + 1)) := by
  refine cells_eq fun r c _ _ => ?_
  unfold setRowM
  cases hb : Nat.beq r i with
  | true =>
    have := Nat.eq_of_beq_eq_true hb
    subst this
    have e : elimTo m k before r r = m r := by
      funext c; unfold elimTo; rw [if_neg (by omega)]
    rw [cond_true, e]
    unfold elimTo
    rw [if_pos ⟨by omega, hik⟩]
  | false =>
    have hne : r ≠ i := fun e => by subst e; rw [Nat.beq_refl] at hb; cases hb
    rw [cond_false]
    unfold elimTo
    by_cases h : r < i ∧ r ≠ k
    · rw [if_pos h, if_pos ⟨by omega, h.2⟩]
    · rw [if_neg h, if_neg (by omega)]
def mixV (a b : Nat → Int) (c : Nat) : Nat → Int := fun x => bif Nat.blt x c then a x else b x
theorem mix_next (a b : Nat → Int) {c : Nat} (hc : c < 5) : seg (cellsR (mixV a b c)) (0 + c * 1) [cI (a c)] = cellsR (mixV a b (c + 1)) := by
  rw [show 0 + c * 1 = c by omega, seg_v hc]
  rcases five hc with rfl | rfl | rfl | rfl | rfl <;> rfl
theorem one_nz : (1 : Int) ≠ 0 := by decide
theorem mPart_all {s : SysT} (h : s.right.length = s.rows.length) : mPart s s.rows.length = getM s := by
  funext r c
  unfold mPart getM
  by_cases hr : r < s.rows.length
  · rw [if_pos hr]
  · rw [if_neg hr]
    have e1 : s.right.getD r 0 = 0 := by rw [List.getD_eq_getElem?_getD, List.getElem?_eq_none (by omega)]; rfl
    have e2 : s.rows.getD r [] = [] := by rw [List.getD_eq_getElem?_getD, List.getElem?_eq_none (by omega)]; rfl
    rw [e1, e2]; simp
theorem solveP_row {s : SysT} (hl : longE s = false) {i : Nat} (hi : i < s.rows.length) (h : outL (-100) 100 s.rows[i] = true) : solveP s = ([], 7) := by
  have : rangeE s = true := by
    unfold rangeE
    rw [Bool.or_eq_true]
    exact .inl (List.any_eq_true.2 ⟨_, List.getElem_mem hi, h⟩)
  unfold solveP
  rw [if_neg (by rw [hl]; decide), if_pos this]
theorem solveP_right {s : SysT} (hl : longE s = false) (h : outL (-10000) 10000 s.right = true) : solveP s = ([], 7) := by
  have : rangeE s = true := by unfold rangeE; rw [h, Bool.or_true]
  unfold solveP
  rw [if_neg (by rw [hl]; decide), if_pos this]
theorem solveP_go {s : SysT} (hl : longE s = false) (hz : ∀ j, j < s.rows.length → outL (-100) 100 (s.rows.getD j []) = false) (h : outL (-10000) 10000 s.right = false) :
    solveP s = match gaussR s.rows.length s.rows.length 0 1 (mPart s s.rows.length) with
      | none => ([], 8)
      | some m => ((List.range s.rows.length).map fun r => redP (m r 4) (m r r), 0) := by
  have hr : rangeE s = false := by
    unfold rangeE
    rw [h, Bool.or_false, List.any_eq_false]
    intro r hm
    obtain ⟨j, hj, rfl⟩ := List.getElem_of_mem hm
    have := hz j hj
    rw [List.getD_eq_getElem?_getD, List.getElem?_eq_getElem hj] at this
    simpa using this
  rw [mPart_all (long_ok hl).2.1]
  unfold solveP
  rw [if_neg (by rw [hl]; decide), if_neg (by rw [hr]; decide)]
def solveOK (s : SysT) : Prop := ∀ m, gaussR s.rows.length s.rows.length 0 1 (mPart s s.rows.length) = some m → ∀ r, r < s.rows.length → lim (m r 4) ∧ lim (m r r) ∧ m r r ≠ 0
theorem solve_all (s : SysT) (hok : longE s = false → (∀ j, j < s.rows.length → outL (-100) 100 (s.rows.getD j []) = false) → outL (-10000) 10000 s.right = false → solveOK s) : FnC Tryd.prog 13 [sysAV s] (.t [r2sAV (solveP s).1, iv .i64 (solveP s).2]) := by
  by_cases hlong : longE s = true
  · have e : solveP s = ([], 3) := by unfold solveP; rw [if_pos hlong]
    rw [e]; exact solve_long s hlong
  have h : longE s = false := by simpa using hlong
  clear hlong
  have hok := hok h
  have hp1 := fun i hi => solveP_row h (i := i) hi
  have hp2 := solveP_right h
  have hp3 := solveP_go h
  obtain ⟨⟨hn1, hn4⟩, hrt, hrl⟩ := long_ok h
  obtain ⟨rows, right⟩ := s
  have hl1 : (rwPV rows).length = rows.length := List.length_map _
  have hl2 : (right.map fun n => [PV.v (.int .i64 n)]).length = right.length := List.length_map _
  have o1 := out_fn 1 4 [((rwPV rows).length : Int)]
  have hc := containsr_fn 41 [.b 4 0] (fun r => decide (r.length ≠ (rwPV rows).length)) rows (sgN (rwPV rows).length rows right) (fun x _ => solve1_fn _ _ _ x)
  have oR := out_fn (-10000) 10000 right
  have oL := fun r => out_fn (-100) 100 r
  unfold longE at h
  dsimp only at h hn1 hn4 hrt hrl
  rw [← ne_nat] at h
  rw [hl1] at o1 hc
  unfold solveOK at hok
  dsimp only at hok hp1 hp2 hp3
  change FnC _ _ [.a [.d (.s 1 (rwPV rows)), .d (intsPV right)]] _
  generalize solveP ⟨rows, right⟩ = P at hp1 hp2 hp3 ⊢
  generalize outL 1 4 [(rows.length : Int)] = b1 at o1 h
  generalize rows.any (fun r => decide (r.length ≠ rows.length)) = b3 at hc h
  rw [← hl1] at o1 hc
  refine FnC_of_AWL hTt Tryd.func13 rfl (by kernel_rfl) (res := [.tmp 2, .tmp 3]) rfl Tryd.ntmps13 (by simp) fun w0 K0 => ?_
  dsimp only [entry]
  repeat' first | with_reducible refine AW_seq ?_ | with_reducible refine AW_block ?_ | ((first | with_reducible refine AW_skip ?_ | with_reducible refine AW_ret ?_ | with_reducible refine AW_region hTt ?_ | ((refine ⟨_, (o1).call rfl rfl, ?_⟩); (rintro _ _ ⟨rfl, rfl⟩)) | refine ⟨_, fun _ => hc, ?_⟩ | fail); conv => whnf) | (exact (long_t h hb).elim) | (refine AW_cond rfl (fun hb => ?_) (fun hb => ?_) <;> first | (replace hb := of_decide_eq_true hb; try simp only [List.length_map] at hb) | (replace hb := of_decide_eq_false hb; try simp only [List.length_map] at hb) | (simp only [List.length_map, bne_iff_ne, ne_eq, beq_iff_eq, bne_eq_false_iff_eq, beq_eq_false_iff_ne, decide_eq_true_eq, decide_eq_false_iff_not, Bool.not_eq_true', Bool.not_eq_false', Int.natCast_inj] at hb)) | ((refine andA ?_); conv => whnf) | (refine fun hln => ?_; (try rw [List.length_map] at hln); unfold maxLen at hln; conv => whnf) | fail
  clear o1 hc h hb
  refine AW_loop (fun i : Nat => [(38, iv .i64 i), (37, iv .i64 (rwPV rows).length), (36, .x (.d (.s 1 (rwPV rows)))), (1, .x (.b 1 0)), (4, .x (.b 4 0)), (5, .x (.b 5 0)), (2, .x (.d (.v (.slice none 0 0)))), (3, iv .i64 0)])
    (fun i => [(5, .box (cellsM (mPart ⟨rows, right⟩ i))), (4, .box [.d (.v (.int .i64 (rwPV rows).length))]), (1, .box [.d (.s 1 (rwPV rows)), .d (intsPV right)])])
    (fun i => i ≤ rows.length ∧ ∀ j, j < i → outL (-100) 100 (rows.getD j []) = false) (fun i => rows.length - i) 0 ⟨Nat.zero_le _, fun j hj => absurd hj (Nat.not_lt_zero _)⟩ impA ?_
  rintro i ⟨hi, hz⟩
  rcases Nat.lt_or_ge i rows.length with hil | hil
  · have oi := oL rows[i]
    have hrli := hrl rows[i] (List.getElem_mem hil)
    have hrd : rows.getD i [] = rows[i] := by rw [List.getD_eq_getElem?_getD, List.getElem?_eq_getElem hil]; rfl
    generalize hoi : outL (-100) 100 rows[i] = b at oi
    cases b
    · have hof : 0 + i * 5 + 0 * 1 + (5 - 0) ≤ 20 := by omega
      have hst : [cI (right[i]'(by omega))].length = 1 ∧ 0 + i * 5 + 4 * 1 + [cI (right[i]'(by omega))].length ≤ (seg (cellsM (mPart ⟨rows, right⟩ i)) (0 + i * 5 + 0 * 1) (((rows[i].map iPV).take (5 - 0)).flatten.map .d)).length :=
        ⟨rfl, by rw [seg_in_len (by omega) _ (by omega)]; show 0 + i * 5 + 4 * 1 + 1 ≤ 20; omega⟩
      have hsn := seg_next (s := ⟨rows, right⟩) (show i < 4 by omega) hil (show i < right.length by omega) (show rows[i].length ≤ 4 by omega)
      have hz1 : ∀ j, j < i + 1 → outL (-100) 100 (rows.getD j []) = false := fun j hj => by
        by_cases e : j = i
        · rw [e, hrd]; exact hoi
        · exact hz j (by omega)
      clear oR oL hz hrl hoi hrd
      repeat' first | with_reducible refine AW_seq ?_ | with_reducible refine AW_block ?_ | ((first | with_reducible refine AW_skip ?_ | with_reducible refine AW_exit ?_ | with_reducible refine AW_region hTt ?_ | refine AW_draw hTt hMix (id := 11) 7 false [0, 0, 2, 0, 14, 30, 1, 127, 255] (by kernel_rfl) rfl rfl (by kernel_rfl) ?_ | fail); conv => whnf) | (exact absurd hb (by omega)) | ((first | ((refine ⟨_, (oi).call rfl rfl, ?_⟩); (rintro _ _ ⟨rfl, rfl⟩)) | refine And.intro hof ?_ | refine dec_rec hst ?_ | fail); conv => whnf) | (refine AW_cond rfl (fun hb => absurd (show false = true from hb) (by decide)) (fun _ => ?_)) | (refine AW_cond rfl (fun hb => ?_) (fun hb => ?_) <;> first | (replace hb := of_decide_eq_true hb; try simp only [List.length_map] at hb) | (replace hb := of_decide_eq_false hb; try simp only [List.length_map] at hb)) | ((first | refine ⟨_, wrap_of (by first | omega | (simp only [List.length_map]; omega)), ?_⟩ | refine andA ?_ | with_reducible refine Exists.intro _ (And.intro (gd_any (And.intro (by omega) (map_get (by omega)))) ?_) | fail); conv => whnf) | fail
      exact ⟨i + 1, ⟨by omega, hz1⟩, by omega, (Imp.forget (by repeat' (first | exact trivial | refine And.intro ?_ ?_ | exact congrArg (fun c => some (Ob.box c)) hsn | rfl | exact ivE (by first | omega | (simp only [List.length_map, List.length_append, List.length_singleton] <;> omega)) | exact oE (by first | omega | (simp only [List.length_map, List.length_append, List.length_singleton] <;> omega)))) (by repeat' (first | exact trivial | refine And.intro ?_ ?_ | exact congrArg (fun c => some (Ob.box c)) hsn | rfl | exact ivE (by first | omega | (simp only [List.length_map, List.length_append, List.length_singleton] <;> omega)) | exact oE (by first | omega | (simp only [List.length_map, List.length_append, List.length_singleton] <;> omega)))) (by kernel_rfl) (by kernel_rfl) (by kernel_rfl))⟩
    · clear oR oL hz hrl hrd
      obtain rfl := hp1 i hil hoi
      repeat' first | with_reducible refine AW_seq ?_ | with_reducible refine AW_block ?_ | ((first | with_reducible refine AW_skip ?_ | with_reducible refine AW_exit ?_ | with_reducible refine AW_ret ?_ | with_reducible refine AW_region hTt ?_ | fail); conv => whnf) | (exact absurd hb (by omega)) | ((refine ⟨_, (oi).call rfl rfl, ?_⟩); (rintro _ _ ⟨rfl, rfl⟩); conv => whnf) | (refine AW_cond rfl (fun _ => ?_) (fun hb => absurd (show true = false from hb) (by decide))) | (refine AW_cond rfl (fun hb => ?_) (fun hb => ?_) <;> first | (replace hb := of_decide_eq_true hb; try simp only [List.length_map] at hb) | (replace hb := of_decide_eq_false hb; try simp only [List.length_map] at hb)) | ((first | refine andA ?_ | with_reducible refine Exists.intro _ (And.intro (gd_any (And.intro (by omega) (map_get (by omega)))) ?_) | fail); conv => whnf) | fail
      exact ⟨_, rfl, leN⟩
  · obtain rfl : i = rows.length := by omega
    generalize hoR : outL (-10000) 10000 right = b at oR
    cases b
    · clear oL hrl
      repeat' first | with_reducible refine AW_seq ?_ | with_reducible refine AW_block ?_ | ((first | with_reducible refine AW_skip ?_ | with_reducible refine AW_exit ?_ | with_reducible refine AW_region hTt ?_ | fail); conv => whnf) | (exact absurd hb (by omega)) | ((refine ⟨_, (oR).call rfl rfl, ?_⟩); (rintro _ _ ⟨rfl, rfl⟩); conv => whnf) | (refine AW_cond rfl (fun hb => absurd (show false = true from hb) (by decide)) (fun _ => ?_)) | (refine AW_cond rfl (fun hb => ?_) (fun hb => ?_) <;> first | (replace hb := of_decide_eq_true hb; try simp only [List.length_map] at hb) | (replace hb := of_decide_eq_false hb; try simp only [List.length_map] at hb)) | ((refine andA ?_); conv => whnf) | fail
      have hp3 := hp3 hz hoR
      have hok := hok hz hoR
      have hin : gaussR rows.length (rows.length - 0) 0 1 (mPart ⟨rows, right⟩ rows.length) = gaussR rows.length rows.length 0 1 (mPart ⟨rows, right⟩ rows.length) := by rw [Nat.sub_zero]
      refine AW_loop (fun p : Nat × Int × Mat => [(63, iv .i64 p.1), (62, iv .i64 rows.length), (8, iv .i64 p.2.1), (4, .x (.b 4 0)), (5, .x (.b 5 0)), (2, .x (.d (.v (.slice none 0 0)))), (3, iv .i64 0)])
        (fun p => [(5, .box (cellsM p.2.2)), (4, .box [.d (.v (.int .i64 rows.length))])])
        (fun p => p.1 ≤ rows.length ∧ p.2.1 ≠ 0 ∧ gaussR rows.length (rows.length - p.1) p.1 p.2.1 p.2.2 = gaussR rows.length rows.length 0 1 (mPart ⟨rows, right⟩ rows.length)) (fun p => rows.length - p.1) (0, 1, mPart ⟨rows, right⟩ rows.length) ⟨Nat.zero_le _, one_nz, hin⟩ (Imp.forget (by repeat' (first | exact trivial | refine And.intro ?_ ?_ | exact congrArg (fun k : Nat => some (Ob.box [.d (.v (.int .i64 k))])) hl1 | rfl | exact ivE (by first | omega | (simp only [List.length_map, List.length_append, List.length_singleton] <;> omega)) | exact oE (by first | omega | (simp only [List.length_map, List.length_append, List.length_singleton] <;> omega)))) (by repeat' (first | exact trivial | refine And.intro ?_ ?_ | exact congrArg (fun k : Nat => some (Ob.box [.d (.v (.int .i64 k))])) hl1 | rfl | exact ivE (by first | omega | (simp only [List.length_map, List.length_append, List.length_singleton] <;> omega)) | exact oE (by first | omega | (simp only [List.length_map, List.length_append, List.length_singleton] <;> omega)))) (by kernel_rfl) (by kernel_rfl) (by kernel_rfl)) ?_
      clear hin hz hil hi oR hoR hb hl1 hl2 hp1 hp2
      generalize gaussR rows.length rows.length 0 1 (mPart ⟨rows, right⟩ rows.length) = G at *
      generalize rows.length = n at *
      rintro ⟨k, before, m⟩ ⟨hk, hbe, hG⟩
      dsimp only at hk hbe hG ⊢
      rcases Nat.lt_or_ge k n with hkn | hkn
      · obtain ⟨f, hf⟩ : ∃ f, n - k = f + 1 := ⟨n - k - 1, by omega⟩
        have hpv := pivi_fn m k (n - k) (by omega) (by omega)
        rw [hf] at hG
        simp only [gaussR] at hG
        cases hp : pivR m k (n - k) with
        | none =>
          rw [hp] at hG hpv
          dsimp only at hG hpv
          repeat' first | with_reducible refine AW_seq ?_ | with_reducible refine AW_block ?_ | ((first | with_reducible refine AW_skip ?_ | with_reducible refine AW_exit ?_ | with_reducible refine AW_ret ?_ | with_reducible refine AW_region hTt ?_ | fail); conv => whnf) | (exact absurd hb (by omega)) | ((refine ⟨_, (hpv).frame (asc []) (by repeat (first | exact trivial | refine ⟨rfl, ?_⟩)) rfl (by rintro _ _ ⟨rfl, rfl⟩; rfl), ?_⟩); (rintro _ _ ⟨_, _, ⟨rfl, rfl⟩, rfl, rfl⟩); conv => whnf) | (refine AW_cond rfl (fun _ => ?_) (fun hb => absurd (show true = false from hb) (by decide))) | (refine AW_cond rfl (fun hb => ?_) (fun hb => ?_) <;> first | (replace hb := of_decide_eq_true hb; try simp only [List.length_map] at hb) | (replace hb := of_decide_eq_false hb; try simp only [List.length_map] at hb)) | ((refine andA ?_); conv => whnf) | fail
          subst hG
          obtain rfl := hp3
          exact ⟨_, rfl, leN⟩
        | some j =>
          rw [hp] at hG hpv
          dsimp only at hG hpv
          obtain ⟨hj1, hj2⟩ := pivR_some hp
          have hkj : k + j < 4 := by omega
          have hsE := swap_eq (m := m) (k := k) (j := k + j)
          have hsw := swap_seg (m := m) (show k < 4 by omega) hkj
          have hpne : swapM m k (k + j) k k ≠ 0 := by unfold swapM; rw [if_pos rfl]; exact hj2
          generalize swapM m k (k + j) = m1 at *
          have hst2 : 5 = 5 ∧ 0 + (k + j) * 5 + 5 ≤ (seg (cellsM m) (0 + k * 5) (cellsR fun c => m (k + j) c)).length := ⟨rfl, by rw [seg_length _ _ _ (by show 0 + k * 5 + 5 ≤ 20; omega)]; show _ ≤ 20; omega⟩
          have hst1 : 5 = 5 ∧ 0 + k * 5 + 5 ≤ 20 := ⟨rfl, by omega⟩
          clear hp hj1 hj2
          repeat' first | ((with_reducible refine AW_cut (x := .seq (.region 22 _ _) _) [(63, iv .i64 k), (62, iv .i64 n), (8, iv .i64 before), (9, .x (.b 9 0)), (4, .x (.b 4 0)), (5, .x (.b 5 0)), (2, .x (.d (.v (.slice none 0 0)))), (3, iv .i64 0)] [(9, .box [.d (.v (.int .i64 k))]), (5, .box (cellsM m1)), (4, .box [.d (.v (.int .i64 n))])] ?_ ?_) <;> conv => whnf) | with_reducible refine AW_seq ?_ | with_reducible refine AW_block ?_ | ((first | with_reducible refine AW_skip ?_ | with_reducible refine AW_exit ?_ | with_reducible refine AW_region hTt ?_ | refine AW_draw hTt hMix (id := 22) 8 false [0, 1, 3, 0, 0, 24, 56, 120, 255] (by kernel_rfl) rfl rfl (by kernel_rfl) ?_ | refine AW_drawM hTt hMix (id := 23) 13 [1, 2, 3] false [0, 0, 0, 6, 0, 0, 48, 112, 240, 0, 512, 1536, 4081, 8177, 16383, 32767] _ (by kernel_rfl) rfl rfl (by kernel_rfl) rfl (by kernel_rfl) (by kernel_rfl) ?_ | refine LateGo.mk ⟨.x .j, rfl, ?_⟩ | fail); conv => whnf) | (exact absurd hb (by omega)) | ((first | ((refine ⟨_, (hpv).frame (asc []) (by repeat (first | exact trivial | refine ⟨rfl, ?_⟩)) rfl (by rintro _ _ ⟨rfl, rfl⟩; rfl), ?_⟩); (rintro _ _ ⟨_, _, ⟨rfl, rfl⟩, rfl, rfl⟩)) | rw [at_row (m := m) (i := k) ?_ ?_ ?_ ?_]; rotate_left; exact rfl; exact Nat.zero_add _; exact rfl; omega | rw [at_row (m := m) (i := k + j) ?_ ?_ ?_ ?_]; rotate_left; exact rfl; exact Nat.zero_add _; exact rfl; omega | refine dec_rec hst1 ?_ | refine dec_rec hst2 ?_ | rw [at_row (m := m1) (i := k) ?_ ?_ ?_ ?_]; rotate_left; exact rfl; exact Nat.zero_add _; exact rfl; omega | fail); conv => whnf) | (refine AW_cond rfl (fun hb => absurd (show false = true from hb) (by decide)) (fun _ => ?_)) | (refine AW_cond rfl (fun hb => ?_) (fun hb => ?_) <;> first | (replace hb := of_decide_eq_true hb; try simp only [List.length_map] at hb) | (replace hb := of_decide_eq_false hb; try simp only [List.length_map] at hb) | (simp only [List.length_map, bne_iff_ne, ne_eq, beq_iff_eq, bne_eq_false_iff_eq, beq_eq_false_iff_ne, decide_eq_true_eq, decide_eq_false_iff_not, Bool.not_eq_true', Bool.not_eq_false', Int.natCast_inj] at hb)) | ((first | refine ⟨_, wrap_of (by first | omega | (simp only [List.length_map]; omega)), ?_⟩ | refine andA ?_ | fail); conv => whnf) | fail
          · exact (Imp.forget (by repeat' (first | exact trivial | refine And.intro ?_ ?_ | exact congrArg (fun c => some (Ob.box c)) hsw | rfl | exact ivE (by first | omega | (simp only [List.length_map, List.length_append, List.length_singleton] <;> omega)) | exact oE (by first | omega | (simp only [List.length_map, List.length_append, List.length_singleton] <;> omega)))) (by repeat' (first | exact trivial | refine And.intro ?_ ?_ | exact congrArg (fun c => some (Ob.box c)) hsw | rfl | exact ivE (by first | omega | (simp only [List.length_map, List.length_append, List.length_singleton] <;> omega)) | exact oE (by first | omega | (simp only [List.length_map, List.length_append, List.length_singleton] <;> omega)))) (by kernel_rfl) (by kernel_rfl) (by kernel_rfl))
          · exact (Imp.forget (by repeat' (first | exact trivial | refine And.intro ?_ ?_ | exact congrArg (fun c => some (Ob.box c)) (hsE hb) | rfl | exact ivE (by first | omega | (simp only [List.length_map, List.length_append, List.length_singleton] <;> omega)) | exact oE (by first | omega | (simp only [List.length_map, List.length_append, List.length_singleton] <;> omega)))) (by repeat' (first | exact trivial | refine And.intro ?_ ?_ | exact congrArg (fun c => some (Ob.box c)) (hsE hb) | rfl | exact ivE (by first | omega | (simp only [List.length_map, List.length_append, List.length_singleton] <;> omega)) | exact oE (by first | omega | (simp only [List.length_map, List.length_append, List.length_singleton] <;> omega)))) (by kernel_rfl) (by kernel_rfl) (by kernel_rfl))
          clear hpv hsE hsw hst1 hst2 hkj
          refine AW_loop (fun i : Nat => [(100, iv .i64 i), (99, iv .i64 n), (63, iv .i64 k), (62, iv .i64 n), (8, iv .i64 before), (9, .x (.b 9 0)), (11, .x (.b 11 0)), (4, .x (.b 4 0)), (5, .x (.b 5 0)), (2, .x (.d (.v (.slice none 0 0)))), (3, iv .i64 0)])
            (fun i => [(11, .box (cellsR (fun c => m1 k c))), (9, .box [.d (.v (.int .i64 k))]), (5, .box (cellsM (elimTo m1 k before i))), (4, .box [.d (.v (.int .i64 n))])])
            (fun i => i ≤ n) (fun i => n - i) 0 (Nat.zero_le _) (Imp.forget (by repeat' (first | exact trivial | refine And.intro ?_ ?_ | exact congrArg (fun c => some (Ob.box c)) (elim_zero m1 k before) | rfl | exact ivE (by first | omega | (simp only [List.length_map, List.length_append, List.length_singleton] <;> omega)) | exact oE (by first | omega | (simp only [List.length_map, List.length_append, List.length_singleton] <;> omega)))) (by repeat' (first | exact trivial | refine And.intro ?_ ?_ | exact congrArg (fun c => some (Ob.box c)) (elim_zero m1 k before) | rfl | exact ivE (by first | omega | (simp only [List.length_map, List.length_append, List.length_singleton] <;> omega)) | exact oE (by first | omega | (simp only [List.length_map, List.length_append, List.length_singleton] <;> omega)))) (by kernel_rfl) (by kernel_rfl) (by kernel_rfl)) ?_
          rintro i hi
          rcases Nat.lt_or_ge i n with hin | hin
          · by_cases hik : i = k
            · subst hik
              have hel := elim_same m1 i before
              repeat' first | with_reducible refine AW_seq ?_ | with_reducible refine AW_block ?_ | ((first | with_reducible refine AW_skip ?_ | with_reducible refine AW_exit ?_ | with_reducible refine AW_region hTt ?_ | fail); conv => whnf) | (exact absurd hb (by omega)) | (exact absurd trivial hb) | (refine AW_cond rfl (fun hb => ?_) (fun hb => ?_) <;> first | (replace hb := of_decide_eq_true hb; try simp only [List.length_map] at hb) | (replace hb := of_decide_eq_false hb; try simp only [List.length_map] at hb)) | ((refine ⟨_, wrap_of (by first | omega | (simp only [List.length_map]; omega)), ?_⟩); conv => whnf) | fail
              exact ⟨i + 1, hin, by omega, (Imp.forget (by repeat' (first | exact trivial | refine And.intro ?_ ?_ | exact congrArg (fun c => some (Ob.box c)) hel | rfl | exact ivE (by first | omega | (simp only [List.length_map, List.length_append, List.length_singleton] <;> omega)) | exact oE (by first | omega | (simp only [List.length_map, List.length_append, List.length_singleton] <;> omega)))) (by repeat' (first | exact trivial | refine And.intro ?_ ?_ | exact congrArg (fun c => some (Ob.box c)) hel | rfl | exact ivE (by first | omega | (simp only [List.length_map, List.length_append, List.length_singleton] <;> omega)) | exact oE (by first | omega | (simp only [List.length_map, List.length_append, List.length_singleton] <;> omega)))) (by kernel_rfl) (by kernel_rfl) (by kernel_rfl))⟩
            · have hel := elim_next (m := m1) (before := before) (show i < 4 by omega) hik
              generalize elimTo m1 k before i = E at *
              repeat' first | with_reducible refine AW_seq ?_ | with_reducible refine AW_block ?_ | ((first | with_reducible refine AW_skip ?_ | with_reducible refine AW_exit ?_ | with_reducible refine AW_region hTt ?_ | fail); conv => whnf) | (exact absurd hb (by omega)) | ((rw [at_row (m := E) (i := i) ?_ ?_ ?_ ?_]; rotate_left; exact rfl; exact Nat.zero_add _; exact rfl; omega); conv => whnf) | (refine AW_cond rfl (fun hb => ?_) (fun hb => ?_) <;> first | (replace hb := of_decide_eq_true hb; try simp only [List.length_map] at hb) | (replace hb := of_decide_eq_false hb; try simp only [List.length_map] at hb)) | ((refine andA ?_); conv => whnf) | fail
              refine AW_loop (fun c : Nat => [(109, iv .i64 c), (12, iv .i64 i), (13, .x (.b 13 0)), (100, iv .i64 i), (99, iv .i64 n), (63, iv .i64 k), (62, iv .i64 n), (8, iv .i64 before), (9, .x (.b 9 0)), (11, .x (.b 11 0)), (4, .x (.b 4 0)), (5, .x (.b 5 0)), (2, .x (.d (.v (.slice none 0 0)))), (3, iv .i64 0)])
                (fun c => [(13, .box (cellsR (mixV (newV (m1 k) (E i) k before) (E i) c))), (11, .box (cellsR (fun c => m1 k c))), (9, .box [.d (.v (.int .i64 k))]), (5, .box (cellsM E)), (4, .box [.d (.v (.int .i64 n))])])
                (fun c => c ≤ 5) (fun c => 5 - c) 0 (Nat.zero_le _) impA ?_
              rintro c hc5
              rcases Nat.lt_or_ge c 5 with hc | hc
              · have hcs := mix_next (newV (m1 k) (E i) k before) (E i) hc
                have hst : 1 = 1 ∧ 0 + c * 1 + 1 ≤ 5 := ⟨rfl, by omega⟩
                unfold newV at hcs
                clear hel hG
                repeat' first | with_reducible refine AW_seq ?_ | with_reducible refine AW_block ?_ | ((first | with_reducible refine AW_skip ?_ | with_reducible refine AW_exit ?_ | with_reducible refine AW_region hTt ?_ | refine AW_draw hTt hMix (id := 33) 22 false [0, 0, 2, 6, 0, 0, 16, 112, 240, 510, 0, 0, 1024, 7168, 15360, 0, 32768, 98304, 261120, 524286, 0, 2097150, 4194303, 8388607] (by kernel_rfl) rfl rfl (by kernel_rfl) ?_ | fail); conv => whnf) | (exact absurd hb (by omega)) | ((first | rw [at_v (v := fun c => m1 k c) (c := k) ?_ ?_ ?_ ?_]; rotate_left; exact rfl; (show 0 + k * 1 = k; omega); exact rfl; omega | rw [at_v (v := fun c => m1 k c) (c := c) ?_ ?_ ?_ ?_]; rotate_left; exact rfl; (show 0 + c * 1 = c; omega); exact rfl; omega | rw [at_el (m := E) (i := i) (c := c) ?_ ?_ ?_ ?_ ?_]; rotate_left; exact rfl; (show 0 + i * 5 + c * 1 = i * 5 + c; omega); exact rfl; omega; omega | rw [at_el (m := E) (i := i) (c := k) ?_ ?_ ?_ ?_ ?_]; rotate_left; exact rfl; (show 0 + i * 5 + k * 1 = i * 5 + k; omega); exact rfl; omega; omega | refine And.intro (gd_none hbe) ?_ | refine dec_rec hst ?_ | fail); conv => whnf) | (refine AW_cond rfl (fun hb => ?_) (fun hb => ?_) <;> first | (replace hb := of_decide_eq_true hb; try simp only [List.length_map] at hb) | (replace hb := of_decide_eq_false hb; try simp only [List.length_map] at hb)) | ((first | refine ⟨_, wrap_of (by first | omega | (simp only [List.length_map]; omega)), ?_⟩ | refine ⟨IntKind.wrap _ _, rfl, ?_⟩ | refine andA ?_ | fail); conv => whnf) | fail
                exact ⟨c + 1, by omega, by omega, (Imp.forget (by repeat' (first | exact trivial | refine And.intro ?_ ?_ | exact congrArg (fun c => some (Ob.box c)) hcs | rfl | exact ivE (by first | omega | (simp only [List.length_map, List.length_append, List.length_singleton] <;> omega)) | exact oE (by first | omega | (simp only [List.length_map, List.length_append, List.length_singleton] <;> omega)))) (by repeat' (first | exact trivial | refine And.intro ?_ ?_ | exact congrArg (fun c => some (Ob.box c)) hcs | rfl | exact ivE (by first | omega | (simp only [List.length_map, List.length_append, List.length_singleton] <;> omega)) | exact oE (by first | omega | (simp only [List.length_map, List.length_append, List.length_singleton] <;> omega)))) (by kernel_rfl) (by kernel_rfl) (by kernel_rfl))⟩
              · obtain rfl : c = 5 := by omega
                have hst : 5 = 5 ∧ 0 + i * 5 + 5 ≤ 20 := ⟨rfl, by omega⟩
                have hrw : seg (cellsM E) (0 + i * 5) (cellsR (mixV (newV (m1 k) (E i) k before) (E i) 5)) = cellsM (elimTo m1 k before (i + 1)) := by
                  rw [Nat.zero_add, seg_row (by omega), ← hel]; rfl
                repeat' first | with_reducible refine AW_seq ?_ | ((first | with_reducible refine AW_exit ?_ | with_reducible refine AW_region hTt ?_ | refine dec_rec hst ?_ | fail); conv => whnf) | (refine AW_cond rfl (fun hb => absurd (show false = true from hb) (by decide)) (fun _ => ?_)) | ((first | refine ⟨_, wrap_of (by first | omega | (simp only [List.length_map]; omega)), ?_⟩ | refine andA ?_ | fail); conv => whnf) | fail
                exact ⟨i + 1, by omega, by omega, (Imp.forget (by repeat' (first | exact trivial | refine And.intro ?_ ?_ | exact congrArg (fun c => some (Ob.box c)) hrw | rfl | exact ivE (by first | omega | (simp only [List.length_map, List.length_append, List.length_singleton] <;> omega)) | exact oE (by first | omega | (simp only [List.length_map, List.length_append, List.length_singleton] <;> omega)))) (by repeat' (first | exact trivial | refine And.intro ?_ ?_ | exact congrArg (fun c => some (Ob.box c)) hrw | rfl | exact ivE (by first | omega | (simp only [List.length_map, List.length_append, List.length_singleton] <;> omega)) | exact oE (by first | omega | (simp only [List.length_map, List.length_append, List.length_singleton] <;> omega)))) (by kernel_rfl) (by kernel_rfl) (by kernel_rfl))⟩
          · obtain rfl : i = n := by omega
            repeat' first | with_reducible refine AW_seq ?_ | with_reducible refine AW_block ?_ | ((first | with_reducible refine AW_skip ?_ | with_reducible refine AW_exit ?_ | with_reducible refine AW_region hTt ?_ | fail); conv => whnf) | (exact absurd hb (by omega)) | ((rw [at_v (v := fun c => m1 k c) (c := k) ?_ ?_ ?_ ?_]; rotate_left; exact rfl; (show 0 + k * 1 = k; omega); exact rfl; omega); conv => whnf) | (refine AW_cond rfl (fun hb => ?_) (fun hb => ?_) <;> first | (replace hb := of_decide_eq_true hb; try simp only [List.length_map] at hb) | (replace hb := of_decide_eq_false hb; try simp only [List.length_map] at hb)) | ((first | refine ⟨_, wrap_of (by first | omega | (simp only [List.length_map]; omega)), ?_⟩ | refine andA ?_ | fail); conv => whnf) | fail
            refine ⟨(k + 1, m1 k k, elimTo m1 k before i), ⟨hkn, hpne, ?_⟩, by show i - (k + 1) < i - k; omega, impA⟩
            show gaussR i (i - (k + 1)) (k + 1) (m1 k k) (elimTo m1 k before i) = G
            rw [show i - (k + 1) = f by omega]
            exact hG
      · repeat' first | with_reducible refine AW_seq ?_ | with_reducible refine AW_block ?_ | ((first | with_reducible refine AW_skip ?_ | with_reducible refine AW_exit ?_ | with_reducible refine AW_region hTt ?_ | fail); conv => whnf) | (exact absurd hb (by omega)) | (refine AW_cond rfl (fun hb => ?_) (fun hb => ?_) <;> first | (replace hb := of_decide_eq_true hb; try simp only [List.length_map] at hb) | (replace hb := of_decide_eq_false hb; try simp only [List.length_map] at hb)) | fail
        obtain rfl : k = n := by omega
        rw [Nat.sub_self] at hG
        have hG : some m = G := hG
        subst hG
        obtain rfl := hp3
        have hok := hok m rfl
        clear hbe
        refine AW_imp (Imp.nil 900 34 2 (fr' := [(145, iv .i64 0), (144, iv .i64 k), (2, .x (.o 900 0 0)), (5, .x (.b 5 0)), (3, iv .i64 0)])
          (σ' := [(5, .box (cellsM m))]) rfl ?_ ?_ rfl rfl) ?_
        · exact ⟨⟨_, rfl, .inl rfl⟩, ⟨_, rfl, .inl rfl⟩, ⟨_, rfl, .inr ⟨rfl, rfl⟩⟩, ⟨_, rfl, .inl rfl⟩, ⟨_, rfl, .inl rfl⟩, trivial⟩
        · exact ⟨⟨_, rfl, .inl rfl⟩, trivial⟩
        have hlL : ∀ i : Nat, (((List.range i).map fun r => redP (m r 4) (m r r)).map r2PV).length = i := fun i => by simp
        have hnL : ∀ i : Nat, (((List.range i).map fun r => redP (m r 4) (m r r)).map r2PV).take i ++ [r2PV (redP (m i 4) (m i i))] = ((List.range (i + 1)).map fun r => redP (m r 4) (m r r)).map r2PV := fun i => by
          rw [List.take_of_length_le (by rw [hlL]; exact Nat.le_refl _), List.range_succ, List.map_append, List.map_append]; rfl
        refine AW_loop (fun i : Nat => [(145, iv .i64 i), (144, iv .i64 k), (2, .x (.o 900 i i)), (5, .x (.b 5 0)), (3, iv .i64 0)])
          (fun i => [(900, .chain 34 2 i (((List.range i).map fun r => redP (m r 4) (m r r)).map r2PV)), (5, .box (cellsM m))])
          (fun i => i ≤ k) (fun i => k - i) 0 (Nat.zero_le _) impA ?_
        intro i hi
        have hcl := hlL i
        have hch := hnL i
        rcases Nat.lt_or_ge i k with hik | hik
        · obtain ⟨hq1, hq2, hq3⟩ := hok i hik
          have hr := reduce_fn (m i 4) (m i i) hq1 hq2 hq3
          generalize redP (m i 4) (m i i) = x at hr hch
          clear hok hlL hnL
          repeat' first | with_reducible refine AW_seq ?_ | with_reducible refine AW_block ?_ | ((first | with_reducible refine AW_skip ?_ | with_reducible refine AW_exit ?_ | with_reducible refine AW_ret ?_ | with_reducible refine AW_region hTt ?_ | refine AW_draw hTt hMix (id := 42) 12 true [0, 0, 2, 6, 14, 0, 0, 32, 224, 480, 1022, 2046, 4095, 8191] (by kernel_rfl) rfl rfl (by kernel_rfl) ?_ | fail); conv => whnf) | (exact absurd hb (by omega)) | ((first | rw [at_el (m := m) (i := i) (c := 4) ?_ ?_ ?_ ?_ ?_]; rotate_left; exact rfl; (show 0 + i * 5 + 4 * 1 = i * 5 + 4; omega); exact rfl; omega; omega | rw [at_el (m := m) (i := i) (c := i) ?_ ?_ ?_ ?_ ?_]; rotate_left; exact rfl; (show 0 + i * 5 + i * 1 = i * 5 + i; omega); exact rfl; omega; omega | refine ⟨_, fun _ => (hr).call rfl rfl, ?_⟩ | fail); conv => whnf) | ((refine And.intro (by rw [hcl]; refine ⟨?_, ?_, ?_⟩ <;> simp [chunk, maxLen] <;> omega) ?_); conv => whnf) | (refine AW_cond rfl (fun hb => ?_) (fun hb => ?_) <;> first | (replace hb := of_decide_eq_true hb; try simp only [List.length_map] at hb) | (replace hb := of_decide_eq_false hb; try simp only [List.length_map] at hb)) | ((first | refine ⟨_, wrap_of (by first | omega | (simp only [List.length_map]; omega)), ?_⟩ | refine andA ?_ | fail); conv => whnf) | fail
          exact ⟨i + 1, hik, by omega, (Imp.forget (by repeat' (first | exact trivial | refine And.intro ?_ ?_ | exact congrArg (fun xs : List (List PV) => some (Ob.chain 34 2 (i + 1) xs)) hch | rfl | exact ivE (by first | omega | (simp only [List.length_map, List.length_append, List.length_singleton] <;> omega)) | exact oE (by first | omega | (simp only [List.length_map, List.length_append, List.length_singleton] <;> omega)))) (by repeat' (first | exact trivial | refine And.intro ?_ ?_ | exact congrArg (fun xs : List (List PV) => some (Ob.chain 34 2 (i + 1) xs)) hch | rfl | exact ivE (by first | omega | (simp only [List.length_map, List.length_append, List.length_singleton] <;> omega)) | exact oE (by first | omega | (simp only [List.length_map, List.length_append, List.length_singleton] <;> omega)))) (by kernel_rfl) (by kernel_rfl) (by kernel_rfl))⟩
        · obtain rfl : i = k := by omega
          repeat' first | with_reducible refine AW_seq ?_ | with_reducible refine AW_block ?_ | ((first | with_reducible refine AW_skip ?_ | with_reducible refine AW_exit ?_ | with_reducible refine AW_ret ?_ | with_reducible refine AW_region hTt ?_ | refine AW_draw hTt hMix (id := 42) 12 true [0, 0, 2, 6, 14, 0, 0, 32, 224, 480, 1022, 2046, 4095, 8191] (by kernel_rfl) rfl rfl (by kernel_rfl) ?_ | fail); conv => whnf) | (exact absurd hb (by omega)) | (refine AW_cond rfl (fun hb => ?_) (fun hb => ?_) <;> first | (replace hb := of_decide_eq_true hb; try simp only [List.length_map] at hb) | (replace hb := of_decide_eq_false hb; try simp only [List.length_map] at hb)) | fail
          exact ⟨_, outO2 rfl rfl rfl (by rw [hcl]; exact Nat.le_refl _), leS (List.take_of_length_le (by rw [hcl]; exact Nat.le_refl _))⟩
    · obtain rfl := hp2 hoR
      repeat' first | with_reducible refine AW_seq ?_ | with_reducible refine AW_block ?_ | ((first | with_reducible refine AW_skip ?_ | with_reducible refine AW_exit ?_ | with_reducible refine AW_ret ?_ | with_reducible refine AW_region hTt ?_ | fail); conv => whnf) | (exact absurd hb (by omega)) | ((refine ⟨_, (oR).call rfl rfl, ?_⟩); (rintro _ _ ⟨rfl, rfl⟩); conv => whnf) | (refine AW_cond rfl (fun _ => ?_) (fun hb => absurd (show true = false from hb) (by decide))) | (refine AW_cond rfl (fun hb => ?_) (fun hb => ?_) <;> first | (replace hb := of_decide_eq_true hb; try simp only [List.length_map] at hb) | (replace hb := of_decide_eq_false hb; try simp only [List.length_map] at hb)) | ((refine andA ?_); conv => whnf) | fail
      exact ⟨_, rfl, leN⟩
theorem solve_fn (s : SysT) (hok : solveOK s) : FnC Tryd.prog 13 [sysAV s] (.t [r2sAV (solveP s).1, iv .i64 (solveP s).2]) := solve_all s fun _ _ _ => hok
end Go.Proofs.YtnpleednkmhhhaaDoor
namespace Go.Proofs.YtnpleednkmhhhaaDoor
open Go Go.QL
set_option maxHeartbeats 1600000
attribute [local irreducible] ACall FnC YC
def halveR (p : List Int) (den : Int) : Nat → Int → Int → Int → Int × Int
  | 0, lo, hi, _ => (lo, hi)
  | n + 1, lo, hi, s => if hi - lo ≤ 1 then (lo, hi) else
      if sgnI (valP p (lo + (hi - lo) / 2) den) = 0 then halveR p den n (lo + (hi - lo) / 2) (lo + (hi - lo) / 2) s
      else if sgnI (valP p (lo + (hi - lo) / 2) den) = s then halveR p den n (lo + (hi - lo) / 2) hi s
      else halveR p den n lo (lo + (hi - lo) / 2) s
abbrev R3 := Int × Int × Int
def r3PV (x : R3) : List PV := [.v (.int .i64 x.1), .v (.int .i64 x.2.1), .v (.int .i64 x.2.2)]
def r3AV (x : R3) : AV := .a [.d (.v (.int .i64 x.1)), .d (.v (.int .i64 x.2.1)), .d (.v (.int .i64 x.2.2))]
def r3sAV (l : List R3) : AV := .x (.d (.s 3 (l.map r3PV)))
abbrev sgH (p : PV) (den : Int) : Sg := [(910, .box [.d (.v (.int .i64 den))]), (904, .box [.d p]), (911, .box [.f (.func 62) [] [.b 910 0, .b 904 0, .b 911 0]])]
theorem halve_fn {p : List Int} (hp : pOK p) {den : Int} (hd : 0 ≤ den ∧ den ≤ 4000) : ∀ (n : Nat) (lo hi s : Int), (hi - lo).toNat ≤ n → -4000 ≤ lo → lo ≤ hi → hi ≤ 4000 →
    ACall Tryd.prog 62 [iv .i64 lo, iv .i64 hi, iv .i64 s, .x (.b 910 0), .x (.b 904 0), .x (.b 911 0)] (sgH (intsPV p) den)
      (fun r σ' => r = r3AV ((halveR p den n lo hi s).1, (halveR p den n lo hi s).2, den) ∧ σ' = sgH (intsPV p) den) := by
  intro n
  induction n with
  | zero =>
    intro lo hi s h1 h2 h3 h4
    refine ACall_of_AWD hTt Tryd.func62 rfl (by kernel_rfl) (res := [.cell 9 70]) rfl Tryd.ntmps62 (by simp) fun w0 K0 B => ?_
    dsimp only [entry]
    repeat' first | with_reducible refine AW_seq ?_ | ((first | with_reducible refine AW_skip ?_ | with_reducible refine AW_ret ?_ | with_reducible refine AW_region hTt ?_ | fail); conv => whnf) | (exact absurd hb (by omega)) | (refine AW_cond rfl (fun hb => ?_) (fun hb => ?_) <;> first | (replace hb := of_decide_eq_true hb; try simp only [List.length_map] at hb) | (replace hb := of_decide_eq_false hb; try simp only [List.length_map] at hb) | (simp only [List.length_map, bne_iff_ne, ne_eq, beq_iff_eq, bne_eq_false_iff_eq, beq_eq_false_iff_ne, decide_eq_true_eq, decide_eq_false_iff_not, Bool.not_eq_true', Bool.not_eq_false', Int.natCast_inj] at hb) | skip) | ((refine ⟨_, wrap_of (by first | omega | (simp only [List.length_map]; omega)), ?_⟩); conv => whnf) | fail
    exact ⟨_, sgH (intsPV p) den, ⟨rfl, rfl, rfl, trivial⟩, rfl, rfl, rfl, rfl⟩
  | succ n ih =>
    intro lo hi s h1 h2 h3 h4
    by_cases hle : hi - lo ≤ 1
    · rw [show halveR p den (n + 1) lo hi s = (lo, hi) from if_pos hle]
      clear ih
      refine ACall_of_AWD hTt Tryd.func62 rfl (by kernel_rfl) (res := [.cell 9 70]) rfl Tryd.ntmps62 (by simp) fun w0 K0 B => ?_
      dsimp only [entry]
      repeat' first | with_reducible refine AW_seq ?_ | ((first | with_reducible refine AW_skip ?_ | with_reducible refine AW_ret ?_ | with_reducible refine AW_region hTt ?_ | fail); conv => whnf) | (exact absurd hb (by omega)) | (refine AW_cond rfl (fun hb => ?_) (fun hb => ?_) <;> first | (replace hb := of_decide_eq_true hb; try simp only [List.length_map] at hb) | (replace hb := of_decide_eq_false hb; try simp only [List.length_map] at hb) | (simp only [List.length_map, bne_iff_ne, ne_eq, beq_iff_eq, bne_eq_false_iff_eq, beq_eq_false_iff_ne, decide_eq_true_eq, decide_eq_false_iff_not, Bool.not_eq_true', Bool.not_eq_false', Int.natCast_inj] at hb) | skip) | ((refine ⟨_, wrap_of (by first | omega | (simp only [List.length_map]; omega)), ?_⟩); conv => whnf) | fail
      exact ⟨_, sgH (intsPV p) den, ⟨rfl, rfl, rfl, trivial⟩, rfl, rfl, rfl, rfl⟩
    · have e0 : halveR p den (n + 1) lo hi s = _ := if_neg hle
      rw [e0]
      clear e0
      have ht : (hi - lo).tdiv 2 = (hi - lo) / 2 := Int.tdiv_eq_ediv_of_nonneg (by omega)
      have w1 : IntKind.i64.wrap ((hi - lo).tdiv 2) = (hi - lo) / 2 := by rw [ht]; exact wrap_of (by omega)
      obtain ⟨m, hm⟩ : ∃ m, m = lo + (hi - lo) / 2 := ⟨_, rfl⟩
      have w2 : IntKind.i64.wrap (lo + (hi - lo) / 2) = m := by rw [← hm]; exact wrap_of (by omega)
      have hm1 : lo + 1 ≤ m := by omega
      have hm2 : m + 1 ≤ hi := by omega
      rw [← hm]
      clear hm
      have hs := sign_fn hp (num := m) (den := den) (by omega) (by omega)
      have i1 := ih m m s (by omega) (by omega) (by omega) (by omega)
      have i2 := ih m hi s (by omega) (by omega) (by omega) (by omega)
      have i3 := ih lo m s (by omega) (by omega) (by omega) (by omega)
      clear ih
      generalize sgnI (valP p m den) = v at *
      generalize halveR p den n m m s = A1 at *
      generalize halveR p den n m hi s = A2 at *
      generalize halveR p den n lo m s = A3 at *
      by_cases hv0 : v = 0
      · rw [if_pos hv0]
        refine ACall_of_AWD hTt Tryd.func62 rfl (by kernel_rfl) (res := [.cell 9 70]) rfl Tryd.ntmps62 (by simp) fun w0 K0 B => ?_
        dsimp only [entry]
        repeat' first | with_reducible refine AW_seq ?_ | with_reducible refine AW_block ?_ | ((first | with_reducible refine AW_skip ?_ | with_reducible refine AW_ret ?_ | with_reducible refine AW_region hTt ?_ | fail); conv => whnf) | (exact absurd hb (by omega)) | ((first | refine ⟨_, w1, ?_⟩ | refine ⟨_, w2, ?_⟩ | ((refine ⟨_, (hs).call rfl rfl, ?_⟩); (rintro _ _ ⟨rfl, rfl⟩)) | ((refine ⟨_, (i1).frame (asc []) (by repeat (first | exact trivial | refine ⟨rfl, ?_⟩)) rfl (by rintro _ _ ⟨rfl, rfl⟩; rfl), ?_⟩); (rintro _ _ ⟨_, _, ⟨rfl, rfl⟩, rfl, rfl⟩)) | fail); conv => whnf) | (refine AW_cond rfl (fun hb => ?_) (fun hb => ?_) <;> first | (replace hb := of_decide_eq_true hb; try simp only [List.length_map] at hb) | (replace hb := of_decide_eq_false hb; try simp only [List.length_map] at hb) | (simp only [List.length_map, bne_iff_ne, ne_eq, beq_iff_eq, bne_eq_false_iff_eq, beq_eq_false_iff_ne, decide_eq_true_eq, decide_eq_false_iff_not, Bool.not_eq_true', Bool.not_eq_false', Int.natCast_inj] at hb) | skip) | ((first | refine ⟨_, wrap_of (by first | omega | (simp only [List.length_map]; omega)), ?_⟩ | refine andA ?_ | fail); conv => whnf) | fail
        exact ⟨_, sgH (intsPV p) den, ⟨rfl, rfl, rfl, trivial⟩, rfl, rfl, rfl, rfl⟩
      · rw [if_neg hv0]
        by_cases hvs : v = s
        · rw [if_pos hvs]
          refine ACall_of_AWD hTt Tryd.func62 rfl (by kernel_rfl) (res := [.cell 9 70]) rfl Tryd.ntmps62 (by simp) fun w0 K0 B => ?_
          dsimp only [entry]
          repeat' first | with_reducible refine AW_seq ?_ | with_reducible refine AW_block ?_ | ((first | with_reducible refine AW_skip ?_ | with_reducible refine AW_ret ?_ | with_reducible refine AW_region hTt ?_ | fail); conv => whnf) | (exact absurd hb (by omega)) | ((first | refine ⟨_, w1, ?_⟩ | refine ⟨_, w2, ?_⟩ | ((refine ⟨_, (hs).call rfl rfl, ?_⟩); (rintro _ _ ⟨rfl, rfl⟩)) | ((refine ⟨_, (i2).frame (asc []) (by repeat (first | exact trivial | refine ⟨rfl, ?_⟩)) rfl (by rintro _ _ ⟨rfl, rfl⟩; rfl), ?_⟩); (rintro _ _ ⟨_, _, ⟨rfl, rfl⟩, rfl, rfl⟩)) | fail); conv => whnf) | (refine AW_cond rfl (fun hb => ?_) (fun hb => ?_) <;> first | (replace hb := of_decide_eq_true hb; try simp only [List.length_map] at hb) | (replace hb := of_decide_eq_false hb; try simp only [List.length_map] at hb) | (simp only [List.length_map, bne_iff_ne, ne_eq, beq_iff_eq, bne_eq_false_iff_eq, beq_eq_false_iff_ne, decide_eq_true_eq, decide_eq_false_iff_not, Bool.not_eq_true', Bool.not_eq_false', Int.natCast_inj] at hb) | skip) | ((first | refine ⟨_, wrap_of (by first | omega | (simp only [List.length_map]; omega)), ?_⟩ | refine andA ?_ | fail); conv => whnf) | fail
          exact ⟨_, sgH (intsPV p) den, ⟨rfl, rfl, rfl, trivial⟩, rfl, rfl, rfl, rfl⟩
        · rw [if_neg hvs]
          refine ACall_of_AWD hTt Tryd.func62 rfl (by kernel_rfl) (res := [.cell 9 70]) rfl Tryd.ntmps62 (by simp) fun w0 K0 B => ?_
          dsimp only [entry]
          repeat' first | with_reducible refine AW_seq ?_ | with_reducible refine AW_block ?_ | ((first | with_reducible refine AW_skip ?_ | with_reducible refine AW_ret ?_ | with_reducible refine AW_region hTt ?_ | fail); conv => whnf) | (exact absurd hb (by omega)) | ((first | refine ⟨_, w1, ?_⟩ | refine ⟨_, w2, ?_⟩ | ((refine ⟨_, (hs).call rfl rfl, ?_⟩); (rintro _ _ ⟨rfl, rfl⟩)) | ((refine ⟨_, (i3).frame (asc []) (by repeat (first | exact trivial | refine ⟨rfl, ?_⟩)) rfl (by rintro _ _ ⟨rfl, rfl⟩; rfl), ?_⟩); (rintro _ _ ⟨_, _, ⟨rfl, rfl⟩, rfl, rfl⟩)) | fail); conv => whnf) | (refine AW_cond rfl (fun hb => ?_) (fun hb => ?_) <;> first | (replace hb := of_decide_eq_true hb; try simp only [List.length_map] at hb) | (replace hb := of_decide_eq_false hb; try simp only [List.length_map] at hb) | (simp only [List.length_map, bne_iff_ne, ne_eq, beq_iff_eq, bne_eq_false_iff_eq, beq_eq_false_iff_ne, decide_eq_true_eq, decide_eq_false_iff_not, Bool.not_eq_true', Bool.not_eq_false', Int.natCast_inj] at hb) | skip) | ((first | refine ⟨_, wrap_of (by first | omega | (simp only [List.length_map]; omega)), ?_⟩ | refine andA ?_ | fail); conv => whnf) | fail
          exact ⟨_, sgH (intsPV p) den, ⟨rfl, rfl, rfl, trivial⟩, rfl, rfl, rfl, rfl⟩
end Go.Proofs.YtnpleednkmhhhaaDoor
namespace Go.Proofs.YtnpleednkmhhhaaDoor
open Go Go.QL
set_option maxHeartbeats 1600000
attribute [local irreducible] ACall FnC YC
theorem eq_f {α : Type} [DecidableEq α] {a b : List α} (h : a.length ≠ b.length) : decide (a = b) = false := decide_eq_false fun e => h (congrArg List.length e)
theorem eq_f' {α : Type} [DecidableEq α] {a b : List α} {i : Nat} (h1 : i < a.length) (h2 : i < b.length) (h : a[i] ≠ b[i]) : decide (a = b) = false := decide_eq_false fun e => h (by subst e; rfl)
theorem eq_t {α : Type} [DecidableEq α] {a b : List α} (hl : a.length = b.length) (h : ∀ j (h1 : j < a.length) (h2 : j < b.length), j < a.length → a[j] = b[j]) : decide (a = b) = true := decide_eq_true (List.ext_getElem hl fun j h1 h2 => h j h1 h2 h1)
theorem eqL2 {x y : R2} : eqL [.int .i64 x.1, .int .i64 x.2] [.int .i64 y.1, .int .i64 y.2] = decide (x = y) := by
  rw [Bool.eq_iff_iff]; obtain ⟨a, b⟩ := x; obtain ⟨c, d⟩ := y; simp [eqL, eqV]
theorem eqL3 {x y : R3} : eqL [.int .i64 x.1, .int .i64 x.2.1, .int .i64 x.2.2] [.int .i64 y.1, .int .i64 y.2.1, .int .i64 y.2.2] = decide (x = y) := by
  rw [Bool.eq_iff_iff]; obtain ⟨a, b, c⟩ := x; obtain ⟨d, e, f⟩ := y; simp [eqL, eqV]
theorem eqL4 {x y : PayT} : eqL [.int .i64 x.gross, .int .i64 x.tax, .int .i64 x.stamp, .int .i64 x.net] [.int .i64 y.gross, .int .i64 y.tax, .int .i64 y.stamp, .int .i64 y.net] = decide (x = y) := by
  rw [Bool.eq_iff_iff]; obtain ⟨a, b, c, d⟩ := x; obtain ⟨e, f, g, h⟩ := y; simp [eqL, eqV]
theorem ints_fn (a b : List Int) : FnC Tryd.prog 24 [sl a, sl b] (bv (decide (a = b))) := by
  have hla : (a.map (fun n : Int => [PV.v (.int .i64 n)])).length = a.length := List.length_map _
  have hlb : (b.map (fun n : Int => [PV.v (.int .i64 n)])).length = b.length := List.length_map _
  refine FnC_of_AW hTt Tryd.func24 rfl (by kernel_rfl) (res := [.tmp 4]) rfl Tryd.ntmps24 (by simp) fun w0 K0 => ?_
  dsimp only [entry]
  repeat' first | with_reducible refine AW_seq ?_ | with_reducible refine AW_block ?_ | ((first | with_reducible refine AW_skip ?_ | with_reducible refine AW_ret ?_ | with_reducible refine AW_region hTt ?_ | fail); conv => whnf) | (refine AW_cond rfl (fun hb => ?_) (fun hb => ?_) <;> first | (replace hb := of_decide_eq_true hb; try simp only [List.length_map] at hb) | (replace hb := of_decide_eq_false hb; try simp only [List.length_map] at hb) | (simp only [List.length_map, bne_iff_ne, ne_eq, beq_iff_eq, bne_eq_false_iff_eq, beq_eq_false_iff_ne, decide_eq_true_eq, decide_eq_false_iff_not, Bool.not_eq_true', Bool.not_eq_false', Int.natCast_inj] at hb)) | (refine fun hln => ?_; (try rw [List.length_map] at hln); unfold maxLen at hln; conv => whnf) | fail
  · rw [eq_f (by omega)]; rfl
  have hl : a.length = b.length := by omega
  clear hb
  refine AW_loop (fun i : Nat => [(5, iv .i64 i), (0, sl a), (1, sl b)]) (fun _ => [])
    (fun i => i ≤ a.length ∧ ∀ j (h1 : j < a.length) (h2 : j < b.length), j < i → a[j] = b[j]) (fun i => a.length - i) 0 ⟨Nat.zero_le _, fun j _ _ h => absurd h (Nat.not_lt_zero _)⟩ impA ?_
  rintro i ⟨hi, hz⟩
  rcases Nat.lt_or_ge i a.length with hil | hil
  · have hib : i < b.length := by omega
    repeat' first | with_reducible refine AW_seq ?_ | with_reducible refine AW_block ?_ | ((first | with_reducible refine AW_skip ?_ | with_reducible refine AW_exit ?_ | with_reducible refine AW_ret ?_ | with_reducible refine AW_region hTt ?_ | refine AW_draw hTt hMix (id := 6) 8 false [0, 0, 3, 7, 0, 0, 48, 112, 255] (by kernel_rfl) rfl rfl (by kernel_rfl) ?_ | fail); conv => whnf) | (exact absurd hb (by omega)) | (refine AW_cond rfl (fun hb => ?_) (fun hb => ?_) <;> first | (replace hb := of_decide_eq_true hb; try simp only [List.length_map] at hb) | (replace hb := of_decide_eq_false hb; try simp only [List.length_map] at hb) | (simp only [List.length_map, bne_iff_ne, ne_eq, beq_iff_eq, bne_eq_false_iff_eq, beq_eq_false_iff_ne, decide_eq_true_eq, decide_eq_false_iff_not, Bool.not_eq_true', Bool.not_eq_false', Int.natCast_inj] at hb)) | ((first | refine ⟨_, wrap_of (by first | omega | (simp only [List.length_map]; omega)), ?_⟩ | refine andA ?_ | with_reducible refine Exists.intro _ (And.intro (gd_any (And.intro (by omega) (map_get (by omega)))) ?_) | fail); conv => whnf) | (refine fun hln => ?_; (try rw [List.length_map] at hln); unfold maxLen at hln; conv => whnf) | fail
    · rw [eq_f' hil hib hb]; rfl
    · have he : a[i] = b[i] := hb
      exact ⟨i + 1, ⟨by omega, fun j h1 h2 h3 => by
        by_cases e : j = i
        · subst e; exact he
        · exact hz j h1 h2 (by omega)⟩, by omega, impA⟩
  · obtain rfl : i = a.length := by omega
    repeat' first | with_reducible refine AW_seq ?_ | with_reducible refine AW_block ?_ | ((first | with_reducible refine AW_skip ?_ | with_reducible refine AW_exit ?_ | with_reducible refine AW_ret ?_ | with_reducible refine AW_region hTt ?_ | refine AW_draw hTt hMix (id := 6) 8 false [0, 0, 3, 7, 0, 0, 48, 112, 255] (by kernel_rfl) rfl rfl (by kernel_rfl) ?_ | fail); conv => whnf) | (exact absurd hb (by omega)) | (refine AW_cond rfl (fun hb => ?_) (fun hb => ?_) <;> first | (replace hb := of_decide_eq_true hb; try simp only [List.length_map] at hb) | (replace hb := of_decide_eq_false hb; try simp only [List.length_map] at hb)) | (refine fun hln => ?_; (try rw [List.length_map] at hln); unfold maxLen at hln; conv => whnf) | fail
    rw [eq_t hl hz]; rfl
theorem ratios_fn (a b : List R2) : FnC Tryd.prog 15 [r2sAV a, r2sAV b] (bv (decide (a = b))) := by
  have hla : (a.map r2PV).length = a.length := List.length_map _
  have hlb : (b.map r2PV).length = b.length := List.length_map _
  refine FnC_of_AW hTt Tryd.func15 rfl (by kernel_rfl) (res := [.tmp 4]) rfl Tryd.ntmps15 (by simp) fun w0 K0 => ?_
  dsimp only [entry]
  repeat' first | with_reducible refine AW_seq ?_ | with_reducible refine AW_block ?_ | ((first | with_reducible refine AW_skip ?_ | with_reducible refine AW_ret ?_ | with_reducible refine AW_region hTt ?_ | fail); conv => whnf) | (refine AW_cond rfl (fun hb => ?_) (fun hb => ?_) <;> first | (replace hb := of_decide_eq_true hb; try simp only [List.length_map] at hb) | (replace hb := of_decide_eq_false hb; try simp only [List.length_map] at hb) | (simp only [List.length_map, bne_iff_ne, ne_eq, beq_iff_eq, bne_eq_false_iff_eq, beq_eq_false_iff_ne, decide_eq_true_eq, decide_eq_false_iff_not, Bool.not_eq_true', Bool.not_eq_false', Int.natCast_inj] at hb)) | (refine fun hln => ?_; (try rw [List.length_map] at hln); unfold maxLen at hln; conv => whnf) | fail
  · rw [eq_f (by omega)]; rfl
  have hl : a.length = b.length := by omega
  clear hb
  refine AW_loop (fun i : Nat => [(5, iv .i64 i), (0, r2sAV a), (1, r2sAV b)]) (fun _ => [])
    (fun i => i ≤ a.length ∧ ∀ j (h1 : j < a.length) (h2 : j < b.length), j < i → a[j] = b[j]) (fun i => a.length - i) 0 ⟨Nat.zero_le _, fun j _ _ h => absurd h (Nat.not_lt_zero _)⟩ impA ?_
  rintro i ⟨hi, hz⟩
  rcases Nat.lt_or_ge i a.length with hil | hil
  · have hib : i < b.length := by omega
    repeat' first | with_reducible refine AW_seq ?_ | with_reducible refine AW_block ?_ | ((first | with_reducible refine AW_skip ?_ | with_reducible refine AW_exit ?_ | with_reducible refine AW_ret ?_ | with_reducible refine AW_region hTt ?_ | refine AW_draw hTt hMix (id := 6) 8 false [0, 0, 3, 7, 0, 0, 48, 112, 255] (by kernel_rfl) rfl rfl (by kernel_rfl) ?_ | fail); conv => whnf) | (exact absurd hb (by omega)) | (refine AW_cond rfl (fun hb => ?_) (fun hb => ?_) <;> first | (replace hb := of_decide_eq_true hb; try simp only [List.length_map] at hb) | (replace hb := of_decide_eq_false hb; try simp only [List.length_map] at hb) | (simp only [List.length_map, bne_iff_ne, ne_eq, beq_iff_eq, bne_eq_false_iff_eq, beq_eq_false_iff_ne, decide_eq_true_eq, decide_eq_false_iff_not, Bool.not_eq_true', Bool.not_eq_false', Int.natCast_inj] at hb)) | ((first | refine ⟨_, wrap_of (by first | omega | (simp only [List.length_map]; omega)), ?_⟩ | refine andA ?_ | with_reducible refine Exists.intro _ (And.intro (gd_any (And.intro (by omega) (map_get (by omega)))) ?_) | fail); conv => whnf) | (refine fun hln => ?_; (try rw [List.length_map] at hln); unfold maxLen at hln; conv => whnf) | fail
    · rw [eq_f' hil hib (of_decide_eq_false (eqL2.symm.trans hb))]; rfl
    · have he : a[i] = b[i] := (of_decide_eq_true (eqL2.symm.trans hb))
      exact ⟨i + 1, ⟨by omega, fun j h1 h2 h3 => by
        by_cases e : j = i
        · subst e; exact he
        · exact hz j h1 h2 (by omega)⟩, by omega, impA⟩
  · obtain rfl : i = a.length := by omega
    repeat' first | with_reducible refine AW_seq ?_ | with_reducible refine AW_block ?_ | ((first | with_reducible refine AW_skip ?_ | with_reducible refine AW_exit ?_ | with_reducible refine AW_ret ?_ | with_reducible refine AW_region hTt ?_ | refine AW_draw hTt hMix (id := 6) 8 false [0, 0, 3, 7, 0, 0, 48, 112, 255] (by kernel_rfl) rfl rfl (by kernel_rfl) ?_ | fail); conv => whnf) | (exact absurd hb (by omega)) | (refine AW_cond rfl (fun hb => ?_) (fun hb => ?_) <;> first | (replace hb := of_decide_eq_true hb; try simp only [List.length_map] at hb) | (replace hb := of_decide_eq_false hb; try simp only [List.length_map] at hb)) | (refine fun hln => ?_; (try rw [List.length_map] at hln); unfold maxLen at hln; conv => whnf) | fail
    rw [eq_t hl hz]; rfl
theorem brackets_fn (a b : List R3) : FnC Tryd.prog 21 [r3sAV a, r3sAV b] (bv (decide (a = b))) := by
  have hla : (a.map r3PV).length = a.length := List.length_map _
  have hlb : (b.map r3PV).length = b.length := List.length_map _
  refine FnC_of_AW hTt Tryd.func21 rfl (by kernel_rfl) (res := [.tmp 4]) rfl Tryd.ntmps21 (by simp) fun w0 K0 => ?_
  dsimp only [entry]
  repeat' first | with_reducible refine AW_seq ?_ | with_reducible refine AW_block ?_ | ((first | with_reducible refine AW_skip ?_ | with_reducible refine AW_ret ?_ | with_reducible refine AW_region hTt ?_ | fail); conv => whnf) | (refine AW_cond rfl (fun hb => ?_) (fun hb => ?_) <;> first | (replace hb := of_decide_eq_true hb; try simp only [List.length_map] at hb) | (replace hb := of_decide_eq_false hb; try simp only [List.length_map] at hb) | (simp only [List.length_map, bne_iff_ne, ne_eq, beq_iff_eq, bne_eq_false_iff_eq, beq_eq_false_iff_ne, decide_eq_true_eq, decide_eq_false_iff_not, Bool.not_eq_true', Bool.not_eq_false', Int.natCast_inj] at hb)) | (refine fun hln => ?_; (try rw [List.length_map] at hln); unfold maxLen at hln; conv => whnf) | fail
  · rw [eq_f (by omega)]; rfl
  have hl : a.length = b.length := by omega
  clear hb
  refine AW_loop (fun i : Nat => [(5, iv .i64 i), (0, r3sAV a), (1, r3sAV b)]) (fun _ => [])
    (fun i => i ≤ a.length ∧ ∀ j (h1 : j < a.length) (h2 : j < b.length), j < i → a[j] = b[j]) (fun i => a.length - i) 0 ⟨Nat.zero_le _, fun j _ _ h => absurd h (Nat.not_lt_zero _)⟩ impA ?_
  rintro i ⟨hi, hz⟩
  rcases Nat.lt_or_ge i a.length with hil | hil
  · have hib : i < b.length := by omega
    repeat' first | with_reducible refine AW_seq ?_ | with_reducible refine AW_block ?_ | ((first | with_reducible refine AW_skip ?_ | with_reducible refine AW_exit ?_ | with_reducible refine AW_ret ?_ | with_reducible refine AW_region hTt ?_ | refine AW_draw hTt hMix (id := 6) 8 false [0, 0, 3, 7, 0, 0, 48, 112, 255] (by kernel_rfl) rfl rfl (by kernel_rfl) ?_ | fail); conv => whnf) | (exact absurd hb (by omega)) | (refine AW_cond rfl (fun hb => ?_) (fun hb => ?_) <;> first | (replace hb := of_decide_eq_true hb; try simp only [List.length_map] at hb) | (replace hb := of_decide_eq_false hb; try simp only [List.length_map] at hb) | (simp only [List.length_map, bne_iff_ne, ne_eq, beq_iff_eq, bne_eq_false_iff_eq, beq_eq_false_iff_ne, decide_eq_true_eq, decide_eq_false_iff_not, Bool.not_eq_true', Bool.not_eq_false', Int.natCast_inj] at hb)) | ((first | refine ⟨_, wrap_of (by first | omega | (simp only [List.length_map]; omega)), ?_⟩ | refine andA ?_ | with_reducible refine Exists.intro _ (And.intro (gd_any (And.intro (by omega) (map_get (by omega)))) ?_) | fail); conv => whnf) | (refine fun hln => ?_; (try rw [List.length_map] at hln); unfold maxLen at hln; conv => whnf) | fail
    · rw [eq_f' hil hib (of_decide_eq_false (eqL3.symm.trans hb))]; rfl
    · have he : a[i] = b[i] := (of_decide_eq_true (eqL3.symm.trans hb))
      exact ⟨i + 1, ⟨by omega, fun j h1 h2 h3 => by
        by_cases e : j = i
        · subst e; exact he
        · exact hz j h1 h2 (by omega)⟩, by omega, impA⟩
  · obtain rfl : i = a.length := by omega
    repeat' first | with_reducible refine AW_seq ?_ | with_reducible refine AW_block ?_ | ((first | with_reducible refine AW_skip ?_ | with_reducible refine AW_exit ?_ | with_reducible refine AW_ret ?_ | with_reducible refine AW_region hTt ?_ | refine AW_draw hTt hMix (id := 6) 8 false [0, 0, 3, 7, 0, 0, 48, 112, 255] (by kernel_rfl) rfl rfl (by kernel_rfl) ?_ | fail); conv => whnf) | (exact absurd hb (by omega)) | (refine AW_cond rfl (fun hb => ?_) (fun hb => ?_) <;> first | (replace hb := of_decide_eq_true hb; try simp only [List.length_map] at hb) | (replace hb := of_decide_eq_false hb; try simp only [List.length_map] at hb)) | (refine fun hln => ?_; (try rw [List.length_map] at hln); unfold maxLen at hln; conv => whnf) | fail
    rw [eq_t hl hz]; rfl
theorem pays_fn (a b : List PayT) : FnC Tryd.prog 29 [paysAV a, paysAV b] (bv (decide (a = b))) := by
  have hla : (a.map payPV).length = a.length := List.length_map _
  have hlb : (b.map payPV).length = b.length := List.length_map _
  refine FnC_of_AW hTt Tryd.func29 rfl (by kernel_rfl) (res := [.tmp 4]) rfl Tryd.ntmps29 (by simp) fun w0 K0 => ?_
  dsimp only [entry]
  repeat' first | with_reducible refine AW_seq ?_ | with_reducible refine AW_block ?_ | ((first | with_reducible refine AW_skip ?_ | with_reducible refine AW_ret ?_ | with_reducible refine AW_region hTt ?_ | fail); conv => whnf) | (refine AW_cond rfl (fun hb => ?_) (fun hb => ?_) <;> first | (replace hb := of_decide_eq_true hb; try simp only [List.length_map] at hb) | (replace hb := of_decide_eq_false hb; try simp only [List.length_map] at hb) | (simp only [List.length_map, bne_iff_ne, ne_eq, beq_iff_eq, bne_eq_false_iff_eq, beq_eq_false_iff_ne, decide_eq_true_eq, decide_eq_false_iff_not, Bool.not_eq_true', Bool.not_eq_false', Int.natCast_inj] at hb)) | (refine fun hln => ?_; (try rw [List.length_map] at hln); unfold maxLen at hln; conv => whnf) | fail
  · rw [eq_f (by omega)]; rfl
  have hl : a.length = b.length := by omega
  clear hb
  refine AW_loop (fun i : Nat => [(5, iv .i64 i), (0, paysAV a), (1, paysAV b)]) (fun _ => [])
    (fun i => i ≤ a.length ∧ ∀ j (h1 : j < a.length) (h2 : j < b.length), j < i → a[j] = b[j]) (fun i => a.length - i) 0 ⟨Nat.zero_le _, fun j _ _ h => absurd h (Nat.not_lt_zero _)⟩ impA ?_
  rintro i ⟨hi, hz⟩
  rcases Nat.lt_or_ge i a.length with hil | hil
  · have hib : i < b.length := by omega
    repeat' first | with_reducible refine AW_seq ?_ | with_reducible refine AW_block ?_ | ((first | with_reducible refine AW_skip ?_ | with_reducible refine AW_exit ?_ | with_reducible refine AW_ret ?_ | with_reducible refine AW_region hTt ?_ | refine AW_draw hTt hMix (id := 6) 8 false [0, 0, 3, 7, 0, 0, 48, 112, 255] (by kernel_rfl) rfl rfl (by kernel_rfl) ?_ | fail); conv => whnf) | (exact absurd hb (by omega)) | (refine AW_cond rfl (fun hb => ?_) (fun hb => ?_) <;> first | (replace hb := of_decide_eq_true hb; try simp only [List.length_map] at hb) | (replace hb := of_decide_eq_false hb; try simp only [List.length_map] at hb) | (simp only [List.length_map, bne_iff_ne, ne_eq, beq_iff_eq, bne_eq_false_iff_eq, beq_eq_false_iff_ne, decide_eq_true_eq, decide_eq_false_iff_not, Bool.not_eq_true', Bool.not_eq_false', Int.natCast_inj] at hb)) | ((first | refine ⟨_, wrap_of (by first | omega | (simp only [List.length_map]; omega)), ?_⟩ | refine andA ?_ | with_reducible refine Exists.intro _ (And.intro (gd_any (And.intro (by omega) (map_get (by omega)))) ?_) | fail); conv => whnf) | (refine fun hln => ?_; (try rw [List.length_map] at hln); unfold maxLen at hln; conv => whnf) | fail
    · rw [eq_f' hil hib (of_decide_eq_false (eqL4.symm.trans hb))]; rfl
    · have he : a[i] = b[i] := (of_decide_eq_true (eqL4.symm.trans hb))
      exact ⟨i + 1, ⟨by omega, fun j h1 h2 h3 => by
        by_cases e : j = i
        · subst e; exact he
        · exact hz j h1 h2 (by omega)⟩, by omega, impA⟩
  · obtain rfl : i = a.length := by omega
    repeat' first | with_reducible refine AW_seq ?_ | with_reducible refine AW_block ?_ | ((first | with_reducible refine AW_skip ?_ | with_reducible refine AW_exit ?_ | with_reducible refine AW_ret ?_ | with_reducible refine AW_region hTt ?_ | refine AW_draw hTt hMix (id := 6) 8 false [0, 0, 3, 7, 0, 0, 48, 112, 255] (by kernel_rfl) rfl rfl (by kernel_rfl) ?_ | fail); conv => whnf) | (exact absurd hb (by omega)) | (refine AW_cond rfl (fun hb => ?_) (fun hb => ?_) <;> first | (replace hb := of_decide_eq_true hb; try simp only [List.length_map] at hb) | (replace hb := of_decide_eq_false hb; try simp only [List.length_map] at hb)) | (refine fun hln => ?_; (try rw [List.length_map] at hln); unfold maxLen at hln; conv => whnf) | fail
    rw [eq_t hl hz]; rfl
theorem table_fn : FnC Tryd.prog 49 [] (sl [0, 1, 4, 9, 17, 25, 36]) := by
  refine FnC_of_AW hTt Tryd.func49 rfl (by kernel_rfl) (res := [.tmp 0]) rfl Tryd.ntmps49 (by simp) fun w0 K0 => ?_
  dsimp only [entry]
  repeat' first | with_reducible refine AW_seq ?_ | ((first | with_reducible refine AW_ret ?_ | with_reducible refine AW_region hTt ?_ | fail); conv => whnf) | fail
  rfl
theorem rule_fn : FnC Tryd.prog 50 [] (ruleAV ⟨2400, 500, 500, 250, 50⟩) := by
  refine FnC_of_AW hTt Tryd.func50 rfl (by kernel_rfl) (res := [.cell 0 51]) rfl Tryd.ntmps50 (by simp) fun w0 K0 => ?_
  dsimp only [entry]
  repeat' first | with_reducible refine AW_seq ?_ | ((first | with_reducible refine AW_ret ?_ | with_reducible refine AW_region hTt ?_ | fail); conv => whnf) | fail
  rfl
theorem system_fn : FnC Tryd.prog 47 [] (sysAV ⟨[[2, 1], [1, -1]], [5, 2]⟩) := by
  refine FnC_of_AW hTt Tryd.func47 rfl (by kernel_rfl) (res := [.cell 0 25]) rfl Tryd.ntmps47 (by simp) fun w0 K0 => ?_
  dsimp only [entry]
  repeat' first | with_reducible refine AW_seq ?_ | ((first | with_reducible refine AW_ret ?_ | with_reducible refine AW_region hTt ?_ | fail); conv => whnf) | fail
  rfl
end Go.Proofs.YtnpleednkmhhhaaDoor
namespace Go.Proofs.YtnpleednkmhhhaaDoor
open Go Go.QL
set_option maxHeartbeats 1600000
attribute [local irreducible] ACall FnC YC
theorem orders_fn (table : List Int) (hlen : table.length ≤ 30) : ACall Tryd.prog 98 [sl table] []
    (fun r σ' => r = .x (.f (.func 109) [] [.b 3 0]) ∧ σ' = [(3, .box [.o 6 0 table.length]), (6, .chain 3 1 0 (table.map iPV))]) := by
  have e1 : some (Ob.box [SV.o 6 0 (((table.map iPV).length : Int)).toNat]) = some (Ob.box [.o 6 0 table.length]) := by rw [Int.toNat_natCast, List.length_map]
  have e2 : some (Ob.chain 3 1 0 ((table.map iPV).take (((table.map iPV).length : Int)).toNat ++ (List.replicate (((table.map iPV).length : Int)).toNat [PV.v (.int .i64 0)]).drop (min (table.map iPV).length (((table.map iPV).length : Int)).toNat))) = some (.chain 3 1 0 (table.map iPV)) := by
    rw [Int.toNat_natCast, List.take_length, Nat.min_self, List.drop_eq_nil_of_le (by rw [List.length_replicate]; exact Nat.le_refl _), List.append_nil]
  refine ACall_of_AWD hTt Tryd.func98 rfl (by kernel_rfl) (res := [.tmp 2]) rfl Tryd.ntmps98 (by simp) fun w0 K0 B => ?_
  dsimp only [entry]
  repeat' first | with_reducible refine AW_seq ?_ | ((first | with_reducible refine AW_ret ?_ | with_reducible refine AW_region hTt ?_ | refine And.intro (by rw [List.length_replicate]; exact Nat.le_refl _) ?_ | refine andA ?_ | with_reducible refine And.intro (And.intro (by omega) (And.intro (by first | omega | (simp only [List.length_map]; omega)) (by first | omega | (simp only [List.length_map, List.length_set]; omega)))) ?_ | fail); conv => whnf) | (refine fun hln => ?_; (try rw [List.length_map] at hln); unfold maxLen at hln; conv => whnf) | fail
  exact ⟨_, [(3, .box [.o 6 0 table.length]), (6, .chain 3 1 0 (table.map iPV))], ⟨e1, e2, trivial⟩, rfl, rfl, rfl, rfl⟩
theorem sgO_set (asg bdy : Code) (r : Int) (res : PV) (xs : List (List PV)) (n : Nat) : setOb 930 (.x (.loop .busy none #[8] asg bdy 15 frO 931)) (sgO asg bdy true r res xs n) = (930, .x (.loop .busy none #[8] asg bdy 15 frO 931)) :: (sgO asg bdy true r res xs n).tail := rfl
theorem differences_fn (table : List Int) (order : Int) (ht : ∀ x ∈ table, -1000000000 ≤ x ∧ x ≤ 1000000000) (hlen : table.length ≤ 30) (ho : 0 ≤ order ∧ order ≤ 5) :
    FnC Tryd.prog 69 [sl table, iv .i64 order] (.x (.d (intsPV (diffR order.toNat table)))) := by
  obtain ⟨k, rfl⟩ : ∃ k : Nat, order = k := ⟨order.toNat, by omega⟩
  rw [Int.toNat_natCast]
  have c1 := DC.ACall.anew (orders_fn table hlen) (asc [(3, 960), (6, 961)]) (args' := [sl table]) (rv' := .x (.f (.func 109) [] [.b 960 0])) (nob' := [(960, .box [.o 961 0 table.length]), (961, .chain 3 1 0 (table.map iPV))]) rfl rfl rfl rfl
    [(4, .box [.d (.v (.slice none 0 0))]), (3, .box [.d (.v (.int .i64 k))])] (by
      intro p hp
      rcases List.mem_cons.1 hp with rfl | hp
      · rfl
      · rw [List.mem_singleton.1 hp]; rfl)
  refine FnC.of_ACall ?_ rfl
  refine ACall_of_AWM hTt [931] Tryd.func69 rfl (by kernel_rfl) (res := [.cell 4 23]) rfl Tryd.ntmps69 (by simp) fun w0 K0 B => ?_
  dsimp only [entry]
  repeat' first | with_reducible refine AW_seq ?_ | with_reducible refine AW_block ?_ | ((first | with_reducible refine AW_region hTt ?_ | ((refine ⟨_, c1, ?_⟩); (rintro _ _ ⟨rfl, rfl⟩)) | fail); conv => whnf) | fail
  refine AW_imp (Imp.forget (fr' := frO) (σ' := [(4, .box [.d (.v (.slice none 0 0))]), (3, .box [.d (.v (.int .i64 k))]), (960, .box [.o 961 0 table.length]), (961, .chain 3 1 0 (table.map iPV))])
    ⟨rfl, rfl, rfl, trivial⟩ ⟨rfl, rfl, rfl, rfl, trivial⟩ rfl) ?_
  refine AW_rangeFunc 930 931 rfl rfl rfl (by decide) (by simp) rfl _ (orders1_fn ht hlen k (by omega) (.v (.slice none 0 0)) ?hy1 ?hy2) ?hk
  case hk =>
    rintro rv σ' ⟨rfl, ys, rfl⟩
    refine ⟨rfl, .done, some .ret, rfl, by decide, ?_⟩
    dsimp only
    repeat' first | ((with_reducible refine AW_ret ?_); conv => whnf) | fail
    exact ⟨[(4, .x (.b 4 0))], [(4, .box [.d (intsPV (diffR k table))])], ⟨rfl, trivial⟩, ⟨rfl, trivial⟩, rfl, .x (.d (intsPV (diffR k table))), [], trivial, rfl, rfl, rfl, rfl⟩
  case hy1 =>
    intro r xs n hr hr5 hn hm
    refine YC_of_AW (pend := none) rfl rfl (by decide) rfl ?_
    intro w0 K0 B b
    dsimp only [bindP]
    repeat' first | ((with_reducible refine AW_region hTt ?_); conv => whnf) | fail
    refine ⟨_, rfl, ?_⟩
    repeat' first | with_reducible refine AW_seq ?_ | with_reducible refine AW_block ?_ | ((first | with_reducible refine AW_skip ?_ | with_reducible refine AW_region hTt ?_ | fail); conv => whnf) | (exact absurd hb (by omega)) | (refine AW_cond rfl (fun hb => ?_) (fun hb => ?_) <;> first | (replace hb := of_decide_eq_true hb; try simp only [List.length_map] at hb) | (replace hb := of_decide_eq_false hb; try simp only [List.length_map] at hb) | (simp only [List.length_map, bne_iff_ne, ne_eq, beq_iff_eq, bne_eq_false_iff_eq, beq_eq_false_iff_ne, decide_eq_true_eq, decide_eq_false_iff_not, Bool.not_eq_true', Bool.not_eq_false', Int.natCast_inj] at hb) | skip) | ((refine ⟨_, wrap_of (by first | omega | (simp only [List.length_map]; omega)), ?_⟩); conv => whnf) | fail
    refine ⟨setOb 930 (.x (.loop .busy none #[8] ?a ?b 15 frO 931)) (sgO ?a ?b true (r - 1) (.v (.slice none 0 0)) xs n), none, ?h1, ?h2, ?h3, ?h4⟩
    case h3 => exact rfl
    case h1 => exact ⟨rfl, rfl, rfl, rfl, rfl, rfl, trivial⟩
    case h2 => rfl
    case h4 => exact ⟨rfl, rfl⟩
  case hy2 =>
    intro xs n hn hm
    have hc := clone_fn xs n hn hm
    refine YC_of_AW (pend := none) rfl rfl (by decide) rfl ?_
    intro w0 K0 B b
    dsimp only [bindP]
    repeat' first | ((with_reducible refine AW_region hTt ?_); conv => whnf) | fail
    refine ⟨_, rfl, ?_⟩
    repeat' first | with_reducible refine AW_seq ?_ | with_reducible refine AW_block ?_ | ((first | with_reducible refine AW_ret ?_ | with_reducible refine AW_region hTt ?_ | ((refine ⟨_, (hc).frame (asc []) (by repeat (first | exact trivial | refine ⟨rfl, ?_⟩)) rfl (by rintro _ _ ⟨rfl, rfl⟩; rfl), ?_⟩); (rintro _ _ ⟨_, _, ⟨rfl, rfl⟩, rfl, rfl⟩)) | fail); conv => whnf) | (refine AW_cond rfl (fun _ => ?_) (fun hb => absurd (show true = false from hb) (by decide))) | fail
    refine ⟨setOb 930 (.x (.loop .busy none #[8] ?a ?b 15 frO 931)) (sgO ?a ?b true 0 (.s 1 (xs.take n)) xs n), none, ?h1, ?h2, ?h3, ?h4⟩
    case h3 => exact rfl
    case h1 => exact ⟨rfl, rfl, rfl, rfl, rfl, rfl, trivial⟩
    case h2 => rfl
    case h4 => exact ⟨rfl, rfl⟩
end Go.Proofs.YtnpleednkmhhhaaDoor
namespace Go.Proofs.YtnpleednkmhhhaaDoor
open Go Go.QL
set_option maxHeartbeats 1600000
attribute [local irreducible] ACall FnC YC
def diffsP (table : List Int) (order : Int) : List Int × Int :=
  if inspectE table ≠ 0 then ([], inspectE table) else if outL 0 5 [order] = true then ([], 7) else (diffR order.toNat table, 0)
theorem inspect_ok {t : List Int} (h : inspectE t = 0) : t.length ≤ 30 ∧ ∀ x ∈ t, -1000000000 ≤ x ∧ x ≤ 1000000000 := by
  unfold inspectE at h
  by_cases h1 : 30 < t.length
  · rw [if_pos h1] at h; cases h
  · rw [if_neg h1] at h
    by_cases h2 : outL (-1000000000) 1000000000 t = true
    · rw [if_pos h2] at h; cases h
    · exact ⟨by omega, outL_false.1 (by simpa using h2)⟩
theorem diffs_fn (table : List Int) (order : Int) : FnC Tryd.prog 22 [sl table, iv .i64 order] (.t [sl (diffsP table order).1, iv .i64 (diffsP table order).2]) := by
  have o1 := inspect_fn table
  have o2 := out_fn 0 5 [order]
  unfold diffsP
  by_cases he : inspectE table ≠ 0
  · rw [if_pos he]
    generalize inspectE table = e at *
    refine FnC_of_AWL hTt Tryd.func22 rfl (by kernel_rfl) (res := [.tmp 4, .tmp 5]) rfl Tryd.ntmps22 (by simp) fun w0 K0 => ?_
    dsimp only [entry]
    repeat' first | with_reducible refine AW_seq ?_ | ((first | with_reducible refine AW_skip ?_ | with_reducible refine AW_ret ?_ | with_reducible refine AW_region hTt ?_ | ((refine ⟨_, (o1).call rfl rfl, ?_⟩); (rintro _ _ ⟨rfl, rfl⟩)) | fail); conv => whnf) | (exfalso; exact he hb) | (refine AW_cond rfl (fun hb => ?_) (fun hb => ?_) <;> first | (replace hb := of_decide_eq_true hb; try simp only [List.length_map] at hb) | (replace hb := of_decide_eq_false hb; try simp only [List.length_map] at hb) | (simp only [List.length_map, bne_iff_ne, ne_eq, beq_iff_eq, bne_eq_false_iff_eq, beq_eq_false_iff_ne, decide_eq_true_eq, decide_eq_false_iff_not, Bool.not_eq_true', Bool.not_eq_false', Int.natCast_inj] at hb) | skip) | fail
    exact ⟨_, rfl, leN⟩
  · rw [if_neg he]
    have he : inspectE table = 0 := by simpa using he
    obtain ⟨h1, h2⟩ := inspect_ok he
    rw [he] at o1
    clear he
    by_cases ho : outL 0 5 [order] = true
    · rw [if_pos ho]
      rw [ho] at o2
      refine FnC_of_AWL hTt Tryd.func22 rfl (by kernel_rfl) (res := [.tmp 4, .tmp 5]) rfl Tryd.ntmps22 (by simp) fun w0 K0 => ?_
      dsimp only [entry]
      repeat' first | with_reducible refine AW_seq ?_ | ((first | with_reducible refine AW_skip ?_ | with_reducible refine AW_ret ?_ | with_reducible refine AW_region hTt ?_ | ((refine ⟨_, (o1).call rfl rfl, ?_⟩); (rintro _ _ ⟨rfl, rfl⟩)) | ((refine ⟨_, (o2).call rfl rfl, ?_⟩); (rintro _ _ ⟨rfl, rfl⟩)) | fail); conv => whnf) | (refine AW_cond rfl (fun _ => ?_) (fun hb => absurd (show true = false from hb) (by decide))) | (refine AW_cond rfl (fun hb => absurd (show false = true from hb) (by decide)) (fun _ => ?_)) | fail
      exact ⟨_, rfl, leN⟩
    · rw [if_neg ho]
      have ho : outL 0 5 [order] = false := by simpa using ho
      rw [ho] at o2
      have hd := differences_fn table order h2 h1 (outL_false.1 ho order (List.mem_singleton.2 rfl))
      refine FnC_of_AWL hTt Tryd.func22 rfl (by kernel_rfl) (res := [.tmp 4, .tmp 5]) rfl Tryd.ntmps22 (by simp) fun w0 K0 => ?_
      dsimp only [entry]
      repeat' first | with_reducible refine AW_seq ?_ | ((first | with_reducible refine AW_skip ?_ | with_reducible refine AW_ret ?_ | with_reducible refine AW_region hTt ?_ | ((refine ⟨_, (o1).call rfl rfl, ?_⟩); (rintro _ _ ⟨rfl, rfl⟩)) | ((refine ⟨_, (o2).call rfl rfl, ?_⟩); (rintro _ _ ⟨rfl, rfl⟩)) | ((refine ⟨_, (hd).call rfl rfl, ?_⟩); (rintro _ _ ⟨rfl, rfl⟩)) | fail); conv => whnf) | (refine AW_cond rfl (fun hb => absurd (show false = true from hb) (by decide)) (fun _ => ?_)) | fail
      exact ⟨_, rfl, LeAV.refl _⟩
def unit (n i : Nat) : List Int := (List.replicate n 0).set i 1
theorem unit_len (n i : Nat) : (unit n i).length = n := by simp [unit]
theorem unit_getD {n i j : Nat} (h : j < n) : (unit n i).getD j 0 = if i = j then 1 else 0 := by
  unfold unit
  rw [List.getD_eq_getElem?_getD, List.getElem?_set]
  by_cases e : i = j
  · subst e; simp [h]
  · simp [e, h]
theorem dif_getD {l : List Int} {i : Nat} (h : i + 1 < l.length) : (dif l).getD i 0 = l.getD (i + 1) 0 - l.getD i 0 := by
  rw [List.getD_eq_getElem?_getD, dif_get h]; rfl
theorem front {l : List Int} {i : Nat} (hi : i < l.length) (h1 : l.getD i 0 = 1) (h0 : ∀ j, j < i → l.getD j 0 = 0) : ∀ k, k ≤ i → (diffR k l).getD (i - k) 0 = 1 ∧ ∀ j, j < i - k → (diffR k l).getD j 0 = 0
  | 0, _ => ⟨h1, h0⟩
  | k + 1, hk => by
    obtain ⟨a, b⟩ := front hi h1 h0 k (by omega)
    have hl := diffR_len l k
    refine ⟨?_, fun j hj => ?_⟩
    · show (dif (diffR k l)).getD (i - (k + 1)) 0 = 1
      rw [dif_getD (by omega), show i - (k + 1) + 1 = i - k by omega, a, b _ (by omega)]; rfl
    · show (dif (diffR k l)).getD j 0 = 0
      rw [dif_getD (by omega), b _ (by omega), b _ (by omega)]; rfl
theorem back {l : List Int} {i : Nat} (h1 : l.getD i 0 ≠ 0) (h0 : ∀ j, i < j → l.getD j 0 = 0) : ∀ k, i + k < l.length → (diffR k l).getD i 0 ≠ 0 ∧ ∀ j, i < j → (diffR k l).getD j 0 = 0
  | 0, _ => ⟨h1, h0⟩
  | k + 1, hk => by
    obtain ⟨a, b⟩ := back h1 h0 k (by omega)
    have hl := diffR_len l k
    refine ⟨?_, fun j hj => ?_⟩
    · show (dif (diffR k l)).getD i 0 ≠ 0
      rw [dif_getD (by omega), b _ (by omega)]; omega
    · show (dif (diffR k l)).getD j 0 = 0
      by_cases hjl : j + 1 < (diffR k l).length
      · rw [dif_getD hjl, b _ (by omega), b _ (by omega)]; rfl
      · rw [List.getD_eq_getElem?_getD, List.getElem?_eq_none (by rw [dif_len]; omega)]; rfl
theorem any_getD {l : List Int} {i : Nat} (h : l.getD i 0 ≠ 0) : (l.any fun n => n != 0) = true := by
  rw [List.any_eq_true]
  have hi : i < l.length := by
    rcases Nat.lt_or_ge i l.length with h' | h'
    · exact h'
    · exact absurd (by rw [List.getD_eq_getElem?_getD, List.getElem?_eq_none h']; rfl) h
  exact ⟨_, getD_mem hi, by simpa using h⟩
theorem unit_small : ∀ d, d < 5 → ∀ i, i < 5 → ∀ n, n < 12 → i < n → d + 3 ≤ n → ((diffR (d + 1) (unit n i)).any fun x => x != 0) = true := by decide
theorem unit_nz {n d i : Nat} (hd : d ≤ 4) (hi : i < n) (hn : d + 3 ≤ n) : ((diffR (d + 1) (unit n i)).any fun x => x != 0) = true := by
  by_cases h1 : d + 1 ≤ i
  · exact any_getD (i := i - (d + 1)) (by
      rw [(front (l := unit n i) (by rw [unit_len]; exact hi) (by rw [unit_getD hi, if_pos rfl]) (fun j hj => by rw [unit_getD (by omega), if_neg (by omega)]) (d + 1) h1).1]; decide)
  · by_cases h2 : i + (d + 1) < n
    · exact any_getD (i := i) (back (l := unit n i) (by rw [unit_getD hi, if_pos rfl]; decide) (fun j hj => by
        by_cases hjn : j < n
        · rw [unit_getD hjn, if_neg (by omega)]
        · rw [List.getD_eq_getElem?_getD, List.getElem?_eq_none (by rw [unit_len]; omega)]; rfl) (d + 1) (by rw [unit_len]; exact h2)).1
    · exact unit_small d (by omega) i (by omega) n (by omega) hi hn
end Go.Proofs.YtnpleednkmhhhaaDoor
