/- The logic of walks, and what the functions of the program return: part 2. No condition. -/
import Derived.Test.YtnpleednkmhhhaaDoorB01
import Derived.Test.YtnpleednkmhhhaaDoorProg
import Derived.KernelRfl
set_option linter.all false
namespace Go.QL
open Go Go.RowKit
section
variable {α : Type}
theorem lk_app {L l0 : List (Nat × α)} {t : Nat} {v : α} : lk t (L ++ l0) = some v → (t, v) ∈ L ∨ ((∀ p ∈ L, p.1 ≠ t) ∧ lk t l0 = some v) := by
  induction L with
  | nil => intro h; exact .inr ⟨fun p hp => by simp at hp, h⟩
  | cons q r ih =>
    obtain ⟨i, x⟩ := q
    intro h
    rw [List.cons_append, lk_cons] at h
    by_cases e : i = t
    · subst e; rw [if_pos rfl] at h; cases h; exact .inl List.mem_cons_self
    · rw [if_neg e] at h
      rcases ih h with h | ⟨h1, h2⟩
      · exact .inl (List.mem_cons_of_mem _ h)
      · refine .inr ⟨fun p hp => ?_, h2⟩
        rcases List.mem_cons.1 hp with rfl | hp
        · exact e
        · exact h1 p hp
theorem lk_app_mem {L l0 : List (Nat × α)} {t : Nat} {v : α} (hf : ∀ p ∈ L, ∀ q ∈ L, p.1 = q.1 → p = q) (h : (t, v) ∈ L) : lk t (L ++ l0) = some v := by
  induction L with
  | nil => simp at h
  | cons q r ih =>
    obtain ⟨i, x⟩ := q
    rw [List.cons_append, lk_cons]
    by_cases e : i = t
    · rw [if_pos e]
      have := hf (i, x) List.mem_cons_self (t, v) h e
      cases this; rfl
    · rw [if_neg e]
      rcases List.mem_cons.1 h with h | h
      · cases h; exact absurd rfl e
      · exact ih (fun p hp q hq => hf p (List.mem_cons_of_mem _ hp) q (List.mem_cons_of_mem _ hq)) h
theorem lk_app_none {L l0 : List (Nat × α)} {t : Nat} (h : ∀ p ∈ L, p.1 ≠ t) : lk t (L ++ l0) = lk t l0 := by
  induction L with
  | nil => rfl
  | cons q r ih =>
    obtain ⟨i, x⟩ := q
    rw [List.cons_append, lk_cons, if_neg (h (i, x) List.mem_cons_self)]
    exact ih fun p hp => h p (List.mem_cons_of_mem _ hp)
theorem sup_app {Ls L D l0 : List (Nat × α)} (hf : ∀ p ∈ Ls, ∀ q ∈ Ls, p.1 = q.1 → p = q) (h0 : ∀ p ∈ Ls, lk p.1 l0 = none) (hDL : ∀ p ∈ D, p ∈ L) (hL : ∀ p ∈ L, p ∈ Ls) : Sup (D ++ l0) (L ++ l0) := by
  intro t v h
  rcases lk_app h with h | ⟨_, h⟩
  · exact lk_app_mem (fun p hp q hq => hf p (hL p hp) q (hL q hq)) (hDL _ h)
  · rw [lk_app_none (fun p hp e => by
      have := h0 p (hL p hp)
      rw [e, h] at this; cases this)]
    exact h
end
theorem mem_frs {E : List En} {p : Nat × AV} : p ∈ frs E ↔ ∃ e ∈ E, e.d = some p.1 ∧ e.x = p.2 := by
  induction E with
  | nil => simp [frs]
  | cons e r ih =>
    unfold frs
    cases hd : e.d with
    | none =>
      simp only [ih, List.mem_cons]
      constructor
      · rintro ⟨e', h, h'⟩; exact ⟨e', .inr h, h'⟩
      · rintro ⟨e', rfl | h, h'⟩
        · rw [hd] at h'; cases h'.1
        · exact ⟨e', h, h'⟩
    | some d =>
      simp only [List.mem_cons, ih]
      constructor
      · rintro (rfl | ⟨e', h, h'⟩)
        · exact ⟨e, .inl rfl, hd, rfl⟩
        · exact ⟨e', .inr h, h'⟩
      · rintro ⟨e', rfl | h, h1, h2⟩
        · left; rw [hd] at h1; cases h1; obtain ⟨a, b⟩ := p; cases h2; rfl
        · exact .inr ⟨e', h, h1, h2⟩
theorem mem_obs {E : List En} {p : Nat × Ob} : p ∈ obs E ↔ ∃ e ∈ E, e.ob = some p := by
  induction E with
  | nil => simp [obs]
  | cons e r ih =>
    unfold obs
    cases hd : e.ob with
    | none =>
      simp only [ih, List.mem_cons]
      constructor
      · rintro ⟨e', h, h'⟩; exact ⟨e', .inr h, h'⟩
      · rintro ⟨e', rfl | h, h'⟩
        · rw [hd] at h'; cases h'
        · exact ⟨e', h, h'⟩
    | some d =>
      simp only [List.mem_cons, ih]
      constructor
      · rintro (rfl | ⟨e', h, h'⟩)
        · exact ⟨e, .inl rfl, hd⟩
        · exact ⟨e', .inr h, h'⟩
      · rintro ⟨e', rfl | h, h1⟩
        · left; rw [hd] at h1; cases h1; rfl
        · exact .inr ⟨e', h, h1⟩
theorem mem_pickE {m : Nat} {e : En} : ∀ {E : List En}, e ∈ pickE m E → e ∈ E ∧ m.testBit e.i = true
  | [], h => by simp [pickE] at h
  | x :: r, h => by
    unfold pickE at h
    rw [bitOf_eq] at h
    cases hb : m.testBit x.i with
    | true =>
      rw [hb] at h
      rcases List.mem_cons.1 h with rfl | h
      · exact ⟨List.mem_cons_self, hb⟩
      · exact ⟨List.mem_cons_of_mem _ (mem_pickE h).1, (mem_pickE h).2⟩
    | false =>
      rw [hb] at h
      exact ⟨List.mem_cons_of_mem _ (mem_pickE h).1, (mem_pickE h).2⟩
theorem pickE_mem {m : Nat} {e : En} : ∀ {E : List En}, e ∈ E → m.testBit e.i = true → e ∈ pickE m E
  | [], h, _ => by simp at h
  | x :: r, h, hb => by
    unfold pickE
    rw [bitOf_eq]
    rcases List.mem_cons.1 h with rfl | h
    · rw [hb]; exact List.mem_cons_self
    · cases m.testBit x.i with
      | true => exact List.mem_cons_of_mem _ (pickE_mem h hb)
      | false => exact pickE_mem h hb
theorem lk_app_same {α : Type} {L D l0 : List (Nat × α)} (hf : ∀ p ∈ L, ∀ q ∈ L, p.1 = q.1 → p = q) (h : ∀ p, p ∈ D ↔ p ∈ L) : Sup (D ++ l0) (L ++ l0) := by
  intro t v hl
  rcases lk_app hl with hl | ⟨h1, hl⟩
  · exact lk_app_mem hf ((h _).1 hl)
  · rw [lk_app_none (fun p hp => h1 p ((h p).2 hp))]; exact hl
theorem addFr_eq (e : En) (E : List En) (fr0 : Fr) : addFr e.d e.x (frs E ++ fr0) = frs (e :: E) ++ fr0 := by
  unfold addFr; simp only [frs]; cases e.d <;> rfl
theorem addOb_eq (e : En) (E : List En) (σ0 : Sg) : addOb e.ob (obs E ++ σ0) = obs (e :: E) ++ σ0 := by
  unfold addOb; simp only [obs]; cases e.ob <;> rfl
def okDsts : List Oper → List Nat → Bool
  | [], _ => true
  | o :: r, ds => match o.dst with
    | none => okDsts r ds
    | some d => (ds.all fun e => !Nat.beq d e) && okDsts r (d :: ds)
theorem okDsts_ok : ∀ {l : List Oper} {ds : List Nat}, okDsts l ds = true → (∀ (i : Nat) (o : Oper) (d : Nat), l[i]? = some o → o.dst = some d → d ∉ ds) ∧
    (∀ (i j : Nat) (o o' : Oper) (d : Nat), l[i]? = some o → l[j]? = some o' → o.dst = some d → o'.dst = some d → i = j)
  | [], ds, _ => ⟨fun i o d h => by simp at h, fun i j o o' d h => by simp at h⟩
  | x :: r, ds, h => by
    unfold okDsts at h
    cases hd : x.dst with
    | none =>
      rw [hd] at h
      obtain ⟨h1, h2⟩ := okDsts_ok (l := r) h
      refine ⟨fun i o d hi ho => ?_, fun i j o o' d hi hj ho ho' => ?_⟩
      · cases i with
        | zero => cases hi; rw [hd] at ho; cases ho
        | succ i => exact h1 i o d hi ho
      · cases i with
        | zero => cases hi; rw [hd] at ho; cases ho
        | succ i =>
          cases j with
          | zero => cases hj; rw [hd] at ho'; cases ho'
          | succ j => rw [h2 i j o o' d hi hj ho ho']
    | some d0 =>
      rw [hd] at h
      simp only [Bool.and_eq_true] at h
      obtain ⟨h3, h5⟩ := h
      obtain ⟨h1, h2⟩ := okDsts_ok (l := r) h5
      have hin : d0 ∉ ds := fun hm => by
        rw [List.all_eq_true] at h3
        have := h3 d0 hm
        simp at this
      refine ⟨fun i o d hi ho => ?_, fun i j o o' d hi hj ho ho' => ?_⟩
      · cases i with
        | zero => cases hi; rw [hd] at ho; cases ho; exact hin
        | succ i => exact fun hm => h1 i o d hi ho (List.mem_cons_of_mem _ hm)
      · cases i with
        | zero =>
          cases hi; rw [hd] at ho; cases ho
          cases j with
          | zero => rfl
          | succ j => exact absurd List.mem_cons_self (h1 j o' d0 hj ho')
        | succ i =>
          cases j with
          | zero => cases hj; rw [hd] at ho'; cases ho'; exact absurd List.mem_cons_self (h1 i o d0 hi ho)
          | succ j => rw [h2 i j o o' d hi hj ho ho']
def okReadsAt (ms : List Nat) (j : Nat) (ts : List Nat) : List Oper → Nat → Bool
  | [], _ => true
  | o :: r, k => (match o.dst with
    | none => true
    | some d => Nat.beq k j || !(ts.any (Nat.beq d)) || Nat.testBit (ms.getD j 0) k || Nat.testBit (ms.getD k 0) j) && okReadsAt ms j ts r (k + 1)
def okReads (all : List Oper) (ms : List Nat) (pre : List Oper) : List Oper → Nat → Bool
  | [], _ => true
  | o :: r, j => okReadsAt ms j (looks all o) pre 0 && okReads all ms pre r (j + 1)
theorem okReadsAt_ok {ms : List Nat} {j : Nat} {ts : List Nat} : ∀ {l : List Oper} {k0 : Nat}, okReadsAt ms j ts l k0 = true → ∀ (k : Nat) (o : Oper) (d : Nat), l[k]? = some o → o.dst = some d → d ∈ ts →
    k0 + k = j ∨ (ms.getD j 0).testBit (k0 + k) = true ∨ (ms.getD (k0 + k) 0).testBit j = true
  | [], k0, _, k, o, d, hk, _, _ => by simp at hk
  | x :: r, k0, h, k, o, d, hk, ho, hd => by
    unfold okReadsAt at h
    simp only [Bool.and_eq_true] at h
    cases k with
    | zero =>
      cases hk
      rw [ho] at h
      simp only [Bool.or_eq_true] at h
      rcases h.1 with ((h1 | h1) | h1) | h1
      · exact .inl (Nat.eq_of_beq_eq_true h1)
      · have : ts.any (Nat.beq d) = true := by rw [List.any_eq_true]; exact ⟨d, hd, by simp⟩
        rw [this] at h1; cases h1
      · exact .inr (.inl h1)
      · exact .inr (.inr h1)
    | succ k =>
      have := okReadsAt_ok h.2 k o d hk ho hd
      rwa [Nat.add_assoc, Nat.add_comm 1 k] at this
theorem okReads_ok {all : List Oper} {ms : List Nat} {pre : List Oper} : ∀ {l : List Oper} {j0 : Nat}, okReads all ms pre l j0 = true → ∀ (j : Nat) (o : Oper), l[j]? = some o → okReadsAt ms (j0 + j) (looks all o) pre 0 = true
  | [], j0, _, j, o, hj => by simp at hj
  | x :: r, j0, h, j, o, hj => by
    unfold okReads at h
    simp only [Bool.and_eq_true] at h
    cases j with
    | zero => cases hj; exact h.1
    | succ j =>
      have := okReads_ok h.2 j o hj
      rwa [Nat.add_assoc, Nat.add_comm 1 j] at this
section
variable {P : Program} {Γ : Cx} {fr fr' : Fr} {σ σ' : Sg} {g : Gh} {a : Act} {w : World}
theorem Rel.same (h : Rel Γ fr σ g a w) (hf : Sup fr' fr) (h1 : Sup σ σ') (h2 : Sup σ' σ) : Rel Γ fr' σ' g a w := by
  have keep : ∀ s v, SR σ g w s v → SR σ' g w s v := fun s v hv => hv.sup h1
  refine ⟨⟨h.hp.kept, h.hp.flt, h.hp.ext, h.hp.old, h.hp.val, fun id ob hid => ?_, fun i b hi hb => h.hp.own i b ?_ hb, fun i j b hi hj => h.hp.inj i j b ?_ ?_⟩, fun t v ht => ⟨(h.fr t v (hf t v ht)).1, (h.fr t v (hf t v ht)).2.keep keep⟩, h.size, h.defers.map (fun i d _ hl hμ => ⟨h1 _ _ hl, hμ⟩), fun s v hb => ⟨keep _ _ (h.base s v hb).1, (h.base s v hb).2⟩⟩
  · have hO := h.hp.obs id ob (h2 _ _ hid)
    exact hO.keep keep (Ext.refl _ _) rfl (fun _ _ => rfl) (fun b hb o => h.hp.notK (h2 _ _ hid) hb o)
  · obtain ⟨x, hx⟩ := Option.isSome_iff_exists.1 hi; rw [h2 _ _ hx]; rfl
  · obtain ⟨x, hx⟩ := Option.isSome_iff_exists.1 hi; rw [h2 _ _ hx]; rfl
  · obtain ⟨x, hx⟩ := Option.isSome_iff_exists.1 hj; rw [h2 _ _ hx]; rfl
structure GoodE (P : Program) (Γ : Cx) (all : List Oper) (ob : Bool) (ms : List Nat) (fr0 : Fr) (σ0 : Sg) (es : List En) : Prop where
  idx : ∀ e ∈ es, ∀ e' ∈ es, e.i = e'.i → e = e'
  ids : ∀ e ∈ es, ∀ e' ∈ es, ∀ p q, e.ob = some p → e'.ob = some q → p.1 = q.1 → e = e'
  id0 : ∀ e ∈ es, ∀ p, e.ob = some p → lk p.1 σ0 = none ∧ ob = true
  obk : ∀ e ∈ es, ∀ p, e.ob = some p → ∃ o, all[e.i]? = some o ∧ noOb o.op = false
  sem : ∀ e ∈ es, ∃ o D, all[e.i]? = some o ∧ e.d = o.dst ∧ (∀ t, o.dst = some t → t < Γ.nt) ∧ (∀ e' ∈ D, e' ∈ es ∧ (ms.getD e.i 0).testBit e'.i = true) ∧ (∀ e' ∈ es, (ms.getD e.i 0).testBit e'.i = true → e'.i < e.i → e' ∈ D) ∧
    SemE P Γ all ob (selF (frs D ++ fr0) (looks all o)) (obs D ++ σ0) e.i o e.x e.ob
theorem putE_ok {nt : Nat} {dst : Option Tmp} {gd : Option Bool} {v : AV} {k : AV → Prop} (h : putE nt dst gd v k) : k (wrapG gd v) ∧ ∀ t, dst = some t → t < nt := by
  unfold putE at h
  cases dst with
  | none => cases gd <;> exact ⟨h, fun t ht => by cases ht⟩
  | some d =>
    simp only at h
    cases hb : Nat.blt d nt with
    | false => rw [hb] at h; exact h.elim
    | true =>
      rw [hb] at h
      cases gd <;> exact ⟨h, fun t ht => by cases ht; exact Nat.le_of_ble_eq_true hb⟩
theorem vcDr_ok {tt : TT} (htt : tt.ok P) (hL : Laid P Γ.K0.K Γ.w0) {all : List Oper} {ob : Bool} {ms : List Nat} {fr0 : Fr} {σ0 : Sg} {k : Fr → Sg → Prop} : ∀ (rest : List Oper) (es : List En) (i : Nat),
    vcDr P tt Γ.nt all ob ms fr0 σ0 k rest es i (frs es ++ fr0) (obs es ++ σ0) → (∀ (j : Nat) (o : Oper), rest[j]? = some o → all[i + j]? = some o) → (∀ e ∈ es, e.i < i) → (∀ j, j < i → ∃ e ∈ es, e.i = j) → GoodE P Γ all ob ms fr0 σ0 es →
    ∃ es', k (frs es' ++ fr0) (obs es' ++ σ0) ∧ GoodE P Γ all ob ms fr0 σ0 es' ∧ (∀ e ∈ es', e.i < i + rest.length) ∧ (∀ j, j < i + rest.length → ∃ e ∈ es', e.i = j)
  | [], es, i, h, _, hlt, hcov, hg => ⟨es, h, hg, hlt, hcov⟩
  | o :: rest, es, i, h, hall, hlt, hcov, hg => by
    unfold vcDr at h
    obtain ⟨id, hidn, h⟩ := idFor_ok h
    obtain ⟨gd, x, nob, hk, hnob, hsem⟩ := opDr_ok (Γ := Γ) htt hL h i
    obtain ⟨hk, hd⟩ := putE_ok hk
    let en : En := ⟨i, o.dst, wrapG gd x, nob⟩
    have e1 := addFr_eq en es fr0
    have e2 := addOb_eq en es σ0
    have hk : vcDr P tt Γ.nt all ob ms fr0 σ0 k rest (en :: es) (i + 1) (frs (en :: es) ++ fr0) (obs (en :: es) ++ σ0) := by
      rw [← e1, ← e2]; exact hk
    have hfresh : ∀ b, nob = some (id, b) → (∀ e ∈ es, ∀ q, e.ob = some q → q.1 ≠ id) ∧ lk id σ0 = none := by
      intro b _
      have hl := hidn
      have hno : ∀ p ∈ obs es, p.1 ≠ id := by
        intro p hp he
        have key : ∀ (L l0 : List (Nat × Ob)) (t : Nat), lk t (L ++ l0) = none → ∀ p ∈ L, p.1 ≠ t := by
          intro L l0 t
          induction L with
          | nil => intro _ p hp; simp at hp
          | cons q r ih =>
            intro h p hp
            obtain ⟨j, y⟩ := q
            rw [List.cons_append, lk_cons] at h
            by_cases ej : j = t
            · rw [if_pos ej] at h; cases h
            · rw [if_neg ej] at h
              rcases List.mem_cons.1 hp with rfl | hp
              · exact ej
              · exact ih h p hp
        exact key _ _ _ hl p hp he
      refine ⟨fun e he q hq => hno q (mem_obs.2 ⟨e, he, hq⟩), ?_⟩
      rw [← lk_app_none hno]; exact hl
    have := vcDr_ok htt hL rest (en :: es) (i + 1) hk (fun j o' hj => by
      have := hall (j + 1) o' hj
      rwa [Nat.add_assoc, Nat.add_comm 1 j]) (fun e he => by
      rcases List.mem_cons.1 he with rfl | he
      · exact Nat.lt_succ_self _
      · exact Nat.lt_succ_of_lt (hlt e he)) (fun j hj => by
      by_cases hji : j = i
      · exact ⟨en, List.mem_cons_self, hji.symm⟩
      · obtain ⟨e, he, h'⟩ := hcov j (by omega); exact ⟨e, List.mem_cons_of_mem _ he, h'⟩) ?_
    · obtain ⟨es', h1, h2, h3, h4⟩ := this
      refine ⟨es', h1, h2, fun e he => ?_, fun j hj => ?_⟩
      · have := h3 e he; simp; omega
      · exact h4 j (by simp at hj; omega)
    · refine ⟨fun e he e' he' hii => ?_, fun e he e' he' p q hp hq hpq => ?_, fun e he p hp => ?_, fun e he p hp => ?_, fun e he => ?_⟩
      · rcases List.mem_cons.1 he with rfl | he <;> rcases List.mem_cons.1 he' with rfl | he'
        · rfl
        · have := hlt e' he'; have : i = e'.i := hii; omega
        · have := hlt e he; have : e.i = i := hii; omega
        · exact hg.idx e he e' he' hii
      · rcases List.mem_cons.1 he with rfl | he <;> rcases List.mem_cons.1 he' with rfl | he'
        · rfl
        · have hp : nob = some p := hp
          rcases hnob with hn | ⟨_, _, b, hb⟩
          · rw [hn] at hp; cases hp
          · rw [hb] at hp; cases hp
            exact absurd hpq.symm ((hfresh b hb).1 e' he' q hq)
        · have hq : nob = some q := hq
          rcases hnob with hn | ⟨_, _, b, hb⟩
          · rw [hn] at hq; cases hq
          · rw [hb] at hq; cases hq
            exact absurd hpq ((hfresh b hb).1 e he p hp)
        · exact hg.ids e he e' he' p q hp hq hpq
      · rcases List.mem_cons.1 he with rfl | he
        · have hp : nob = some p := hp
          rcases hnob with hn | ⟨hon, _, b, hb⟩
          · rw [hn] at hp; cases hp
          · rw [hb] at hp; cases hp
            exact ⟨(hfresh b hb).2, hon⟩
        · exact hg.id0 e he p hp
      · rcases List.mem_cons.1 he with rfl | he
        · have hp : nob = some p := hp
          rcases hnob with hn | ⟨hon, hno, b, hb⟩
          · rw [hn] at hp; cases hp
          · exact ⟨o, by simpa using hall 0 o rfl, hno⟩
        · exact hg.obk e he p hp
      · rcases List.mem_cons.1 he with rfl | he
        · refine ⟨o, pickE (ms.getD i 0) es, by simpa using hall 0 o rfl, rfl, hd, fun e' he' => ⟨List.mem_cons_of_mem _ (mem_pickE he').1, (mem_pickE he').2⟩, fun e' he' hb hlt' => ?_, hsem⟩
          rcases List.mem_cons.1 he' with rfl | he'
          · exact absurd hlt' (Nat.lt_irrefl _)
          · exact pickE_mem he' hb
        · obtain ⟨o', D, a1, a2, a3, a4, a6, a5⟩ := hg.sem e he
          refine ⟨o', D, a1, a2, a3, fun e' he' => ⟨List.mem_cons_of_mem _ (a4 e' he').1, (a4 e' he').2⟩, fun e' he' hb hlt' => ?_, a5⟩
          rcases List.mem_cons.1 he' with rfl | he'
          · have := hlt e he; have hlt' : i < e.i := hlt'; omega
          · exact a6 e' he' hb hlt'
end
end Go.QL
namespace Go.QL
open Go Go.RowKit
section
variable {P : Program} {Γ : Cx} {fr : Fr} {σ : Sg} {Q : Exit → Fr → Sg → Prop}
theorem mem_frs_sub {D E : List En} (h : ∀ e ∈ D, e ∈ E) : ∀ p, p ∈ frs D → p ∈ frs E := fun p hp => by
  obtain ⟨e, he, h'⟩ := mem_frs.1 hp; exact mem_frs.2 ⟨e, h e he, h'⟩
theorem MaskOK.lt {ops : Array Oper} {ms : List Nat} {m : Nat} (h : MaskOK ops ms m) (i : Nat) : ∀ (o : Oper), ops[i]? = some o → ∀ b, (ms.getD i 0).testBit b = true → b < i := by
  induction i using Nat.strongRecOn with
  | _ i ih =>
    intro o ho b hb
    obtain ⟨e, he, hbd, h1⟩ := h.bit i o ho b hb
    have hlt := h.back i o ho e he hbd
    rcases h1 with rfl | h1
    · exact hlt
    · have hi : i < ops.size := (Array.getElem?_eq_some_iff.1 ho).1
      have := ih e.on hlt _ (Array.getElem?_eq_getElem (by omega)) b h1
      omega
theorem Rel.drawn {g : Gh} {a : Act} {w : World} (h : Rel Γ fr σ g a w) (n : Nat) : Rel Γ fr σ g a { w with drawn := n } := by
  have hd := h.hp.grow (w' := { w with drawn := n }) (K' := g.K) ⟨rfl, rfl, rfl, Nat.le_refl _, fun _ _ => rfl⟩ ⟨fun _ _ x => x, fun _ _ _ => rfl⟩ (fun _ _ _ x => x) (fun b o hk => h.hp.val b o hk)
  exact h.did hd
theorem AW_draw {tt : TT} (htt : tt.ok P) (hmix : P.follows .mixedOrders = true) (m : Nat) (ob : Bool) (ms : List Nat) {id : Nat} {ops : List Oper} (hms : okMasks ms m ops 0 = true) (hlen : Nat.ble m ops.length = true)
    (hds : okDsts (ops.take m) [] = true) (hrd : okReads ops ms (ops.take m) (ops.take m) 0 = true)
    (h : vcDr P tt Γ.nt ops ob ms fr σ (fun fr' σ' => vcOps P tt Γ.nt ops (Q .normal) (ops.drop m) fr' σ') (ops.take m) [] 0 fr σ) : AW P Γ (.region id ops.toArray true) Q fr σ := by
  refine AW.mk fun hLd g a w hr => ?_
  have hm := MaskOK.of hms
  have hlen : m ≤ ops.length := Nat.le_of_ble_eq_true hlen
  have htake : (ops.take m).length = m := by simp; omega
  obtain ⟨es, hk, hg, hlt, hcov⟩ := vcDr_ok (Γ := Γ) htt hLd (ops.take m) [] 0 h (fun j o hj => by
      rw [List.getElem?_take] at hj
      by_cases hjm : j < m
      · rw [if_pos hjm] at hj; simpa using hj
      · rw [if_neg hjm] at hj; cases hj) (fun e he => by simp at he) (fun j hj => by omega)
      ⟨fun e he => by simp at he, fun e he => by simp at he, fun e he => by simp at he, fun e he => by simp at he, fun e he => by simp at he⟩
  rw [htake] at hlt hcov
  simp only [Nat.zero_add] at hlt hcov
  obtain ⟨_, hd1⟩ := okDsts_ok hds
  have hrd := fun j o h => okReadsAt_ok (okReads_ok hrd j o h)
  simp only [Nat.zero_add] at hrd
  have hop : ∀ e ∈ es, ∃ o, (ops.take m)[e.i]? = some o ∧ e.d = o.dst := fun e he => by
    obtain ⟨o, D, h1, h2, _⟩ := hg.sem e he
    exact ⟨o, by rw [List.getElem?_take, if_pos (hlt e he)]; exact h1, h2⟩
  have hfF : ∀ p ∈ frs es, ∀ q ∈ frs es, p.1 = q.1 → p = q := by
    intro p hp q hq hpq
    obtain ⟨e, he, h1, h2⟩ := mem_frs.1 hp
    obtain ⟨e', he', h1', h2'⟩ := mem_frs.1 hq
    obtain ⟨o, ho, hd⟩ := hop e he
    obtain ⟨o', ho', hd'⟩ := hop e' he'
    have := hd1 e.i e'.i o o' p.1 ho ho' (by rw [← hd, h1]) (by rw [← hd', h1', hpq])
    have := hg.idx e he e' he' this
    subst this
    obtain ⟨p1, p2⟩ := p; obtain ⟨q1, q2⟩ := q
    simp only at *
    subst hpq; subst h2; subst h2'; rfl
  have hfO : ∀ p ∈ obs es, ∀ q ∈ obs es, p.1 = q.1 → p = q := by
    intro p hp q hq hpq
    obtain ⟨e, he, h1⟩ := mem_obs.1 hp
    obtain ⟨e', he', h1'⟩ := mem_obs.1 hq
    have := hg.ids e he e' he' p q h1 h1' hpq
    subst this; rw [h1] at h1'; cases h1'; rfl
  have hfO0 : ∀ p ∈ obs es, lk p.1 σ = none := by
    intro p hp
    obtain ⟨e, he, h1⟩ := mem_obs.1 hp
    exact (hg.id0 e he p h1).1
  have supO : ∀ D E : List En, (∀ e ∈ D, e ∈ E) → (∀ e ∈ E, e ∈ es) → Sup (obs D ++ σ) (obs E ++ σ) := fun D E h1 h2 =>
    sup_app hfO hfO0 (fun p hp => by obtain ⟨e, he, h'⟩ := mem_obs.1 hp; exact mem_obs.2 ⟨e, h1 e he, h'⟩) (fun p hp => by obtain ⟨e, he, h'⟩ := mem_obs.1 hp; exact mem_obs.2 ⟨e, h2 e he, h'⟩)
  let InvA : (Nat → Prop) → Act → World → Prop := fun L a w => ∃ (E : List En) (g : Gh), (∀ e ∈ E, e ∈ es) ∧ (∀ j, L j ↔ ∃ e ∈ E, e.i = j) ∧ (∀ k, L k → ∀ b, (ms.getD k 0).testBit b = true → L b) ∧ Rel Γ (frs E ++ fr) (obs E ++ σ) g a w
  let InvB : (Nat → Prop) → Act → World → Prop := fun L a w => ∃ j, m ≤ j ∧ j ≤ ops.length ∧ (∀ b, L b ↔ b < j) ∧ wpLs Γ.ro P ops.toArray (Lift Γ Q) (ops.drop j) a w
  have conv : ∀ L a w, InvA L a w → (∀ b, b < m → L b) → InvB L a w := by
    intro L a w ⟨E, g, h1, h2, _, h3⟩ hall
    refine ⟨m, Nat.le_refl _, hlen, fun b => ⟨fun hb => ?_, hall b⟩, ?_⟩
    · obtain ⟨e, he, hi⟩ := (h2 b).1 hb
      rw [← hi]; exact hlt e (h1 e he)
    · have hsub : ∀ e ∈ es, e ∈ E := by
        intro e he
        obtain ⟨e', he', hi⟩ := (h2 e.i).1 (hall e.i (hlt e he))
        have := hg.idx e' (h1 e' he') e he hi
        subst this; exact he'
      have hr' : Rel Γ (frs es ++ fr) (obs es ++ σ) g a w := h3.same (lk_app_same (fun p hp q hq => hfF p ((mem_frs_sub h1) p hp) q ((mem_frs_sub h1) q hq)) (fun p => ⟨mem_frs_sub hsub p, mem_frs_sub h1 p⟩)) (supO E es h1 (fun e he => he)) (supO es E hsub h1)
      exact vcOps_ok htt hLd (fun _ _ h => h) (ops.drop m) _ _ hk g a w hr'
  refine wpIn_region_any hmix ?_
  refine wpAny_inv hm (fun L a w => InvA L a w ∨ InvB L a w) ?_ ?_ _ _ _ _ (by simp) ?_ ?_ ?_
  · -- a step
    intro L a w hinv i hi hL hbits
    have hi' : i < ops.length := by simpa using hi
    have stepB : InvB L a w → wpOpIn (FX Γ.ro) 0 P ops.toArray (Lift Γ Q) i (fun a w => InvA (fun j => L j ∨ j = i) a w ∨ InvB (fun j => L j ∨ j = i) a w) a w := by
      intro ⟨j, hj1, hj2, hj3, hj4⟩
      have hji : j ≤ i := by
        rcases Nat.lt_or_ge i j with h' | h'
        · exact absurd ((hj3 i).2 h') hL
        · exact h'
      have hij : i = j := by
        rcases Nat.lt_or_ge j i with h' | h'
        · have := hm.tail i _ (Array.getElem?_eq_getElem (by simpa using hi')) (by omega) j h'
          have := (hj3 j).1 (hbits j this)
          omega
        · omega
      subst hij
      rw [List.drop_eq_getElem_cons hi'] at hj4
      have hoi : ops.toArray[i]? = some ops[i] := by simp [hi']
      have hnew : ∀ a w, wpLs Γ.ro P ops.toArray (Lift Γ Q) (ops.drop (i + 1)) a w → InvA (fun j => L j ∨ j = i) a w ∨ InvB (fun j => L j ∨ j = i) a w := by
        intro a w hw
        refine .inr ⟨i + 1, by omega, by omega, fun b => ?_, hw⟩
        show (L b ∨ b = i) ↔ b < i + 1
        rw [hj3 b]; omega
      unfold wpOpIn
      simp only [hoi]
      unfold wpLs wpLk at hj4
      split
      · rename_i hwant
        rw [if_pos hwant] at hj4
        exact Oper.wpIn_mono hnew hj4
      · rename_i hwant
        rw [if_neg hwant] at hj4
        exact ⟨fun _ _ => trivial, hnew _ _ hj4⟩
    rcases hinv with hA | hB
    · rcases Nat.lt_or_ge i m with him | him
      · obtain ⟨E, g, h1, h2, hcl, h3⟩ := hA
        obtain ⟨en, hen, heni⟩ := hcov i him
        obtain ⟨o, D, a1, a2, a3, a4, a6, a5⟩ := hg.sem en hen
        rw [heni] at a1 a4 a5 a6
        have hDE : ∀ e ∈ D, e ∈ E := by
          intro e he
          obtain ⟨he1, he2⟩ := a4 e he
          obtain ⟨e', he', hi'⟩ := (h2 e.i).1 (hbits e.i he2)
          have := hg.idx e' (h1 e' he') e he1 hi'
          subst this; exact he'
        have hsup : Sup (selF (frs D ++ fr) (looks ops o)) (frs E ++ fr) := by
          intro t v hl
          obtain ⟨ht, hl⟩ := selF_get hl
          rcases lk_app hl with hl | ⟨hn, hl⟩
          · exact lk_app_mem (fun p hp q hq => hfF p (mem_frs_sub h1 p hp) q (mem_frs_sub h1 q hq)) (mem_frs_sub hDE _ hl)
          · rw [lk_app_none]
            · exact hl
            · intro p hp hpt
              obtain ⟨e, he, h1', h2'⟩ := mem_frs.1 hp
              obtain ⟨oe, hoe, hde⟩ := hop e (h1 e he)
              have hLe : L e.i := (h2 e.i).2 ⟨e, he, rfl⟩
              rcases hrd i o (by rw [List.getElem?_take, if_pos him]; exact a1) e.i oe t hoe (by rw [← hde, h1', hpt]) ht with hk | hk | hk
              · exact hL (hk ▸ hLe)
              · have hlt' : e.i < i := hm.lt i o (by simpa using a1) e.i hk
                exact hn p (mem_frs.2 ⟨e, a6 e (h1 e he) hk hlt', h1', h2'⟩) hpt
              · exact hL (hcl e.i hLe i hk)
        refine a5 _ (frs E ++ fr) (obs E ++ σ) g a w hsup (supO D E hDE h1) ?_ ?_ h3 _ ?_ (by simpa using a1)
        · intro hob
          have hn : ∀ X : List En, (∀ e ∈ X, e ∈ es) → obs X = [] := by
            intro X hX
            cases hx : obs X with
            | nil => rfl
            | cons p r =>
              obtain ⟨e, he, hp⟩ := mem_obs.1 (show p ∈ obs X by rw [hx]; exact List.mem_cons_self)
              have := (hg.id0 e (hX e he) p hp).2
              rw [hob] at this; cases this
          rw [hn E h1, hn D (fun e he => h1 e (hDE e he))]
        · intro p hp
          rw [lk_app_none]
          · exact (hg.id0 en hen p hp).1
          · intro q hq he
            obtain ⟨e', he', hq'⟩ := mem_obs.1 hq
            have := hg.ids e' (h1 e' he') en hen q p hq' hp he
            subst this
            exact hL ((h2 i).2 ⟨e', he', heni⟩)
        · intro v g' w' hr' hv
          left
          refine ⟨en :: E, g', fun e he => ?_, fun j => ?_, fun k hk b hb => ?_, ?_⟩
          · rcases List.mem_cons.1 he with rfl | he
            · exact hen
            · exact h1 e he
          · show (L j ∨ j = i) ↔ _
            rw [h2 j]
            constructor
            · rintro (⟨e, he, h'⟩ | rfl)
              · exact ⟨e, List.mem_cons_of_mem _ he, h'⟩
              · exact ⟨en, List.mem_cons_self, heni⟩
            · rintro ⟨e, he, h'⟩
              rcases List.mem_cons.1 he with rfl | he
              · exact .inr (h'.symm.trans heni)
              · exact .inl ⟨e, he, h'⟩
          · rcases hk with hk | rfl
            · exact .inl (hcl k hk b hb)
            · exact .inl (hbits b hb)
          · rw [← addFr_eq, ← addOb_eq]
            rw [a2]
            cases hdd : o.dst with
            | none => exact hr'
            | some d => exact hr'.put (a3 d hdd) hv
      · have hall : ∀ b, b < i → L b := fun b hb => hbits b (hm.tail i _ (Array.getElem?_eq_getElem (by simpa using hi')) him b hb)
        exact stepB (conv L a w hA fun b hb => hall b (by omega))
    · exact stepB hB
  · -- the end
    intro L a w hinv hall
    have hB : InvB L a w := by
      rcases hinv with hA | hB
      · exact conv L a w hA fun b hb => hall b (by simp; omega)
      · exact hB
    obtain ⟨j, hj1, hj2, hj3, hj4⟩ := hB
    have : j = ops.length := by
      rcases Nat.lt_or_ge j ops.length with h' | h'
      · have := (hj3 j).1 (hall j (by simpa using h')); omega
      · omega
    subst this
    rw [List.drop_length] at hj4
    exact hj4
  · intro i hi
    have : (Array.replicate ops.length false)[i]?.getD false = false := by
      rw [Array.getElem?_replicate]; split <;> rfl
    simp [this] at hi
  · unfold unl
    refine Nat.le_trans (List.length_filter_le _ _) (by simp)
  · left
    refine ⟨[], g, fun e he => by simp at he, fun j => ?_, fun k hk => ?_, hr.drawn _⟩
    rotate_left
    · have : (Array.replicate ops.length false)[k]?.getD false = false := by
        rw [Array.getElem?_replicate]; split <;> rfl
      simp [this] at hk
    have : (Array.replicate ops.length false)[j]?.getD false = false := by
      rw [Array.getElem?_replicate]; split <;> rfl
    simp [this]
end
end Go.QL
namespace Go.QL
open Go Go.RowKit
theorem late_bit {m l b : Nat} (hb : b < m) (hbl : b ≠ l) (hlm : l < m) : (2 ^ m - 1 - 2 ^ l).testBit b = true := by
  have hlt : 2 ^ l < 2 ^ m := Nat.pow_lt_pow_right (by decide) hlm
  rw [Nat.sub_sub, Nat.add_comm 1, Nat.testBit_two_pow_sub_succ hlt, Nat.testBit_two_pow]
  simp [hb, Ne.symm hbl]
section
variable {P : Program} {Γ : Cx} {fr : Fr} {σ : Sg} {Q : Exit → Fr → Sg → Prop}
structure Both (A B : Prop) : Prop where
  one : A
  two : B
def dropD (d : Option Tmp) : Fr → Fr
  | [] => []
  | (t, v) :: r => match d with
    | some d => bif Nat.beq t d then dropD (some d) r else (t, v) :: dropD (some d) r
    | none => (t, v) :: dropD none r
theorem dropD_get {d : Option Tmp} : ∀ {fr : Fr} {t : Nat} {v : AV}, lk t (dropD d fr) = some v → d ≠ some t ∧ lk t fr = some v
  | [], t, v, h => by cases d <;> cases h
  | (s, x) :: r, t, v, h => by
    unfold dropD at h
    cases d with
    | none =>
      simp only at h
      rw [lk_cons] at h ⊢
      by_cases e : s = t
      · rw [if_pos e] at h ⊢; exact ⟨by simp, h⟩
      · rw [if_neg e] at h ⊢; exact dropD_get h
    | some d =>
      simp only at h
      cases hb : Nat.beq s d with
      | true =>
        rw [hb] at h
        have h := dropD_get (fr := r) h
        refine ⟨h.1, ?_⟩
        rw [lk_cons, if_neg]
        · exact h.2
        · intro e; subst e; exact h.1 (by rw [Nat.eq_of_beq_eq_true hb])
      | false =>
        rw [hb] at h
        simp only [cond_false] at h
        rw [lk_cons] at h ⊢
        by_cases e : s = t
        · rw [if_pos e] at h ⊢
          refine ⟨fun e' => ?_, h⟩
          cases e'; subst e; simp at hb
        · rw [if_neg e] at h ⊢; exact dropD_get h
theorem AW_drawL {tt : TT} (htt : tt.ok P) (hmix : P.follows .mixedOrders = true) (m l : Nat) (ob : Bool) (ms : List Nat) {id : Nat} {ops : List Oper} (ol om : Oper) (hms : okMasks ms (m + 1) ops 0 = true) (hlen : Nat.ble (m + 1) ops.length = true)
    (hds : okDsts (ops.take m) [] = true) (hrd : okReads ops ms (ops.take m) (ops.take m) 0 = true)
    (hol : ops[l]? = some ol) (hom : ops[m]? = some om) (hlm : Nat.blt l m = true) (hmm : Nat.beq (ms.getD m 0) (Nat.sub (Nat.sub (Nat.pow 2 m) 1) (Nat.pow 2 l)) = true) (hno : noOb ol.op = true)
    (h : vcDr P tt Γ.nt ops ob ms fr σ (fun fr' σ' => Both (vcOps P tt Γ.nt ops (Q .normal) (ops.drop m) fr' σ')
      (vcOps P tt Γ.nt ops (fun fr2 σ2 => opDr P tt ops false (selF fr2 (looks ops ol)) σ2 0 ol fun gd v nob => nob = none ∧ putE Γ.nt ol.dst gd v fun x => vcOps P tt Γ.nt ops (Q .normal) (ops.drop (m + 1)) (addFr ol.dst x fr2) σ2)
        [om] (dropD ol.dst fr') σ')) (ops.take m) [] 0 fr σ) : AW P Γ (.region id ops.toArray true) Q fr σ := by
  refine AW.mk fun hLd g a w hr => ?_
  have hm := MaskOK.of hms
  have hlen' : m + 1 ≤ ops.length := Nat.le_of_ble_eq_true hlen
  have hlen : m ≤ ops.length := by omega
  have hlm : l < m := Nat.le_of_ble_eq_true hlm
  have hmbit : ∀ b, b < m → b ≠ l → (ms.getD m 0).testBit b = true := by
    intro b hb hbl
    rw [Nat.eq_of_beq_eq_true hmm]
    exact late_bit hb hbl hlm
  have htake : (ops.take m).length = m := by simp; omega
  obtain ⟨es, ⟨hk, hkL⟩, hg, hlt, hcov⟩ := vcDr_ok (Γ := Γ) htt hLd (ops.take m) [] 0 h (fun j o hj => by
      rw [List.getElem?_take] at hj
      by_cases hjm : j < m
      · rw [if_pos hjm] at hj; simpa using hj
      · rw [if_neg hjm] at hj; cases hj) (fun e he => by simp at he) (fun j hj => by omega)
      ⟨fun e he => by simp at he, fun e he => by simp at he, fun e he => by simp at he, fun e he => by simp at he, fun e he => by simp at he⟩
  rw [htake] at hlt hcov
  simp only [Nat.zero_add] at hlt hcov
  obtain ⟨_, hd1⟩ := okDsts_ok hds
  have hrd := fun j o h => okReadsAt_ok (okReads_ok hrd j o h)
  simp only [Nat.zero_add] at hrd
  have hop : ∀ e ∈ es, ∃ o, (ops.take m)[e.i]? = some o ∧ e.d = o.dst := fun e he => by
    obtain ⟨o, D, h1, h2, _⟩ := hg.sem e he
    exact ⟨o, by rw [List.getElem?_take, if_pos (hlt e he)]; exact h1, h2⟩
  have hfF : ∀ p ∈ frs es, ∀ q ∈ frs es, p.1 = q.1 → p = q := by
    intro p hp q hq hpq
    obtain ⟨e, he, h1, h2⟩ := mem_frs.1 hp
    obtain ⟨e', he', h1', h2'⟩ := mem_frs.1 hq
    obtain ⟨o, ho, hd⟩ := hop e he
    obtain ⟨o', ho', hd'⟩ := hop e' he'
    have := hd1 e.i e'.i o o' p.1 ho ho' (by rw [← hd, h1]) (by rw [← hd', h1', hpq])
    have := hg.idx e he e' he' this
    subst this
    obtain ⟨p1, p2⟩ := p; obtain ⟨q1, q2⟩ := q
    simp only at *
    subst hpq; subst h2; subst h2'; rfl
  have hfO : ∀ p ∈ obs es, ∀ q ∈ obs es, p.1 = q.1 → p = q := by
    intro p hp q hq hpq
    obtain ⟨e, he, h1⟩ := mem_obs.1 hp
    obtain ⟨e', he', h1'⟩ := mem_obs.1 hq
    have := hg.ids e he e' he' p q h1 h1' hpq
    subst this; rw [h1] at h1'; cases h1'; rfl
  have hfO0 : ∀ p ∈ obs es, lk p.1 σ = none := by
    intro p hp
    obtain ⟨e, he, h1⟩ := mem_obs.1 hp
    exact (hg.id0 e he p h1).1
  have supO : ∀ D E : List En, (∀ e ∈ D, e ∈ E) → (∀ e ∈ E, e ∈ es) → Sup (obs D ++ σ) (obs E ++ σ) := fun D E h1 h2 =>
    sup_app hfO hfO0 (fun p hp => by obtain ⟨e, he, h'⟩ := mem_obs.1 hp; exact mem_obs.2 ⟨e, h1 e he, h'⟩) (fun p hp => by obtain ⟨e, he, h'⟩ := mem_obs.1 hp; exact mem_obs.2 ⟨e, h2 e he, h'⟩)
  let InvA : (Nat → Prop) → Act → World → Prop := fun L a w => ∃ (E : List En) (g : Gh), (∀ e ∈ E, e ∈ es) ∧ (∀ j, L j ↔ ∃ e ∈ E, e.i = j) ∧ (∀ k, L k → ∀ b, (ms.getD k 0).testBit b = true → L b) ∧ Rel Γ (frs E ++ fr) (obs E ++ σ) g a w
  let InvB : (Nat → Prop) → Act → World → Prop := fun L a w => ∃ j, m ≤ j ∧ j ≤ ops.length ∧ (∀ b, L b ↔ b < j) ∧ wpLs Γ.ro P ops.toArray (Lift Γ Q) (ops.drop j) a w
  let InvC : (Nat → Prop) → Act → World → Prop := fun L a w => ∃ g fr2 σ2, (∀ b, L b ↔ b ≤ m ∧ b ≠ l) ∧ Rel Γ fr2 σ2 g a w ∧
    (opDr P tt ops false (selF fr2 (looks ops ol)) σ2 0 ol fun gd v nob => nob = none ∧ putE Γ.nt ol.dst gd v fun x => vcOps P tt Γ.nt ops (Q .normal) (ops.drop (m + 1)) (addFr ol.dst x fr2) σ2)
  have conv : ∀ L a w, InvA L a w → (∀ b, b < m → L b) → InvB L a w := by
    intro L a w ⟨E, g, h1, h2, _, h3⟩ hall
    refine ⟨m, Nat.le_refl _, hlen, fun b => ⟨fun hb => ?_, hall b⟩, ?_⟩
    · obtain ⟨e, he, hi⟩ := (h2 b).1 hb
      rw [← hi]; exact hlt e (h1 e he)
    · have hsub : ∀ e ∈ es, e ∈ E := by
        intro e he
        obtain ⟨e', he', hi⟩ := (h2 e.i).1 (hall e.i (hlt e he))
        have := hg.idx e' (h1 e' he') e he hi
        subst this; exact he'
      have hr' : Rel Γ (frs es ++ fr) (obs es ++ σ) g a w := h3.same (lk_app_same (fun p hp q hq => hfF p ((mem_frs_sub h1) p hp) q ((mem_frs_sub h1) q hq)) (fun p => ⟨mem_frs_sub hsub p, mem_frs_sub h1 p⟩)) (supO E es h1 (fun e he => he)) (supO es E hsub h1)
      exact vcOps_ok htt hLd (fun _ _ h => h) (ops.drop m) _ _ hk g a w hr'
  refine wpIn_region_any hmix ?_
  refine wpAny_inv hm (fun L a w => InvA L a w ∨ InvB L a w ∨ InvC L a w) ?_ ?_ _ _ _ _ (by simp) ?_ ?_ ?_
  · -- a step
    intro L a w hinv i hi hL hbits
    have hi' : i < ops.length := by simpa using hi
    have stepB : InvB L a w → wpOpIn (FX Γ.ro) 0 P ops.toArray (Lift Γ Q) i (fun a w => InvA (fun j => L j ∨ j = i) a w ∨ InvB (fun j => L j ∨ j = i) a w ∨ InvC (fun j => L j ∨ j = i) a w) a w := by
      intro ⟨j, hj1, hj2, hj3, hj4⟩
      have hji : j ≤ i := by
        rcases Nat.lt_or_ge i j with h' | h'
        · exact absurd ((hj3 i).2 h') hL
        · exact h'
      have hij : i = j := by
        rcases Nat.lt_or_ge j i with h' | h'
        · have := hm.tail i _ (Array.getElem?_eq_getElem (by simpa using hi')) (by omega) j h'
          have := (hj3 j).1 (hbits j this)
          omega
        · omega
      subst hij
      rw [List.drop_eq_getElem_cons hi'] at hj4
      have hoi : ops.toArray[i]? = some ops[i] := by simp [hi']
      have hnew : ∀ a w, wpLs Γ.ro P ops.toArray (Lift Γ Q) (ops.drop (i + 1)) a w → InvA (fun j => L j ∨ j = i) a w ∨ InvB (fun j => L j ∨ j = i) a w ∨ InvC (fun j => L j ∨ j = i) a w := by
        intro a w hw
        refine .inr (.inl ⟨i + 1, by omega, by omega, fun b => ?_, hw⟩)
        show (L b ∨ b = i) ↔ b < i + 1
        rw [hj3 b]; omega
      unfold wpOpIn
      simp only [hoi]
      unfold wpLs wpLk at hj4
      split
      · rename_i hwant
        rw [if_pos hwant] at hj4
        exact Oper.wpIn_mono hnew hj4
      · rename_i hwant
        rw [if_neg hwant] at hj4
        exact ⟨fun _ _ => trivial, hnew _ _ hj4⟩
    rcases hinv with hA | hB | hC
    · rcases Nat.lt_or_ge i m with him | him
      · obtain ⟨E, g, h1, h2, hcl, h3⟩ := hA
        obtain ⟨en, hen, heni⟩ := hcov i him
        obtain ⟨o, D, a1, a2, a3, a4, a6, a5⟩ := hg.sem en hen
        rw [heni] at a1 a4 a5 a6
        have hDE : ∀ e ∈ D, e ∈ E := by
          intro e he
          obtain ⟨he1, he2⟩ := a4 e he
          obtain ⟨e', he', hi'⟩ := (h2 e.i).1 (hbits e.i he2)
          have := hg.idx e' (h1 e' he') e he1 hi'
          subst this; exact he'
        have hsup : Sup (selF (frs D ++ fr) (looks ops o)) (frs E ++ fr) := by
          intro t v hl
          obtain ⟨ht, hl⟩ := selF_get hl
          rcases lk_app hl with hl | ⟨hn, hl⟩
          · exact lk_app_mem (fun p hp q hq => hfF p (mem_frs_sub h1 p hp) q (mem_frs_sub h1 q hq)) (mem_frs_sub hDE _ hl)
          · rw [lk_app_none]
            · exact hl
            · intro p hp hpt
              obtain ⟨e, he, h1', h2'⟩ := mem_frs.1 hp
              obtain ⟨oe, hoe, hde⟩ := hop e (h1 e he)
              have hLe : L e.i := (h2 e.i).2 ⟨e, he, rfl⟩
              rcases hrd i o (by rw [List.getElem?_take, if_pos him]; exact a1) e.i oe t hoe (by rw [← hde, h1', hpt]) ht with hk | hk | hk
              · exact hL (hk ▸ hLe)
              · have hlt' : e.i < i := hm.lt i o (by simpa using a1) e.i hk
                exact hn p (mem_frs.2 ⟨e, a6 e (h1 e he) hk hlt', h1', h2'⟩) hpt
              · exact hL (hcl e.i hLe i hk)
        refine a5 _ (frs E ++ fr) (obs E ++ σ) g a w hsup (supO D E hDE h1) ?_ ?_ h3 _ ?_ (by simpa using a1)
        · intro hob
          have hn : ∀ X : List En, (∀ e ∈ X, e ∈ es) → obs X = [] := by
            intro X hX
            cases hx : obs X with
            | nil => rfl
            | cons p r =>
              obtain ⟨e, he, hp⟩ := mem_obs.1 (show p ∈ obs X by rw [hx]; exact List.mem_cons_self)
              have := (hg.id0 e (hX e he) p hp).2
              rw [hob] at this; cases this
          rw [hn E h1, hn D (fun e he => h1 e (hDE e he))]
        · intro p hp
          rw [lk_app_none]
          · exact (hg.id0 en hen p hp).1
          · intro q hq he
            obtain ⟨e', he', hq'⟩ := mem_obs.1 hq
            have := hg.ids e' (h1 e' he') en hen q p hq' hp he
            subst this
            exact hL ((h2 i).2 ⟨e', he', heni⟩)
        · intro v g' w' hr' hv
          left
          refine ⟨en :: E, g', fun e he => ?_, fun j => ?_, fun k hk b hb => ?_, ?_⟩
          · rcases List.mem_cons.1 he with rfl | he
            · exact hen
            · exact h1 e he
          · show (L j ∨ j = i) ↔ _
            rw [h2 j]
            constructor
            · rintro (⟨e, he, h'⟩ | rfl)
              · exact ⟨e, List.mem_cons_of_mem _ he, h'⟩
              · exact ⟨en, List.mem_cons_self, heni⟩
            · rintro ⟨e, he, h'⟩
              rcases List.mem_cons.1 he with rfl | he
              · exact .inr (h'.symm.trans heni)
              · exact .inl ⟨e, he, h'⟩
          · rcases hk with hk | rfl
            · exact .inl (hcl k hk b hb)
            · exact .inl (hbits b hb)
          · rw [← addFr_eq, ← addOb_eq]
            rw [a2]
            cases hdd : o.dst with
            | none => exact hr'
            | some d => exact hr'.put (a3 d hdd) hv
      · rcases Nat.lt_or_ge m i with hmi | hmi
        · have hall : ∀ b, b < i → L b := fun b hb => hbits b (hm.tail i _ (Array.getElem?_eq_getElem (by simpa using hi')) hmi b hb)
          exact stepB (conv L a w hA fun b hb => hall b (by omega))
        · have him : i = m := by omega
          subst him
          by_cases hLl : L l
          · exact stepB (conv L a w hA fun b hb => by
              by_cases e : b = l
              · rw [e]; exact hLl
              · exact hbits b (hmbit b hb e))
          · obtain ⟨E, g, h1, h2, _, h3⟩ := hA
            have hin : ∀ e ∈ es, e.i ≠ l → e ∈ E := by
              intro e he hne
              obtain ⟨e', he', hi2⟩ := (h2 e.i).1 (hbits e.i (hmbit e.i (hlt e he) hne))
              have := hg.idx e' (h1 e' he') e he hi2
              subst this; exact he'
            have hlE : ∀ e ∈ E, e.i ≠ l := fun e he hne => hLl ((h2 l).2 ⟨e, he, hne⟩)
            obtain ⟨en, hen, heni⟩ := hcov l hlm
            have hdl : en.d = ol.dst := by
              obtain ⟨o, ho, hd⟩ := hop en hen
              rw [heni, List.getElem?_take, if_pos hlm, hol] at ho
              cases ho; exact hd
            have hobl : ∀ e ∈ es, e.i = l → e.ob = none := by
              intro e he hel
              cases hob : e.ob with
              | none => rfl
              | some p =>
                obtain ⟨o, ho, hn⟩ := hg.obk e he p hob
                rw [hel, hol] at ho; cases ho
                rw [hno] at hn; cases hn
            have hsupF : Sup (dropD ol.dst (frs es ++ fr)) (frs E ++ fr) := by
              intro t v hl
              obtain ⟨hne, hl⟩ := dropD_get hl
              rcases lk_app hl with hl | ⟨hn, hl⟩
              · obtain ⟨e, he, hd, hx⟩ := mem_frs.1 hl
                have hel : e.i ≠ l := by
                  intro hel
                  have := hg.idx e he en hen (hel.trans heni.symm)
                  subst this
                  exact hne (by rw [← hdl, hd])
                exact lk_app_mem (fun p hp q hq => hfF p (mem_frs_sub h1 p hp) q (mem_frs_sub h1 q hq)) (mem_frs.2 ⟨e, hin e he hel, hd, hx⟩)
              · rw [lk_app_none fun p hp => hn p (mem_frs_sub h1 p hp)]; exact hl
            have hobs : ∀ p, p ∈ obs es → p ∈ obs E := by
              intro p hp
              obtain ⟨e, he, hp⟩ := mem_obs.1 hp
              refine mem_obs.2 ⟨e, hin e he fun hel => ?_, hp⟩
              rw [hobl e he hel] at hp; cases hp
            have hr' : Rel Γ (dropD ol.dst (frs es ++ fr)) (obs es ++ σ) g a w := h3.same hsupF (supO E es h1 (fun e he => he))
              (sup_app (fun p hp q hq => hfO p (by obtain ⟨e, he, h'⟩ := mem_obs.1 hp; exact mem_obs.2 ⟨e, h1 e he, h'⟩) q (by obtain ⟨e, he, h'⟩ := mem_obs.1 hq; exact mem_obs.2 ⟨e, h1 e he, h'⟩)) (fun p hp => hfO0 p (by obtain ⟨e, he, h'⟩ := mem_obs.1 hp; exact mem_obs.2 ⟨e, h1 e he, h'⟩)) hobs (fun p hp => hp))
            have hw := vcOps_okK (Γ := Γ) htt hLd (Qx := Lift Γ Q) (K := fun a w => InvA (fun j => L j ∨ j = i) a w ∨ InvB (fun j => L j ∨ j = i) a w ∨ InvC (fun j => L j ∨ j = i) a w) (fun fr2 σ2 g2 a2 w2 hr2 hk2 => .inr (.inr ⟨g2, fr2, σ2, fun b => ?_, hr2, hk2⟩)) [om] _ _ hkL g a w hr'
            · have hoi : ops.toArray[i]? = some om := by simpa using hom
              unfold wpOpIn
              simp only [hoi]
              unfold wpLk at hw
              split
              · rename_i hwant
                rw [if_pos hwant] at hw
                exact hw
              · rename_i hwant
                rw [if_neg hwant] at hw
                exact ⟨fun _ _ => trivial, hw⟩
            · show (L b ∨ b = i) ↔ _
              constructor
              · rintro (hb | rfl)
                · obtain ⟨e, he, hi2⟩ := (h2 b).1 hb
                  have := hlt e (h1 e he)
                  exact ⟨by omega, hi2 ▸ hlE e he⟩
                · exact ⟨Nat.le_refl _, by omega⟩
              · rintro ⟨hb, hbl⟩
                rcases Nat.lt_or_ge b i with h' | h'
                · exact .inl (hbits b (hmbit b h' hbl))
                · exact .inr (by omega)
    · exact stepB hB
    · obtain ⟨g, fr2, σ2, hC1, hC2, hC3⟩ := hC
      have hil : i = l := by
        by_cases e : i = l
        · exact e
        · have : ¬ i ≤ m := fun h' => hL ((hC1 i).2 ⟨h', e⟩)
          have := hm.tail i _ (Array.getElem?_eq_getElem (by simpa using hi')) (by omega) l (by omega)
          exact absurd rfl ((hC1 l).1 (hbits l this)).2
      subst hil
      obtain ⟨gd, x, nob, ⟨hn, hk2⟩, _, hsem⟩ := opDr_ok (Γ := Γ) htt hLd hC3 i
      subst hn
      obtain ⟨hk2, hd⟩ := putE_ok hk2
      refine hsem _ fr2 σ2 g a w (fun t v hl => (selF_get hl).2) (fun _ _ h => h) (fun _ => rfl) (fun p hp => by cases hp) hC2 _ (fun v g' w' hr' hv => .inr (.inl ⟨m + 1, by omega, hlen', fun b => ?_, ?_⟩)) (by simpa using hol)
      · show (L b ∨ b = i) ↔ _
        rw [hC1 b]
        constructor
        · rintro (hb | rfl)
          · omega
          · omega
        · intro hb
          by_cases e : b = i
          · exact .inr e
          · exact .inl ⟨by omega, e⟩
      · refine vcOps_ok htt hLd (fun _ _ h => h) (ops.drop (m + 1)) _ _ hk2 g' _ w' ?_
        cases hdd : ol.dst with
        | none => exact hr'
        | some d => exact hr'.put (hd d hdd) hv
  · -- the end
    intro L a w hinv hall
    have hB : InvB L a w := by
      rcases hinv with hA | hB | hC
      · exact conv L a w hA fun b hb => hall b (by simp; omega)
      · exact hB
      · obtain ⟨_, _, _, hC1, _⟩ := hC
        exact absurd rfl ((hC1 l).1 (hall l (by simp; omega))).2
    obtain ⟨j, hj1, hj2, hj3, hj4⟩ := hB
    have : j = ops.length := by
      rcases Nat.lt_or_ge j ops.length with h' | h'
      · have := (hj3 j).1 (hall j (by simpa using h')); omega
      · omega
    subst this
    rw [List.drop_length] at hj4
    exact hj4
  · intro i hi
    have : (Array.replicate ops.length false)[i]?.getD false = false := by
      rw [Array.getElem?_replicate]; split <;> rfl
    simp [this] at hi
  · unfold unl
    refine Nat.le_trans (List.length_filter_le _ _) (by simp)
  · left
    refine ⟨[], g, fun e he => by simp at he, fun j => ?_, fun k hk => ?_, hr.drawn _⟩
    rotate_left
    · have : (Array.replicate ops.length false)[k]?.getD false = false := by
        rw [Array.getElem?_replicate]; split <;> rfl
      simp [this] at hk
    have : (Array.replicate ops.length false)[j]?.getD false = false := by
      rw [Array.getElem?_replicate]; split <;> rfl
    simp [this]
end
end Go.QL
namespace Go.QL
open Go Go.RowKit
theorem lk_dom {α : Type} {k : Nat} {l : List (Nat × α)} {x : α} (h : lk k l = some x) : k ∈ l.map (·.1) := by
  have := lk_mem h
  exact List.mem_map.2 ⟨_, this, rfl⟩
theorem SR.inI {σ : Sg} {g : Gh} {w : World} {s : SV} {v : Value} (h : SR σ g w s v) : InI (σ.map (·.1)) s := by
  induction h with
  | d x v h => exact .d x
  | old c st n e sz st' xs v h hlt h1 => exact .o c st n (lk_dom h)
  | o c st n e sz xs a cap h hn hμ => exact .o c st n (lk_dom h)
  | b id off cs k h hμ => exact .b id off (lk_dom h)
  | se e off k l vs hK hc hr => exact .se e off
  | oeold c st i off e sz st' xs v h hlt h1 => exact .oe c st i off (lk_dom h)
  | oe c st i off e sz xs k cap h hμ => exact .oe c st i off (lk_dom h)
  | f fn first captured v1 v2 h1 h2 _ _ ih1 ih2 =>
    refine .f fn first captured (fun s hs => ?_) (fun s hs => ?_)
    · obtain ⟨i, hi, he⟩ := List.getElem_of_mem hs
      exact ih1 i s (v1[i]'(by omega)) (by rw [List.getElem?_eq_getElem hi, he]) (Array.getElem?_eq_getElem (by omega))
    · obtain ⟨i, hi, he⟩ := List.getElem_of_mem hs
      exact ih2 i s (v2[i]'(by omega)) (by rw [List.getElem?_eq_getElem hi, he]) (Array.getElem?_eq_getElem (by omega))
  | j v h1 => exact .j
  | h id o k h hμ => exact .h id (lk_dom h)
  | sb id off n cap cs k h hμ hn hc => exact .sb id off n cap (lk_dom h)
def results1 (tt : TT) (res : List ResultVar) (fr : Fr) (σ : Sg) : Option AV :=
  match resAVs tt σ fr res with
  | some [x] => some x
  | some xs => some (.t xs)
  | none => none
def PostR (tt : TT) (res : List ResultVar) (R : AV → Sg → Prop) : Exit → Fr → Sg → Prop
  | .normal, fr, σ | .ret, fr, σ => ∃ r, results1 tt res fr σ = some r ∧ R r σ
  | _, _, _ => False
section
variable {P : Program} {Γ : Cx} {fr : Fr} {σ : Sg} {g : Gh} {a : Act} {w : World}
theorem VR1_of_VR2 {x : AV} (h : flat1 x = true) {v : Value} (hv : VR2 σ g w x v) : VR1 σ g w x v := by
  cases x with
  | x _ => exact hv
  | a _ => exact hv
  | t _ => cases h
  | g _ _ => cases h
def results2 (tt : TT) (res : List ResultVar) (fr : Fr) (σ : Sg) : Option AV :=
  match resAVs tt σ fr res with
  | some [x] => some x
  | some xs => bif xs.all flat1 then some (.t xs) else none
  | none => none
def PostC (tt : TT) (res : List ResultVar) (R : AV → Sg → Prop) : Exit → Fr → Sg → Prop
  | .normal, fr, σ | .ret, fr, σ => ∃ r, results2 tt res fr σ = some r ∧ R r σ
  | _, _, _ => False
theorem results2_ok {tt : TT} (htt : tt.ok P) (hr : Rel Γ fr σ g a w) {fn : Func} {res : List ResultVar} (hres : fn.results = res.toArray) {r : AV} (h : results2 tt res fr σ = some r) :
    ∃ v, (results fn a.tmps).run P w = .ok v w ∧ VR2 σ g w r v := by
  unfold results2 at h
  cases hx : resAVs tt σ fr res with
  | none => rw [hx] at h; cases h
  | some xs =>
    rw [hx] at h
    obtain ⟨us, hus, hl, hrs⟩ := resAVs_ok htt hr hx
    have hm : (res.toArray.mapM (m := Sem) (resOne a.tmps)).run P w = .ok us.toArray w := by
      rw [Array.mapM_eq_mapM_toList, Sem.run_map, hus]; rfl
    have hrun : (results fn a.tmps).run P w = .ok (if h : us.toArray.size = 1 then us.toArray[0] else .tuple us.toArray) w := by
      rw [results_eq, hres, Sem.run_bind, hm]; rfl
    refine ⟨_, hrun, ?_⟩
    have many : ¬ us.toArray.size = 1 → (bif xs.all flat1 then some (AV.t xs) else none) = some r → VR2 σ g w r (.tuple us.toArray) := by
      intro _ h
      cases hall : xs.all flat1 with
      | false => rw [hall] at h; cases h
      | true =>
        rw [hall] at h; cases h
        rw [List.all_eq_true] at hall
        exact ⟨_, rfl, by simpa using hl, fun i z q hi hq => VR1_of_VR2 (hall z (List.mem_of_getElem? hi)) (hrs i z q hi (by simpa using hq))⟩
    match xs, us, hl, hrs, h, many with
    | [], [], _, _, h, many =>
      rw [dif_neg (by simp)]; exact many (by simp) h
    | [x], [u], _, hrs, h, _ => cases h; exact hrs 0 _ u rfl rfl
    | x :: y :: xs, u :: v :: us, _, _, h, many =>
      have hne : ¬ (u :: v :: us).toArray.size = 1 := by simp
      rw [dif_neg hne]; exact many hne h
theorem ACall_of_AW {tt : TT} (htt : tt.ok P) {f : FuncId} {fn : Func} {c : Code} {args : List AV} {σ : Sg} {R : AV → Sg → Prop} {res : List ResultVar} (hf : P.funcs[f]? = some fn) (hb : fn.body = some c)
    (hname : (fn.name == "runtime.NumGoroutine") = false) (hres : fn.results = res.toArray) {nt : Nat} (hnt : fn.ntmps = nt) (hle : args.length ≤ nt)
    (h : ∀ w0 K0 B, AW P ⟨w0, K0, nt, B, σ.map (·.1), none, []⟩ c (PostC tt res R) (entry 0 args) σ) : ACall P f args σ R := by
  refine ⟨⟨fn, hf, by rw [hb]; rfl, hname⟩, fun w0 K0 g w vs hL hp hs hv => ?_⟩
  refine calls_of_wp hf hb ((wpIn_wide (n := 0)).1 ?_)
  have hrel : Rel ⟨w0, K0, nt, SR σ g w, σ.map (·.1), none, []⟩ (entry 0 args) σ g ⟨vs ++ Array.replicate (fn.ntmps - vs.size) undef, []⟩ w := by
    refine ⟨hp, fun t x ht => ?_, by simp; omega, DR.empty, fun s v hb => ⟨hb, SR.inI hb⟩⟩
    obtain ⟨_, hx⟩ := lk_entry args 0 t x ht
    rw [Nat.sub_zero] at hx
    have hlt : t < args.length := (List.getElem?_eq_some_iff.1 hx).1
    refine ⟨by show t < nt; omega, ?_⟩
    have hvt : vs[t]? = some (vs[t]'(by omega)) := Array.getElem?_eq_getElem (by omega)
    have e : (vs ++ Array.replicate (fn.ntmps - vs.size) undef).getD t undef = vs[t]'(by omega) := by
      rw [Array.getD_eq_getD_getElem?, Array.getElem?_append_left (by omega), hvt]; rfl
    show VR _ _ _ _ ((vs ++ Array.replicate (fn.ntmps - vs.size) undef).getD t undef)
    rw [e]
    exact VR_of_VR2 (hv t x _ hx hvt)
  refine wpIn_mono ((h w0 K0 _).use hL hrel) ?_
  intro e a' w' ⟨fr, σ', g', hr, hq⟩
  have fin : (∃ r, results2 tt res fr σ' = some r ∧ R r σ') → a'.defers = [] ∧ ∃ v, (results fn a'.tmps).run P w' = .ok v w' ∧ ∃ v_1 g'' σ'' r, Ending.returned v = .returned v_1 ∧ Did w0 K0 σ g w σ'' g'' w' ∧ VR2 σ'' g'' w' r v_1 ∧ R r σ'' := by
    rintro ⟨r, ho, hR⟩
    obtain ⟨v, hrun, hvr⟩ := results2_ok htt hr hres ho
    exact ⟨hr.defers.nil, v, hrun, v, g', σ', r, rfl, ⟨hr.hp, fun s u hs => (hr.base s u hs).1⟩, hvr, hR⟩
  cases e with
  | normal => exact fin hq
  | ret => exact fin hq
  | _ => exact hq.elim
theorem AW_len {c : Code} {Q : Exit → Fr → Sg → Prop} (t i : Nat) {cs : List SV} {sz : Nat} {xs : List (List PV)} (h1 : lk t fr = some (.a cs)) (h2 : cs[i]? = some (.d (.s sz xs)))
    (h : xs.length ≤ maxLen → AW P Γ c Q fr σ) : AW P Γ c Q fr σ := by
  refine AW.mk fun hL g a w hr => ?_
  have hv : VR σ g w (.a cs) (a.tmps.getD t undef) := (hr.fr t _ h1).2
  obtain ⟨vs, _, hl, hs⟩ := (show ∃ vs : Array Value, a.tmps.getD t undef = .agg vs ∧ vs.size = cs.length ∧ ∀ (i : Nat) (s : SV) (u : Value), cs[i]? = some s → vs[i]? = some u → SR σ g w s u from hv)
  have hi : i < cs.length := (List.getElem?_eq_some_iff.1 h2).1
  have hsr := hs i _ (vs[i]'(by omega)) h2 (Array.getElem?_eq_getElem (by omega))
  refine (h ?_).use hL hr
  generalize vs[i]'(by omega) = u at hsr
  cases hsr with
  | d _ _ hp =>
    cases hp with
    | s _ _ _ cap _ _ _ hcap hmax => exact Nat.le_trans hcap hmax
theorem Imp.slots {fr' : Fr} (hf : SubF fr fr') : Imp Γ fr σ fr' σ := fun g _ _ h => ⟨g, h.subF (SubF_ok hf)⟩
end
end Go.QL
namespace Go.QL
open Go Go.RowKit
def rnSV (ρ : Nat → Nat) : SV → SV
  | .d x => .d x
  | .o c st n => .o (ρ c) st n
  | .b id off => .b (ρ id) off
  | .se e off => .se e off
  | .oe c st i off => .oe (ρ c) st i off
  | .f fn a b => .f fn (a.map (rn1 ρ)) (b.map (rn1 ρ))
  | .j => .j
  | .h id => .h (ρ id)
  | .sb id off n cap => .sb (ρ id) off n cap
where
  rn1 (ρ : Nat → Nat) : SV → SV
    | .o c st n => .o (ρ c) st n
    | .b id off => .b (ρ id) off
    | .oe c st i off => .oe (ρ c) st i off
    | .f .. => .j
    | .h id => .h (ρ id)
    | .sb id off n cap => .sb (ρ id) off n cap
    | s => s
def rnAV1 (ρ : Nat → Nat) : AV → AV
  | .x s => .x (rnSV ρ s)
  | .a cs => .a (cs.map (rnSV ρ))
  | x => x
def rnAV (ρ : Nat → Nat) : AV → AV
  | .t xs => .t (xs.map (rnAV1 ρ))
  | x => rnAV1 ρ x
def rnV (ρ : Nat → Nat) : AV → AV
  | .g c x => .g c (rnAV ρ x)
  | x => rnAV ρ x
def rnKv (ρ : Nat → Nat) : List (Value × AV) → List (Value × AV)
  | [] => []
  | (k, x) :: r => (k, rnAV1 ρ x) :: rnKv ρ r
def rnFr (ρ : Nat → Nat) : Fr → Fr
  | [] => []
  | (t, x) :: r => (t, rnV ρ x) :: rnFr ρ r
def rnO2 (ρ : Nat → Nat) : Ob2 → Ob2
  | .map kt kvs => .map kt kvs
  | .mapIter (some m) since seen last => .mapIter (some (ρ m)) since seen last
  | .loop st pend params assign body nt fr dfr => .loop st pend params assign body nt (rnFr ρ fr) (ρ dfr)
  | o => o
theorem rnO2_kd (ρ : Nat → Nat) (o : Ob2) : (rnO2 ρ o).kd = o.kd := by
  cases o with
  | mapIter m since seen last => cases m <;> rfl
  | _ => rfl
theorem rnKv_get {ρ : Nat → Nat} : ∀ {l : List (Value × AV)} {i : Nat} {k : Value} {x : AV}, (rnKv ρ l)[i]? = some (k, x) ↔ ∃ y, l[i]? = some (k, y) ∧ rnAV1 ρ y = x
  | [], i, k, x => by simp [rnKv]
  | (k0, x0) :: r, i, k, x => by
    cases i with
    | zero =>
      show some (k0, rnAV1 ρ x0) = some (k, x) ↔ ∃ y, some (k0, x0) = some (k, y) ∧ _
      constructor
      · intro h; cases h; exact ⟨x0, rfl, rfl⟩
      · rintro ⟨y, h, rfl⟩; cases h; rfl
    | succ i => exact rnKv_get (l := r) (i := i)
theorem rnKv_len {ρ : Nat → Nat} : ∀ {l : List (Value × AV)}, (rnKv ρ l).length = l.length
  | [] => rfl
  | (k0, x0) :: r => by simp [rnKv, rnKv_len (l := r)]
theorem lk_rnFr {ρ : Nat → Nat} {t : Nat} : ∀ {l : Fr}, lk t (rnFr ρ l) = (lk t l).map (rnV ρ)
  | [] => rfl
  | (k0, x0) :: r => by
    unfold rnFr
    rw [lk_cons, lk_cons]
    by_cases e : k0 = t
    · rw [if_pos e, if_pos e]; rfl
    · rw [if_neg e, if_neg e]; exact lk_rnFr
def rnOb (ρ : Nat → Nat) : Ob → Ob
  | .box cs => .box (cs.map (rnSV ρ))
  | .chain e sz st xs => .chain e sz st xs
  | .x o => .x (rnO2 ρ o)
def rnSg (ρ : Nat → Nat) : Sg → Sg
  | [] => []
  | (i, o) :: r => (ρ i, rnOb ρ o) :: rnSg ρ r
def dropK (ids : List Nat) : Sg → Sg
  | [] => []
  | (i, o) :: r => bif ids.any (Nat.beq i) then dropK ids r else (i, o) :: dropK ids r
theorem beq_ne {i j : Nat} (h : i ≠ j) : Nat.beq i j = false := by
  cases hb : Nat.beq i j with
  | false => rfl
  | true => exact absurd (Nat.eq_of_beq_eq_true hb) h
theorem any_beq {ids : List Nat} {i : Nat} : ids.any (Nat.beq i) = true ↔ i ∈ ids := by
  rw [List.any_eq_true]
  constructor
  · rintro ⟨x, hx, h⟩; rw [Nat.eq_of_beq_eq_true h]; exact hx
  · intro h; exact ⟨i, h, by simp⟩
theorem lk_dropK_in {ids : List Nat} {i : Nat} (h : i ∈ ids) (σ : Sg) : lk i (dropK ids σ) = none := by
  induction σ with
  | nil => rfl
  | cons p r ih =>
    obtain ⟨j, o⟩ := p
    unfold dropK
    cases hb : ids.any (Nat.beq j) with
    | true => exact ih
    | false =>
      simp only [cond_false]
      rw [lk_cons, if_neg]
      · exact ih
      · rintro rfl; rw [any_beq.2 h] at hb; cases hb
theorem lk_dropK_out {ids : List Nat} {i : Nat} (h : i ∉ ids) (σ : Sg) : lk i (dropK ids σ) = lk i σ := by
  induction σ with
  | nil => rfl
  | cons p r ih =>
    obtain ⟨j, o⟩ := p
    unfold dropK
    cases hb : ids.any (Nat.beq j) with
    | true =>
      simp only [cond_true]
      rw [lk_cons, if_neg (fun e : j = i => by subst e; exact h (any_beq.1 hb))]; exact ih
    | false =>
      simp only [cond_false]
      rw [lk_cons, lk_cons, ih]
theorem lk_append {α : Type} {i : Nat} (l r : List (Nat × α)) : lk i (l ++ r) = match lk i l with | some x => some x | none => lk i r := by
  induction l with
  | nil => rfl
  | cons p l ih =>
    obtain ⟨j, x⟩ := p
    rw [List.cons_append, lk_cons, lk_cons]
    by_cases e : j = i
    · rw [if_pos e, if_pos e]
    · rw [if_neg e, if_neg e]; exact ih
def injK (ρ : Nat → Nat) : List Nat → Bool
  | [] => true
  | i :: r => (r.all fun j => Nat.beq i j || !Nat.beq (ρ i) (ρ j)) && injK ρ r
theorem injK_ok {ρ : Nat → Nat} : ∀ {l : List Nat}, injK ρ l = true → ∀ i ∈ l, ∀ j ∈ l, ρ i = ρ j → i = j
  | [], _, i, hi, _, _, _ => by simp at hi
  | k :: r, h, i, hi, j, hj, he => by
    unfold injK at h
    simp only [Bool.and_eq_true, List.all_eq_true, Bool.or_eq_true, Bool.not_eq_true'] at h
    have key : ∀ j ∈ r, ρ k = ρ j → k = j := fun j hj he => by
      rcases h.1 j hj with h | h
      · exact Nat.eq_of_beq_eq_true h
      · rw [he, show Nat.beq (ρ j) (ρ j) = true by simp] at h; cases h
    rw [List.mem_cons] at hi hj
    rcases hi with hi | hi <;> rcases hj with hj | hj
    · rw [hi, hj]
    · subst hi; exact key j hj he
    · subst hj; exact (key i hi he.symm).symm
    · exact injK_ok h.2 i hi j hj he
theorem lk_isSome_mem {α : Type} {i : Nat} {l : List (Nat × α)} : (lk i l).isSome = true ↔ i ∈ l.map (·.1) := by
  induction l with
  | nil => simp [lk]
  | cons p r ih =>
    obtain ⟨j, x⟩ := p
    rw [lk_cons]
    by_cases e : j = i
    · rw [if_pos e]; simp [e]
    · rw [if_neg e, ih]
      simp only [List.map_cons, List.mem_cons]
      exact ⟨.inr, fun h => h.resolve_left (fun h => e h.symm)⟩
theorem lk_rnSg {ρ : Nat → Nat} : ∀ {σ : Sg} {ks : List Nat} (_ : ∀ i ∈ ks, ∀ j ∈ ks, ρ i = ρ j → i = j) (_ : ∀ i ∈ σ.map (·.1), i ∈ ks) {i : Nat} (_ : i ∈ ks), lk (ρ i) (rnSg ρ σ) = (lk i σ).map (rnOb ρ)
  | [], _, _, _, _, _ => rfl
  | (j, o) :: r, ks, hinj, hsub, i, hi => by
    unfold rnSg
    rw [lk_cons, lk_cons]
    by_cases e : j = i
    · subst e; rw [if_pos rfl, if_pos rfl]; rfl
    · rw [if_neg e, if_neg (fun h => e (hinj j (hsub j (by simp)) i hi h))]
      exact lk_rnSg hinj (fun k hk => hsub k (by simp at hk ⊢; exact .inr hk)) hi
theorem lk_rnSg_none {ρ : Nat → Nat} {k : Nat} : ∀ {σ : Sg}, (∀ i ∈ σ.map (·.1), ρ i ≠ k) → lk k (rnSg ρ σ) = none
  | [], _ => rfl
  | (j, o) :: r, h => by
    unfold rnSg
    rw [lk_cons, if_neg (h j (by simp))]
    exact lk_rnSg_none fun i hi => h i (by simp at hi ⊢; exact .inr hi)
def unrn (ρ : Nat → Nat) : List Nat → Nat → Option Nat
  | [], _ => none
  | i :: r, k => if ρ i = k then some i else unrn ρ r k
theorem unrn_some {ρ : Nat → Nat} {k i : Nat} : ∀ {l : List Nat}, unrn ρ l k = some i → i ∈ l ∧ ρ i = k
  | [], h => by cases h
  | j :: r, h => by
    unfold unrn at h
    by_cases e : ρ j = k
    · rw [if_pos e] at h; cases h; exact ⟨by simp, e⟩
    · rw [if_neg e] at h; have := unrn_some h; exact ⟨List.mem_cons_of_mem _ this.1, this.2⟩
theorem unrn_mem {ρ : Nat → Nat} {l : List Nat} (hinj : ∀ i ∈ l, ∀ j ∈ l, ρ i = ρ j → i = j) {i : Nat} (hi : i ∈ l) : unrn ρ l (ρ i) = some i := by
  have : ∀ (m : List Nat), (∀ j ∈ m, j ∈ l) → i ∈ m → unrn ρ m (ρ i) = some i := by
    intro m
    induction m with
    | nil => intro _ h; simp at h
    | cons j r ih =>
      intro hm hi'
      unfold unrn
      by_cases e : ρ j = ρ i
      · rw [if_pos e, hinj j (hm j (by simp)) i hi e]
      · rw [if_neg e]
        rcases List.mem_cons.1 hi' with rfl | h
        · exact absurd rfl e
        · exact ih (fun j hj => hm j (List.mem_cons_of_mem _ hj)) h
  exact this l (fun _ h => h) hi
theorem unrn_none {ρ : Nat → Nat} {k : Nat} : ∀ {l : List Nat}, (∀ i ∈ l, ρ i ≠ k) → unrn ρ l k = none
  | [], _ => rfl
  | j :: r, h => by
    unfold unrn
    rw [if_neg (h j (by simp))]
    exact unrn_none fun i hi => h i (List.mem_cons_of_mem _ hi)
section
variable {P : Program} {σ0 σ1 σ σ'' : Sg} {g g0 g1 g'' : Gh} {w w' : World} {ρ : Nat → Nat}
theorem rn1_pull (hl : ∀ id ob, lk id σ0 = some ob → lk (ρ id) σ = some (rnOb ρ ob)) {s : SV} (hs : rs1 σ0 s = true) {v : Value} (hv : SR σ g w (rnSV.rn1 ρ s) v) : SR σ0 ⟨g.K, fun i => g.μ (ρ i)⟩ w s v := by
  have chain : ∀ c, (lk c σ0).isSome = true → ∀ {e sz st xs}, lk (ρ c) σ = some (.chain e sz st xs) → lk c σ0 = some (.chain e sz st xs) := by
    intro c hc e sz st xs h
    obtain ⟨ob, hob⟩ := Option.isSome_iff_exists.1 hc
    have := hl c ob hob
    rw [h] at this
    cases ob with
    | box cs => cases this
    | chain => cases this; exact hob
    | x _ => cases this
  have oth : ∀ c, (lk c σ0).isSome = true → ∀ {o}, lk (ρ c) σ = some (.x o) → ∃ o', lk c σ0 = some (.x o') ∧ o.kd = o'.kd := by
    intro c hc o h
    obtain ⟨ob, hob⟩ := Option.isSome_iff_exists.1 hc
    have := hl c ob hob
    rw [h] at this
    cases ob with
    | box cs' => cases this
    | chain => cases this
    | x o' => cases this; exact ⟨o', hob, rnO2_kd _ _⟩
  have box : ∀ c, (lk c σ0).isSome = true → ∀ {cs}, lk (ρ c) σ = some (.box cs) → ∃ cs', lk c σ0 = some (.box cs') := by
    intro c hc cs h
    obtain ⟨ob, hob⟩ := Option.isSome_iff_exists.1 hc
    have := hl c ob hob
    rw [h] at this
    cases ob with
    | box cs' => exact ⟨cs', hob⟩
    | chain => cases this
    | x _ => cases this
  cases s with
  | d x => cases hv with | d _ _ h => exact .d _ _ h
  | o c st n =>
    cases hv with
    | old _ _ _ e sz st' xs v h hlt h1 => exact .old c st n e sz st' xs v (chain c hs h) hlt h1
    | o _ _ _ e sz xs a cap h hn hμ => exact .o c st n e sz xs a cap (chain c hs h) hn hμ
  | b id off =>
    cases hv with
    | b _ _ cs k h hμ => obtain ⟨cs', h'⟩ := box id hs h; exact .b id off cs' k h' hμ
  | se e off => cases hv with | se _ _ k l vs h1 h2 h3 => exact .se e off k l vs h1 h2 h3
  | oe c st i off =>
    cases hv with
    | oeold _ _ _ _ e sz st' xs v h hlt h1 => exact .oeold c st i off e sz st' xs v (chain c hs h) hlt h1
    | oe _ _ _ _ e sz xs k cap h hμ => exact .oe c st i off e sz xs k cap (chain c hs h) hμ
  | f => cases hs
  | j => cases hv with | j _ h => exact .j _ h
  | h id =>
    cases hv with
    | h _ o k h hμ => obtain ⟨o', h', hk⟩ := oth id hs h; rw [hk]; exact .h id o' k h' hμ
  | sb id off n cap =>
    cases hv with
    | sb _ _ _ _ cs k h hμ hn hc => obtain ⟨cs', h'⟩ := box id hs h; exact .sb id off n cap cs' k h' hμ hn hc
theorem rnSV_pull (hl : ∀ id ob, lk id σ0 = some ob → lk (ρ id) σ = some (rnOb ρ ob)) {s : SV} (hs : rsSV σ0 s = true) {v : Value} (hv : SR σ g w (rnSV ρ s) v) : SR σ0 ⟨g.K, fun i => g.μ (ρ i)⟩ w s v := by
  cases s with
  | f fn a b =>
    simp only [rsSV, Bool.and_eq_true, List.all_eq_true] at hs
    cases hv with
    | f _ _ _ v1 v2 h1 h2 r1 r2 =>
      refine .f fn a b v1 v2 (by simpa using h1) (by simpa using h2) (fun i s v hi hv => ?_) (fun i s v hi hv => ?_)
      · exact rn1_pull hl (hs.1 s (List.mem_of_getElem? hi)) (r1 i _ v (by rw [List.getElem?_map, hi]; rfl) hv)
      · exact rn1_pull hl (hs.2 s (List.mem_of_getElem? hi)) (r2 i _ v (by rw [List.getElem?_map, hi]; rfl) hv)
  | d x => exact rn1_pull hl (s := .d x) hs hv
  | o c st n => exact rn1_pull hl (s := .o c st n) hs hv
  | b id off => exact rn1_pull hl (s := .b id off) hs hv
  | se e off => exact rn1_pull hl (s := .se e off) hs hv
  | oe c st i off => exact rn1_pull hl (s := .oe c st i off) hs hv
  | j => exact rn1_pull hl (s := .j) hs hv
  | h id => exact rn1_pull hl (s := .h id) hs hv
  | sb id off n cap => exact rn1_pull hl (s := .sb id off n cap) hs hv
theorem rnAV1_pull (hl : ∀ id ob, lk id σ0 = some ob → lk (ρ id) σ = some (rnOb ρ ob)) {x : AV} (hs : rsAV1 σ0 x = true) {v : Value} (hv : VR1 σ g w (rnAV1 ρ x) v) : VR1 σ0 ⟨g.K, fun i => g.μ (ρ i)⟩ w x v := by
  cases x with
  | x s => exact rnSV_pull hl hs hv
  | a cs =>
    simp only [rsAV1, List.all_eq_true] at hs
    obtain ⟨vs, rfl, h1, h2⟩ := hv
    exact ⟨vs, rfl, by simpa using h1, fun i s u hi hu => rnSV_pull hl (hs s (List.mem_of_getElem? hi)) (h2 i _ u (by rw [List.getElem?_map, hi]; rfl) hu)⟩
  | _ => exact hv.elim
theorem rnAV_pull (hl : ∀ id ob, lk id σ0 = some ob → lk (ρ id) σ = some (rnOb ρ ob)) {x : AV} (hs : rsAV2 σ0 x = true) {v : Value} (hv : VR2 σ g w (rnAV ρ x) v) : VR2 σ0 ⟨g.K, fun i => g.μ (ρ i)⟩ w x v := by
  cases x with
  | t xs =>
    simp only [rsAV2, List.all_eq_true] at hs
    obtain ⟨vs, rfl, h1, h2⟩ := hv
    exact ⟨vs, rfl, by simpa using h1, fun i s u hi hu => rnAV1_pull hl (hs s (List.mem_of_getElem? hi)) (h2 i _ u (by rw [List.getElem?_map, hi]; rfl) hu)⟩
  | x s => exact rnAV1_pull (x := .x s) hl hs hv
  | a cs => exact rnAV1_pull (x := .a cs) hl hs hv
  | g _ _ => exact hv.elim
theorem rnV_pull (hl : ∀ id ob, lk id σ0 = some ob → lk (ρ id) σ = some (rnOb ρ ob)) {x : AV} (hs : rsAV σ0 x = true) {v : Value} (hv : VR σ g w (rnV ρ x) v) : VR σ0 ⟨g.K, fun i => g.μ (ρ i)⟩ w x v := by
  cases x with
  | g c y => exact ⟨fun hc => rnAV_pull hl hs (hv.1 hc), hv.2⟩
  | t xs => exact rnAV_pull (x := .t xs) hl hs hv
  | x s => exact rnAV_pull (x := .x s) hl hs hv
  | a cs => exact rnAV_pull (x := .a cs) hl hs hv
theorem rnSV_dat {ρ : Nat → Nat} {s : SV} (h : datS s = true) : rnSV ρ s = s := by cases s <;> first | rfl | cases h
theorem rnAV1_dat {ρ : Nat → Nat} {x : AV} (h : datAV x = true) : rnAV1 ρ x = x := by
  cases x with
  | x s => exact congrArg AV.x (rnSV_dat h)
  | a cs =>
    simp only [datAV, List.all_eq_true] at h
    show AV.a (cs.map (rnSV ρ)) = .a cs
    rw [List.map_congr_left (fun s hs => rnSV_dat (h s hs)), List.map_id']
  | _ => cases h
theorem rnO2_pull (hl : ∀ id ob, lk id σ0 = some ob → lk (ρ id) σ = some (rnOb ρ ob)) {o : Ob2} (hs : rsO2 σ0 o = true) {b : Nat} (hv : O2 σ g w b (rnO2 ρ o)) : O2 σ0 ⟨g.K, fun i => g.μ (ρ i)⟩ w b o := by
  cases o with
  | map kt kvs =>
    obtain ⟨es, h1, h2, h3, h4, h5, h6⟩ := hv
    refine ⟨es, h1, h2, fun i k x hi => ?_, h4, h5, h6⟩
    obtain ⟨e, a, c, d, f⟩ := h3 i k x hi
    have hd := h6 i k x hi
    exact ⟨e, a, c, d, rnAV1_pull hl (rsAV1_dat hd) (by rw [rnAV1_dat hd]; exact f)⟩
  | mapIter m since seen last =>
    cases m with
    | some m => obtain ⟨mb, h1, h2⟩ := hv; exact ⟨mb, h1, rn1_pull hl (s := .h m) hs h2⟩
    | none => exact hv
  | strIter s pos => exact hv
  | loop st pend params assign body nt fr dfr =>
    simp only [rsO2, Bool.and_eq_true] at hs
    obtain ⟨f, tmps, d, h1, h2, h3, h4⟩ := hv
    refine ⟨f, tmps, d, h1, h2, fun t v ht => ?_, rn1_pull hl (s := .h dfr) hs.2 h4⟩
    have := h3 t (rnV ρ v) (by rw [lk_rnFr, ht]; rfl)
    exact ⟨this.1, rnV_pull hl (rsFr_get hs.1 t v ht) this.2⟩
  | dfr => exact hv
theorem rnSV_push (hl : ∀ id ob, lk id σ1 = some ob → lk (ρ id) σ'' = some (rnOb ρ ob) ∧ g''.μ (ρ id) = g1.μ id) (hK : g''.K = g1.K) {s : SV} {v : Value} (hv : SR σ1 g1 w s v) : SR σ'' g'' w (rnSV ρ s) v ∧ SR σ'' g'' w (rnSV.rn1 ρ s) v := by
  induction hv with
  | d x v h => exact ⟨.d x v (by rw [hK]; exact h), .d x v (by rw [hK]; exact h)⟩
  | old c st n e sz st' xs v h hlt h1 => exact ⟨.old _ st n e sz st' xs v (hl _ _ h).1 hlt h1, .old _ st n e sz st' xs v (hl _ _ h).1 hlt h1⟩
  | o c st n e sz xs a cap h hn hμ => exact ⟨.o _ st n e sz xs a cap (hl _ _ h).1 hn (by rw [(hl _ _ h).2, hμ]), .o _ st n e sz xs a cap (hl _ _ h).1 hn (by rw [(hl _ _ h).2, hμ])⟩
  | b id off cs k h hμ => exact ⟨.b _ off _ k (hl _ _ h).1 (by rw [(hl _ _ h).2, hμ]), .b _ off _ k (hl _ _ h).1 (by rw [(hl _ _ h).2, hμ])⟩
  | se e off k l vs h1 h2 h3 => exact ⟨.se e off k l vs (by rw [hK]; exact h1) h2 (by rw [hK]; exact h3), .se e off k l vs (by rw [hK]; exact h1) h2 (by rw [hK]; exact h3)⟩
  | oeold c st i off e sz st' xs v h hlt h1 => exact ⟨.oeold _ st i off e sz st' xs v (hl _ _ h).1 hlt h1, .oeold _ st i off e sz st' xs v (hl _ _ h).1 hlt h1⟩
  | oe c st i off e sz xs k cap h hμ => exact ⟨.oe _ st i off e sz xs k cap (hl _ _ h).1 (by rw [(hl _ _ h).2, hμ]), .oe _ st i off e sz xs k cap (hl _ _ h).1 (by rw [(hl _ _ h).2, hμ])⟩
  | f fn a b v1 v2 h1 h2 _ _ ih1 ih2 =>
    refine ⟨.f fn _ _ v1 v2 (by simpa using h1) (by simpa using h2) (fun i s v hi hv => ?_) (fun i s v hi hv => ?_), .j _ rfl⟩
    · rw [List.getElem?_map] at hi
      cases hs : a[i]? with
      | none => rw [hs] at hi; cases hi
      | some s0 => rw [hs] at hi; cases hi; exact (ih1 i s0 v hs hv).2
    · rw [List.getElem?_map] at hi
      cases hs : b[i]? with
      | none => rw [hs] at hi; cases hi
      | some s0 => rw [hs] at hi; cases hi; exact (ih2 i s0 v hs hv).2
  | j v h1 => exact ⟨.j v h1, .j v h1⟩
  | h id o k h hμ =>
    have e := (rnO2_kd ρ o).symm
    rw [e]
    exact ⟨.h _ _ k (hl _ _ h).1 (by rw [(hl _ _ h).2, hμ]), .h _ _ k (hl _ _ h).1 (by rw [(hl _ _ h).2, hμ])⟩
  | sb id off n cap cs k h hμ hn hc => exact ⟨.sb _ off n cap _ k (hl _ _ h).1 (by rw [(hl _ _ h).2, hμ]) hn hc, .sb _ off n cap _ k (hl _ _ h).1 (by rw [(hl _ _ h).2, hμ]) hn hc⟩
theorem rnAV1_push (hl : ∀ id ob, lk id σ1 = some ob → lk (ρ id) σ'' = some (rnOb ρ ob) ∧ g''.μ (ρ id) = g1.μ id) (hK : g''.K = g1.K) {x : AV} {v : Value} (hv : VR1 σ1 g1 w x v) : VR1 σ'' g'' w (rnAV1 ρ x) v := by
  cases x with
  | x s => exact (rnSV_push hl hK hv).1
  | a cs =>
    obtain ⟨vs, rfl, h1, h2⟩ := hv
    refine ⟨vs, rfl, by simpa using h1, fun i s u hi hu => ?_⟩
    rw [List.getElem?_map] at hi
    cases hs : cs[i]? with
    | none => rw [hs] at hi; cases hi
    | some s0 => rw [hs] at hi; cases hi; exact (rnSV_push hl hK (h2 i s0 u hs hu)).1
  | _ => exact hv.elim
theorem rnAV_push (hl : ∀ id ob, lk id σ1 = some ob → lk (ρ id) σ'' = some (rnOb ρ ob) ∧ g''.μ (ρ id) = g1.μ id) (hK : g''.K = g1.K) {x : AV} {v : Value} (hv : VR2 σ1 g1 w x v) : VR2 σ'' g'' w (rnAV ρ x) v := by
  have one := fun (x : AV) (v : Value) (hv : VR1 σ1 g1 w x v) => rnAV1_push (g'' := g'') hl hK hv
  cases x with
  | t xs =>
    obtain ⟨vs, rfl, h1, h2⟩ := hv
    refine ⟨vs, rfl, by simpa using h1, fun i s u hi hu => ?_⟩
    rw [List.getElem?_map] at hi
    cases hs : xs[i]? with
    | none => rw [hs] at hi; cases hi
    | some s0 => rw [hs] at hi; cases hi; exact one _ _ (h2 i s0 u hs hu)
  | x s => exact one (.x s) v hv
  | a cs => exact one (.a cs) v hv
  | g _ _ => exact hv.elim
theorem rnV_push (hl : ∀ id ob, lk id σ1 = some ob → lk (ρ id) σ'' = some (rnOb ρ ob) ∧ g''.μ (ρ id) = g1.μ id) (hK : g''.K = g1.K) {x : AV} {v : Value} (hv : VR σ1 g1 w x v) : VR σ'' g'' w (rnV ρ x) v := by
  have up : ∀ {x : AV} {v : Value}, VR2 σ1 g1 w x v → VR2 σ'' g'' w (rnAV ρ x) v := fun h => rnAV_push (g'' := g'') hl hK h
  cases x with
  | g c y => exact ⟨fun hc => up (hv.1 hc), hv.2⟩
  | t xs => exact VR_of_VR2 (up (x := .t xs) hv)
  | x s => exact VR_of_VR2 (up (x := .x s) hv)
  | a cs => exact VR_of_VR2 (up (x := .a cs) hv)
theorem rnO2_push (hl : ∀ id ob, lk id σ1 = some ob → lk (ρ id) σ'' = some (rnOb ρ ob) ∧ g''.μ (ρ id) = g1.μ id) (hK : g''.K = g1.K) {b : Nat} {o : Ob2} (hv : O2 σ1 g1 w b o) : O2 σ'' g'' w b (rnO2 ρ o) := by
  cases o with
  | map kt kvs =>
    obtain ⟨es, h1, h2, h3, h4, h5, h6⟩ := hv
    refine ⟨es, h1, h2, fun i k x hi => ?_, h4, h5, h6⟩
    obtain ⟨e, a, c, d, f⟩ := h3 i k x hi
    exact ⟨e, a, c, d, by have := rnAV1_push hl hK f; rwa [rnAV1_dat (h6 i k x hi)] at this⟩
  | mapIter m since seen last =>
    cases m with
    | some m => obtain ⟨mb, h1, h2⟩ := hv; exact ⟨mb, h1, (rnSV_push hl hK h2).1⟩
    | none => exact hv
  | strIter s pos => exact hv
  | loop st pend params assign body nt fr dfr =>
    obtain ⟨f, tmps, d, h1, h2, h3, h4⟩ := hv
    refine ⟨f, tmps, d, h1, h2, fun t v ht => ?_, (rnSV_push hl hK h4).1⟩
    rw [lk_rnFr] at ht
    cases hx : lk t fr with
    | none => rw [hx] at ht; cases ht
    | some x => rw [hx] at ht; cases ht; exact ⟨(h3 t x hx).1, rnV_push hl hK (h3 t x hx).2⟩
  | dfr => exact hv
end
def after (ρ : Nat → Nat) (σ0 σ1 σ : Sg) : Sg := rnSg ρ σ1 ++ dropK ((σ0.map (·.1)).map ρ) σ
def okNames (ρ : Nat → Nat) (σ0 σ1 σ : Sg) : Bool :=
  injK ρ (σ1.map (·.1)) && (σ0.map (·.1)).all (fun i => (σ1.map (·.1)).any (Nat.beq i)) && (σ1.map (·.1)).all (fun i => (σ0.map (·.1)).any (Nat.beq i) || !((σ.map (·.1)).any (Nat.beq (ρ i))))
def SubR (ρ : Nat → Nat) (σ : Sg) : Sg → Prop
  | [] => True
  | (i, o) :: r => lk (ρ i) σ = some (rnOb ρ o) ∧ SubR ρ σ r
theorem SubR_ok {ρ : Nat → Nat} {σ : Sg} : ∀ {σ0 : Sg}, SubR ρ σ σ0 → ∀ id ob, lk id σ0 = some ob → lk (ρ id) σ = some (rnOb ρ ob)
  | [], _, id, ob, h => by cases h
  | (j, o) :: r, hs, id, ob, h => by
    rw [lk_cons] at h
    by_cases e : j = id
    · subst e; rw [if_pos rfl] at h; cases h; exact hs.1
    · rw [if_neg e] at h; exact SubR_ok hs.2 id ob h
theorem ACall.frame {P : Program} {f : FuncId} {args : List AV} {σ0 σ : Sg} {R : AV → Sg → Prop} (h : ACall P f args σ0 R) (ρ : Nat → Nat) (hl : SubR ρ σ σ0)
    (hc : (args.all (rsAV2 σ0) && rsSg σ0 σ0 && injK ρ (σ0.map (·.1))) = true) (hn : ∀ r1 σ1, R r1 σ1 → okNames ρ σ0 σ1 σ = true) :
    ACall P f (args.map (rnAV ρ)) σ (fun r σ' => ∃ r1 σ1, R r1 σ1 ∧ r = rnAV ρ r1 ∧ σ' = after ρ σ0 σ1 σ) := by
  refine ⟨h.1, fun w0 K0 g w vs hL hp hs hv => ?_⟩
  have hl := SubR_ok hl
  simp only [Bool.and_eq_true, List.all_eq_true] at hc
  obtain ⟨⟨hca, hcs⟩, hinj0⟩ := hc
  have hinj0 := injK_ok hinj0
  have dom0 : ∀ {i : Nat}, (lk i σ0).isSome = true → (lk (ρ i) σ).isSome = true := fun {i} hi => by
    obtain ⟨ob, hob⟩ := Option.isSome_iff_exists.1 hi
    rw [hl i ob hob]; rfl
  let g0 : Gh := ⟨g.K, fun i => g.μ (ρ i)⟩
  let F' : Nat → Prop := fun b => b < w.heap.size ∧ ∀ i, (lk i σ0).isSome = true → blk (g.μ (ρ i)) ≠ some b
  have hp0 : Hp w ⟨g.K, F'⟩ σ0 g0 w := by
    refine ⟨.refl _ _, fun b hb => hb.1, .refl _ _, fun _ _ _ h => h, hp.val, fun id ob hid => ?_, fun id b hid hb hF => hF.2 id hid hb, fun i j b hi hj hbi hbj => ?_⟩
    · have hO := hp.obs (ρ id) _ (hl id ob hid)
      cases ob with
      | box cs =>
        have hcs' := rsSg_get hcs _ _ hid
        simp only [rsOb, List.all_eq_true] at hcs'
        obtain ⟨b, us, T, k1, k2, k3, k4, k5, k6⟩ := hO
        refine ⟨b, us, T, k1, k2, k3, by simpa using k4, fun i s hi => ?_, k6⟩
        obtain ⟨v, hv, hr⟩ := k5 i (rnSV ρ s) (by rw [List.getElem?_map, hi]; rfl)
        exact ⟨v, hv, rnSV_pull hl (hcs' s (List.mem_of_getElem? hi)) hr⟩
      | chain e sz st xs => exact hO
      | x o => obtain ⟨b, k1, k2, k3, k4⟩ := hO; exact ⟨b, k1, k2, rnO2_pull hl (rsSg_get hcs _ _ hid) k3, k4⟩
    · have := hp.inj (ρ i) (ρ j) b (dom0 hi) (dom0 hj) hbi hbj
      exact hinj0 i (lk_isSome_mem.1 hi) j (lk_isSome_mem.1 hj) this
  refine (h.2 w ⟨g.K, F'⟩ g0 w vs (hL.mono hp.ext) hp0 (by simpa using hs) fun i x v hi hu => ?_).mono ?_
  · exact rnAV_pull hl (hca x (List.mem_of_getElem? hi)) (hv i (rnAV ρ x) v (by rw [List.getElem?_map, hi]; rfl) hu)
  rintro e w' ⟨v, g1, σ1, r1, he, hd, hvr, hR⟩
  have hon := hn r1 σ1 hR
  unfold okNames at hon
  simp only [Bool.and_eq_true, List.all_eq_true, Bool.or_eq_true, Bool.not_eq_true', any_beq] at hon
  obtain ⟨⟨hi1, hsub⟩, hnew⟩ := hon
  have hi1 := injK_ok hi1
  let ks := σ1.map (·.1)
  let g'' : Gh := ⟨g1.K, fun k => match unrn ρ ks k with | some i => g1.μ i | none => g.μ k⟩
  have out : ∀ {k : Nat}, (lk k σ).isSome = true → (∀ i, (lk i σ0).isSome = true → ρ i ≠ k) → ∀ i ∈ ks, ρ i ≠ k := by
    intro k hk hno i hi he'
    rcases hnew i hi with h1 | h1
    · exact hno i (lk_isSome_mem.2 h1) he'
    · have : ρ i ∈ σ.map (·.1) := by rw [he']; exact lk_isSome_mem.1 hk
      rw [any_beq.2 this] at h1; cases h1
  have lkin : ∀ {i : Nat}, i ∈ ks → lk (ρ i) (after ρ σ0 σ1 σ) = (lk i σ1).map (rnOb ρ) ∧ g''.μ (ρ i) = g1.μ i := by
    intro i hi
    have h1 := lk_rnSg (ρ := ρ) (σ := σ1) (ks := ks) hi1 (fun _ h => h) hi
    refine ⟨?_, ?_⟩
    · unfold after
      rw [lk_append, h1]
      obtain ⟨ob, hob⟩ := Option.isSome_iff_exists.1 (lk_isSome_mem.2 hi)
      rw [hob]; rfl
    · show (match unrn ρ ks (ρ i) with | some i => g1.μ i | none => _) = _
      rw [unrn_mem hi1 hi]
  have lkout : ∀ {k : Nat}, (∀ i ∈ ks, ρ i ≠ k) → (∀ i, (lk i σ0).isSome = true → ρ i ≠ k) → lk k (after ρ σ0 σ1 σ) = lk k σ ∧ g''.μ k = g.μ k := by
    intro k hk hk0
    refine ⟨?_, ?_⟩
    · unfold after
      rw [lk_append, lk_rnSg_none hk]
      exact lk_dropK_out (fun hm => by
        obtain ⟨i, hi, he'⟩ := List.mem_map.1 hm
        exact hk0 i (lk_isSome_mem.2 hi) he') σ
    · show (match unrn ρ ks k with | some i => g1.μ i | none => _) = _
      rw [unrn_none hk]
  have hlp : ∀ id ob, lk id σ1 = some ob → lk (ρ id) (after ρ σ0 σ1 σ) = some (rnOb ρ ob) ∧ g''.μ (ρ id) = g1.μ id := by
    intro id ob hid
    have := lkin (i := id) (lk_isSome_mem.1 (by rw [hid]; rfl))
    rw [hid] at this; exact this
  have hext : Ext g.K w g1.K w' := hd.hp.ext
  have leaf : ∀ {s : SV} {u : Value}, SR σ0 g0 w s u → SR (after ρ σ0 σ1 σ) g'' w' (rnSV ρ s) u := fun hs => (rnSV_push hlp rfl (hd.keep _ _ hs)).1
  have isin : ∀ k, (∃ i, (lk i σ0).isSome = true ∧ ρ i = k) ∨ (∀ i, (lk i σ0).isSome = true → ρ i ≠ k) := by
    intro k
    by_cases hk : ∃ i, (lk i σ0).isSome = true ∧ ρ i = k
    · exact .inl hk
    · exact .inr fun i hi he' => hk ⟨i, hi, he'⟩
  have keep : ∀ s u, SR σ g w s u → SR (after ρ σ0 σ1 σ) g'' w' s u := by
    intro s u hs
    induction hs with
    | d x v h => exact .d x v (h.mono hext)
    | old c st n e sz st' xs v h hlt h1 =>
      rcases isin c with ⟨i, hi, rfl⟩ | hno
      · exact leaf (s := .o i st n) (rn1_pull hl (s := .o i st n) hi (SR.old (σ := σ) (ρ i) st n e sz st' xs v h hlt h1))
      · have := lkout (out (by rw [h]; rfl) hno) hno
        exact .old c st n e sz st' xs v (by rw [this.1]; exact h) hlt h1
    | o c st n e sz xs a cap h hn hμ =>
      rcases isin c with ⟨i, hi, rfl⟩ | hno
      · exact leaf (s := .o i st n) (rn1_pull hl (s := .o i st n) hi (SR.o (σ := σ) (ρ i) st n e sz xs a cap h hn hμ))
      · have := lkout (out (by rw [h]; rfl) hno) hno
        exact .o c st n e sz xs a cap (by rw [this.1]; exact h) hn (by rw [this.2]; exact hμ)
    | b id off cs k h hμ =>
      rcases isin id with ⟨i, hi, rfl⟩ | hno
      · exact leaf (s := .b i off) (rn1_pull hl (s := .b i off) hi (SR.b (σ := σ) (ρ i) off cs k h hμ))
      · have := lkout (out (by rw [h]; rfl) hno) hno
        exact .b id off cs k (by rw [this.1]; exact h) (by rw [this.2]; exact hμ)
    | se e off k l vs hK hc' hr =>
      exact .se e off k l vs (fun j hj => hext.sub _ _ (hK j hj)) (fun j hj => by rw [hext.cell _ _ (hK j hj)]; exact hc' j hj) (fun j x hx => (hr j x hx).mono hext)
    | oeold c st i0 off e sz st' xs v h hlt h1 =>
      rcases isin c with ⟨i, hi, rfl⟩ | hno
      · exact leaf (s := .oe i st i0 off) (rn1_pull hl (s := .oe i st i0 off) hi (SR.oeold (σ := σ) (ρ i) st i0 off e sz st' xs v h hlt h1))
      · have := lkout (out (by rw [h]; rfl) hno) hno
        exact .oeold c st i0 off e sz st' xs v (by rw [this.1]; exact h) hlt h1
    | oe c st i0 off e sz xs k cap h hμ =>
      rcases isin c with ⟨i, hi, rfl⟩ | hno
      · exact leaf (s := .oe i st i0 off) (rn1_pull hl (s := .oe i st i0 off) hi (SR.oe (σ := σ) (ρ i) st i0 off e sz xs k cap h hμ))
      · have := lkout (out (by rw [h]; rfl) hno) hno
        exact .oe c st i0 off e sz xs k cap (by rw [this.1]; exact h) (by rw [this.2]; exact hμ)
    | f fn first captured v1 v2 h1 h2 _ _ ih1 ih2 => exact .f fn first captured v1 v2 h1 h2 ih1 ih2
    | j v h1 => exact .j v h1
    | h id o k h hμ =>
      rcases isin id with ⟨i, hi, rfl⟩ | hno
      · exact leaf (s := .h i) (rn1_pull hl (s := .h i) hi (SR.h (σ := σ) (ρ i) o k h hμ))
      · have := lkout (out (by rw [h]; rfl) hno) hno
        exact .h id o k (by rw [this.1]; exact h) (by rw [this.2]; exact hμ)
    | sb id off n cap cs k h hμ hn' hc' =>
      rcases isin id with ⟨i, hi, rfl⟩ | hno
      · exact leaf (s := .sb i off n cap) (rn1_pull hl (s := .sb i off n cap) hi (SR.sb (σ := σ) (ρ i) off n cap cs k h hμ hn' hc'))
      · have := lkout (out (by rw [h]; rfl) hno) hno
        exact .sb id off n cap cs k (by rw [this.1]; exact h) (by rw [this.2]; exact hμ) hn' hc'
  have fsub : ∀ b, K0.F b → F' b := fun b hb => ⟨hp.F_lt b hb, fun i hi he' => hp.own (ρ i) b (dom0 hi) he' hb⟩
  have cases' : ∀ {k : Nat}, (lk k (after ρ σ0 σ1 σ)).isSome = true → (∃ i, i ∈ ks ∧ ρ i = k) ∨ ((∀ i ∈ ks, ρ i ≠ k) ∧ (∀ i, (lk i σ0).isSome = true → ρ i ≠ k) ∧ (lk k σ).isSome = true) := by
    intro k hk
    by_cases hin : ∃ i, i ∈ ks ∧ ρ i = k
    · exact .inl hin
    · have hks : ∀ i ∈ ks, ρ i ≠ k := fun i hi he' => hin ⟨i, hi, he'⟩
      have hk0 : ∀ i, (lk i σ0).isSome = true → ρ i ≠ k := fun i hi => hks i (hsub i (lk_isSome_mem.1 hi))
      refine .inr ⟨hks, hk0, ?_⟩
      rw [(lkout hks hk0).1] at hk; exact hk
  have frameF : ∀ {k b : Nat}, (lk k σ).isSome = true → (∀ i, (lk i σ0).isSome = true → ρ i ≠ k) → blk (g.μ k) = some b → F' b := by
    intro k b hk hno hb
    obtain ⟨ob, hob⟩ := Option.isSome_iff_exists.1 hk
    exact ⟨((hp.obs k ob hob).blk_lt hb).2, fun i hi he' => hno i hi (hp.inj (ρ i) k b (dom0 hi) hk he' hb)⟩
  have hd1 := hd.hp
  refine ⟨v, g'', after ρ σ0 σ1 σ, rnAV ρ r1, he, ⟨⟨?_, hp.flt, hp.ext.trans hext, ?_, hd1.val, ?_, ?_, ?_⟩, keep⟩, rnAV_push hlp rfl hvr, r1, σ1, hR, rfl, rfl⟩
  · exact hp.kept.trans ⟨hd1.kept.os, hd1.kept.tape, hd1.kept.output, hd1.kept.size, fun b hb => hd1.kept.block b (fsub b hb)⟩
  · exact fun b o hF hk => hp.old b o hF (hd1.old b o (fsub b hF) hk)
  · intro k ob hk
    rcases cases' (by rw [hk]; rfl) with ⟨i, hi, rfl⟩ | ⟨hks, hk0, hkσ⟩
    · have h2 := lkin hi
      obtain ⟨ob1, hob1⟩ := Option.isSome_iff_exists.1 (lk_isSome_mem.2 hi)
      rw [hob1, hk] at h2
      obtain ⟨h2, h3⟩ := h2
      cases h2
      have hO := hd1.obs i ob1 hob1
      cases ob1 with
      | box cs =>
        obtain ⟨b, us, T, k1, k2, k3, k4, k5, k6⟩ := hO
        refine ⟨b, us, T, by rw [h3]; exact k1, k2, k3, by simpa using k4, fun j s hj => ?_, k6⟩
        rw [List.getElem?_map] at hj
        cases hs' : cs[j]? with
        | none => rw [hs'] at hj; cases hj
        | some s0 =>
          rw [hs'] at hj; cases hj
          obtain ⟨u, hu, hr⟩ := k5 j s0 hs'
          exact ⟨u, hu, (rnSV_push hlp rfl hr).1⟩
      | chain e sz st xs =>
        obtain ⟨us, k1, k2, k3, k4, k5⟩ := hO
        exact ⟨us, by rw [h3]; exact k1, by rw [h3]; exact k2, k3, k4, fun b hb => k5 b (by rw [← h3]; exact hb)⟩
      | x o => obtain ⟨b, k1, k2, k3, k4⟩ := hO; exact ⟨b, by rw [h3]; exact k1, k2, rnO2_push hlp rfl k3, k4⟩
    · have h2 := lkout hks hk0
      rw [h2.1] at hk
      have hO := hp.obs k ob hk
      refine hO.keep keep hext h2.2 (fun b hb => hd1.kept.block b (frameF hkσ hk0 hb)) (fun b hb o hkk => ?_)
      exact hp.notK hk hb o (hd1.old b o (frameF hkσ hk0 hb) hkk)
  · intro k b hk hb hF
    rcases cases' hk with ⟨i, hi, rfl⟩ | ⟨hks, hk0, hkσ⟩
    · rw [(lkin hi).2] at hb
      exact hd1.own i b (lk_isSome_mem.2 hi) hb (fsub b hF)
    · rw [(lkout hks hk0).2] at hb
      exact hp.own k b hkσ hb hF
  · intro k k' b hk hk' hb hb'
    rcases cases' hk with ⟨i, hi, rfl⟩ | ⟨hks, hk0, hkσ⟩ <;> rcases cases' hk' with ⟨j, hj, rfl⟩ | ⟨hks', hk0', hkσ'⟩
    · rw [(lkin hi).2] at hb; rw [(lkin hj).2] at hb'
      rw [hd1.inj i j b (lk_isSome_mem.2 hi) (lk_isSome_mem.2 hj) hb hb']
    · rw [(lkin hi).2] at hb; rw [(lkout hks' hk0').2] at hb'
      exact absurd (frameF hkσ' hk0' hb') (hd1.own i b (lk_isSome_mem.2 hi) hb)
    · rw [(lkout hks hk0).2] at hb; rw [(lkin hj).2] at hb'
      exact absurd (frameF hkσ hk0 hb) (hd1.own j b (lk_isSome_mem.2 hj) hb')
    · rw [(lkout hks hk0).2] at hb; rw [(lkout hks' hk0').2] at hb'
      exact hp.inj k k' b hkσ hkσ' hb hb'
end Go.QL
namespace Go.QL
open Go Go.RowKit
def rowPV (σ σ' : Sg) : SV → Option PV
  | .d p => some p
  | .o c st n => match lk c σ' with
    | some _ => none
    | none => (match viewSV σ (.o c st n) with | some (.d p) => some p | _ => none)
  | _ => none
def rowPVs (σ σ' : Sg) : List SV → Option (List PV)
  | [] => some []
  | s :: r => match rowPV σ σ' s, rowPVs σ σ' r with | some t, some l => some (t :: l) | _, _ => none
def keepSV (σ σ' : Sg) : SV → Option SV
  | .d p => some (.d p)
  | .se e off => some (.se e off)
  | .j => some .j
  | .o c st n => match lk c σ' with
    | some _ => some (.o c st n)
    | none => viewSV σ (.o c st n)
  | .b id off => match lk id σ' with
    | some _ => some (.b id off)
    | none => none
  | .oe c st i off => match lk c σ' with
    | some _ => some (.oe c st i off)
    | none => none
  | .h id => match lk id σ' with
    | some _ => some (.h id)
    | none => none
  | .sb id off n cap => match lk id σ' with
    | some _ => some (.sb id off n cap)
    | none => (match lk id σ with
      | some (.box cs) => (match off, rowPVs σ σ' cs with
        | 0, some ps => if n = ps.length then some (.d (.s 1 (ps.map fun p => [p]))) else none
        | _, _ => none)
      | _ => none)
  | .f fn a b => bif a.all (rs1 σ') && b.all (rs1 σ') then some (.f fn a b) else none
def keepL (σ σ' : Sg) : List SV → Option (List SV)
  | [] => some []
  | s :: r => match keepSV σ σ' s, keepL σ σ' r with | some t, some l => some (t :: l) | _, _ => none
def keepAV1 (σ σ' : Sg) : AV → Option AV
  | .x s => match keepSV σ σ' s with | some t => some (.x t) | none => none
  | .a cs => match keepL σ σ' cs with | some l => some (.a l) | none => none
  | _ => none
def keepAVs (σ σ' : Sg) : List AV → Option (List AV)
  | [] => some []
  | x :: r => match keepAV1 σ σ' x, keepAVs σ σ' r with | some y, some l => some (y :: l) | _, _ => none
def outKeep (tt : TT) (res : List ResultVar) (fr : Fr) (σ σ' : Sg) : Option AV :=
  match resAVs tt σ fr res with
  | some [x] => keepAV1 σ σ' x
  | some xs => (match keepAVs σ σ' xs with | some l => some (.t l) | none => none)
  | none => none
def PostD (tt : TT) (res : List ResultVar) (ids : List Nat) (R : AV → Sg → Prop) : Exit → Fr → Sg → Prop
  | .normal, fr, σ | .ret, fr, σ => ∃ r σ', SubS σ σ' ∧ (rsSg σ' σ' && idsIn ids σ') = true ∧ outKeep tt res fr σ σ' = some r ∧ R r σ'
  | _, _, _ => False
def Kend (σ σ' : Sg) (g : Gh) (w : World) : Nat → Nat → Prop := fun b o => g.K b o ∨ ∃ c ob, lk c σ = some ob ∧ lk c σ' = none ∧ blk (g.μ c) = some b ∧ b < w.heap.size
section
variable {P : Program} {Γ : Cx} {w0 : World} {K0 : Bs} {fr : Fr} {σ σ' : Sg} {g : Gh} {a : Act} {w : World}
theorem Kend_ext : Ext g.K w (Kend σ σ' g w) w := ⟨fun _ _ h => .inl h, fun _ _ _ => rfl⟩
theorem Kend_keep {s : SV} {v : Value} (h : SR σ' g w s v) : SR σ' ⟨Kend σ σ' g w, g.μ⟩ w s v :=
  SR.keep (σ := σ') (σ' := σ') (g := g) (g' := ⟨Kend σ σ' g w, g.μ⟩) (w := w) (w' := w) ⟨fun _ cs h => ⟨rfl, cs, h⟩, fun _ _ _ _ xs h => .inr ⟨rfl, xs, h, rfl⟩, fun _ o h => ⟨rfl, o, h, rfl⟩⟩ Kend_ext h
theorem Hp.atEnd (hp : Hp w0 K0 σ g w) (hs : Sup σ' σ) (ho : rsSg σ' σ' = true) : Hp w0 K0 σ' ⟨Kend σ σ' g w, g.μ⟩ w := by
  have hw := hp.weaken hs ho
  refine ⟨hw.kept, hw.flt, hw.ext.trans Kend_ext, fun b o hF hk => ?_, fun b o hk => ?_, fun id ob hid => ?_, hw.own, hw.inj⟩
  · rcases hk with hk | ⟨c, ob, hl, _, hb, _⟩
    · exact hp.old b o hF hk
    · exact absurd hF (hp.own c b (by rw [hl]; rfl) hb)
  · rcases hk with hk | ⟨c, ob, _, _, _, h⟩
    · exact hp.val b o hk
    · exact h
  · refine (hw.obs id ob hid).keep (fun s v h => Kend_keep h) Kend_ext rfl (fun _ _ => rfl) (fun b hb o hk => ?_)
    rcases hk with hk | ⟨c, ob', hl, hn, hb', _⟩
    · exact hw.notK hid hb o hk
    · have := hp.inj id c b (by rw [hs _ _ hid]; rfl) (by rw [hl]; rfl) hb hb'
      subst this; rw [hid] at hn; cases hn
theorem freezePR (hp : Hp w0 K0 σ g w) {c e sz st n : Nat} {xs : List (List PV)} (hl : lk c σ = some (.chain e sz st xs)) (hn : n ≤ xs.length) {v : Value} (hv : SR σ g w (.o c st n) v) :
    PR (fun b o => g.K b o ∨ (blk (g.μ c) = some b ∧ b < w.heap.size)) w (.s sz (xs.take n)) v := by
  have := Imp.freeze.freeze_one (σ' := []) (a := ⟨#[v], []⟩) (t := 0) hp hl hn (show VR σ g w (.x (.o c st n)) v from hv)
  have h2 : SR [] ⟨fun b o => g.K b o ∨ (blk (g.μ c) = some b ∧ b < w.heap.size), g.μ⟩ w (.d (.s sz (xs.take n))) v := this
  cases h2 with | d _ _ h => exact h
theorem rowPVs_get : ∀ {l : List SV} {t : List PV}, rowPVs σ σ' l = some t → t.length = l.length ∧ ∀ (i : Nat) (y : PV), t[i]? = some y → ∃ s, l[i]? = some s ∧ rowPV σ σ' s = some y
  | [], t, h => by cases h; exact ⟨rfl, fun i y hi => by simp at hi⟩
  | s :: r, t, h => by
    simp only [rowPVs] at h
    cases h1 : rowPV σ σ' s with
    | none => rw [h1] at h; cases h
    | some y =>
      cases h2 : rowPVs σ σ' r with
      | none => rw [h1, h2] at h; cases h
      | some l =>
        rw [h1, h2] at h; cases h
        obtain ⟨e, ih⟩ := rowPVs_get h2
        refine ⟨by simp [e], fun i z hi => ?_⟩
        cases i with
        | zero => cases hi; exact ⟨s, rfl, h1⟩
        | succ i => exact ih i z hi
theorem rowPV_ok (hp : Hp w0 K0 σ g w) {s : SV} {p : PV} (h : rowPV σ σ' s = some p) {v : Value} (hv : SR σ g w s v) : PR (Kend σ σ' g w) w p v := by
  cases s with
  | d q => cases h; cases hv with | d _ _ h => exact h.mono Kend_ext
  | o c st n =>
    simp only [rowPV] at h
    split at h
    · cases h
    · rename_i hno
      simp only [viewSV] at h
      split at h
      · rename_i p' h'
        cases h
        split at h'
        · rename_i e sz st' xs hl
          split at h'
          · rename_i hc; cases h'
            obtain ⟨rfl, hn⟩ := hc
            refine (freezePR hp hl hn hv).mono ⟨fun b o hk => ?_, fun _ _ _ => rfl⟩
            rcases hk with hk | ⟨h1, h2⟩
            · exact .inl hk
            · exact .inr ⟨c, _, hl, hno, h1, h2⟩
          · cases h'
        · cases h'
      · cases h
  | _ => cases h
theorem keepSV_ok (hp : Hp w0 K0 σ g w) (hs : Sup σ' σ) {s t : SV} (h : keepSV σ σ' s = some t) {v : Value} (hv : SR σ g w s v) : SR σ' ⟨Kend σ σ' g w, g.μ⟩ w t v := by
  cases s with
  | d p => cases h; cases hv with | d _ _ h => exact .d _ _ (h.mono Kend_ext)
  | se e off => cases h; exact Kend_keep (rs1_ok hs (s := .se e off) rfl hv)
  | j => cases h; exact Kend_keep (rs1_ok hs (s := .j) rfl hv)
  | o c st n =>
    simp only [keepSV] at h
    split at h
    · rename_i ob hob; cases h
      exact Kend_keep (rs1_ok hs (s := .o c st n) (by simp [rs1, hob]) hv)
    · rename_i hno
      simp only [viewSV] at h
      split at h
      · rename_i e sz st' xs hl
        split at h
        · rename_i hc; cases h
          obtain ⟨rfl, hn⟩ := hc
          refine .d _ _ ((freezePR hp hl hn hv).mono ⟨fun b o hk => ?_, fun _ _ _ => rfl⟩)
          rcases hk with hk | ⟨h1, h2⟩
          · exact .inl hk
          · exact .inr ⟨c, _, hl, hno, h1, h2⟩
        · cases h
      · cases h
  | b id off =>
    simp only [keepSV] at h
    split at h
    · rename_i ob hob; cases h
      exact Kend_keep (rs1_ok hs (s := .b id off) (by simp [rs1, hob]) hv)
    · cases h
  | oe c st i off =>
    simp only [keepSV] at h
    split at h
    · rename_i ob hob; cases h
      exact Kend_keep (rs1_ok hs (s := .oe c st i off) (by simp [rs1, hob]) hv)
    · cases h
  | h id =>
    simp only [keepSV] at h
    split at h
    · rename_i ob hob; cases h
      exact Kend_keep (rs1_ok hs (s := .h id) (by simp [rs1, hob]) hv)
    · cases h
  | sb id off n cap =>
    simp only [keepSV] at h
    split at h
    · rename_i ob hob; cases h
      exact Kend_keep (rs1_ok hs (s := .sb id off n cap) (by simp [rs1, hob]) hv)
    · rename_i hno
      split at h
      · rename_i cs hl
        split at h
        · rename_i ps hps
          split at h
          · rename_i hn
            cases h
            obtain ⟨hpl, hpg⟩ := rowPVs_get hps
            cases hv with
            | sb _ _ _ _ cs' k hl' hμ hn' hc' =>
              rw [hl] at hl'; cases hl'
              obtain ⟨b, vs, T, h1, h2, h3, h4, h5, h6⟩ := hp.obs _ _ hl
              rw [hμ] at h1
              have hkb : k = b := by injection h1 with h1; injection h1 with h1; injection h1
              subst hkb
              have hbl : blk (g.μ id) = some k := by rw [hμ]; rfl
              have hlt : k < w.heap.size := (hp.obs _ _ hl).blk_lt hbl |>.2
              have hcell : ∀ i v, vs[i]? = some v → w.cell? ⟨k, i, none⟩ = some v := fun i v hi => by
                unfold World.cell?; rw [h3]; simp [hi]
              have key : ∀ (i : Nat) (p : PV), ps[i]? = some p → ∃ v, vs[i]? = some v ∧ PR (Kend σ σ' g w) w p v := by
                intro i p hi
                obtain ⟨s, hs', hr'⟩ := hpg i p hi
                obtain ⟨v, hv1, hv2⟩ := h5 i s hs'
                exact ⟨v, hv1, rowPV_ok hp hr' hv2⟩
              have := PR.s (K := Kend σ σ' g w) (w := w) 1 (ps.map fun p => [p]) (some ⟨k, 0, none⟩) cap k 0 (fun i j => vs.getD (i + j) undef) (by simp; omega) hc' (by simp) (fun _ => rfl)
                (fun i el hi j hj => .inr ⟨id, _, hl, hno, hbl, hlt⟩) (fun i el hi j hj => by
                  rw [List.getElem?_map] at hi
                  cases hpi : ps[i]? with
                  | none => rw [hpi] at hi; cases hi
                  | some p =>
                    rw [hpi] at hi; cases hi
                    have hj0 : j = 0 := by simpa using hj
                    subst hj0
                    obtain ⟨v, hv1, hv2⟩ := key i p hpi
                    have e1 : vs.getD (i + 0) undef = v := by simp [hv1]
                    rw [e1]
                    simpa using hcell i v hv1) (fun i el hi j x hj => by
                  rw [List.getElem?_map] at hi
                  cases hpi : ps[i]? with
                  | none => rw [hpi] at hi; cases hi
                  | some p =>
                    rw [hpi] at hi; cases hi
                    cases j with
                    | succ j => simp at hj
                    | zero =>
                      cases hj
                      obtain ⟨v, hv1, hv2⟩ := key i _ hpi
                      have e1 : vs.getD (i + 0) undef = v := by simp [hv1]
                      rw [e1]; exact hv2)
              rw [List.length_map, ← hn] at this
              exact .d _ _ this
          · cases h
        · cases h
      · cases h
  | f fn a b =>
    simp only [keepSV] at h
    cases hc : (a.all (rs1 σ') && b.all (rs1 σ')) with
    | false => rw [hc] at h; cases h
    | true => rw [hc] at h; cases h; exact Kend_keep (rsSV_ok hs (s := .f fn a b) hc hv)
theorem keepL_get : ∀ {l t : List SV}, keepL σ σ' l = some t → t.length = l.length ∧ ∀ (i : Nat) (y : SV), t[i]? = some y → ∃ s, l[i]? = some s ∧ keepSV σ σ' s = some y
  | [], t, h => by cases h; exact ⟨rfl, fun i y hi => by simp at hi⟩
  | s :: r, t, h => by
    simp only [keepL] at h
    cases h1 : keepSV σ σ' s with
    | none => rw [h1] at h; cases h
    | some y =>
      cases h2 : keepL σ σ' r with
      | none => rw [h1, h2] at h; cases h
      | some l =>
        rw [h1, h2] at h; cases h
        obtain ⟨e, ih⟩ := keepL_get h2
        refine ⟨by simp [e], fun i z hi => ?_⟩
        cases i with
        | zero => cases hi; exact ⟨s, rfl, h1⟩
        | succ i => exact ih i z hi
theorem keepAVs_get : ∀ {l t : List AV}, keepAVs σ σ' l = some t → t.length = l.length ∧ ∀ (i : Nat) (y : AV), t[i]? = some y → ∃ s, l[i]? = some s ∧ keepAV1 σ σ' s = some y
  | [], t, h => by cases h; exact ⟨rfl, fun i y hi => by simp at hi⟩
  | s :: r, t, h => by
    simp only [keepAVs] at h
    cases h1 : keepAV1 σ σ' s with
    | none => rw [h1] at h; cases h
    | some y =>
      cases h2 : keepAVs σ σ' r with
      | none => rw [h1, h2] at h; cases h
      | some l =>
        rw [h1, h2] at h; cases h
        obtain ⟨e, ih⟩ := keepAVs_get h2
        refine ⟨by simp [e], fun i z hi => ?_⟩
        cases i with
        | zero => cases hi; exact ⟨s, rfl, h1⟩
        | succ i => exact ih i z hi
theorem keepAV1_ok (hp : Hp w0 K0 σ g w) (hs : Sup σ' σ) {x y : AV} (h : keepAV1 σ σ' x = some y) {v : Value} (hv : VR2 σ g w x v) : VR1 σ' ⟨Kend σ σ' g w, g.μ⟩ w y v ∧ flat1 y = true := by
  cases x with
  | x s =>
    simp only [keepAV1] at h
    cases h1 : keepSV σ σ' s with
    | none => rw [h1] at h; cases h
    | some t => rw [h1] at h; cases h; exact ⟨keepSV_ok hp hs h1 hv, rfl⟩
  | a cs =>
    simp only [keepAV1] at h
    cases h1 : keepL σ σ' cs with
    | none => rw [h1] at h; cases h
    | some l =>
      rw [h1] at h; cases h
      obtain ⟨vs, rfl, hsz, hr⟩ := hv
      obtain ⟨hl, hg⟩ := keepL_get h1
      refine ⟨⟨vs, rfl, by rw [hl, hsz], fun i s u hi hu => ?_⟩, rfl⟩
      obtain ⟨s', h1', h2'⟩ := hg i s hi
      exact keepSV_ok hp hs h2' (hr i s' u h1' hu)
  | t _ => cases h
  | g _ _ => cases h
theorem VR2_of_VR1 {x : AV} (h : flat1 x = true) {v : Value} (hv : VR1 σ g w x v) : VR2 σ g w x v := by
  cases x with
  | x _ => exact hv
  | a _ => exact hv
  | t _ => cases h
  | g _ _ => cases h
theorem outKeep_ok {tt : TT} (htt : tt.ok P) (hr : Rel Γ fr σ g a w) (hs : Sup σ' σ) {fn : Func} {res : List ResultVar} (hres : fn.results = res.toArray) {r : AV} (h : outKeep tt res fr σ σ' = some r) :
    ∃ v, (results fn a.tmps).run P w = .ok v w ∧ VR2 σ' ⟨Kend σ σ' g w, g.μ⟩ w r v := by
  unfold outKeep at h
  cases hx : resAVs tt σ fr res with
  | none => rw [hx] at h; cases h
  | some xs =>
    rw [hx] at h
    obtain ⟨us, hus, hl, hrs⟩ := resAVs_ok htt hr hx
    have hm : (res.toArray.mapM (m := Sem) (resOne a.tmps)).run P w = .ok us.toArray w := by
      rw [Array.mapM_eq_mapM_toList, Sem.run_map, hus]; rfl
    have hrun : (results fn a.tmps).run P w = .ok (if h : us.toArray.size = 1 then us.toArray[0] else .tuple us.toArray) w := by
      rw [results_eq, hres, Sem.run_bind, hm]; rfl
    refine ⟨_, hrun, ?_⟩
    have many : ¬ us.toArray.size = 1 → (match keepAVs σ σ' xs with | some l => some (AV.t l) | none => none) = some r → VR2 σ' ⟨Kend σ σ' g w, g.μ⟩ w r (.tuple us.toArray) := by
      intro _ h
      cases hk : keepAVs σ σ' xs with
      | none => rw [hk] at h; cases h
      | some l =>
        rw [hk] at h; cases h
        obtain ⟨hll, hg⟩ := keepAVs_get hk
        refine ⟨_, rfl, by simp; omega, fun i z q hi hq => ?_⟩
        obtain ⟨s, h1, h2⟩ := hg i z hi
        exact (keepAV1_ok hr.hp hs h2 (hrs i s q h1 (by simpa using hq))).1
    match xs, us, hl, hrs, h, many with
    | [], [], _, _, h, many => rw [dif_neg (by simp)]; exact many (by simp) h
    | [x], [u], _, hrs, h, _ =>
      have := keepAV1_ok hr.hp hs h (hrs 0 _ u rfl rfl)
      exact VR2_of_VR1 this.2 this.1
    | x :: y :: xs, u :: v :: us, _, _, h, many =>
      have hne : ¬ (u :: v :: us).toArray.size = 1 := by simp
      rw [dif_neg hne]; exact many hne h
theorem ACall_of_AWD {tt : TT} (htt : tt.ok P) {f : FuncId} {fn : Func} {c : Code} {args : List AV} {σ : Sg} {R : AV → Sg → Prop} {res : List ResultVar} (hf : P.funcs[f]? = some fn) (hb : fn.body = some c)
    (hname : (fn.name == "runtime.NumGoroutine") = false) (hres : fn.results = res.toArray) {nt : Nat} (hnt : fn.ntmps = nt) (hle : args.length ≤ nt)
    (h : ∀ w0 K0 B, AW P ⟨w0, K0, nt, B, σ.map (·.1), none, []⟩ c (PostD tt res (σ.map (·.1)) R) (entry 0 args) σ) : ACall P f args σ R := by
  refine ⟨⟨fn, hf, by rw [hb]; rfl, hname⟩, fun w0 K0 g w vs hL hp hs hv => ?_⟩
  refine calls_of_wp hf hb ((wpIn_wide (n := 0)).1 ?_)
  have hrel : Rel ⟨w0, K0, nt, SR σ g w, σ.map (·.1), none, []⟩ (entry 0 args) σ g ⟨vs ++ Array.replicate (fn.ntmps - vs.size) undef, []⟩ w := by
    refine ⟨hp, fun t x ht => ?_, by simp; omega, DR.empty, fun s v hb => ⟨hb, SR.inI hb⟩⟩
    obtain ⟨_, hx⟩ := lk_entry args 0 t x ht
    rw [Nat.sub_zero] at hx
    have hlt : t < args.length := (List.getElem?_eq_some_iff.1 hx).1
    refine ⟨by show t < nt; omega, ?_⟩
    have hvt : vs[t]? = some (vs[t]'(by omega)) := Array.getElem?_eq_getElem (by omega)
    have e : (vs ++ Array.replicate (fn.ntmps - vs.size) undef).getD t undef = vs[t]'(by omega) := by
      rw [Array.getD_eq_getD_getElem?, Array.getElem?_append_left (by omega), hvt]; rfl
    show VR _ _ _ _ ((vs ++ Array.replicate (fn.ntmps - vs.size) undef).getD t undef)
    rw [e]
    exact VR_of_VR2 (hv t x _ hx hvt)
  refine wpIn_mono ((h w0 K0 _).use hL hrel) ?_
  intro e a' w' ⟨fr, τ, g', hr, hq⟩
  have fin : (∃ r σ', SubS τ σ' ∧ (rsSg σ' σ' && idsIn (σ.map (·.1)) σ') = true ∧ outKeep tt res fr τ σ' = some r ∧ R r σ') →
      a'.defers = [] ∧ ∃ v, (results fn a'.tmps).run P w' = .ok v w' ∧ ∃ v_1 g'' σ'' r, Ending.returned v = .returned v_1 ∧ Did w0 K0 σ g w σ'' g'' w' ∧ VR2 σ'' g'' w' r v_1 ∧ R r σ'' := by
    rintro ⟨r, σ', hsub, hc, ho, hR⟩
    simp only [Bool.and_eq_true] at hc
    have hsup := SubS_ok hsub
    obtain ⟨v, hrun, hvr⟩ := outKeep_ok htt hr hsup hres ho
    exact ⟨hr.defers.nil, v, hrun, v, _, σ', r, rfl, ⟨hr.hp.atEnd hsup hc.1, fun s u hs => Kend_keep (inI_weaken hsup hc.2 (hr.base s u hs).1 (hr.base s u hs).2)⟩, hvr, hR⟩
  cases e with
  | normal => exact fin hq
  | ret => exact fin hq
  | _ => exact hq.elim
end
end Go.QL
namespace Go.QL
open Go Go.RowKit
def bindP : List Tmp → List AV → Fr → Fr
  | t :: r, x :: s, fr => (t, x) :: bindP r s fr
  | _, _, fr => fr
def PostY (id : Nat) (ids : List Nat) (params : Array Tmp) (assign body : Code) (nt : Nat) (fr0 : Fr) (dfr : Nat) (R : AV → Sg → Prop) : Exit → Fr → Sg → Prop
  | .normal, _, σ => ∃ σ' pend, SubS σ σ' ∧ (rsSg σ' σ' && idsIn ids σ') = true ∧ lk id σ' = some (.x (.loop .busy pend params assign body nt fr0 dfr)) ∧ R (bv true) (setOb id (.x (.loop .ready none params assign body nt fr0 dfr)) σ')
  | .ret, _, σ => ∃ σ' pend, SubS σ σ' ∧ (rsSg σ' σ' && idsIn ids σ') = true ∧ lk id σ' = some (.x (.loop .busy pend params assign body nt fr0 dfr)) ∧ R (bv false) (setOb id (.x (.loop .done (some .ret) params assign body nt fr0 dfr)) σ')
  | .exit e, _, σ => ∃ σ' pend, SubS σ σ' ∧ (rsSg σ' σ' && idsIn ids σ') = true ∧ lk id σ' = some (.x (.loop .busy pend params assign body nt fr0 dfr)) ∧ R (bv false) (setOb id (.x (.loop .done (some (.exit e)) params assign body nt fr0 dfr)) σ')
  | _, _, _ => False
section
variable {P : Program} {Γ : Cx} {w0 : World} {K0 : Bs} {fr : Fr} {σ σ' : Sg} {g : Gh} {a : Act} {w : World} {Q : Exit → Fr → Sg → Prop}
theorem Hp.setLoop (hp : Hp w0 K0 σ g w) {id : Nat} {st st' : LoopState} {pend pend' : Option Code} {params : Array Tmp} {assign body : Code} {nt : Nat} {fr0 : Fr} {dfr : Nat}
    (hl : lk id σ = some (.x (.loop st pend params assign body nt fr0 dfr))) :
    ∃ (l : Nat) (r : Loop), g.μ id = .pointer (some ⟨l, 0, none⟩) ∧ w.heap[l]? = some (.loop r) ∧ r.state = st ∧ r.pending = pend ∧
      Did w0 K0 σ g w (setOb id (.x (.loop st' pend' params assign body nt fr0 dfr)) σ) ⟨g.K, upd g.μ id (.pointer (some ⟨l, 0, none⟩))⟩ (w.putObj l (.loop { r with state := st', pending := pend' })) := by
  obtain ⟨l, h1, h2, h3, _⟩ := hp.obs id _ hl
  obtain ⟨f, tmps, d, k1, k2, k3, k4⟩ := h3
  refine ⟨l, _, h1, k1, rfl, rfl, ?_⟩
  exact hp.setX (o' := .loop st' pend' params assign body nt fr0 dfr) hl rfl h1 (.loop { state := st', pending := pend', fn := f, tmps := tmps, params := params, assign := assign, body := body, defers := d })
    (fun σ'' g'' w'' hk hw => ⟨f, tmps, d, hw, k2, fun t v ht => ⟨(k3 t v ht).1, (k3 t v ht).2.keep hk⟩, hk _ _ k4⟩)
theorem foldl_set_size : ∀ (l : List (Tmp × Value)) (tmps : Array Value), (l.foldl (fun tmps (x : Tmp × Value) => tmps.setIfInBounds x.1 x.2) tmps).size = tmps.size
  | [], _ => rfl
  | (t, v) :: r, tmps => by rw [List.foldl_cons, foldl_set_size r]; simp
theorem foldl_set_get : ∀ (l : List (Tmp × Value)) (tmps : Array Value) (t : Nat), (∀ p ∈ l, p.1 ≠ t) → (l.foldl (fun tmps (x : Tmp × Value) => tmps.setIfInBounds x.1 x.2) tmps).getD t undef = tmps.getD t undef
  | [], _, _, _ => rfl
  | (s, v) :: r, tmps, t, h => by
    rw [List.foldl_cons, foldl_set_get r _ t (fun p hp => h p (List.mem_cons_of_mem _ hp))]
    have := h (s, v) (by simp)
    simp only [Array.getD_eq_getD_getElem?]
    rw [Array.getElem?_setIfInBounds_ne this]
theorem bindP_get : ∀ (ps : List Tmp) (xs : List AV) (vs : List Value) (tmps : Array Value), ps.Nodup → ps.length = xs.length → vs.length = xs.length → (∀ t ∈ ps, t < tmps.size) →
    ∀ (t : Nat) (x : AV), lk t (bindP ps xs fr) = some x →
      (∃ (i : Nat) (v : Value), xs[i]? = some x ∧ vs[i]? = some v ∧ t < tmps.size ∧ ((ps.zip vs).foldl (fun tmps (x : Tmp × Value) => tmps.setIfInBounds x.1 x.2) tmps).getD t undef = v) ∨
      (lk t fr = some x ∧ ((ps.zip vs).foldl (fun tmps (x : Tmp × Value) => tmps.setIfInBounds x.1 x.2) tmps).getD t undef = tmps.getD t undef)
  | [], xs, vs, tmps, _, h1, h2, _, t, x, h => .inr ⟨h, by simp⟩
  | p :: ps, [], vs, tmps, _, h1, _, _, t, x, h => by cases h1
  | p :: ps, y :: xs, [], tmps, _, _, h2, _, t, x, h => by cases h2
  | p :: ps, y :: xs, v :: vs, tmps, hnd, h1, h2, hlt, t, x, h => by
    rw [List.nodup_cons] at hnd
    unfold bindP at h
    rw [lk_cons] at h
    rw [List.zip_cons_cons, List.foldl_cons]
    by_cases e : p = t
    · subst e
      rw [if_pos rfl] at h; cases h
      refine .inl ⟨0, v, rfl, rfl, hlt p (by simp), ?_⟩
      rw [foldl_set_get _ _ p (fun q hq => by
        rintro rfl
        have := List.of_mem_zip (a := q.1) (b := q.2) hq
        exact hnd.1 this.1)]
      have := hlt p (by simp)
      simp [this]
    · rw [if_neg e] at h
      have ih := bindP_get ps xs vs (tmps.setIfInBounds p v) hnd.2 (by simpa using h1) (by simpa using h2) (fun t ht => by simp; exact hlt t (by simp [ht])) t x h
      rcases ih with ⟨i, u, a1, a2, a3, a4⟩ | ⟨a1, a2⟩
      · exact .inl ⟨i + 1, u, a1, a2, by simpa using a3, a4⟩
      · refine .inr ⟨a1, ?_⟩
        rw [a2]
        simp only [Array.getD_eq_getD_getElem?]
        rw [Array.getElem?_setIfInBounds_ne e]
theorem YC_of_AW {id : Nat} {args : List AV} {R : AV → Sg → Prop} {pend : Option Code} {params : Array Tmp} {assign body : Code} {nt : Nat} {fr0 : Fr} {dfr : Nat}
    (hl : lk id σ = some (.x (.loop .ready pend params assign body nt fr0 dfr))) (hps : params.toList.length = args.length) (hnd : params.toList.Nodup) (hpn : params.toList.all (fun t => Nat.blt t nt) = true)
    (h : ∀ w0 K0 B l, AW P ⟨w0, K0, nt, B, σ.map (·.1), some l, []⟩ assign (Exit.thn (fun fr2 σ2 => ∃ pend2, lk id σ2 = some (.x (.loop .ready pend2 params assign body nt fr0 dfr)) ∧
        AW P ⟨w0, K0, nt, B, σ.map (·.1), some l, []⟩ body (PostY id (σ.map (·.1)) params assign body nt fr0 dfr R) fr2 (setOb id (.x (.loop .busy pend2 params assign body nt fr0 dfr)) σ2)) (fun _ _ _ => False))
      (bindP params.toList args fr0) σ) : YC P id args σ R := by
  intro w0 K0 g w vs hL hp hs hv
  obtain ⟨l, h1, h2, h3, _⟩ := hp.obs id _ hl
  obtain ⟨f, tmps, d, k1, k2, k3, k4⟩ := h3
  have hsz : vs.size = params.size := by rw [hs, ← hps]; simp
  refine ⟨l, f, _, assign, body, _, hl, rfl, h1, run_yield k1 hsz, ?_⟩
  rw [List.all_eq_true] at hpn
  have hfold : (params.zip vs).foldl (fun tmps (x : Tmp × Value) => tmps.setIfInBounds x.1 x.2) tmps = (params.toList.zip vs.toList).foldl (fun tmps (x : Tmp × Value) => tmps.setIfInBounds x.1 x.2) tmps := by
    rw [← Array.foldl_toList, Array.toList_zip]
  have hrel : Rel ⟨w0, K0, nt, SR σ g w, σ.map (·.1), some l, []⟩ (bindP params.toList args fr0) σ g ⟨(params.zip vs).foldl (fun tmps (x : Tmp × Value) => tmps.setIfInBounds x.1 x.2) tmps, []⟩ w := by
    refine ⟨hp, fun t x ht => ?_, ?_, DR.empty, fun s v hb => ⟨hb, SR.inI hb⟩⟩
    · dsimp only
      rw [hfold]
      rcases bindP_get params.toList args vs.toList tmps hnd hps (by simpa using hs) (fun t ht => by rw [k2]; exact Nat.le_of_ble_eq_true (hpn t ht)) t x ht with ⟨i, v, a1, a2, a3, a4⟩ | ⟨a1, a2⟩
      · refine ⟨by omega, ?_⟩
        rw [a4]
        exact VR_of_VR2 (hv i x v a1 (by simpa using a2))
      · have := k3 t x a1
        refine ⟨this.1, ?_⟩
        rw [a2]; exact this.2
    · dsimp only; rw [hfold, foldl_set_size, k2]
  refine roundIn_of_wpIn (F := Fence.wide) trivial ?_
  refine wpIn_mono (show assign.wpIn (FX (some l)) 0 P _ _ w from (h w0 K0 (SR σ g w) l).use hL hrel) ?_
  rintro e a1 w1 ⟨fr2, σ2, g2, hr2, hq⟩
  cases e with
  | normal =>
    obtain ⟨pend2, hl2, hbody⟩ := hq
    obtain ⟨l2, r2, hμ2, hheap2, hst2, hpe2, hd2⟩ := hr2.hp.setLoop (st' := .busy) (pend' := pend2) hl2
    have hll : l2 = l := by
      have hb := (hr2.base _ _ (SR.h id _ l hl h1)).1
      generalize hvv : Kd.val l (Ob2.kd (.loop .ready pend params assign body nt fr0 dfr)) = vv at hb
      cases hb with
      | h _ o k hl' hμ' =>
        rw [hl2] at hl'; cases hl'
        rw [hμ2] at hμ'; cases hμ'
        simp [Kd.val, Ob2.kd] at hvv; exact hvv.symm
    subst hll
    refine ⟨_, run_beginRound hheap2 hst2, ?_⟩
    have hrec : ({ r2 with state := .busy, pending := pend2 } : Loop) = { r2 with state := .busy } := by rw [← hpe2]
    rw [hrec] at hd2
    have hr3 := hr2.did hd2
    refine wpIn_mono (show body.wpIn (FX (some l2)) 0 P _ a1 _ from hbody.use hL hr3) ?_
    rintro e a3 w3 ⟨fr3, σ3, g3, hr4, hq3⟩
    have fin : ∀ (jump : Option Code) (b : Bool), jump.isNone = b → (∃ σ' pend, SubS σ3 σ' ∧ (rsSg σ' σ' && idsIn (σ.map (·.1)) σ') = true ∧ lk id σ' = some (.x (.loop .busy pend params assign body nt fr0 dfr)) ∧ R (bv b) (setOb id (.x (.loop (if jump.isNone then .ready else .done) jump params assign body nt fr0 dfr)) σ')) →
        ∃ v w', (Instr.endRound l2 jump).run P w3 = .ok v w' ∧ ∃ v1 g' σ' r, Ending.returned v = .returned v1 ∧ Did w0 K0 σ g w σ' g' w' ∧ VR2 σ' g' w' r v1 ∧ R r σ' := by
      rintro jump b hjb ⟨σ', pend', hsub, hc, hl', hR⟩
      simp only [Bool.and_eq_true] at hc
      have hsup := SubS_ok hsub
      have hw := hr4.hp.weaken hsup hc.1
      obtain ⟨l3, r3, hμ3, hheap3, hst3, hpe3, hd3⟩ := hw.setLoop (st' := if jump.isNone then .ready else .done) (pend' := jump) hl'
      have hll3 : l3 = l2 := by
        have hb := (hr4.base _ _ (SR.h id _ l2 hl h1)).1
        generalize hvv : Kd.val l2 (Ob2.kd (.loop .ready pend params assign body nt fr0 dfr)) = vv at hb
        cases hb with
        | h _ o k hl4 hμ' =>
          rw [hsup _ _ hl'] at hl4; cases hl4
          rw [hμ3] at hμ'; cases hμ'
          simp [Kd.val, Ob2.kd] at hvv; exact hvv.symm
      subst hll3
      refine ⟨.bool jump.isNone, _, run_endRound jump hheap3, _, _, _, bv b, rfl, ⟨hd3.hp, fun s v hs => hd3.keep _ _ (inI_weaken hsup hc.2 (hr4.base s v hs).1 (hr4.base s v hs).2)⟩, ?_, hR⟩
      rw [hjb]; exact vr_plain _ rfl
    cases e with
    | normal => exact fin none true rfl hq3
    | ret => exact fin (some .ret) false rfl hq3
    | exit e => exact fin (some (.exit e)) false rfl hq3
    | goto t => exact hq3.elim
    | panic ch => exact hq3.elim
    | outgrown => exact hq3.elim
  | _ => exact hq.elim
theorem nodup_dfs {dfs : List Nat} {ds : List Deferred} {i : Nat} (h : DR dfs σ g ds) (hi : lk i σ = none) : ∀ is : List Nat, is.length = ds.length → (∀ (k j : Nat) (x : Deferred), is[k]? = some j → ds[k]? = some x → j ∈ dfs ∧ lk j σ = some (.x .dfr) ∧ ∃ d, g.μ j = .pointer (some ⟨d, 0, none⟩) ∧ x = ⟨.collected d, #[]⟩) → i ∉ is := by
  intro is hl h3 hm
  obtain ⟨k, hk, he⟩ := List.getElem_of_mem hm
  have := h3 k i (ds[k]'(by omega)) (by rw [List.getElem?_eq_getElem hk, he]) (List.getElem?_eq_getElem (by omega))
  rw [hi] at this; cases this.2.1
theorem AW_rangeFunc {gop : Operand} {ps : Array Tmp} {assign body : Code} {fid : FuncId} {first captured : List SV} (idL idD : Nat) (hev : ev fr gop = some (none, .x (.f (.func fid) first captured)))
    (hL : lk idL σ = none) (hD : lk idD σ = none) (hne : idL ≠ idD) (hdfs : idD ∈ Γ.dfs) (hro : Γ.ro = none) (R : AV → Sg → Prop)
    (hcall : ACall P fid (first.map .x ++ [.x (.h idL)] ++ captured.map .x) ((idL, .x (.loop .ready none ps assign body Γ.nt fr idD)) :: (idD, .x .dfr) :: σ) R)
    (hk : ∀ rv σ', R rv σ' → lk idD σ' = some (.x .dfr) ∧ ∃ st pend, lk idL σ' = some (.x (.loop st pend ps assign body Γ.nt fr idD)) ∧ st ≠ .busy ∧
      (match pend with
       | none => Q .normal fr (setOb idL (.x (.loop .exhausted none ps assign body Γ.nt fr idD)) σ')
       | some c => AW P Γ c Q fr (setOb idL (.x (.loop .exhausted (some c) ps assign body Γ.nt fr idD)) σ'))) : AW P Γ (.rangeFunc gop ps assign body) Q fr σ := by
  refine AW.mk fun hLd g a w hr => ?_
  rw [hro]
  refine wpIn_rangeFunc (F := FX none) (n := 0) fun fn _ => ?_
  have hval : SR σ g w (.f (.func fid) first captured) (a.eval gop) := by
    have h' : ev1 fr none gop (fun v => v = .x (.f (.func fid) first captured)) := by unfold ev1; rw [hev]
    obtain ⟨v, hv, hvr⟩ := ev1_on h'
    subst hv
    exact hvr (.inl rfl) Γ σ g a w hr
  generalize hae : a.eval gop = fval at hval
  cases hval with
  | f _ _ _ v1 v2 s1 s2 r1 r2 =>
    let W1 := w.alloc (.deferred (some []))
    let W2 := W1.alloc (.loop { state := .ready, pending := none, fn := fn, tmps := a.tmps, params := ps, assign := assign, body := body, defers := w.heap.size })
    have d1 := hr.hp.addX idD hD .dfr (.deferred (some [])) (fun σ' g' w' _ hw => hw)
    let g1 : Gh := ⟨g.K, upd g.μ idD (.pointer (some ⟨w.heap.size, 0, none⟩))⟩
    have hL1 : lk idL ((idD, Ob.x .dfr) :: σ) = none := by rw [lk_cons, if_neg (fun e => hne e.symm)]; exact hL
    have d2 := d1.hp.addX idL hL1 (.loop .ready none ps assign body Γ.nt fr idD) (.loop { state := .ready, pending := none, fn := fn, tmps := a.tmps, params := ps, assign := assign, body := body, defers := w.heap.size })
      (fun σ' g' w' hk' hw => ⟨fn, a.tmps, w.heap.size, hw, hr.size, fun t v ht => ⟨(hr.fr t v ht).1, ((hr.fr t v ht).2.keep d1.keep).keep hk'⟩,
        hk' _ _ (SR.h (σ := (idD, Ob.x .dfr) :: σ) (g := g1) (w := W1) idD .dfr w.heap.size (by rw [lk_cons, if_pos rfl]) (upd_same _ _ _))⟩)
    have d12 := d1.trans d2
    have hgood := hcall.1
    obtain ⟨fnr, hf1, hf2, hf3⟩ := hgood
    refine ⟨w.heap.size + 1, [{ target := .collected w.heap.size, args := #[] }], W2, ⟨.fn (.func fid) v2, v1 ++ #[.func (.yield (w.heap.size + 1)) #[] #[]]⟩, W2, fid, v1 ++ #[.func (.yield (w.heap.size + 1)) #[] #[]] ++ v2, W2, run_enterLoop_outer fn a.tmps ps assign body, ?_, fun _ _ => trivial, ?_, depthX, ?_⟩
    · have hres : resolve a.eval (rangeCall gop (w.heap.size + 1)) 0 = Deferred.ofValue (a.eval gop) #[.func (.yield (w.heap.size + 1)) #[] #[]] := by
        unfold resolve rangeCall
        simp
        rfl
      rw [hres, hae]; rfl
    · have hb : ¬ fnr.body = none := fun e => by rw [e] at hf2; cases hf2
      have h3' : ¬ fnr.name = "runtime.NumGoroutine" := by simpa using hf3
      simp [invoke, callFunc, hf1, h3', hb]
    · refine callsIn_FX.2 ((hcall.2 Γ.w0 Γ.K0 _ W2 _ hLd d12.hp (by simp [s1, s2]; omega) ?_).mono ?_)
      · refine call_args (us := #[.func (.yield (w.heap.size + 1)) #[] #[]]) s1 s2 (fun i s v hi hv => d12.keep _ _ (r1 i s v hi hv)) (fun i s v hi hv => d12.keep _ _ (r2 i s v hi hv)) rfl (fun i x v hx hv => ?_)
        match i with
        | 0 =>
          cases hx; cases hv
          have hh : SR ((idL, Ob.x (.loop .ready none ps assign body Γ.nt fr idD)) :: (idD, Ob.x .dfr) :: σ) ⟨g1.K, upd g1.μ idL (.pointer (some ⟨W1.heap.size, 0, none⟩))⟩ W2 (.h idL) (.func (.yield W1.heap.size) #[] #[]) :=
            SR.h idL (.loop .ready none ps assign body Γ.nt fr idD) W1.heap.size (by rw [lk_cons, if_pos rfl]) (upd_same _ _ _)
          have hsz : W1.heap.size = w.heap.size + 1 := by simp [W1]
          have hvv : (Value.func (.yield W1.heap.size) #[] #[]) = .func (.yield (w.heap.size + 1)) #[] #[] := by rw [hsz]
          rw [hvv] at hh
          exact hh
        | i + 1 => simp at hx
      · rintro e w' ⟨v, g', σ', r, he, hd, hvr, hR⟩
        subst he
        have hdall := d12.trans hd
        obtain ⟨hlD, st, pend, hlL, hst, hq⟩ := hk r σ' hR
        obtain ⟨l3, r3, hμ3, hheap3, hst3, hpe3, hd3⟩ := hd.hp.setLoop (st' := .exhausted) (pend' := pend) hlL
        have hll : l3 = w.heap.size + 1 := by
          have hh : SR ((idL, Ob.x (.loop .ready none ps assign body Γ.nt fr idD)) :: (idD, Ob.x .dfr) :: σ) ⟨g1.K, upd g1.μ idL (.pointer (some ⟨W1.heap.size, 0, none⟩))⟩ W2 (.h idL) (.func (.yield W1.heap.size) #[] #[]) :=
            SR.h idL (.loop .ready none ps assign body Γ.nt fr idD) W1.heap.size (by rw [lk_cons, if_pos rfl]) (upd_same _ _ _)
          have hb := hd.keep _ _ hh
          generalize hvv : Value.func (.yield W1.heap.size) #[] #[] = vv at hb
          cases hb with
          | h _ o k hl4 hμ' =>
            rw [hlL] at hl4; cases hl4
            rw [hμ3] at hμ'; cases hμ'
            simp [Kd.val, Ob2.kd] at hvv
            rw [← hvv]; simp [W1]
        subst hll
        have hrec : ({ r3 with state := .exhausted, pending := pend } : Loop) = { r3 with state := .exhausted } := by rw [← hpe3]
        rw [hrec] at hd3
        have hdfin := hdall.trans hd3
        have hend := run_endLoop (P := P) hheap3 (by rw [hst3]; exact hst)
        have hmark : lk idD (setOb idL (.x (.loop .exhausted pend ps assign body Γ.nt fr idD)) σ') = some (.x .dfr) := by rw [lk_setOb_other _ _ _ _ (fun e => hne e.symm)]; exact hlD
        have hr' : Rel Γ fr (setOb idL (.x (.loop .exhausted pend ps assign body Γ.nt fr idD)) σ') ⟨g'.K, upd g'.μ idL (.pointer (some ⟨w.heap.size + 1, 0, none⟩))⟩ { a with defers := [{ target := .collected w.heap.size, args := #[] }] ++ a.defers } (w'.putObj (w.heap.size + 1) (.loop { r3 with state := .exhausted })) := by
          have hbase := hr.did hdfin
          refine ⟨hbase.hp, hbase.fr, hbase.size, ?_, hbase.base⟩
          obtain ⟨is, q1, q2, q3⟩ := hr.defers
          have hni := nodup_dfs hr.defers hD is q2 q3
          refine ⟨idD :: is, by rw [List.nodup_cons]; exact ⟨hni, q1⟩, by simp [q2], fun k i x hi hx => ?_⟩
          cases k with
          | zero =>
            cases hi; cases hx
            refine ⟨hdfs, hmark, w.heap.size, ?_, rfl⟩
            have hh : SR ((idD, Ob.x .dfr) :: σ) g1 W1 (.h idD) (.chan (some w.heap.size)) := SR.h idD .dfr w.heap.size (by rw [lk_cons, if_pos rfl]) (upd_same _ _ _)
            have hb := (d2.trans (hd.trans hd3)).keep _ _ hh
            generalize hvv : Value.chan (some w.heap.size) = vv at hb
            cases hb with
            | h _ o k hl4 hμ' =>
              rw [hmark] at hl4; cases hl4
              simp [Kd.val, Ob2.kd] at hvv
              exact hμ'.trans (by rw [hvv])
          | succ k =>
            obtain ⟨b1, b2, dd, b3, b4⟩ := q3 k i x hi hx
            have hb := hdfin.keep _ _ (SR.h (w := w) i .dfr dd b2 b3)
            generalize hvv : Kd.val dd (Ob2.kd .dfr) = vv at hb
            cases hb with
            | h _ o k hl4 hμ' =>
              cases o <;> simp [Kd.val, Ob2.kd] at hvv
              subst hvv
              exact ⟨b1, hl4, dd, hμ', b4⟩
        refine ⟨pend, _, by rw [← hpe3]; exact hend, ?_⟩
        cases pend with
        | none => exact ⟨fr, _, _, hr', hq⟩
        | some c =>
          have := hq.use hLd hr'
          rw [hro] at this
          exact this
end
end Go.QL
namespace Go.QL
open Go Go.RowKit
section
variable {P : Program} {Γ : Cx} {w0 : World} {K0 : Bs} {fr : Fr} {σ σ' : Sg} {g : Gh} {a : Act} {w : World}
theorem Hp.shut (hp : Hp w0 K0 σ g w) {i d : Nat} (hi : lk i σ = some (.x .dfr)) (hμ : g.μ i = .pointer (some ⟨d, 0, none⟩)) (hs : Sup σ' σ) (hn : lk i σ' = none) (hr : rsSg σ' σ' = true) (ob : Obj) :
    Hp w0 K0 σ' g (putO w d ob) ∧ (∀ s v, SR σ' g w s v → SR σ' g (putO w d ob) s v) := by
  have hw := hp.weaken hs hr
  obtain ⟨b', h1, h2, _, h4⟩ := hp.obs i _ hi
  rw [hμ] at h1; cases h1
  have hbi : blk (g.μ i) = some d := by rw [hμ]; rfl
  have hKd : ∀ b o, g.K b o → b ≠ d := fun b o hk e => h4 o (e ▸ hk)
  have hext : Ext g.K w g.K (putO w d ob) := ⟨fun _ _ h => h, fun b o hk => World.cell?_of_block (w := w) (a := ⟨b, o, none⟩) (putO_other (hKd b o hk))⟩
  have hkeep : ∀ s v, SR σ' g w s v → SR σ' g (putO w d ob) s v := fun s v h =>
    SR.keep (σ := σ') (σ' := σ') (g := g) (g' := g) (w := w) (w' := putO w d ob) (Compat.refl σ' g) hext h
  refine ⟨⟨?_, hw.flt, hw.ext.trans hext, hw.old, fun b o hk => by have := hw.val b o hk; simpa using this, fun id obj hid => ?_, hw.own, hw.inj⟩, hkeep⟩
  · exact hw.kept.trans ⟨rfl, rfl, rfl, by simp, fun k hk => putO_other (fun e => hp.own i d (by rw [hi]; rfl) hbi (e ▸ hk))⟩
  · have hO := hw.obs id obj hid
    refine hO.keep hkeep hext rfl (fun b hb => putO_other (fun e => ?_)) (fun b hb o => hw.notK hid hb o)
    have := hp.inj id i b (by rw [hs _ _ hid]; rfl) (by rw [hi]; rfl) hb (by rw [e]; exact hbi)
    subst this; rw [hid] at hn; cases hn
theorem shutAll (hs : Sup σ' σ) (hr : rsSg σ' σ' = true) : ∀ (is : List Nat) (ds : List Deferred) (w : World), is.Nodup → is.length = ds.length → Hp w0 K0 σ' g w →
    (∀ i ∈ is, lk i σ' = none) →
    (∀ (k i : Nat) (x : Deferred), is[k]? = some i → ds[k]? = some x → ∃ d, g.μ i = .pointer (some ⟨d, 0, none⟩) ∧ x = ⟨.collected d, #[]⟩ ∧ w.heap[d]? = some (.deferred (some [])) ∧ (∀ o, ¬ g.K d o) ∧ ¬ K0.F d ∧ (∀ id, (lk id σ').isSome → blk (g.μ id) ≠ some d)) →
    (∀ (i j : Nat), i ∈ is → j ∈ is → ∀ b, blk (g.μ i) = some b → blk (g.μ j) = some b → i = j) →
    ∃ w1, Hp w0 K0 σ' g w1 ∧ (∀ s v, SR σ' g w s v → SR σ' g w1 s v) ∧ w1.heap.size = w.heap.size ∧
      ∀ (F : Fence) (n : Nat) (fn : Func) (tmps : Array Value) (R : Ending → World → Prop), LeavesInM F n P fn tmps R [] .returning w1 → LeavesInM F n P fn tmps R ds .returning w
  | [], ds, w, _, hl, hp, _, _, _ => by
    cases ds with
    | nil => exact ⟨w, hp, fun _ _ h => h, rfl, fun _ _ _ _ _ h => h⟩
    | cons _ _ => cases hl
  | i :: is, ds, w, hnd, hl, hp, hno, hx, hinj => by
    cases ds with
    | nil => cases hl
    | cons x ds =>
      rw [List.nodup_cons] at hnd
      obtain ⟨d, hμ, rfl, hheap, hK, hF, hother⟩ := hx 0 i x rfl rfl
      have hbi : blk (g.μ i) = some d := by rw [hμ]; rfl
      let w1 := putO w d (.deferred none)
      have hext : Ext g.K w g.K w1 := ⟨fun _ _ h => h, fun b o hk => World.cell?_of_block (w := w) (a := ⟨b, o, none⟩) (putO_other (fun e => hK o (e ▸ hk)))⟩
      have hkeep : ∀ s v, SR σ' g w s v → SR σ' g w1 s v := fun s v h =>
        SR.keep (σ := σ') (σ' := σ') (g := g) (g' := g) (w := w) (w' := w1) (Compat.refl σ' g) hext h
      have hp1 : Hp w0 K0 σ' g w1 := by
        refine ⟨?_, hp.flt, hp.ext.trans hext, hp.old, fun b o hk => by have := hp.val b o hk; simpa [w1] using this, fun id obj hid => ?_, hp.own, hp.inj⟩
        · exact hp.kept.trans ⟨rfl, rfl, rfl, by simp [w1], fun k hk => putO_other (fun e => hF (e ▸ hk))⟩
        · exact (hp.obs id obj hid).keep hkeep hext rfl (fun b hb => putO_other (fun e => hother id (by rw [hid]; rfl) (e ▸ hb))) (fun b hb o => hp.notK hid hb o)
      have ih := shutAll hs hr is ds w1 hnd.2 (by simpa using hl) hp1 (fun j hj => hno j (List.mem_cons_of_mem _ hj)) (fun k j y hj hy => ?_) (fun j k hj hk => hinj j k (List.mem_cons_of_mem _ hj) (List.mem_cons_of_mem _ hk))
      · obtain ⟨w2, q1, q2, q3, q4⟩ := ih
        refine ⟨w2, q1, fun s v h => q2 s v (hkeep s v h), by rw [q3]; simp [w1], fun F n fn tmps R h => ?_⟩
        refine ⟨by simp, .inl ⟨d, w1, rfl, run_takeDeferred hheap, q4 F n fn tmps R h⟩⟩
      · obtain ⟨d', p1, p2, p3, p4, p5, p6⟩ := hx (k + 1) j y hj hy
        refine ⟨d', p1, p2, ?_, p4, p5, p6⟩
        have hjm : j ∈ is := List.mem_of_getElem? hj
        have hne : d' ≠ d := fun e => by
          have := hinj j i (List.mem_cons_of_mem _ hjm) (by simp) d (by rw [p1, e]; rfl) hbi
          subst this; exact hnd.1 hjm
        show (putO w d (.deferred none)).heap[d']? = _
        rw [putO_other hne]; exact p3
def PostM (tt : TT) (res : List ResultVar) (ids dfs : List Nat) (R : AV → Sg → Prop) : Exit → Fr → Sg → Prop
  | .normal, fr, σ | .ret, fr, σ => ∃ fr1 σ1, SubF fr fr1 ∧ SubS σ σ1 ∧ (rsFr σ1 fr1 && rsSg σ1 σ1 && dfs.all (fun i => !(lk i σ1).isSome)) = true ∧
      ∃ r σ', SubS σ1 σ' ∧ (rsSg σ' σ' && idsIn ids σ' && idsIn ids σ1) = true ∧ outKeep tt res fr1 σ1 σ' = some r ∧ R r σ'
  | _, _, _ => False
theorem leaves_results {fn : Func} {tmps : Array Value} {R : Ending → World → Prop} {v : Value} (hr : (results fn tmps).run P w = .ok v w) (hR : R (.returned v) w) : LeavesInM (FX none) 0 P fn tmps R [] .returning w :=
  ⟨v, hr, hR⟩
theorem ACall_of_AWM {tt : TT} (htt : tt.ok P) {f : FuncId} {fn : Func} {c : Code} {args : List AV} {σ : Sg} {R : AV → Sg → Prop} {res : List ResultVar} (dfs : List Nat) (hf : P.funcs[f]? = some fn) (hb : fn.body = some c)
    (hname : (fn.name == "runtime.NumGoroutine") = false) (hres : fn.results = res.toArray) {nt : Nat} (hnt : fn.ntmps = nt) (hle : args.length ≤ nt)
    (h : ∀ w0 K0 B, AW P ⟨w0, K0, nt, B, σ.map (·.1), none, dfs⟩ c (PostM tt res (σ.map (·.1)) dfs R) (entry 0 args) σ) : ACall P f args σ R := by
  refine ⟨⟨fn, hf, by rw [hb]; rfl, hname⟩, fun w0 K0 g w vs hL hp hs hv => ?_⟩
  refine callsIn_wide.1 (callsIn_of_wp_marks (F := Fence.wide) (n := 0) hf hb trivial ?_)
  have hrel : Rel ⟨w0, K0, nt, SR σ g w, σ.map (·.1), none, dfs⟩ (entry 0 args) σ g ⟨vs ++ Array.replicate (fn.ntmps - vs.size) undef, []⟩ w := by
    refine ⟨hp, fun t x ht => ?_, by simp; omega, DR.empty, fun s v hb => ⟨hb, SR.inI hb⟩⟩
    obtain ⟨_, hx⟩ := lk_entry args 0 t x ht
    rw [Nat.sub_zero] at hx
    have hlt : t < args.length := (List.getElem?_eq_some_iff.1 hx).1
    refine ⟨by show t < nt; omega, ?_⟩
    have hvt : vs[t]? = some (vs[t]'(by omega)) := Array.getElem?_eq_getElem (by omega)
    have e : (vs ++ Array.replicate (fn.ntmps - vs.size) undef).getD t undef = vs[t]'(by omega) := by
      rw [Array.getD_eq_getD_getElem?, Array.getElem?_append_left (by omega), hvt]; rfl
    show VR _ _ _ _ ((vs ++ Array.replicate (fn.ntmps - vs.size) undef).getD t undef)
    rw [e]
    exact VR_of_VR2 (hv t x _ hx hvt)
  refine wpIn_mono (show c.wpIn (FX none) 0 P _ _ w from (h w0 K0 _).use hL hrel) ?_
  intro e a' w' ⟨fr, τ, g', hr, hq⟩
  have fin : PostM tt res (σ.map (·.1)) dfs R .ret fr τ →
      LeavesInM Fence.wide 0 P fn a'.tmps (fun e w' => ∃ v g' σ' r, e = .returned v ∧ Did w0 K0 σ g w σ' g' w' ∧ VR2 σ' g' w' r v ∧ R r σ') a'.defers .returning w' := by
    rintro ⟨fr1, σ1, hsf, hss, hc, r, σ', hsub, hc2, ho, hR⟩
    simp only [Bool.and_eq_true, List.all_eq_true, Bool.not_eq_true'] at hc hc2
    obtain ⟨⟨hcf, hcs⟩, hno⟩ := hc
    have hsf := SubF_ok hsf
    have hss := SubS_ok hss
    have hp1 := hr.hp.weaken hss hcs
    obtain ⟨is, q1, q2, q3⟩ := hr.defers
    have hnone : ∀ i ∈ is, lk i σ1 = none := fun i hi => by
      obtain ⟨k, hk, he⟩ := List.getElem_of_mem hi
      have := (q3 k i (a'.defers[k]'(by omega)) (by rw [List.getElem?_eq_getElem hk, he]) (List.getElem?_eq_getElem (by omega))).1
      have := hno i this
      cases hl : lk i σ1 with
      | none => rfl
      | some _ => rw [hl] at this; cases this
    have hdfr : ∀ i ∈ is, lk i τ = some (.x .dfr) := fun i hi => by
      obtain ⟨k, hk, he⟩ := List.getElem_of_mem hi
      exact (q3 k i (a'.defers[k]'(by omega)) (by rw [List.getElem?_eq_getElem hk, he]) (List.getElem?_eq_getElem (by omega))).2.1
    obtain ⟨w1, s1, s2, s3, s4⟩ := shutAll (P := P) (w0 := w0) (K0 := K0) (g := g') hss hcs is a'.defers w' q1 q2 hp1 hnone (fun k i x hi hx => by
      obtain ⟨b1, b2, d, b3, b4⟩ := q3 k i x hi hx
      have hbi : blk (g'.μ i) = some d := by rw [b3]; rfl
      obtain ⟨b', h1, h2, h3, h4⟩ := hr.hp.obs i _ b2
      rw [b3] at h1; cases h1
      refine ⟨d, b3, b4, h3, h4, hr.hp.own i d (by rw [b2]; rfl) hbi, fun id hid hb => ?_⟩
      obtain ⟨ob, hob⟩ := Option.isSome_iff_exists.1 hid
      have := hr.hp.inj id i d (by rw [hss _ _ hob]; rfl) (by rw [b2]; rfl) hb hbi
      subst this
      rw [hnone id (List.mem_of_getElem? hi)] at hob; cases hob)
      (fun i j hi hj b hb1 hb2 => hr.hp.inj i j b (by rw [hdfr i hi]; rfl) (by rw [hdfr j hj]; rfl) hb1 hb2)
    refine s4 Fence.wide 0 fn a'.tmps _ ?_
    have hrel1 : Rel ⟨w0, K0, nt, SR σ g w, σ.map (·.1), none, []⟩ fr1 σ1 g' { a' with defers := [] } w1 := by
      refine ⟨s1, fun t v ht => ⟨(hr.fr t v (hsf t v ht)).1, ?_⟩, hr.size, DR.empty, fun s v hb => ⟨s2 _ _ (inI_weaken hss hc2.2 (hr.base s v hb).1 (hr.base s v hb).2), (hr.base s v hb).2⟩⟩
      exact (rsAV_ok hss (rsFr_get hcf t v ht) (hr.fr t v (hsf t v ht)).2).keep s2
    have hsup := SubS_ok hsub
    obtain ⟨v, hrun, hvr⟩ := outKeep_ok htt hrel1 hsup hres ho
    refine leaves_results hrun ?_
    exact ⟨v, _, σ', r, rfl, ⟨hrel1.hp.atEnd hsup hc2.1.1, fun s u hs => Kend_keep (inI_weaken hsup hc2.1.2 (hrel1.base s u hs).1 (hrel1.base s u hs).2)⟩, hvr, hR⟩
  cases e with
  | normal => exact fin hq
  | ret => exact fin hq
  | _ => exact hq.elim
end
end Go.QL
namespace Go.QL
open Go Go.RowKit
theorem wpIn_put {F : Fence} {n : Nat} {P : Program} {o : Oper} {a : Act} {w : World} {K : Act → World → Prop} {Q : Exit → Act → World → Prop}
    (hh : o.wpIn F n P a w K Q) : o.wpIn F n P a w (fun a' w' => K a' w' ∧ ∃ v, a'.tmps = (a.put o.dst v).tmps) Q := by
  unfold Oper.wpIn at *
  refine ⟨hh.1, ?_⟩
  have hh := hh.2
  generalize (o.semAt F.round a.eval).run P w = r at *
  cases r with
  | ok x w' =>
    cases x <;> simp only [Oper.uponIn] at hh ⊢ <;>
      first
        | exact ⟨hh, _, rfl⟩
        | exact ⟨hh, undef, by unfold Act.put; cases o.dst <;> rfl⟩
        | exact ⟨hh.1, CallsIn.mono hh.2 (fun e w'' he => by cases e <;> first | exact ⟨he, _, rfl⟩ | exact he)⟩
        | exact ⟨hh.1, RowsIn.mono hh.2 (fun _ _ he => ⟨he, _, rfl⟩)⟩
        | exact ⟨hh.1, RoundIn.mono hh.2 (fun e w'' he => by cases e <;> first | exact ⟨he, _, rfl⟩ | exact he)⟩
  | halt x w' => cases x <;> simp only [Oper.uponIn] at hh ⊢ <;> exact hh
theorem wpOpIn_put {F : Fence} {n : Nat} {P : Program} {ops : Array Oper} {i : Nat} {o : Oper} (ho : ops[i]? = some o) {a : Act} {w : World} {K : Act → World → Prop} {Q : Exit → Act → World → Prop}
    (hh : wpOpIn F n P ops Q i K a w) : wpOpIn F n P ops Q i (fun a' w' => K a' w' ∧ ∃ v, a'.tmps = (a.put o.dst v).tmps) a w := by
  unfold wpOpIn at *
  simp only [ho] at hh ⊢
  split
  · rename_i hw; simp only [hw, if_true] at hh; exact wpIn_put hh
  · rename_i hw; simp only [hw] at hh; exact ⟨hh.1, hh.2, undef, rfl⟩
def dropDs : List Nat → Fr → Fr
  | _, [] => []
  | ds, (t, v) :: r => bif ds.any (Nat.beq t) then dropDs ds r else (t, v) :: dropDs ds r
theorem dropDs_get {ds : List Nat} : ∀ {fr : Fr} {t : Nat} {v : AV}, lk t (dropDs ds fr) = some v → t ∉ ds ∧ lk t fr = some v
  | [], t, v, h => by cases h
  | (s, x) :: r, t, v, h => by
    unfold dropDs at h
    cases hb : ds.any (Nat.beq s) with
    | true =>
      rw [hb] at h
      have h := dropDs_get (fr := r) h
      refine ⟨h.1, ?_⟩
      rw [lk_cons, if_neg]
      · exact h.2
      · intro e; subst e
        rw [List.any_eq_true] at hb
        obtain ⟨d, hd, e⟩ := hb
        have := Nat.eq_of_beq_eq_true e
        subst this
        exact h.1 hd
    | false =>
      rw [hb] at h
      simp only [cond_false] at h
      rw [lk_cons] at h ⊢
      by_cases e : s = t
      · rw [if_pos e] at h ⊢
        refine ⟨fun hd => ?_, h⟩
        subst e
        have : ds.any (Nat.beq s) = true := List.any_eq_true.2 ⟨s, hd, by simp⟩
        rw [this] at hb; cases hb
      · rw [if_neg e] at h ⊢; exact dropDs_get h
theorem dropDs_put {ds : List Nat} : ∀ {fr : Fr} {t : Nat} {v : AV}, t ∉ ds → lk t fr = some v → lk t (dropDs ds fr) = some v
  | [], t, v, _, h => by cases h
  | (s, x) :: r, t, v, hn, h => by
    unfold dropDs
    rw [lk_cons] at h
    cases hb : ds.any (Nat.beq s) with
    | true =>
      simp only [cond_true]
      by_cases e : s = t
      · subst e
        rw [List.any_eq_true] at hb
        obtain ⟨d, hd, e⟩ := hb
        have := Nat.eq_of_beq_eq_true e
        subst this
        exact absurd hd hn
      · rw [if_neg e] at h; exact dropDs_put hn h
    | false =>
      simp only [cond_false]
      rw [lk_cons]
      by_cases e : s = t
      · rw [if_pos e] at h ⊢; exact h
      · rw [if_neg e] at h ⊢; exact dropDs_put hn h
def lateDs (ops : List Oper) : List Nat → List Nat
  | [] => []
  | l :: r => match (ops[l]?).bind (·.dst) with
    | some d => d :: lateDs ops r
    | none => lateDs ops r
def okLate (ops : List Oper) (ms : List Nat) (m : Nat) (dm : Option Nat) : List Nat → Bool
  | [] => true
  | l :: r => (match ops[l]? with
    | some o => Nat.blt l m && noOb o.op && (looks ops o).all (fun t => (match dm with | some d => !Nat.beq d t | none => true) &&
        (List.range m).all fun k => match (ops[k]?).bind (·.dst) with | some d => !Nat.beq d t || Nat.testBit (ms.getD l 0) k | none => true)
    | none => false) && okLate ops ms m dm r
def vcLate (P : Program) (tt : TT) (nt : Nat) (ops : List Oper) (fr : Fr) (σ : Sg) (k : Prop) : List Nat → Prop
  | [] => k
  | l :: r => match ops[l]? with
    | some o => opDr P tt ops false (selF fr (looks ops o)) σ 0 o fun gd v nob => nob = none ∧ putE nt o.dst gd v fun x => (match o.dst with | some d => lk d fr = some x | none => True) ∧ vcLate P tt nt ops fr σ k r
    | none => False
section
variable {P : Program} {Γ : Cx} {fr : Fr} {σ : Sg} {Q : Exit → Fr → Sg → Prop}
theorem sup_addFr {F F' : Fr} (h : Sup F' F) (d : Option Tmp) (v : AV) : Sup (addFr d v F') (addFr d v F) := by
  cases d with
  | none => exact h
  | some d =>
    intro t x hl
    show lk t ((d, v) :: F) = some x
    have hl : lk t ((d, v) :: F') = some x := hl
    rw [lk_cons] at hl ⊢
    by_cases e : d = t
    · rw [if_pos e] at hl ⊢; exact hl
    · rw [if_neg e] at hl ⊢; exact h t x hl
theorem vcLate_ok {tt : TT} (htt : tt.ok P) (hL : Laid P Γ.K0.K Γ.w0) {ops : List Oper} {fr : Fr} {σ : Sg} {k : Prop} : ∀ {ls : List Nat}, vcLate P tt Γ.nt ops fr σ k ls →
    k ∧ ∀ l ∈ ls, ∃ o x, ops[l]? = some o ∧ SemE P Γ ops false (selF fr (looks ops o)) σ l o x none ∧ ∀ d, o.dst = some d → lk d fr = some x ∧ d < Γ.nt
  | [], h => ⟨h, fun l hl => by cases hl⟩
  | l :: r, h => by
    unfold vcLate at h
    cases ho : ops[l]? with
    | none => rw [ho] at h; exact h.elim
    | some o =>
      rw [ho] at h
      simp only at h
      obtain ⟨gd, x, nob, ⟨hn, hk⟩, _, hsem⟩ := opDr_ok (Γ := Γ) htt hL h l
      subst hn
      obtain ⟨⟨hx, hr⟩, hd⟩ := putE_ok hk
      obtain ⟨h1, h2⟩ := vcLate_ok htt hL hr
      refine ⟨h1, fun l' hl' => ?_⟩
      rcases List.mem_cons.1 hl' with rfl | hl'
      · refine ⟨o, wrapG gd x, ho, hsem, fun d hd' => ⟨?_, hd d hd'⟩⟩
        rw [hd'] at hx; exact hx
      · exact h2 l' hl'
theorem okLate_ok {ops : List Oper} {ms : List Nat} {m : Nat} {dm : Option Nat} : ∀ {ls : List Nat}, okLate ops ms m dm ls = true → ∀ l ∈ ls, l < m ∧ ∃ o, ops[l]? = some o ∧ noOb o.op = true ∧
    ∀ t ∈ looks ops o, dm ≠ some t ∧ ∀ (k : Nat) (o' : Oper), k < m → ops[k]? = some o' → o'.dst = some t → (ms.getD l 0).testBit k = true
  | [], _, l, hl => by cases hl
  | l0 :: r, h, l, hl => by
    unfold okLate at h
    rw [Bool.and_eq_true] at h
    rcases List.mem_cons.1 hl with rfl | hl
    · cases ho : ops[l]? with
      | none => rw [ho] at h; cases h.1
      | some o =>
        rw [ho] at h
        simp only [Bool.and_eq_true, List.all_eq_true] at h
        obtain ⟨⟨⟨h1, h2⟩, h3⟩, _⟩ := h
        refine ⟨Nat.le_of_ble_eq_true h1, o, rfl, h2, fun t ht => ⟨fun e => ?_, fun k o' hk ho' hd => ?_⟩⟩
        · have := (h3 t ht).1
          rw [e] at this
          simp at this
        · have := (h3 t ht).2 k (List.mem_range.2 hk)
          rw [ho'] at this
          simp only [Option.bind_some, hd] at this
          rw [Bool.or_eq_true] at this
          rcases this with h | h
          · simp at h
          · exact h
    · exact okLate_ok h.2 l hl
theorem lateDs_mem {ops : List Oper} {d : Nat} : ∀ {ls : List Nat}, d ∈ lateDs ops ls ↔ ∃ l ∈ ls, ∃ o, ops[l]? = some o ∧ o.dst = some d
  | [] => by simp [lateDs]
  | l :: r => by
    unfold lateDs
    have ih := lateDs_mem (ops := ops) (d := d) (ls := r)
    cases ho : ops[l]? with
    | none =>
      simp only [Option.bind_none, ih, List.mem_cons]
      constructor
      · rintro ⟨l', h, h'⟩; exact ⟨l', .inr h, h'⟩
      · rintro ⟨l', rfl | h, o, h', h''⟩
        · rw [ho] at h'; cases h'
        · exact ⟨l', h, o, h', h''⟩
    | some o =>
      cases hd : o.dst with
      | none =>
        simp only [Option.bind_some, hd, ih, List.mem_cons]
        constructor
        · rintro ⟨l', h, h'⟩; exact ⟨l', .inr h, h'⟩
        · rintro ⟨l', rfl | h, o', h', h''⟩
          · rw [ho] at h'; cases h'; rw [hd] at h''; cases h''
          · exact ⟨l', h, o', h', h''⟩
      | some d' =>
        simp only [Option.bind_some, hd, ih, List.mem_cons]
        constructor
        · rintro (rfl | ⟨l', h, h'⟩)
          · exact ⟨l, .inl rfl, o, ho, hd⟩
          · exact ⟨l', .inr h, h'⟩
        · rintro ⟨l', rfl | h, o', h', h''⟩
          · rw [ho] at h'; cases h'; rw [hd] at h''; cases h''; exact .inl rfl
          · exact .inr ⟨l', h, o', h', h''⟩
structure LateGo (d : Option Tmp) (fr2 F : Fr) (K : AV → Prop) : Prop where
  ex : ∃ v, fr2 = addFr d v F ∧ K v
theorem AW_drawM {tt : TT} (htt : tt.ok P) (hmix : P.follows .mixedOrders = true) (m : Nat) (ls : List Nat) (ob : Bool) (ms : List Nat) {id : Nat} {ops : List Oper} (om : Oper) (hms : okMasks ms (m + 1) ops 0 = true) (hlen : Nat.ble (m + 1) ops.length = true)
    (hds : okDsts (ops.take (m + 1)) [] = true) (hrd : okReads ops ms (ops.take m) (ops.take m) 0 = true)
    (hom : ops[m]? = some om) (hmm : ((List.range m).all fun b => Nat.testBit (ms.getD m 0) b || ls.any (Nat.beq b)) = true) (hls : okLate ops ms m om.dst ls = true)
    (h : vcDr P tt Γ.nt ops ob ms fr σ (fun fr' σ' => vcOps P tt Γ.nt ops (fun fr2 σ2 => LateGo om.dst fr2 (dropDs (lateDs ops ls) fr') fun v =>
      vcLate P tt Γ.nt ops fr' σ2 (vcOps P tt Γ.nt ops (Q .normal) (ops.drop (m + 1)) (addFr om.dst v fr') σ2) ls) [om] (dropDs (lateDs ops ls) fr') σ') (ops.take m) [] 0 fr σ) : AW P Γ (.region id ops.toArray true) Q fr σ := by
  refine AW.mk fun hLd g a w hr => ?_
  have hm := MaskOK.of hms
  have hls := okLate_ok hls
  have hlen' : m + 1 ≤ ops.length := Nat.le_of_ble_eq_true hlen
  have hlen : m ≤ ops.length := by omega
  have hmbit : ∀ b, b < m → b ∉ ls → (ms.getD m 0).testBit b = true := by
    intro b hb hbl
    rw [List.all_eq_true] at hmm
    have := hmm b (List.mem_range.2 hb)
    rw [Bool.or_eq_true] at this
    rcases this with h | h
    · exact h
    · rw [List.any_eq_true] at h
      obtain ⟨x, hx, e⟩ := h
      have := Nat.eq_of_beq_eq_true e
      subst this
      exact absurd hx hbl
  have htake : (ops.take m).length = m := by simp; omega
  obtain ⟨es, hkL, hg, hlt, hcov⟩ := vcDr_ok (Γ := Γ) htt hLd (ops.take m) [] 0 h (fun j o hj => by
      rw [List.getElem?_take] at hj
      by_cases hjm : j < m
      · rw [if_pos hjm] at hj; simpa using hj
      · rw [if_neg hjm] at hj; cases hj) (fun e he => by simp at he) (fun j hj => by omega)
      ⟨fun e he => by simp at he, fun e he => by simp at he, fun e he => by simp at he, fun e he => by simp at he, fun e he => by simp at he⟩
  rw [htake] at hlt hcov
  simp only [Nat.zero_add] at hlt hcov
  obtain ⟨_, hd1'⟩ := okDsts_ok hds
  have hd1 : ∀ (i j : Nat) (o o' : Oper) (d : Nat), (ops.take m)[i]? = some o → (ops.take m)[j]? = some o' → o.dst = some d → o'.dst = some d → i = j := by
    intro i j o o' d hi hj
    rw [List.getElem?_take] at hi hj
    by_cases c1 : i < m
    · rw [if_pos c1] at hi
      by_cases c2 : j < m
      · rw [if_pos c2] at hj
        exact hd1' i j o o' d (by rw [List.getElem?_take, if_pos (by omega)]; exact hi) (by rw [List.getElem?_take, if_pos (by omega)]; exact hj)
      · rw [if_neg c2] at hj; cases hj
    · rw [if_neg c1] at hi; cases hi
  have hrd := fun j o h => okReadsAt_ok (okReads_ok hrd j o h)
  simp only [Nat.zero_add] at hrd
  have hop : ∀ e ∈ es, ∃ o, (ops.take m)[e.i]? = some o ∧ e.d = o.dst := fun e he => by
    obtain ⟨o, D, h1, h2, _⟩ := hg.sem e he
    exact ⟨o, by rw [List.getElem?_take, if_pos (hlt e he)]; exact h1, h2⟩
  have hfF : ∀ p ∈ frs es, ∀ q ∈ frs es, p.1 = q.1 → p = q := by
    intro p hp q hq hpq
    obtain ⟨e, he, h1, h2⟩ := mem_frs.1 hp
    obtain ⟨e', he', h1', h2'⟩ := mem_frs.1 hq
    obtain ⟨o, ho, hd⟩ := hop e he
    obtain ⟨o', ho', hd'⟩ := hop e' he'
    have := hd1 e.i e'.i o o' p.1 ho ho' (by rw [← hd, h1]) (by rw [← hd', h1', hpq])
    have := hg.idx e he e' he' this
    subst this
    obtain ⟨p1, p2⟩ := p; obtain ⟨q1, q2⟩ := q
    simp only at *
    subst hpq; subst h2; subst h2'; rfl
  have hfO : ∀ p ∈ obs es, ∀ q ∈ obs es, p.1 = q.1 → p = q := by
    intro p hp q hq hpq
    obtain ⟨e, he, h1⟩ := mem_obs.1 hp
    obtain ⟨e', he', h1'⟩ := mem_obs.1 hq
    have := hg.ids e he e' he' p q h1 h1' hpq
    subst this; rw [h1] at h1'; cases h1'; rfl
  have hfO0 : ∀ p ∈ obs es, lk p.1 σ = none := by
    intro p hp
    obtain ⟨e, he, h1⟩ := mem_obs.1 hp
    exact (hg.id0 e he p h1).1
  have supO : ∀ D E : List En, (∀ e ∈ D, e ∈ E) → (∀ e ∈ E, e ∈ es) → Sup (obs D ++ σ) (obs E ++ σ) := fun D E h1 h2 =>
    sup_app hfO hfO0 (fun p hp => by obtain ⟨e, he, h'⟩ := mem_obs.1 hp; exact mem_obs.2 ⟨e, h1 e he, h'⟩) (fun p hp => by obtain ⟨e, he, h'⟩ := mem_obs.1 hp; exact mem_obs.2 ⟨e, h2 e he, h'⟩)
  let InvA : (Nat → Prop) → Act → World → Prop := fun L a w => ∃ (E : List En) (g : Gh), (∀ e ∈ E, e ∈ es) ∧ (∀ j, L j ↔ ∃ e ∈ E, e.i = j) ∧ (∀ k, L k → ∀ b, (ms.getD k 0).testBit b = true → L b) ∧ Rel Γ (frs E ++ fr) (obs E ++ σ) g a w
  let InvB : (Nat → Prop) → Act → World → Prop := fun L a w => ∃ j, m + 1 ≤ j ∧ j ≤ ops.length ∧ (∀ b, L b ↔ b < j) ∧ wpLs Γ.ro P ops.toArray (Lift Γ Q) (ops.drop j) a w
  let InvC : (Nat → Prop) → Act → World → Prop := fun L a w => ∃ (E : List En) (g : Gh) (v : AV) (σ2 : Sg), (∀ e ∈ E, e ∈ es) ∧ (∀ j, L j ↔ (∃ e ∈ E, e.i = j) ∨ j = m) ∧ (∀ e ∈ es, e.i ∉ ls → e ∈ E) ∧ Rel Γ (addFr om.dst v (frs E ++ fr)) σ2 g a w ∧
    vcLate P tt Γ.nt ops (frs es ++ fr) σ2 (vcOps P tt Γ.nt ops (Q .normal) (ops.drop (m + 1)) (addFr om.dst v (frs es ++ fr)) σ2) ls
  have hdm : ∀ e ∈ es, ∀ d, e.d = some d → om.dst ≠ some d := by
    intro e he d hd hdm
    obtain ⟨o, ho, hd'⟩ := hop e he
    rw [List.getElem?_take, if_pos (hlt e he)] at ho
    have := hd1' e.i m o om d (by rw [List.getElem?_take, if_pos (by have := hlt e he; omega)]; exact ho) (by rw [List.getElem?_take, if_pos (by omega)]; exact hom) (by rw [← hd', hd]) hdm
    have := hlt e he; omega
  have convC : ∀ L a w, InvC L a w → (∀ b, b < m → L b) → InvB L a w := by
    intro L a w ⟨E, g, v, σ2, h1, h2, _, h3, h4⟩ hall
    refine ⟨m + 1, Nat.le_refl _, hlen', fun b => ⟨fun hb => ?_, fun hb => ?_⟩, ?_⟩
    · rcases (h2 b).1 hb with ⟨e, he, hi⟩ | rfl
      · have := hlt e (h1 e he); omega
      · omega
    · by_cases e : b = m
      · exact (h2 b).2 (.inr e)
      · exact hall b (by omega)
    · have hsub : ∀ e ∈ es, e ∈ E := by
        intro e he
        rcases (h2 e.i).1 (hall e.i (hlt e he)) with ⟨e', he', hi⟩ | hi
        · have := hg.idx e' (h1 e' he') e he hi
          subst this; exact he'
        · have := hlt e he; omega
      exact vcOps_ok htt hLd (fun _ _ h => h) (ops.drop (m + 1)) _ _ (vcLate_ok (Γ := Γ) htt hLd h4).1 g a w (h3.subF (sup_addFr (lk_app_same (fun p hp q hq => hfF p ((mem_frs_sub h1) p hp) q ((mem_frs_sub h1) q hq)) (fun p => ⟨mem_frs_sub hsub p, mem_frs_sub h1 p⟩)) _ _))
  refine wpIn_region_any hmix ?_
  refine wpAny_inv hm (fun L a w => InvA L a w ∨ InvB L a w ∨ InvC L a w) ?_ ?_ _ _ _ _ (by simp) ?_ ?_ ?_
  · -- a step
    intro L a w hinv i hi hL hbits
    have hi' : i < ops.length := by simpa using hi
    have stepB : InvB L a w → wpOpIn (FX Γ.ro) 0 P ops.toArray (Lift Γ Q) i (fun a w => InvA (fun j => L j ∨ j = i) a w ∨ InvB (fun j => L j ∨ j = i) a w ∨ InvC (fun j => L j ∨ j = i) a w) a w := by
      intro ⟨j, hj1, hj2, hj3, hj4⟩
      have hji : j ≤ i := by
        rcases Nat.lt_or_ge i j with h' | h'
        · exact absurd ((hj3 i).2 h') hL
        · exact h'
      have hij : i = j := by
        rcases Nat.lt_or_ge j i with h' | h'
        · have := hm.tail i _ (Array.getElem?_eq_getElem (by simpa using hi')) (by omega) j h'
          have := (hj3 j).1 (hbits j this)
          omega
        · omega
      subst hij
      rw [List.drop_eq_getElem_cons hi'] at hj4
      have hoi : ops.toArray[i]? = some ops[i] := by simp [hi']
      have hnew : ∀ a w, wpLs Γ.ro P ops.toArray (Lift Γ Q) (ops.drop (i + 1)) a w → InvA (fun j => L j ∨ j = i) a w ∨ InvB (fun j => L j ∨ j = i) a w ∨ InvC (fun j => L j ∨ j = i) a w := by
        intro a w hw
        refine .inr (.inl ⟨i + 1, by omega, by omega, fun b => ?_, hw⟩)
        show (L b ∨ b = i) ↔ b < i + 1
        rw [hj3 b]; omega
      unfold wpOpIn
      simp only [hoi]
      unfold wpLs wpLk at hj4
      split
      · rename_i hwant
        rw [if_pos hwant] at hj4
        exact Oper.wpIn_mono hnew hj4
      · rename_i hwant
        rw [if_neg hwant] at hj4
        exact ⟨fun _ _ => trivial, hnew _ _ hj4⟩
    rcases hinv with hA | hB | hC
    · rcases Nat.lt_or_ge i m with him | him
      · obtain ⟨E, g, h1, h2, hcl, h3⟩ := hA
        obtain ⟨en, hen, heni⟩ := hcov i him
        obtain ⟨o, D, a1, a2, a3, a4, a6, a5⟩ := hg.sem en hen
        rw [heni] at a1 a4 a5 a6
        have hDE : ∀ e ∈ D, e ∈ E := by
          intro e he
          obtain ⟨he1, he2⟩ := a4 e he
          obtain ⟨e', he', hi'⟩ := (h2 e.i).1 (hbits e.i he2)
          have := hg.idx e' (h1 e' he') e he1 hi'
          subst this; exact he'
        have hsup : Sup (selF (frs D ++ fr) (looks ops o)) (frs E ++ fr) := by
          intro t v hl
          obtain ⟨ht, hl⟩ := selF_get hl
          rcases lk_app hl with hl | ⟨hn, hl⟩
          · exact lk_app_mem (fun p hp q hq => hfF p (mem_frs_sub h1 p hp) q (mem_frs_sub h1 q hq)) (mem_frs_sub hDE _ hl)
          · rw [lk_app_none]
            · exact hl
            · intro p hp hpt
              obtain ⟨e, he, h1', h2'⟩ := mem_frs.1 hp
              obtain ⟨oe, hoe, hde⟩ := hop e (h1 e he)
              have hLe : L e.i := (h2 e.i).2 ⟨e, he, rfl⟩
              rcases hrd i o (by rw [List.getElem?_take, if_pos him]; exact a1) e.i oe t hoe (by rw [← hde, h1', hpt]) ht with hk | hk | hk
              · exact hL (hk ▸ hLe)
              · have hlt' : e.i < i := hm.lt i o (by simpa using a1) e.i hk
                exact hn p (mem_frs.2 ⟨e, a6 e (h1 e he) hk hlt', h1', h2'⟩) hpt
              · exact hL (hcl e.i hLe i hk)
        refine a5 _ (frs E ++ fr) (obs E ++ σ) g a w hsup (supO D E hDE h1) ?_ ?_ h3 _ ?_ (by simpa using a1)
        · intro hob
          have hn : ∀ X : List En, (∀ e ∈ X, e ∈ es) → obs X = [] := by
            intro X hX
            cases hx : obs X with
            | nil => rfl
            | cons p r =>
              obtain ⟨e, he, hp⟩ := mem_obs.1 (show p ∈ obs X by rw [hx]; exact List.mem_cons_self)
              have := (hg.id0 e (hX e he) p hp).2
              rw [hob] at this; cases this
          rw [hn E h1, hn D (fun e he => h1 e (hDE e he))]
        · intro p hp
          rw [lk_app_none]
          · exact (hg.id0 en hen p hp).1
          · intro q hq he
            obtain ⟨e', he', hq'⟩ := mem_obs.1 hq
            have := hg.ids e' (h1 e' he') en hen q p hq' hp he
            subst this
            exact hL ((h2 i).2 ⟨e', he', heni⟩)
        · intro v g' w' hr' hv
          left
          refine ⟨en :: E, g', fun e he => ?_, fun j => ?_, fun k hk b hb => ?_, ?_⟩
          · rcases List.mem_cons.1 he with rfl | he
            · exact hen
            · exact h1 e he
          · show (L j ∨ j = i) ↔ _
            rw [h2 j]
            constructor
            · rintro (⟨e, he, h'⟩ | rfl)
              · exact ⟨e, List.mem_cons_of_mem _ he, h'⟩
              · exact ⟨en, List.mem_cons_self, heni⟩
            · rintro ⟨e, he, h'⟩
              rcases List.mem_cons.1 he with rfl | he
              · exact .inr (h'.symm.trans heni)
              · exact .inl ⟨e, he, h'⟩
          · rcases hk with hk | rfl
            · exact .inl (hcl k hk b hb)
            · exact .inl (hbits b hb)
          · rw [← addFr_eq, ← addOb_eq]
            rw [a2]
            cases hdd : o.dst with
            | none => exact hr'
            | some d => exact hr'.put (a3 d hdd) hv
      · rcases Nat.lt_or_ge m i with hmi | hmi
        · have hall : ∀ b, b < i → L b := fun b hb => hbits b (hm.tail i _ (Array.getElem?_eq_getElem (by simpa using hi')) hmi b hb)
          obtain ⟨E, g, h1, h2, _, h3⟩ := hA
          obtain ⟨e, he, hi2⟩ := (h2 m).1 (hall m hmi)
          have := hlt e (h1 e he); omega
        · have him : i = m := by omega
          subst him
          obtain ⟨E, g, h1, h2, _, h3⟩ := hA
          have hin : ∀ e ∈ es, e.i ∉ ls → e ∈ E := by
            intro e he hne
            obtain ⟨e', he', hi2⟩ := (h2 e.i).1 (hbits e.i (hmbit e.i (hlt e he) hne))
            have := hg.idx e' (h1 e' he') e he hi2
            subst this; exact he'
          have hsupF : Sup (dropDs (lateDs ops ls) (frs es ++ fr)) (frs E ++ fr) := by
            intro t v hl
            obtain ⟨hne, hl⟩ := dropDs_get hl
            rcases lk_app hl with hl | ⟨hn, hl⟩
            · obtain ⟨e, he, hd, hx⟩ := mem_frs.1 hl
              have hel : e.i ∉ ls := by
                intro hel
                obtain ⟨o, ho, hd'⟩ := hop e he
                rw [List.getElem?_take, if_pos (hlt e he)] at ho
                exact hne (lateDs_mem.2 ⟨e.i, hel, o, ho, by rw [← hd', hd]⟩)
              exact lk_app_mem (fun p hp q hq => hfF p (mem_frs_sub h1 p hp) q (mem_frs_sub h1 q hq)) (mem_frs.2 ⟨e, hin e he hel, hd, hx⟩)
            · rw [lk_app_none fun p hp => hn p (mem_frs_sub h1 p hp)]; exact hl
          have hobs : ∀ p, p ∈ obs es → p ∈ obs E := by
            intro p hp
            obtain ⟨e, he, hp⟩ := mem_obs.1 hp
            refine mem_obs.2 ⟨e, hin e he fun hel => ?_, hp⟩
            obtain ⟨o, ho, hn⟩ := hg.obk e he p hp
            obtain ⟨_, o', ho', hn', _⟩ := hls e.i hel
            rw [ho'] at ho; cases ho
            rw [hn'] at hn; cases hn
          have hs1 : Sup (obs E ++ σ) (obs es ++ σ) := supO E es h1 (fun e he => he)
          have hs2 : Sup (obs es ++ σ) (obs E ++ σ) := sup_app (fun p hp q hq => hfO p (by obtain ⟨e, he, h'⟩ := mem_obs.1 hp; exact mem_obs.2 ⟨e, h1 e he, h'⟩) q (by obtain ⟨e, he, h'⟩ := mem_obs.1 hq; exact mem_obs.2 ⟨e, h1 e he, h'⟩)) (fun p hp => hfO0 p (by obtain ⟨e, he, h'⟩ := mem_obs.1 hp; exact mem_obs.2 ⟨e, h1 e he, h'⟩)) hobs (fun p hp => hp)
          have hr' : Rel Γ (dropDs (lateDs ops ls) (frs es ++ fr)) (obs es ++ σ) g a w := h3.same hsupF hs1 hs2
          let Γ' : Cx := ⟨Γ.w0, Γ.K0, Γ.nt, SR (obs es ++ σ) g w, (obs es ++ σ).map (·.1), Γ.ro, Γ.dfs⟩
          have hr2 : Rel Γ' (dropDs (lateDs ops ls) (frs es ++ fr)) (obs es ++ σ) g a w := ⟨hr'.hp, hr'.fr, hr'.size, hr'.defers, fun s v hb => ⟨hb, SR.inI hb⟩⟩
          have hw := vcOps_okK (Γ := Γ') htt hLd (Qx := Lift Γ Q) (K := fun a w => ∃ g2 fr2 σ2, Rel Γ' fr2 σ2 g2 a w ∧ ∃ v, fr2 = addFr om.dst v (dropDs (lateDs ops ls) (frs es ++ fr)) ∧
            vcLate P tt Γ.nt ops (frs es ++ fr) σ2 (vcOps P tt Γ.nt ops (Q .normal) (ops.drop (i + 1)) (addFr om.dst v (frs es ++ fr)) σ2) ls) (fun fr2 σ2 g2 a2 w2 hr2 hk2 => ⟨g2, fr2, σ2, hr2, hk2.ex⟩) [om] _ _ hkL g a w hr2
          have hoi : ops.toArray[i]? = some om := by simpa using hom
          have hw2 : wpOpIn (FX Γ.ro) 0 P ops.toArray (Lift Γ Q) i (fun a w => ∃ g2 fr2 σ2, Rel Γ' fr2 σ2 g2 a w ∧ ∃ v, fr2 = addFr om.dst v (dropDs (lateDs ops ls) (frs es ++ fr)) ∧
            vcLate P tt Γ.nt ops (frs es ++ fr) σ2 (vcOps P tt Γ.nt ops (Q .normal) (ops.drop (i + 1)) (addFr om.dst v (frs es ++ fr)) σ2) ls) a w := by
            unfold wpOpIn
            simp only [hoi]
            unfold wpLk at hw
            split
            · rename_i hwant
              rw [if_pos hwant] at hw
              exact hw
            · rename_i hwant
              rw [if_neg hwant] at hw
              exact ⟨fun _ _ => trivial, hw⟩
          refine wpOpIn_mono ?_ (wpOpIn_put hoi hw2)
          rintro a2 w2 ⟨⟨g2, fr2, σ2, hr2, v, rfl, hk2⟩, v', htm⟩
          refine .inr (.inr ⟨E, g2, v, σ2, h1, fun j => ?_, hin, ?_, hk2⟩)
          · show (L j ∨ j = i) ↔ _
            rw [h2 j]
          · have keep : ∀ s u, SR (obs E ++ σ) g w s u → SR σ2 g2 w2 s u := fun s u hsu => (hr2.base s u (hsu.sup hs1)).1
            refine ⟨hr2.hp, fun t x ht => ?_, hr2.size, hr2.defers, fun s u hb => ⟨keep s u (h3.base s u hb).1, (h3.base s u hb).2⟩⟩
            by_cases hdt : om.dst = some t
            · have : lk t (addFr om.dst v (dropDs (lateDs ops ls) (frs es ++ fr))) = some x := by
                rw [hdt] at ht ⊢
                have ht : lk t ((t, v) :: (frs E ++ fr)) = some x := ht
                show lk t ((t, v) :: _) = some x
                rw [lk_cons, if_pos rfl] at ht ⊢; exact ht
              exact hr2.fr t x this
            · have ht : lk t (frs E ++ fr) = some x := by
                cases hd : om.dst with
                | none => rw [hd] at ht; exact ht
                | some d =>
                  rw [hd] at ht
                  have ht : lk t ((d, v) :: (frs E ++ fr)) = some x := ht
                  rw [lk_cons, if_neg (fun e => hdt (by rw [hd, e]))] at ht
                  exact ht
              have h4 := h3.fr t x ht
              refine ⟨h4.1, ?_⟩
              have e : a2.tmps.getD t undef = a.tmps.getD t undef := by
                rw [htm]
                cases hd : om.dst with
                | none => rfl
                | some d =>
                  have : ¬ d = t := fun e => hdt (by rw [hd, e])
                  simp [Act.put, this]
              rw [e]
              exact h4.2.keep keep
    · exact stepB hB
    · rcases Nat.lt_or_ge i m with him | him
      · obtain ⟨E, g, v, σ2, h1, h2, hin, h3, h4⟩ := hC
        obtain ⟨en, hen, heni⟩ := hcov i him
        have hil : i ∈ ls := by
          by_cases c : i ∈ ls
          · exact c
          · exact absurd ((h2 i).2 (.inl ⟨en, hin en hen (by rw [heni]; exact c), heni⟩)) hL
        obtain ⟨o, x, ho, hsem, hdx⟩ := (vcLate_ok (Γ := Γ) htt hLd h4).2 i hil
        obtain ⟨_, o', ho', _, hlook⟩ := hls i hil
        rw [ho] at ho'; cases ho'
        have hend : en.d = o.dst := by
          obtain ⟨o', ho', hd⟩ := hop en hen
          rw [heni, List.getElem?_take, if_pos him, ho] at ho'
          cases ho'; exact hd
        have hsup : Sup (selF (frs es ++ fr) (looks ops o)) (addFr om.dst v (frs E ++ fr)) := by
          intro t y hl
          obtain ⟨ht, hl⟩ := selF_get hl
          obtain ⟨hdt, hwr⟩ := hlook t ht
          have hgo : lk t (frs E ++ fr) = some y := by
            rcases lk_app hl with hl | ⟨hn, hl⟩
            · obtain ⟨e, he, hd, hx⟩ := mem_frs.1 hl
              obtain ⟨oe, hoe, hde⟩ := hop e he
              rw [List.getElem?_take, if_pos (hlt e he)] at hoe
              have hbt := hbits e.i (hwr e.i oe (hlt e he) hoe (by rw [← hde, hd]))
              rcases (h2 e.i).1 hbt with ⟨e', he', hi2⟩ | hi2
              · have := hg.idx e' (h1 e' he') e he hi2
                subst this
                exact lk_app_mem (fun p hp q hq => hfF p (mem_frs_sub h1 p hp) q (mem_frs_sub h1 q hq)) (mem_frs.2 ⟨e', he', hd, hx⟩)
              · have := hlt e he; omega
            · rw [lk_app_none fun p hp => hn p (mem_frs_sub h1 p hp)]; exact hl
          cases hd : om.dst with
          | none => exact hgo
          | some d =>
            show lk t ((d, v) :: (frs E ++ fr)) = some y
            rw [lk_cons, if_neg (fun e => hdt (by rw [hd, e]))]; exact hgo
        refine hsem _ _ σ2 g a w hsup (fun _ _ h => h) (fun _ => rfl) (fun p hp => by cases hp) h3 _ (fun v' g' w' hr' hv => .inr (.inr ⟨en :: E, g', v, σ2, fun e he => ?_, fun j => ?_, fun e he hne => List.mem_cons_of_mem _ (hin e he hne), ?_, h4⟩)) (by simpa using ho)
        · rcases List.mem_cons.1 he with rfl | he
          · exact hen
          · exact h1 e he
        · show (L j ∨ j = i) ↔ _
          rw [h2 j]
          constructor
          · rintro ((⟨e, he, h'⟩ | h') | rfl)
            · exact .inl ⟨e, List.mem_cons_of_mem _ he, h'⟩
            · exact .inr h'
            · exact .inl ⟨en, List.mem_cons_self, heni⟩
          · rintro (⟨e, he, h'⟩ | h')
            · rcases List.mem_cons.1 he with rfl | he
              · exact .inr (h'.symm.trans heni)
              · exact .inl (.inl ⟨e, he, h'⟩)
            · exact .inl (.inr h')
        · have hr' : Rel Γ (addFr om.dst v (frs E ++ fr)) σ2 g' a w' := hr'
          have hE' : ∀ e ∈ en :: E, e ∈ es := fun e he => by
            rcases List.mem_cons.1 he with rfl | he
            · exact hen
            · exact h1 e he
          cases hdd : o.dst with
          | none =>
            have : frs (en :: E) = frs E := by simp only [frs, hend, hdd]
            rw [this]; exact hr'
          | some d =>
            obtain ⟨hx, hdn⟩ := hdx d hdd
            have hxe : x = en.x := by
              have := lk_app_mem (l0 := fr) hfF (mem_frs.2 ⟨en, hen, by rw [hend, hdd], rfl⟩ : (d, en.x) ∈ frs es)
              rw [hx] at this; cases this; rfl
            have hne := hdm en hen d (by rw [hend, hdd])
            refine (hr'.put hdn hv).subF ?_
            have : frs (en :: E) = (d, x) :: frs E := by simp only [frs, hend, hdd, hxe]
            rw [this]
            intro t y hl
            cases hd : om.dst with
            | none => rw [hd] at hl; exact hl
            | some d2 =>
              rw [hd] at hl
              have hl : lk t ((d2, v) :: (d, x) :: (frs E ++ fr)) = some y := hl
              show lk t ((d, x) :: (d2, v) :: (frs E ++ fr)) = some y
              rw [lk_cons, lk_cons] at hl ⊢
              have hdd2 : ¬ d2 = d := fun e => hne (by rw [hd, e])
              by_cases c1 : d2 = t
              · rw [if_pos c1] at hl
                rw [if_neg (fun e => hdd2 (c1.trans e.symm)), if_pos c1]; exact hl
              · rw [if_neg c1] at hl
                by_cases c2 : d = t
                · rw [if_pos c2] at hl ⊢; exact hl
                · rw [if_neg c2] at hl
                  rw [if_neg c2, if_neg c1]; exact hl
      · have him : m < i := by
          obtain ⟨E, g, v, σ2, h1, h2, _⟩ := hC
          have : i ≠ m := fun e => hL ((h2 i).2 (.inr e))
          omega
        have hall : ∀ b, b < i → L b := fun b hb => hbits b (hm.tail i _ (Array.getElem?_eq_getElem (by simpa using hi')) him b hb)
        exact stepB (convC L a w hC fun b hb => hall b (by omega))
  · -- the end
    intro L a w hinv hall
    have hB : InvB L a w := by
      rcases hinv with hA | hB | hC
      · obtain ⟨E, g, h1, h2, _, h3⟩ := hA
        obtain ⟨e, he, hi2⟩ := (h2 m).1 (hall m (by simp; omega))
        have := hlt e (h1 e he); omega
      · exact hB
      · exact convC L a w hC fun b hb => hall b (by simp; omega)
    obtain ⟨j, hj1, hj2, hj3, hj4⟩ := hB
    have : j = ops.length := by
      rcases Nat.lt_or_ge j ops.length with h' | h'
      · have := (hj3 j).1 (hall j (by simpa using h')); omega
      · omega
    subst this
    rw [List.drop_length] at hj4
    exact hj4
  · intro i hi
    have : (Array.replicate ops.length false)[i]?.getD false = false := by
      rw [Array.getElem?_replicate]; split <;> rfl
    simp [this] at hi
  · unfold unl
    refine Nat.le_trans (List.length_filter_le _ _) (by simp)
  · left
    refine ⟨[], g, fun e he => by simp at he, fun j => ?_, fun k hk => ?_, hr.drawn _⟩
    rotate_left
    · have : (Array.replicate ops.length false)[k]?.getD false = false := by
        rw [Array.getElem?_replicate]; split <;> rfl
      simp [this] at hk
    have : (Array.replicate ops.length false)[j]?.getD false = false := by
      rw [Array.getElem?_replicate]; split <;> rfl
    simp [this]
end
end Go.QL
namespace Go.QL
open Go Go.RowKit
section
variable {P : Program} {Γ : Cx} {fr : Fr} {σ : Sg} {Q : Exit → Fr → Sg → Prop}
theorem AW_label {l : Nat} (h : Q .normal fr σ) : AW P Γ (.label l) Q fr σ := AW.mk fun hL g a w hr => wpIn_label ⟨fr, σ, g, hr, h⟩
def Exit.noGo (Q : Exit → Fr → Sg → Prop) : Exit → Fr → Sg → Prop
  | .goto _, _, _ => False
  | e, fr, σ => Q e fr σ
section
variable {b : Frame} {a : Act} {k : List Item} {cs : List Frame} {w : World}
theorem stepR_scope {c : Code} : step P (lone (b.atR a (.code (.scope c) :: k)) cs w) = .next (lone (b.atR a (.code c :: .inScope c :: k)) cs w) :=
  step_lone_go (by simp [stepG, stepG.exec, Frame.atR])
theorem stepR_inScope {c : Code} : step P (lone (b.atR a (.inScope c :: k)) cs w) = .next (lone (b.atR a k) cs w) :=
  step_lone_go (by simp [stepG, stepG.exec, Frame.atR])
end
theorem AW_scope {c : Code} (h : AW P Γ c (Exit.noGo Q) fr σ) : AW P Γ (.scope c) Q fr σ := by
  refine AW.mk fun hL g a w hr b k cs hro hb hrm => ?_
  obtain ⟨e, a₁, w₁, ⟨fr1, σ1, g1, r1, hq⟩, harr⟩ := h.use hL hr b (.inScope c :: k) cs hro hb hrm
  have s0 : StepsIn (Machine.fenced P (FX Γ.ro)) P (lone (b.atR a (.code (.scope c) :: k)) cs w) (lone (b.atR a (.code c :: .inScope c :: k)) cs w) := .one (fenced_calm hb hrm rfl) stepR_scope
  cases e with
  | normal => exact ⟨.normal, a₁, w₁, ⟨fr1, σ1, g1, r1, hq⟩, StepsIn.trans s0 (StepsIn.trans harr (.one (fenced_calm hb hrm rfl) stepR_inScope))⟩
  | exit id =>
    refine ⟨.exit id, a₁, w₁, ⟨fr1, σ1, g1, r1, hq⟩, fun k' hk => StepsIn.trans s0 (harr.1 k' hk), fun hr' hk => ?_⟩
    obtain ⟨k₁, h1, h2⟩ := harr.2 hr' hk
    exact ⟨k₁, h1, StepsIn.trans s0 h2⟩
  | goto l => exact hq.elim
  | ret => exact ⟨.ret, a₁, w₁, ⟨fr1, σ1, g1, r1, hq⟩, fun hr' => let ⟨t, ht⟩ := harr.1 hr'; ⟨t, StepsIn.trans s0 ht⟩, fun hr' => let ⟨t, ht⟩ := harr.2 hr'; ⟨t, StepsIn.trans s0 ht⟩⟩
  | panic ch => obtain ⟨t, ht⟩ := harr; exact ⟨.panic ch, a₁, w₁, ⟨fr1, σ1, g1, r1, hq⟩, t, StepsIn.trans s0 ht⟩
  | outgrown => exact ⟨.outgrown, a₁, w₁, ⟨fr1, σ1, g1, r1, hq⟩, ArrivesIn.of_steps (e := .outgrown) (b := b) (k := k) (cs := cs) (a := a₁) (w := w₁) s0 harr⟩
theorem FnC.of_ACall {f : FuncId} {args : List AV} {r : AV} (h : ACall P f args [] (fun r' σ' => r' = r ∧ σ' = [])) (hr : pureAV r = true) : FnC P f args r := by
  refine ⟨h.1, fun K w vs hL hK hs hv => ?_⟩
  have hp : Hp w ⟨K, (· < w.heap.size)⟩ [] ⟨K, fun _ => undef⟩ w :=
    ⟨.refl _ _, fun _ h => h, .refl _ _, fun _ _ _ h => h, hK, (fun id ob hid => by cases hid), (fun id b hi => by cases hi), (fun i j b hi => by cases hi)⟩
  refine (h.2 w _ _ w vs hL hp hs hv).mono ?_
  rintro e w' ⟨v, g', σ', r', he, hd, hvr, rfl, rfl⟩
  exact ⟨v, g'.K, he, hd.hp.kept.below, hd.hp.ext, hd.hp.old, hd.hp.val, pureAV_ok (g := g') (g' := ⟨g'.K, fun _ => undef⟩) hr (Ext.refl g'.K w') hvr⟩
end
end Go.QL
namespace Go.Proofs.YtnpleednkmhhhaaDoor
open Go Go.QL
def tab : List (Nat × TI) := [
  (1, ⟨.other, 1, 8, [.nilFunc]⟩),
  (2, ⟨.int .i64, 1, 8, [.int .i64 0]⟩),
  (3, ⟨.int .i64, 1, 8, [.int .i64 0]⟩),
  (4, ⟨.bool, 1, 1, [.bool false]⟩),
  (5, ⟨.int .u8, 1, 1, [.int .u8 0]⟩),
  (6, ⟨.int .u8, 1, 1, [.int .u8 0]⟩),
  (7, ⟨.st [(0, 2), (1, 3), (2, 4), (3, 6)] [.int .i64, .int .i64, .bool, .int .u8], 4, 24, [.int .i64 0, .int .i64 0, .bool false, .int .u8 0]⟩),
  (8, ⟨.st [(0, 2), (1, 3), (2, 4), (3, 6)] [.int .i64, .int .i64, .bool, .int .u8], 4, 24, [.int .i64 0, .int .i64 0, .bool false, .int .u8 0]⟩),
  (9, ⟨.str, 1, 16, [.string ByteArray.empty]⟩),
  (10, ⟨.str, 1, 16, [.string ByteArray.empty]⟩),
  (11, ⟨.str, 1, 16, [.string ByteArray.empty]⟩),
  (12, ⟨.int .u64, 1, 8, [.int .u64 0]⟩),
  (13, ⟨.st [(0, 9), (1, 12)] [], 2, 24, [.string ByteArray.empty, .int .u64 0]⟩),
  (14, ⟨.st [(0, 9), (1, 12)] [], 2, 24, [.string ByteArray.empty, .int .u64 0]⟩),
  (15, ⟨.other, 1, 8, [.pointer none]⟩),
  (16, ⟨.other, 1, 8, [.pointer none]⟩),
  (17, ⟨.other, 1, 8, [.pointer none]⟩),
  (18, ⟨.st [(0, 17)] [], 1, 8, [.pointer none]⟩),
  (19, ⟨.st [(0, 17)] [], 1, 8, [.pointer none]⟩),
  (20, ⟨.other, 1, 16, [.nilIface]⟩),
  (21, ⟨.int .i32, 1, 4, [.int .i32 0]⟩),
  (22, ⟨.sl 23, 1, 24, [.slice none 0 0]⟩),
  (23, ⟨.sl 3, 1, 24, [.slice none 0 0]⟩),
  (24, ⟨.st [(0, 22), (1, 23)] [], 2, 48, [.slice none 0 0, .slice none 0 0]⟩),
  (25, ⟨.st [(0, 22), (1, 23)] [], 2, 48, [.slice none 0 0, .slice none 0 0]⟩),
  (26, ⟨.sl 34, 1, 24, [.slice none 0 0]⟩),
  (27, ⟨.int .i64, 1, 8, [.int .i64 0]⟩),
  (29, ⟨.other, 1, 8, [.nilFunc]⟩),
  (30, ⟨.other, 1, 8, [.nilFunc]⟩),
  (31, ⟨.other, 1, 8, [.nilFunc]⟩),
  (32, ⟨.other, 1, 8, [.nilFunc]⟩),
  (33, ⟨.st [(0, 3), (1, 3)] [.int .i64, .int .i64], 2, 16, [.int .i64 0, .int .i64 0]⟩),
  (34, ⟨.st [(0, 3), (1, 3)] [.int .i64, .int .i64], 2, 16, [.int .i64 0, .int .i64 0]⟩),
  (36, ⟨.other, 1, 8, [.nilFunc]⟩),
  (37, ⟨.other, 1, 8, [.nilFunc]⟩),
  (38, ⟨.ar 3 3, 3, 24, [.int .i64 0, .int .i64 0, .int .i64 0]⟩),
  (39, ⟨.sl 70, 1, 24, [.slice none 0 0]⟩),
  (41, ⟨.other, 1, 8, [.nilFunc]⟩),
  (42, ⟨.other, 1, 8, [.nilFunc]⟩),
  (43, ⟨.other, 1, 8, [.nilFunc]⟩),
  (45, ⟨.other, 1, 8, [.nilFunc]⟩),
  (46, ⟨.other, 1, 8, [.nilFunc]⟩),
  (48, ⟨.other, 1, 8, [.nilFunc]⟩),
  (49, ⟨.other, 1, 8, [.nilFunc]⟩),
  (50, ⟨.st [(0, 3), (1, 3), (2, 3), (3, 3), (4, 3)] [.int .i64, .int .i64, .int .i64, .int .i64, .int .i64], 5, 40, [.int .i64 0, .int .i64 0, .int .i64 0, .int .i64 0, .int .i64 0]⟩),
  (51, ⟨.st [(0, 3), (1, 3), (2, 3), (3, 3), (4, 3)] [.int .i64, .int .i64, .int .i64, .int .i64, .int .i64], 5, 40, [.int .i64 0, .int .i64 0, .int .i64 0, .int .i64 0, .int .i64 0]⟩),
  (52, ⟨.sl 92, 1, 24, [.slice none 0 0]⟩),
  (53, ⟨.st [(0, 23), (1, 23)] [], 2, 48, [.slice none 0 0, .slice none 0 0]⟩),
  (54, ⟨.st [(0, 23), (1, 23)] [], 2, 48, [.slice none 0 0, .slice none 0 0]⟩),
  (55, ⟨.sl 94, 1, 24, [.slice none 0 0]⟩),
  (57, ⟨.other, 1, 8, [.nilFunc]⟩),
  (58, ⟨.other, 1, 8, [.nilFunc]⟩),
  (60, ⟨.other, 1, 8, [.nilFunc]⟩),
  (61, ⟨.other, 1, 8, [.nilFunc]⟩),
  (62, ⟨.other, 1, 8, [.nilFunc]⟩),
  (63, ⟨.other, 1, 8, [.nilFunc]⟩),
  (64, ⟨.sl 66, 1, 24, [.slice none 0 0]⟩),
  (65, ⟨.other, 1, 8, [.nilFunc]⟩),
  (66, ⟨.int .i8, 1, 1, [.int .i8 0]⟩),
  (67, ⟨.other, 1, 8, [.nilFunc]⟩),
  (68, ⟨.other, 1, 8, [.nilFunc]⟩),
  (69, ⟨.st [(0, 3), (1, 3), (2, 3)] [.int .i64, .int .i64, .int .i64], 3, 24, [.int .i64 0, .int .i64 0, .int .i64 0]⟩),
  (70, ⟨.st [(0, 3), (1, 3), (2, 3)] [.int .i64, .int .i64, .int .i64], 3, 24, [.int .i64 0, .int .i64 0, .int .i64 0]⟩),
  (71, ⟨.other, 1, 8, [.nilFunc]⟩),
  (72, ⟨.other, 1, 8, [.nilFunc]⟩),
  (73, ⟨.other, 1, 8, [.nilFunc]⟩),
  (74, ⟨.other, 1, 8, [.nilFunc]⟩),
  (75, ⟨.other, 1, 8, [.nilFunc]⟩),
  (76, ⟨.ar 5 3, 5, 40, [.int .i64 0, .int .i64 0, .int .i64 0, .int .i64 0, .int .i64 0]⟩),
  (77, ⟨.ar 5 3, 5, 40, [.int .i64 0, .int .i64 0, .int .i64 0, .int .i64 0, .int .i64 0]⟩),
  (78, ⟨.ar 4 77, 20, 160, [.int .i64 0, .int .i64 0, .int .i64 0, .int .i64 0, .int .i64 0, .int .i64 0, .int .i64 0, .int .i64 0, .int .i64 0, .int .i64 0, .int .i64 0, .int .i64 0, .int .i64 0, .int .i64 0, .int .i64 0, .int .i64 0, .int .i64 0, .int .i64 0, .int .i64 0, .int .i64 0]⟩),
  (79, ⟨.other, 1, 8, [.nilFunc]⟩),
  (80, ⟨.sl 77, 1, 24, [.slice none 0 0]⟩),
  (81, ⟨.other, 1, 8, [.nilFunc]⟩),
  (82, ⟨.st [(0, 3), (1, 3)] [.int .i64, .int .i64], 2, 16, [.int .i64 0, .int .i64 0]⟩),
  (83, ⟨.other, 1, 8, [.nilFunc]⟩),
  (84, ⟨.other, 1, 8, [.nilFunc]⟩),
  (85, ⟨.other, 1, 8, [.nilFunc]⟩),
  (86, ⟨.other, 1, 8, [.nilFunc]⟩),
  (88, ⟨.other, 1, 8, [.nilFunc]⟩),
  (89, ⟨.other, 1, 8, [.nilFunc]⟩),
  (90, ⟨.other, 1, 8, [.nilFunc]⟩),
  (91, ⟨.st [(0, 3), (1, 3)] [.int .i64, .int .i64], 2, 16, [.int .i64 0, .int .i64 0]⟩),
  (92, ⟨.st [(0, 3), (1, 3)] [.int .i64, .int .i64], 2, 16, [.int .i64 0, .int .i64 0]⟩),
  (93, ⟨.st [(0, 3), (1, 3), (2, 3), (3, 3)] [.int .i64, .int .i64, .int .i64, .int .i64], 4, 32, [.int .i64 0, .int .i64 0, .int .i64 0, .int .i64 0]⟩),
  (94, ⟨.st [(0, 3), (1, 3), (2, 3), (3, 3)] [.int .i64, .int .i64, .int .i64, .int .i64], 4, 32, [.int .i64 0, .int .i64 0, .int .i64 0, .int .i64 0]⟩),
  (95, ⟨.other, 1, 8, [.nilFunc]⟩),
  (96, ⟨.other, 1, 8, [.nilFunc]⟩),
  (97, ⟨.other, 1, 8, [.pointer none]⟩),
  (98, ⟨.sl 5, 1, 24, [.slice none 0 0]⟩),
  (99, ⟨.st [(0, 97), (1, 98)] [], 2, 32, [.pointer none, .slice none 0 0]⟩),
  (100, ⟨.st [(0, 97), (1, 98)] [], 2, 32, [.pointer none, .slice none 0 0]⟩),
  (101, ⟨.other, 1, 16, [.nilIface]⟩),
  (102, ⟨.other, 1, 16, [.nilIface]⟩),
  (103, ⟨.other, 1, 8, [.nilFunc]⟩),
  (105, ⟨.other, 1, 8, [.nilFunc]⟩),
  (106, ⟨.other, 1, 8, [.nilFunc]⟩),
  (107, ⟨.other, 1, 8, [.nilFunc]⟩),
  (108, ⟨.other, 1, 8, [.nilFunc]⟩),
  (109, ⟨.other, 1, 8, [.nilFunc]⟩),
  (110, ⟨.other, 1, 8, [.nilFunc]⟩),
  (111, ⟨.other, 1, 8, [.nilFunc]⟩),
  (112, ⟨.other, 1, 8, [.nilFunc]⟩),
  (113, ⟨.other, 1, 8, [.nilFunc]⟩),
  (114, ⟨.other, 1, 8, [.nilFunc]⟩),
  (115, ⟨.other, 1, 8, [.nilFunc]⟩),
  (116, ⟨.other, 1, 8, [.nilFunc]⟩),
  (117, ⟨.other, 1, 8, [.nilFunc]⟩),
  (118, ⟨.other, 1, 8, [.nilFunc]⟩),
  (119, ⟨.st [(0, 51)] [.int .i64, .int .i64, .int .i64, .int .i64, .int .i64], 5, 40, [.int .i64 0, .int .i64 0, .int .i64 0, .int .i64 0, .int .i64 0]⟩),
  (120, ⟨.st [(0, 51)] [.int .i64, .int .i64, .int .i64, .int .i64, .int .i64], 5, 40, [.int .i64 0, .int .i64 0, .int .i64 0, .int .i64 0, .int .i64 0]⟩),
  (121, ⟨.other, 1, 8, [.nilFunc]⟩),
  (122, ⟨.st [(0, 3), (1, 3)] [.int .i64, .int .i64], 2, 16, [.int .i64 0, .int .i64 0]⟩),
  (123, ⟨.st [(0, 3), (1, 3)] [.int .i64, .int .i64], 2, 16, [.int .i64 0, .int .i64 0]⟩),
  (124, ⟨.mp 3 123, 1, 8, [.map none]⟩),
  (125, ⟨.other, 1, 8, [.nilFunc]⟩),
  (126, ⟨.other, 1, 8, [.nilFunc]⟩),
  (127, ⟨.other, 1, 8, [.nilFunc]⟩),
  (128, ⟨.other, 1, 8, [.nilFunc]⟩),
  (129, ⟨.other, 1, 8, [.nilFunc]⟩),
  (130, ⟨.other, 1, 8, [.nilFunc]⟩),
  (131, ⟨.other, 1, 8, [.nilFunc]⟩),
  (132, ⟨.other, 1, 8, [.nilFunc]⟩),
  (133, ⟨.int .u64, 1, 8, [.int .u64 0]⟩),
  (135, ⟨.other, 1, 8, [.nilFunc]⟩),
  (136, ⟨.other, 1, 8, [.nilFunc]⟩),
  (137, ⟨.other, 1, 8, [.nilFunc]⟩),
  (138, ⟨.other, 1, 8, [.nilFunc]⟩),
  (139, ⟨.other, 1, 8, [.nilFunc]⟩),
  (140, ⟨.other, 1, 8, [.nilFunc]⟩),
  (141, ⟨.other, 1, 8, [.pointer none]⟩),
  (142, ⟨.other, 1, 8, [.nilFunc]⟩),
  (143, ⟨.other, 1, 8, [.nilFunc]⟩),
  (144, ⟨.other, 1, 8, [.nilFunc]⟩),
  (145, ⟨.other, 1, 8, [.nilFunc]⟩),
  (146, ⟨.sl 27, 1, 24, [.slice none 0 0]⟩),
  (147, ⟨.other, 1, 8, [.nilFunc]⟩),
  (148, ⟨.other, 1, 8, [.nilFunc]⟩),
  (149, ⟨.other, 1, 8, [.nilFunc]⟩),
  (150, ⟨.sl 82, 1, 24, [.slice none 0 0]⟩),
  (151, ⟨.other, 1, 8, [.nilFunc]⟩),
  (152, ⟨.int .u32, 1, 4, [.int .u32 0]⟩),
  (154, ⟨.other, 1, 8, [.nilFunc]⟩),
  (155, ⟨.int .u64, 1, 8, [.int .u64 0]⟩),
  (157, ⟨.other, 1, 8, [.nilFunc]⟩),
  (158, ⟨.other, 1, 8, [.pointer none]⟩),
  (159, ⟨.other, 1, 8, [.nilFunc]⟩),
  (160, ⟨.other, 1, 8, [.nilFunc]⟩),
  (161, ⟨.ar 24 5, 24, 24, [.int .u8 0, .int .u8 0, .int .u8 0, .int .u8 0, .int .u8 0, .int .u8 0, .int .u8 0, .int .u8 0, .int .u8 0, .int .u8 0, .int .u8 0, .int .u8 0, .int .u8 0, .int .u8 0, .int .u8 0, .int .u8 0, .int .u8 0, .int .u8 0, .int .u8 0, .int .u8 0, .int .u8 0, .int .u8 0, .int .u8 0, .int .u8 0]⟩),
  (162, ⟨.other, 1, 8, [.nilFunc]⟩),
  (163, ⟨.other, 1, 8, [.nilFunc]⟩),
  (165, ⟨.other, 1, 8, [.nilFunc]⟩),
  (166, ⟨.other, 1, 8, [.nilFunc]⟩),
  (167, ⟨.other, 1, 8, [.nilFunc]⟩),
  (168, ⟨.ar 20 155, 20, 160, [.int .u64 0, .int .u64 0, .int .u64 0, .int .u64 0, .int .u64 0, .int .u64 0, .int .u64 0, .int .u64 0, .int .u64 0, .int .u64 0, .int .u64 0, .int .u64 0, .int .u64 0, .int .u64 0, .int .u64 0, .int .u64 0, .int .u64 0, .int .u64 0, .int .u64 0, .int .u64 0]⟩),
  (169, ⟨.ar 65 5, 65, 65, [.int .u8 0, .int .u8 0, .int .u8 0, .int .u8 0, .int .u8 0, .int .u8 0, .int .u8 0, .int .u8 0, .int .u8 0, .int .u8 0, .int .u8 0, .int .u8 0, .int .u8 0, .int .u8 0, .int .u8 0, .int .u8 0, .int .u8 0, .int .u8 0, .int .u8 0, .int .u8 0, .int .u8 0, .int .u8 0, .int .u8 0, .int .u8 0, .int .u8 0, .int .u8 0, .int .u8 0, .int .u8 0, .int .u8 0, .int .u8 0, .int .u8 0, .int .u8 0, .int .u8 0, .int .u8 0, .int .u8 0, .int .u8 0, .int .u8 0, .int .u8 0, .int .u8 0, .int .u8 0, .int .u8 0, .int .u8 0, .int .u8 0, .int .u8 0, .int .u8 0, .int .u8 0, .int .u8 0, .int .u8 0, .int .u8 0, .int .u8 0, .int .u8 0, .int .u8 0, .int .u8 0, .int .u8 0, .int .u8 0, .int .u8 0, .int .u8 0, .int .u8 0, .int .u8 0, .int .u8 0, .int .u8 0, .int .u8 0, .int .u8 0, .int .u8 0, .int .u8 0]⟩),
  (170, ⟨.other, 1, 8, [.nilFunc]⟩),
  (171, ⟨.other, 1, 8, [.nilFunc]⟩),
  (172, ⟨.ar 32 5, 32, 32, [.int .u8 0, .int .u8 0, .int .u8 0, .int .u8 0, .int .u8 0, .int .u8 0, .int .u8 0, .int .u8 0, .int .u8 0, .int .u8 0, .int .u8 0, .int .u8 0, .int .u8 0, .int .u8 0, .int .u8 0, .int .u8 0, .int .u8 0, .int .u8 0, .int .u8 0, .int .u8 0, .int .u8 0, .int .u8 0, .int .u8 0, .int .u8 0, .int .u8 0, .int .u8 0, .int .u8 0, .int .u8 0, .int .u8 0, .int .u8 0, .int .u8 0, .int .u8 0]⟩),
  (173, ⟨.ar 64 5, 64, 64, [.int .u8 0, .int .u8 0, .int .u8 0, .int .u8 0, .int .u8 0, .int .u8 0, .int .u8 0, .int .u8 0, .int .u8 0, .int .u8 0, .int .u8 0, .int .u8 0, .int .u8 0, .int .u8 0, .int .u8 0, .int .u8 0, .int .u8 0, .int .u8 0, .int .u8 0, .int .u8 0, .int .u8 0, .int .u8 0, .int .u8 0, .int .u8 0, .int .u8 0, .int .u8 0, .int .u8 0, .int .u8 0, .int .u8 0, .int .u8 0, .int .u8 0, .int .u8 0, .int .u8 0, .int .u8 0, .int .u8 0, .int .u8 0, .int .u8 0, .int .u8 0, .int .u8 0, .int .u8 0, .int .u8 0, .int .u8 0, .int .u8 0, .int .u8 0, .int .u8 0, .int .u8 0, .int .u8 0, .int .u8 0, .int .u8 0, .int .u8 0, .int .u8 0, .int .u8 0, .int .u8 0, .int .u8 0, .int .u8 0, .int .u8 0, .int .u8 0, .int .u8 0, .int .u8 0, .int .u8 0, .int .u8 0, .int .u8 0, .int .u8 0, .int .u8 0]⟩),
  (174, ⟨.st [(0, 17), (1, 17), (2, 17), (3, 9)] [], 4, 40, [.pointer none, .pointer none, .pointer none, .string ByteArray.empty]⟩),
  (175, ⟨.st [(0, 17), (1, 17), (2, 17), (3, 9)] [], 4, 40, [.pointer none, .pointer none, .pointer none, .string ByteArray.empty]⟩),
  (176, ⟨.ar 0 16, 0, 0, []⟩),
  (177, ⟨.st [(0, 176)] [], 0, 0, []⟩),
  (178, ⟨.st [(0, 176)] [], 0, 0, []⟩),
  (179, ⟨.int .u8, 1, 1, [.int .u8 0]⟩),
  (180, ⟨.int .u8, 1, 1, [.int .u8 0]⟩),
  (181, ⟨.other, 1, 8, [.nilFunc]⟩),
  (182, ⟨.int .i32, 1, 4, [.int .i32 0]⟩),
  (183, ⟨.int .i32, 1, 4, [.int .i32 0]⟩),
  (184, ⟨.st [(0, 12), (1, 12), (2, 152), (3, 179), (4, 5), (5, 5), (6, 180), (7, 181), (8, 141), (9, 182), (10, 183)] [], 11, 48, [.int .u64 0, .int .u64 0, .int .u32 0, .int .u8 0, .int .u8 0, .int .u8 0, .int .u8 0, .nilFunc, .pointer none, .int .i32 0, .int .i32 0]⟩),
  (185, ⟨.st [(0, 12), (1, 12), (2, 152), (3, 179), (4, 5), (5, 5), (6, 180), (7, 181), (8, 141), (9, 182), (10, 183)] [], 11, 48, [.int .u64 0, .int .u64 0, .int .u32 0, .int .u8 0, .int .u8 0, .int .u8 0, .int .u8 0, .nilFunc, .pointer none, .int .i32 0, .int .i32 0]⟩)]
set_option maxRecDepth 100000 in
theorem tab_is : tab.map (fun p => tiOf Tryd.prog p.1) = tab.map (fun p => some p.2) := by kernel_rfl
theorem tab_good : tab.all (fun p => tiGood p.2) = true := by kernel_rfl
def Tt : TT := fun T => lk T tab
theorem hTt : Tt.ok Tryd.prog := tab_ok tab_is tab_good
theorem hMix : Tryd.prog.follows .mixedOrders = true := by kernel_rfl
end Go.Proofs.YtnpleednkmhhhaaDoor
namespace Go.Proofs.YtnpleednkmhhhaaDoor
open Go Go.QL
theorem gd_none {p : Prop} (h : p) : Gd none p := h
theorem gd_any {gd : Option Bool} {p : Prop} (h : p) : Gd gd p := by
  cases gd with
  | none => exact h
  | some c => exact fun _ => h
theorem gd_self {c : Bool} : Gd (some c) (c = true) := fun h => h
theorem gd_some {c : Bool} {p : Prop} (h : c = true → p) : Gd (some c) p := h
theorem map_get {α β : Type} {f : α → β} {l : List α} {i : Nat} (h : i < l.length) : (l.map f)[((i : Int)).toNat]? = some (f l[i]) := by
  simp [h]
theorem map_get' {α β : Type} {f : α → β} {l : List α} {n : Int} (h0 : 0 ≤ n) (h : n.toNat < l.length) : (l.map f)[n.toNat]? = some (f (l[n.toNat]'h)) := by
  simp [h]
theorem map_some {α β : Type} {f : α → β} {l : List α} {i : Nat} {x : α} (h : l[i]? = some x) : (l.map f)[((i : Int)).toNat]? = some (f x) := by simp [h]
theorem map_some' {α β : Type} {f : α → β} {l : List α} {i : Int} {x : α} (h : l[i.toNat]? = some x) : (l.map f)[i.toNat]? = some (f x) := by simp [h]
theorem andA {p q : Prop} (hq : q) (hp : p := by first | exact trivial | rfl | exact gd_self | exact gd_any (by omega) | exact fun h => h | decide | (constructor <;> simp [chunk, maxLen]; done) | (intro h; simpa using h)) : p ∧ q := ⟨hp, hq⟩
theorem ivE {k : IntKind} {a b : Int} (h : a = b) : some (iv k a) = some (iv k b) := by rw [h]
theorem oE {c st n m : Nat} (h : n = m) : some (AV.x (.o c st n)) = some (AV.x (.o c st m)) := by rw [h]
theorem chE {e : TypeId} {sz st : Nat} {l m : List (List PV)} (h : l = m) : some (Ob.chain e sz st l) = some (Ob.chain e sz st m) := by rw [h]
theorem svE {a b : ByteArray} (h : a = b) : some (sv a) = some (sv b) := by rw [h]
theorem impA {Γ : Cx} {fr fr' : Fr} {σ σ' : Sg}
    (hf : SubF fr fr' := by repeat' (first | exact trivial | refine And.intro ?_ ?_ | exact chE (by assumption) | rfl | exact ivE (by first | omega | (simp only [List.length_map, List.length_append, List.length_singleton] <;> omega)) | exact oE (by first | omega | (simp only [List.length_map, List.length_append, List.length_singleton] <;> omega))))
    (hs : SubS σ σ' := by repeat' (first | exact trivial | refine And.intro ?_ ?_ | exact chE (by assumption) | rfl | exact ivE (by first | omega | (simp only [List.length_map, List.length_append, List.length_singleton] <;> omega)) | exact oE (by first | omega | (simp only [List.length_map, List.length_append, List.length_singleton] <;> omega))))
    (hr : (rsFr σ' fr' && rsSg σ' σ') = true := by kernel_rfl) (hB : idsIn Γ.ids σ' = true := by kernel_rfl) (hD : dfsIn Γ.dfs σ σ' = true := by kernel_rfl) : Imp Γ fr σ fr' σ' := Imp.forget hf hs hr hB hD
def asc (l : List (Nat × Nat)) (i : Nat) : Nat := match lk i l with
  | some j => j
  | none => i
def sl (l : List Int) : AV := .x (.d (.s 1 (l.map fun n => [.v (.int .i64 n)])))
def intsPV (l : List Int) : PV := .s 1 (l.map fun n => [.v (.int .i64 n)])
def rowsAV (l : List (List Int)) : AV := .x (.d (.s 1 (l.map fun r => [intsPV r])))
def i64 (n : Int) : Prop := -9223372036854775808 ≤ n ∧ n ≤ 9223372036854775807
abbrev R2 := Int × Int
def r2PV (x : R2) : List PV := [.v (.int .i64 x.1), .v (.int .i64 x.2)]
def r2AV (x : R2) : AV := .a [.d (.v (.int .i64 x.1)), .d (.v (.int .i64 x.2))]
def r2sAV (l : List R2) : AV := .x (.d (.s 2 (l.map r2PV)))
theorem outO2 {tt : TT} {a b : Tmp} {fr : Fr} {σ : Sg} {c st n : Nat} {e : TypeId} {sz : Nat} {xs : List (List PV)} {p : PV} (h1 : lk a fr = some (.x (.o c st n))) (h2 : lk b fr = some (.x (.d p))) (h3 : lk c σ = some (.chain e sz st xs)) (h4 : n ≤ xs.length) :
    outcome tt [.tmp a, .tmp b] fr σ = some (.t [.x (.d (.s sz (xs.take n))), .x (.d p)]) := by
  simp [outcome, resAVs, resAV, h1, h2, viewAV, viewAVs, viewAV1, viewSV, h3, h4]
theorem outK1 {tt : TT} {a : Tmp} {fr : Fr} {σ σ' : Sg} {c st n : Nat} {e : TypeId} {sz : Nat} {xs : List (List PV)} (h1 : lk a fr = some (.x (.o c st n))) (h2 : lk c σ' = none) (h3 : lk c σ = some (.chain e sz st xs)) (h4 : n ≤ xs.length) :
    outKeep tt [.tmp a] fr σ σ' = some (.x (.d (.s sz (xs.take n)))) := by
  simp [outKeep, resAVs, resAV, h1, keepAV1, keepSV, h2, viewSV, h3, h4]
theorem leS {sz : Nat} {xs ys : List (List PV)} {x : AV} (h : xs = ys) : LeAV (.t [.x (.d (.s sz xs)), x]) (.t [.x (.d (.s sz ys)), x]) := by
  rw [h]; exact ⟨_, rfl, LeAV1.refl _, LeAV1.refl _, trivial⟩
theorem leN {sz : Nat} {x : AV} : LeAV (.t [.x (.d (.v (.slice none 0 0))), x]) (.t [.x (.d (.s sz [])), x]) := ⟨_, rfl, LeAV1.nil _, LeAV1.refl _, trivial⟩
end Go.Proofs.YtnpleednkmhhhaaDoor
namespace Go.Proofs.YtnpleednkmhhhaaDoor
open Go Go.QL
set_option maxHeartbeats 1600000
attribute [local irreducible] ACall FnC
def fstI {α : Type} (p : α → Bool) : List α → Nat → Option Nat
  | [], _ => none
  | x :: r, j => if p x = true then some j else fstI p r (j + 1)
def idxI {α : Type} (p : α → Bool) (xs : List α) : Int :=
  match fstI p xs 0 with
  | some j => j
  | none => -1
theorem fstI_any {α : Type} (p : α → Bool) (xs : List α) (j : Nat) : (fstI p xs j).isSome = xs.any p := by
  induction xs generalizing j with
  | nil => rfl
  | cons x r ih =>
    simp only [fstI, List.any_cons]
    cases h : p x with
    | true => simp
    | false => simp [ih]
theorem idxI_any {α : Type} (p : α → Bool) (xs : List α) : decide (0 ≤ idxI p xs) = xs.any p := by
  rw [← fstI_any p xs 0]
  unfold idxI
  cases fstI p xs 0 with
  | none => rfl
  | some j => simp
theorem idxf_fn (fid : FuncId) (cs : List SV) (p : Int → Bool) (xs : List Int) (σ : Sg)
    (hf : ∀ x ∈ xs, ACall Tryd.prog fid ([].map AV.x ++ [iv .i64 x] ++ cs.map .x) σ (fun r σ' => r = bv (p x) ∧ σ' = σ)) :
    ACall Tryd.prog 73 [sl xs, .x (.f (.func fid) [] cs)] σ (fun r σ' => r = iv .i64 (idxI p xs) ∧ σ' = σ) := by
  refine ACall_of_AW hTt Tryd.func73 rfl (by kernel_rfl) (res := [.tmp 4]) rfl Tryd.ntmps73 (by simp) fun w0 K0 B => ?_
  dsimp only [entry]
  repeat' first | with_reducible refine AW_seq ?_ | with_reducible refine AW_block ?_ | ((with_reducible refine AW_region hTt ?_); conv => whnf) | (refine fun hln => ?_; (try rw [List.length_map] at hln); unfold maxLen at hln; conv => whnf) | fail
  refine AW_loop (fun i : Nat => [(8, iv .i64 i), (7, iv .i64 xs.length), (0, sl xs), (1, .x (.f (.func fid) [] cs))]) (fun _ => σ)
    (fun i => i ≤ xs.length ∧ fstI p xs 0 = fstI p (xs.drop i) i) (fun i => xs.length - i) 0 (by simp) (Imp.slots ⟨rfl, congrArg (fun k : Nat => some (iv .i64 k)) (List.length_map _), rfl, rfl, trivial⟩) ?_
  rintro i ⟨hi, hfo⟩
  rcases Nat.lt_or_ge i xs.length with hil | hil
  · have hc := hf xs[i] (List.getElem_mem hil)
    rw [List.drop_eq_getElem_cons hil] at hfo
    simp only [fstI] at hfo
    generalize p xs[i] = b at hc hfo
    cases b with
    | true =>
      rw [if_pos rfl] at hfo
      repeat' first | with_reducible refine AW_seq ?_ | with_reducible refine AW_block ?_ | ((first | with_reducible refine AW_skip ?_ | with_reducible refine AW_exit ?_ | with_reducible refine AW_ret ?_ | with_reducible refine AW_region hTt ?_ | fail); conv => whnf) | (exact absurd hb (by omega)) | ((refine ⟨_, hc, ?_⟩); (rintro _ _ ⟨rfl, rfl⟩); conv => whnf) | (refine AW_cond rfl (fun _ => ?_) (fun hb => absurd (show true = false from hb) (by decide))) | (refine AW_cond rfl (fun hb => ?_) (fun hb => ?_) <;> first | (replace hb := of_decide_eq_true hb; try simp only [List.length_map] at hb) | (replace hb := of_decide_eq_false hb; try simp only [List.length_map] at hb) | (simp only [List.length_map, bne_iff_ne, ne_eq, beq_iff_eq, bne_eq_false_iff_eq, beq_eq_false_iff_ne, decide_eq_true_eq, decide_eq_false_iff_not, Bool.not_eq_true', Bool.not_eq_false', Int.natCast_inj] at hb) | skip) | ((first | refine andA ?_ | with_reducible refine Exists.intro _ (And.intro (gd_any (And.intro (by omega) (map_get (by omega)))) ?_) | fail); conv => whnf) | fail
      exact ⟨_, rfl, by unfold idxI; rw [hfo], rfl⟩
    | false =>
      rw [if_neg (by decide)] at hfo
      repeat' first | with_reducible refine AW_seq ?_ | with_reducible refine AW_block ?_ | ((first | with_reducible refine AW_skip ?_ | with_reducible refine AW_exit ?_ | with_reducible refine AW_ret ?_ | with_reducible refine AW_region hTt ?_ | fail); conv => whnf) | (exact absurd hb (by omega)) | ((refine ⟨_, hc, ?_⟩); (rintro _ _ ⟨rfl, rfl⟩); conv => whnf) | (refine AW_cond rfl (fun hb => absurd (show false = true from hb) (by decide)) (fun _ => ?_)) | (refine AW_cond rfl (fun hb => ?_) (fun hb => ?_) <;> first | (replace hb := of_decide_eq_true hb; try simp only [List.length_map] at hb) | (replace hb := of_decide_eq_false hb; try simp only [List.length_map] at hb) | (simp only [List.length_map, bne_iff_ne, ne_eq, beq_iff_eq, bne_eq_false_iff_eq, beq_eq_false_iff_ne, decide_eq_true_eq, decide_eq_false_iff_not, Bool.not_eq_true', Bool.not_eq_false', Int.natCast_inj] at hb) | skip) | ((first | refine ⟨_, wrap_of (by first | omega | (simp only [List.length_map]; omega)), ?_⟩ | refine andA ?_ | with_reducible refine Exists.intro _ (And.intro (gd_any (And.intro (by omega) (map_get (by omega)))) ?_) | fail); conv => whnf) | fail
      exact ⟨i + 1, ⟨by omega, hfo⟩, by omega, Imp.slots ⟨rfl, rfl, rfl, rfl, trivial⟩⟩
  · rw [List.drop_eq_nil_of_le hil] at hfo
    repeat' first | with_reducible refine AW_seq ?_ | with_reducible refine AW_block ?_ | ((first | with_reducible refine AW_skip ?_ | with_reducible refine AW_exit ?_ | with_reducible refine AW_ret ?_ | with_reducible refine AW_region hTt ?_ | fail); conv => whnf) | (exact absurd hb (by omega)) | (refine AW_cond rfl (fun hb => ?_) (fun hb => ?_) <;> first | (replace hb := of_decide_eq_true hb; try simp only [List.length_map] at hb) | (replace hb := of_decide_eq_false hb; try simp only [List.length_map] at hb) | (simp only [List.length_map, bne_iff_ne, ne_eq, beq_iff_eq, bne_eq_false_iff_eq, beq_eq_false_iff_ne, decide_eq_true_eq, decide_eq_false_iff_not, Bool.not_eq_true', Bool.not_eq_false', Int.natCast_inj] at hb) | skip) | fail
    exact ⟨_, rfl, by unfold idxI; rw [hfo]; rfl, rfl⟩
theorem contains_fn (fid : FuncId) (cs : List SV) (p : Int → Bool) (xs : List Int) (σ : Sg)
    (hf : ∀ x ∈ xs, ACall Tryd.prog fid ([].map AV.x ++ [iv .i64 x] ++ cs.map .x) σ (fun r σ' => r = bv (p x) ∧ σ' = σ)) :
    ACall Tryd.prog 59 [sl xs, .x (.f (.func fid) [] cs)] σ (fun r σ' => r = bv (xs.any p) ∧ σ' = σ) := by
  have hc := idxf_fn fid cs p xs σ hf
  rw [← idxI_any]
  refine ACall_of_AW hTt Tryd.func59 rfl (by kernel_rfl) (res := [.tmp 4]) rfl Tryd.ntmps59 (by simp) fun w0 K0 B => ?_
  dsimp only [entry]
  repeat' first | with_reducible refine AW_seq ?_ | ((first | with_reducible refine AW_ret ?_ | with_reducible refine AW_region hTt ?_ | ((refine ⟨_, hc, ?_⟩); (rintro _ _ ⟨rfl, rfl⟩)) | fail); conv => whnf) | fail
  exact ⟨_, rfl, rfl, rfl⟩
def outB (lo hi n : Int) : Bool := bif decide (n < lo) then true else decide (hi < n)
def outL (lo hi : Int) (xs : List Int) : Bool := xs.any (outB lo hi)
theorem outc_fn (lo hi x : Int) : ACall Tryd.prog 82 [iv .i64 x, .x (.b 3 0), .x (.b 4 0)] [(4, .box [.d (.v (.int .i64 hi))]), (3, .box [.d (.v (.int .i64 lo))])]
    (fun r σ' => r = bv (outB lo hi x) ∧ σ' = [(4, .box [.d (.v (.int .i64 hi))]), (3, .box [.d (.v (.int .i64 lo))])]) := by
  refine ACall_of_AW hTt Tryd.func82 rfl (by kernel_rfl) (res := [.tmp 4]) rfl Tryd.ntmps82 (by simp) fun w0 K0 B => ?_
  dsimp only [entry]
  repeat' first | with_reducible refine AW_seq ?_ | ((first | with_reducible refine AW_ret ?_ | with_reducible refine AW_region hTt ?_ | refine andA ?_ | fail); conv => whnf) | fail
  exact ⟨_, rfl, rfl, rfl⟩
theorem out_fn (lo hi : Int) (xs : List Int) : FnC Tryd.prog 39 [iv .i64 lo, iv .i64 hi, sl xs] (bv (outL lo hi xs)) := by
  have hc := contains_fn 82 [.b 3 0, .b 4 0] (outB lo hi) xs _ (fun x _ => outc_fn lo hi x)
  unfold outL
  generalize xs.any (outB lo hi) = b at hc
  refine FnC_of_AW hTt Tryd.func39 rfl (by kernel_rfl) (res := [.tmp 6]) rfl Tryd.ntmps39 (by simp) fun w0 K0 => ?_
  dsimp only [entry]
  repeat' first | with_reducible refine AW_seq ?_ | ((first | with_reducible refine AW_ret ?_ | with_reducible refine AW_region hTt ?_ | ((refine ⟨_, hc, ?_⟩); (rintro _ _ ⟨rfl, rfl⟩)) | fail); conv => whnf) | fail
  rfl
theorem outL_nil (lo hi : Int) : outL lo hi [] = false := rfl
theorem outL_one (lo hi x : Int) : outL lo hi [x] = outB lo hi x := by unfold outL; simp
theorem outB_false {lo hi n : Int} : outB lo hi n = false ↔ lo ≤ n ∧ n ≤ hi := by
  unfold outB
  cases h : decide (n < lo) with
  | true =>
    have := of_decide_eq_true h
    constructor
    · intro h; cases h
    · intro h; exfalso; omega
  | false => have := of_decide_eq_false h; simp only [cond_false, decide_eq_false_iff_not]; omega
theorem outL_false {lo hi : Int} {xs : List Int} : outL lo hi xs = false ↔ ∀ n ∈ xs, lo ≤ n ∧ n ≤ hi := by
  unfold outL
  rw [List.any_eq_false]
  exact ⟨fun h n hn => outB_false.1 (by simpa using h n hn), fun h n hn => by simpa using outB_false.2 (h n hn)⟩
end Go.Proofs.YtnpleednkmhhhaaDoor
namespace Go.Proofs.YtnpleednkmhhhaaDoor
open Go Go.QL
set_option maxHeartbeats 1600000
attribute [local irreducible] ACall FnC
def firstNZ : List Int → Int
  | [] => 0
  | x :: r => if x ≠ 0 then x else firstNZ r
theorem or_fn (xs : List Int) : FnC Tryd.prog 84 [sl xs] (iv .i64 (firstNZ xs)) := by
  refine FnC_of_AW hTt Tryd.func84 rfl (by kernel_rfl) (res := [.tmp 2]) rfl Tryd.ntmps84 (by simp) fun w0 K0 => ?_
  dsimp only [entry]
  repeat' first | with_reducible refine AW_seq ?_ | with_reducible refine AW_block ?_ | ((with_reducible refine AW_region hTt ?_); conv => whnf) | (refine fun hln => ?_; (try rw [List.length_map] at hln); unfold maxLen at hln; conv => whnf) | fail
  refine AW_loop (fun i : Nat => [(8, iv .i64 i), (7, iv .i64 xs.length), (6, sl xs), (3, iv .i64 0)]) (fun _ => [])
    (fun i => i ≤ xs.length ∧ firstNZ xs = firstNZ (xs.drop i)) (fun i => xs.length - i) 0 (by simp) (Imp.slots ⟨rfl, congrArg (fun k : Nat => some (iv .i64 k)) (List.length_map _), rfl, rfl, trivial⟩) ?_
  generalize hR : firstNZ xs = R
  rintro i ⟨hi, hfo⟩
  rcases Nat.lt_or_ge i xs.length with hil | hil
  · rw [List.drop_eq_getElem_cons hil] at hfo
    simp only [firstNZ] at hfo
    by_cases hz : xs[i] = 0
    · rw [if_neg (by simpa using hz)] at hfo
      repeat' first | with_reducible refine AW_seq ?_ | with_reducible refine AW_block ?_ | ((first | with_reducible refine AW_skip ?_ | with_reducible refine AW_exit ?_ | with_reducible refine AW_ret ?_ | with_reducible refine AW_region hTt ?_ | fail); conv => whnf) | (exact absurd hb (by omega)) | (refine AW_cond rfl (fun hb => ?_) (fun hb => ?_) <;> first | (replace hb := of_decide_eq_true hb; try simp only [List.length_map] at hb) | (replace hb := of_decide_eq_false hb; try simp only [List.length_map] at hb) | (simp only [List.length_map, bne_iff_ne, ne_eq, beq_iff_eq, bne_eq_false_iff_eq, beq_eq_false_iff_ne, decide_eq_true_eq, decide_eq_false_iff_not, Bool.not_eq_true', Bool.not_eq_false', Int.natCast_inj] at hb)) | ((first | refine ⟨_, wrap_of (by first | omega | (simp only [List.length_map]; omega)), ?_⟩ | refine andA ?_ | with_reducible refine Exists.intro _ (And.intro (gd_any (And.intro (by omega) (map_get (by omega)))) ?_) | fail); conv => whnf) | fail
      exact ⟨i + 1, ⟨by omega, hfo⟩, by omega, Imp.slots ⟨rfl, rfl, rfl, rfl, trivial⟩⟩
    · rw [if_pos hz] at hfo
      rw [hfo]
      repeat' first | with_reducible refine AW_seq ?_ | with_reducible refine AW_block ?_ | ((first | with_reducible refine AW_skip ?_ | with_reducible refine AW_exit ?_ | with_reducible refine AW_ret ?_ | with_reducible refine AW_region hTt ?_ | fail); conv => whnf) | (exact absurd hb (by omega)) | (refine AW_cond rfl (fun hb => ?_) (fun hb => ?_) <;> first | (replace hb := of_decide_eq_true hb; try simp only [List.length_map] at hb) | (replace hb := of_decide_eq_false hb; try simp only [List.length_map] at hb) | (simp only [List.length_map, bne_iff_ne, ne_eq, beq_iff_eq, bne_eq_false_iff_eq, beq_eq_false_iff_ne, decide_eq_true_eq, decide_eq_false_iff_not, Bool.not_eq_true', Bool.not_eq_false', Int.natCast_inj] at hb)) | ((first | refine andA ?_ | with_reducible refine Exists.intro _ (And.intro (gd_any (And.intro (by omega) (map_get (by omega)))) ?_) | fail); conv => whnf) | fail
      rfl
  · rw [List.drop_eq_nil_of_le hil] at hfo
    rw [hfo]
    repeat' first | with_reducible refine AW_seq ?_ | with_reducible refine AW_block ?_ | ((first | with_reducible refine AW_skip ?_ | with_reducible refine AW_exit ?_ | with_reducible refine AW_ret ?_ | with_reducible refine AW_region hTt ?_ | fail); conv => whnf) | (exact absurd hb (by omega)) | (refine AW_cond rfl (fun hb => ?_) (fun hb => ?_) <;> first | (replace hb := of_decide_eq_true hb; try simp only [List.length_map] at hb) | (replace hb := of_decide_eq_false hb; try simp only [List.length_map] at hb)) | fail
    rfl
def checkE (p : List Int) : Int := if outL 1 5 [(p.length : Int)] = true then 3 else if outL (-100) 100 p = true then 7 else 0
def judgeE (a b : Int) : Int := if outL (-10) 10 [a, b] = true then 7 else if b ≤ a then 2 else 0
def inspectE (t : List Int) : Int := if 30 < t.length then 3 else if outL (-1000000000) 1000000000 t = true then 7 else 0
theorem check_fn (p : List Int) : FnC Tryd.prog 58 [sl p] (iv .i64 (checkE p)) := by
  have h1 := out_fn 1 5 [(p.length : Int)]
  have h2 := out_fn (-100) 100 p
  unfold checkE
  rw [show ((p.length : Nat) : Int) = ((p.map fun n => [PV.v (.int .i64 n)]).length : Nat) by rw [List.length_map]] at h1 ⊢
  generalize outL 1 5 [((p.map fun n => [PV.v (.int .i64 n)]).length : Int)] = b1 at h1
  generalize outL (-100) 100 p = b2 at h2
  refine FnC_of_AW hTt Tryd.func58 rfl (by kernel_rfl) (res := [.tmp 2]) rfl Tryd.ntmps58 (by simp) fun w0 K0 => ?_
  dsimp only [entry]
  cases b1 <;> cases b2
  all_goals
    repeat' first | with_reducible refine AW_seq ?_ | with_reducible refine AW_block ?_ | ((first | with_reducible refine AW_skip ?_ | with_reducible refine AW_ret ?_ | with_reducible refine AW_region hTt ?_ | ((refine ⟨_, (h1).call rfl rfl, ?_⟩); (rintro _ _ ⟨rfl, rfl⟩)) | ((refine ⟨_, (h2).call rfl rfl, ?_⟩); (rintro _ _ ⟨rfl, rfl⟩)) | fail); conv => whnf) | (refine AW_cond rfl (fun _ => ?_) (fun hb => absurd (show true = false from hb) (by decide))) | (refine AW_cond rfl (fun hb => absurd (show false = true from hb) (by decide)) (fun _ => ?_)) | (refine fun hln => ?_; (try rw [List.length_map] at hln); unfold maxLen at hln; conv => whnf) | fail
    rfl
theorem judge_fn (a b : Int) : FnC Tryd.prog 61 [iv .i64 a, iv .i64 b] (iv .i64 (judgeE a b)) := by
  have h1 := out_fn (-10) 10 [a, b]
  unfold judgeE
  generalize outL (-10) 10 [a, b] = b1 at h1
  refine FnC_of_AW hTt Tryd.func61 rfl (by kernel_rfl) (res := [.tmp 4]) rfl Tryd.ntmps61 (by simp) fun w0 K0 => ?_
  dsimp only [entry]
  cases b1
  · rw [if_neg (by decide)]
    by_cases h : b ≤ a
    · rw [if_pos h]
      repeat' first | with_reducible refine AW_seq ?_ | with_reducible refine AW_block ?_ | ((first | with_reducible refine AW_skip ?_ | with_reducible refine AW_ret ?_ | with_reducible refine AW_region hTt ?_ | ((refine ⟨_, (h1).call rfl rfl, ?_⟩); (rintro _ _ ⟨rfl, rfl⟩)) | fail); conv => whnf) | (exact absurd hb (by omega)) | (refine AW_cond rfl (fun hb => absurd (show false = true from hb) (by decide)) (fun _ => ?_)) | (refine AW_cond rfl (fun hb => ?_) (fun hb => ?_) <;> first | (replace hb := of_decide_eq_true hb; try simp only [List.length_map] at hb) | (replace hb := of_decide_eq_false hb; try simp only [List.length_map] at hb)) | fail
      rfl
    · rw [if_neg h]
      repeat' first | with_reducible refine AW_seq ?_ | with_reducible refine AW_block ?_ | ((first | with_reducible refine AW_skip ?_ | with_reducible refine AW_ret ?_ | with_reducible refine AW_region hTt ?_ | ((refine ⟨_, (h1).call rfl rfl, ?_⟩); (rintro _ _ ⟨rfl, rfl⟩)) | fail); conv => whnf) | (exact absurd hb (by omega)) | (refine AW_cond rfl (fun hb => absurd (show false = true from hb) (by decide)) (fun _ => ?_)) | (refine AW_cond rfl (fun hb => ?_) (fun hb => ?_) <;> first | (replace hb := of_decide_eq_true hb; try simp only [List.length_map] at hb) | (replace hb := of_decide_eq_false hb; try simp only [List.length_map] at hb)) | fail
      rfl
  · repeat' first | with_reducible refine AW_seq ?_ | with_reducible refine AW_block ?_ | ((first | with_reducible refine AW_ret ?_ | with_reducible refine AW_region hTt ?_ | ((refine ⟨_, (h1).call rfl rfl, ?_⟩); (rintro _ _ ⟨rfl, rfl⟩)) | fail); conv => whnf) | (refine AW_cond rfl (fun _ => ?_) (fun hb => absurd (show true = false from hb) (by decide))) | fail
    rfl
theorem inspect_fn (t : List Int) : FnC Tryd.prog 68 [sl t] (iv .i64 (inspectE t)) := by
  have h2 := out_fn (-1000000000) 1000000000 t
  unfold inspectE
  generalize outL (-1000000000) 1000000000 t = b2 at h2
  refine FnC_of_AW hTt Tryd.func68 rfl (by kernel_rfl) (res := [.tmp 2]) rfl Tryd.ntmps68 (by simp) fun w0 K0 => ?_
  dsimp only [entry]
  by_cases h : 30 < t.length
  · rw [if_pos h]
    repeat' first | with_reducible refine AW_seq ?_ | with_reducible refine AW_block ?_ | ((first | with_reducible refine AW_ret ?_ | with_reducible refine AW_region hTt ?_ | ((refine ⟨_, (h2).call rfl rfl, ?_⟩); (rintro _ _ ⟨rfl, rfl⟩)) | fail); conv => whnf) | (exact absurd hb (by omega)) | (refine AW_cond rfl (fun hb => ?_) (fun hb => ?_) <;> first | (replace hb := of_decide_eq_true hb; try simp only [List.length_map] at hb) | (replace hb := of_decide_eq_false hb; try simp only [List.length_map] at hb)) | (refine fun hln => ?_; (try rw [List.length_map] at hln); unfold maxLen at hln; conv => whnf) | fail
    rfl
  · rw [if_neg h]
    cases b2
    all_goals
      repeat' first | with_reducible refine AW_seq ?_ | with_reducible refine AW_block ?_ | ((first | with_reducible refine AW_skip ?_ | with_reducible refine AW_ret ?_ | with_reducible refine AW_region hTt ?_ | ((refine ⟨_, (h2).call rfl rfl, ?_⟩); (rintro _ _ ⟨rfl, rfl⟩)) | fail); conv => whnf) | (exact absurd hb (by omega)) | (refine AW_cond rfl (fun _ => ?_) (fun hb => absurd (show true = false from hb) (by decide))) | (refine AW_cond rfl (fun hb => absurd (show false = true from hb) (by decide)) (fun _ => ?_)) | (refine AW_cond rfl (fun hb => ?_) (fun hb => ?_) <;> first | (replace hb := of_decide_eq_true hb; try simp only [List.length_map] at hb) | (replace hb := of_decide_eq_false hb; try simp only [List.length_map] at hb)) | (refine fun hln => ?_; (try rw [List.length_map] at hln); unfold maxLen at hln; conv => whnf) | fail
      rfl
end Go.Proofs.YtnpleednkmhhhaaDoor
namespace Go.Proofs.YtnpleednkmhhhaaDoor
open Go Go.QL
set_option maxHeartbeats 1600000
attribute [local irreducible] ACall FnC
def redP (n d : Int) : R2 := if d < 0 then (-(n / (Int.gcd n d : Int)), -(d / (Int.gcd n d : Int))) else (n / (Int.gcd n d : Int), d / (Int.gcd n d : Int))
theorem whole_fn (n : Int) : FnC Tryd.prog 86 [iv .i64 n] (r2AV (n, 1)) := by
  refine FnC_of_AW hTt Tryd.func86 rfl (by kernel_rfl) (res := [.cell 2 82]) rfl Tryd.ntmps86 (by simp) fun w0 K0 => ?_
  dsimp only [entry]
  repeat' first | with_reducible refine AW_seq ?_ | ((first | with_reducible refine AW_ret ?_ | with_reducible refine AW_region hTt ?_ | fail); conv => whnf) | fail
  rfl
def lim (n : Int) : Prop := -4611686018427387904 ≤ n ∧ n ≤ 4611686018427387904
theorem tmod_lim {a b : Int} (ha : lim a) (hb : b ≠ 0) : lim (a.tmod b) ∧ (a.tmod b).natAbs < b.natAbs := by
  have h2 : (a.tmod b).natAbs < b.natAbs := by
    rw [Int.natAbs_tmod]; exact Nat.mod_lt _ (Int.natAbs_pos.2 hb)
  have h3 : (a.tmod b).natAbs ≤ a.natAbs := by rw [Int.natAbs_tmod]; exact Nat.mod_le _ _
  unfold lim at *
  exact ⟨by omega, h2⟩
theorem gcd_tmod (a b : Int) : Int.gcd b (a.tmod b) = Int.gcd a b := by
  unfold Int.gcd
  rw [Int.natAbs_tmod, Nat.gcd_comm a.natAbs, Nat.gcd_rec b.natAbs a.natAbs, Nat.gcd_comm]
theorem tdiv_gcd {n d a : Int} (hd : d ≠ 0) (ha : a.natAbs = Int.gcd n d) (hs : decide (a < 0) = decide (d < 0)) : (n.tdiv a, d.tdiv a) = redP n d := by
  have hg : 0 < Int.gcd n d := Int.gcd_pos_of_ne_zero_right n hd
  have h1 : (Int.gcd n d : Int) ∣ n := Int.gcd_dvd_left ..
  have h2 : (Int.gcd n d : Int) ∣ d := Int.gcd_dvd_right ..
  unfold redP
  by_cases hd0 : d < 0
  · rw [if_pos hd0]
    have ha0 : a < 0 := by simpa [hd0] using hs
    have ea : a = -(Int.gcd n d : Int) := by omega
    rw [ea, Int.tdiv_neg, Int.tdiv_neg, Int.tdiv_eq_ediv_of_dvd h1, Int.tdiv_eq_ediv_of_dvd h2]
  · rw [if_neg hd0]
    have ha0 : ¬ a < 0 := by simpa [hd0] using hs
    have ea : a = (Int.gcd n d : Int) := by omega
    rw [ea, Int.tdiv_eq_ediv_of_dvd h1, Int.tdiv_eq_ediv_of_dvd h2]
theorem reduce_fn (n d : Int) (hn : lim n) (hd : lim d) (h0 : d ≠ 0) : FnC Tryd.prog 44 [iv .i64 n, iv .i64 d] (r2AV (redP n d)) := by
  refine FnC_of_AW hTt Tryd.func44 rfl (by kernel_rfl) (res := [.cell 4 82]) rfl Tryd.ntmps44 (by simp) fun w0 K0 => ?_
  dsimp only [entry]
  repeat' first | with_reducible refine AW_seq ?_ | with_reducible refine AW_block ?_ | ((with_reducible refine AW_region hTt ?_); conv => whnf) | fail
  refine AW_loop (fun p : Int × Int => [(5, iv .i64 p.1), (6, iv .i64 p.2), (0, iv .i64 n), (1, iv .i64 d), (4, .x (.b 4 0))]) (fun _ => [(4, .box [.d (.v (.int .i64 0)), .d (.v (.int .i64 0))])])
    (fun p => lim p.1 ∧ lim p.2 ∧ Int.gcd p.1 p.2 = Int.gcd n d) (fun p => p.2.natAbs) (n, d) ⟨hn, hd, rfl⟩ impA ?_
  rintro ⟨a, b⟩ ⟨ha, hb', hg⟩
  dsimp only at ha hb' hg ⊢
  by_cases hz : b = 0
  · subst hz
    rw [Int.gcd_zero_right] at hg
    have hg0 : 0 < Int.gcd n d := Int.gcd_pos_of_ne_zero_right n h0
    have ha0 : a ≠ 0 := by omega
    have key : ∀ c : Int, c.natAbs = Int.gcd n d → decide (c < 0) = decide (d < 0) → lim (n.tdiv c) ∧ lim (d.tdiv c) ∧ c ≠ 0 ∧ (n.tdiv c, d.tdiv c) = redP n d := by
      intro c h1 h2
      have h3 := Int.natAbs_tdiv_le_natAbs n c
      have h4 := Int.natAbs_tdiv_le_natAbs d c
      unfold lim at *
      exact ⟨by omega, by omega, by omega, tdiv_gcd h0 h1 h2⟩
    unfold lim at ha
    by_cases hs : decide (a < 0) = decide (d < 0)
    · obtain ⟨k1, k2, k3, k4⟩ := key a hg hs
      rw [← k4]
      unfold lim at k1 k2
      have w1 : IntKind.i64.wrap (n.tdiv a) = n.tdiv a := wrap_of (by omega)
      have w2 : IntKind.i64.wrap (d.tdiv a) = d.tdiv a := wrap_of (by omega)
      repeat' first | with_reducible refine AW_seq ?_ | ((first | with_reducible refine AW_skip ?_ | with_reducible refine AW_exit ?_ | with_reducible refine AW_ret ?_ | with_reducible refine AW_region hTt ?_ | refine AW_draw hTt hMix (id := 6) 6 false [0, 0, 3, 0, 0, 24, 63, 127] (by kernel_rfl) rfl rfl (by kernel_rfl) ?_ | fail); conv => whnf) | (exfalso; simp [hs] at hb; done) | ((first | refine And.intro (gd_none k3) ?_ | refine ⟨_, w1, ?_⟩ | refine ⟨_, w2, ?_⟩ | fail); conv => whnf) | (refine AW_cond rfl (fun hb => absurd (show false = true from hb) (by decide)) (fun _ => ?_)) | (refine AW_cond rfl (fun hb => ?_) (fun hb => ?_) <;> first | (replace hb := of_decide_eq_true hb; try simp only [List.length_map] at hb) | (replace hb := of_decide_eq_false hb; try simp only [List.length_map] at hb) | (simp only [List.length_map, bne_iff_ne, ne_eq, beq_iff_eq, bne_eq_false_iff_eq, beq_eq_false_iff_ne, decide_eq_true_eq, decide_eq_false_iff_not, Bool.not_eq_true', Bool.not_eq_false', Int.natCast_inj] at hb) | skip) | ((refine andA ?_); conv => whnf) | fail
      rfl
    · have hn1 : (-a).natAbs = Int.gcd n d := by omega
      have hs1 : decide (-a < 0) = decide (d < 0) := by
        cases h1 : decide (a < 0) <;> cases h2 : decide (d < 0) <;> simp [h1, h2] at hs <;> simp at h1 h2 ⊢ <;> omega
      obtain ⟨k1, k2, k3, k4⟩ := key (-a) hn1 hs1
      rw [← k4]
      unfold lim at k1 k2
      have w0 : IntKind.i64.wrap (0 - a) = -a := by rw [Int.zero_sub]; exact wrap_of (by omega)
      have w1 : IntKind.i64.wrap (n.tdiv (-a)) = n.tdiv (-a) := wrap_of (by omega)
      have w2 : IntKind.i64.wrap (d.tdiv (-a)) = d.tdiv (-a) := wrap_of (by omega)
      repeat' first | with_reducible refine AW_seq ?_ | ((first | with_reducible refine AW_skip ?_ | with_reducible refine AW_exit ?_ | with_reducible refine AW_ret ?_ | with_reducible refine AW_region hTt ?_ | refine AW_draw hTt hMix (id := 6) 6 false [0, 0, 3, 0, 0, 24, 63, 127] (by kernel_rfl) rfl rfl (by kernel_rfl) ?_ | fail); conv => whnf) | (exfalso; simp [hs] at hb; done) | ((first | refine And.intro (gd_none k3) ?_ | refine ⟨_, w0, ?_⟩ | refine ⟨_, w1, ?_⟩ | refine ⟨_, w2, ?_⟩ | fail); conv => whnf) | (refine AW_cond rfl (fun hb => absurd (show false = true from hb) (by decide)) (fun _ => ?_)) | (refine AW_cond rfl (fun hb => ?_) (fun hb => ?_) <;> first | (replace hb := of_decide_eq_true hb; try simp only [List.length_map] at hb) | (replace hb := of_decide_eq_false hb; try simp only [List.length_map] at hb) | (simp only [List.length_map, bne_iff_ne, ne_eq, beq_iff_eq, bne_eq_false_iff_eq, beq_eq_false_iff_ne, decide_eq_true_eq, decide_eq_false_iff_not, Bool.not_eq_true', Bool.not_eq_false', Int.natCast_inj] at hb) | skip) | ((refine andA ?_); conv => whnf) | fail
      rfl
  · have ht := tmod_lim ha hz
    repeat' first | with_reducible refine AW_seq ?_ | with_reducible refine AW_block ?_ | ((first | with_reducible refine AW_skip ?_ | with_reducible refine AW_exit ?_ | with_reducible refine AW_region hTt ?_ | refine AW_draw hTt hMix (id := 3) 5 false [0, 0, 0, 6, 3, 31] (by kernel_rfl) rfl rfl (by kernel_rfl) ?_ | fail); conv => whnf) | (exact absurd hb hz) | ((first | refine And.intro (gd_none hz) ?_ | refine ⟨a.tmod b, rfl, ?_⟩ | fail); conv => whnf) | (refine AW_cond rfl (fun hb => ?_) (fun hb => ?_) <;> first | (replace hb := of_decide_eq_true hb; try simp only [List.length_map] at hb) | (replace hb := of_decide_eq_false hb; try simp only [List.length_map] at hb) | (simp only [List.length_map, bne_iff_ne, ne_eq, beq_iff_eq, bne_eq_false_iff_eq, beq_eq_false_iff_ne, decide_eq_true_eq, decide_eq_false_iff_not, Bool.not_eq_true', Bool.not_eq_false', Int.natCast_inj] at hb) | skip) | ((refine andA ?_); conv => whnf) | fail
    exact ⟨(b, a.tmod b), ⟨hb', ht.1, by rw [← hg]; exact gcd_tmod a b⟩, ht.2, impA⟩
end Go.Proofs.YtnpleednkmhhhaaDoor
namespace Go.Proofs.YtnpleednkmhhhaaDoor
open Go Go.QL
set_option maxHeartbeats 1600000
attribute [local irreducible] ACall FnC
theorem mul_bd {a b A B : Int} (h1 : -A ≤ a ∧ a ≤ A) (h2 : -B ≤ b ∧ b ≤ B) : -(A * B) ≤ a * b ∧ a * b ≤ A * B := by
  have hA : 0 ≤ A := by omega
  have hB : 0 ≤ B := by omega
  have h := Nat.mul_le_mul (show a.natAbs ≤ A.natAbs by omega) (show b.natAbs ≤ B.natAbs by omega)
  rw [← Int.natAbs_mul, ← Int.natAbs_mul] at h
  have := Int.mul_nonneg hA hB
  omega
theorem redP_pos {n d : Int} (h0 : d ≠ 0) : 0 < (redP n d).2 ∧ (redP n d).2 ≤ d.natAbs := by
  have hg : 0 < Int.gcd n d := Int.gcd_pos_of_ne_zero_right n h0
  have h2 : (Int.gcd n d : Int) ∣ d := Int.gcd_dvd_right ..
  obtain ⟨k, hk⟩ := h2
  have hdiv : d / (Int.gcd n d : Int) = k := by
    conv => lhs; lhs; rw [hk]
    exact Int.mul_ediv_cancel_left _ (by omega)
  have hab : d.natAbs = Int.gcd n d * k.natAbs := by
    conv => lhs; rw [hk]
    rw [Int.natAbs_mul]; simp
  have hk1 : k.natAbs ≤ d.natAbs := by rw [hab]; exact Nat.le_mul_of_pos_left _ hg
  have hk0 : k ≠ 0 := by intro e; subst e; simp at hk; exact h0 hk
  unfold redP
  by_cases hd : d < 0
  · rw [if_pos hd]
    show 0 < -(d / (Int.gcd n d : Int)) ∧ -(d / (Int.gcd n d : Int)) ≤ _
    rw [hdiv]
    have : k < 0 := by
      rcases Int.lt_or_le k 0 with h | h
      · exact h
      · exfalso
        have := Int.mul_nonneg (show (0 : Int) ≤ (Int.gcd n d : Int) by omega) h
        omega
    omega
  · rw [if_neg hd]
    show 0 < d / (Int.gcd n d : Int) ∧ d / (Int.gcd n d : Int) ≤ _
    rw [hdiv]
    have : 0 < k := by
      rcases Int.lt_or_le 0 k with h | h
      · exact h
      · exfalso
        have := Int.mul_nonneg (show (0 : Int) ≤ (Int.gcd n d : Int) by omega) (show 0 ≤ -k by omega)
        rw [Int.mul_neg] at this
        omega
    omega
theorem redP_num {n d : Int} (h0 : d ≠ 0) : ((redP n d).1).natAbs ≤ n.natAbs := by
  have h1 : (Int.gcd n d : Int) ∣ n := Int.gcd_dvd_left ..
  have h2 : (n / (Int.gcd n d : Int)).natAbs ≤ n.natAbs := by
    rw [← Int.tdiv_eq_ediv_of_dvd h1]; exact Int.natAbs_tdiv_le_natAbs ..
  unfold redP
  split
  · show (-(n / (Int.gcd n d : Int))).natAbs ≤ _
    rw [Int.natAbs_neg]; exact h2
  · exact h2
def plusP (x y : R2) : R2 := redP (x.1 * (y.2 / (Int.gcd x.2 y.2 : Int)) + y.1 * (x.2 / (Int.gcd x.2 y.2 : Int))) (x.2 / (Int.gcd x.2 y.2 : Int) * y.2)
def timesP (x y : R2) : R2 := ((redP x.1 y.2).1 * (redP y.1 x.2).1, (redP x.1 y.2).2 * (redP y.1 x.2).2)
def okR (x : R2) : Prop := (-1000000000000 ≤ x.1 ∧ x.1 ≤ 1000000000000) ∧ 0 < x.2 ∧ x.2 ≤ 100000
def okT (x : R2) : Prop := lim x.1 ∧ 0 < x.2 ∧ x.2 ≤ 100000000
theorem times_fn (x y : R2) (hx : okT x) (hy : okT y) (hm : x.1.natAbs * y.1.natAbs ≤ 4000000000000000000) : FnC Tryd.prog 87 [r2AV x, r2AV y] (r2AV (timesP x y)) := by
  obtain ⟨xn, xd⟩ := x
  obtain ⟨yn, yd⟩ := y
  obtain ⟨hx1, hx2, hx3⟩ := hx
  obtain ⟨hy1, hy2, hy3⟩ := hy
  dsimp only at *
  have hr1 := reduce_fn xn yd hx1 (by unfold lim; omega) (by omega)
  have hr2 := reduce_fn yn xd hy1 (by unfold lim; omega) (by omega)
  have p1 := redP_pos (n := xn) (d := yd) (by omega)
  have p2 := redP_pos (n := yn) (d := xd) (by omega)
  have q1 := redP_num (n := xn) (d := yd) (by omega)
  have q2 := redP_num (n := yn) (d := xd) (by omega)
  unfold timesP
  dsimp only
  generalize redP xn yd = A at *
  generalize redP yn xd = B at *
  obtain ⟨an, ad⟩ := A
  obtain ⟨bn, bd⟩ := B
  dsimp only at *
  have m1 := Nat.mul_le_mul q1 q2
  rw [← Int.natAbs_mul] at m1
  have m2 := mul_bd (a := ad) (b := bd) (A := 100000000) (B := 100000000) (by omega) (by omega)
  have w1 : IntKind.i64.wrap (an * bn) = an * bn := wrap_of (by omega)
  have w2 : IntKind.i64.wrap (ad * bd) = ad * bd := wrap_of (by omega)
  dsimp only [r2AV] at hr1 hr2 ⊢
  refine FnC_of_AW hTt Tryd.func87 rfl (by kernel_rfl) (res := [.cell 4 82]) rfl Tryd.ntmps87 (by simp) fun w0 K0 => ?_
  dsimp only [entry]
  repeat' first | with_reducible refine AW_seq ?_ | ((first | with_reducible refine AW_ret ?_ | with_reducible refine AW_region hTt ?_ | refine AW_draw hTt hMix (id := 1) 12 true [0, 1, 0, 4, 15, 0, 32, 0, 128, 511, 0, 0, 4095, 8191] (by kernel_rfl) rfl rfl (by kernel_rfl) ?_ | refine ⟨_, fun _ => (hr1).call rfl rfl, ?_⟩ | refine ⟨_, fun _ => (hr2).call rfl rfl, ?_⟩ | refine ⟨_, w1, ?_⟩ | refine ⟨_, w2, ?_⟩ | refine andA ?_ | fail); conv => whnf) | fail
  rfl
theorem timesP_bd {x y : R2} (hx : 0 < x.2) (hy : 0 < y.2) : (timesP x y).1.natAbs ≤ x.1.natAbs * y.1.natAbs ∧ 0 < (timesP x y).2 ∧ (timesP x y).2 ≤ x.2 * y.2 := by
  have p1 := redP_pos (n := x.1) (d := y.2) (by omega)
  have p2 := redP_pos (n := y.1) (d := x.2) (by omega)
  have q1 := redP_num (n := x.1) (d := y.2) (by omega)
  have q2 := redP_num (n := y.1) (d := x.2) (by omega)
  have m1 := Nat.mul_le_mul q1 q2
  rw [← Int.natAbs_mul] at m1
  refine ⟨m1, Int.mul_pos p1.1 p2.1, ?_⟩
  have h1 := Int.mul_le_mul_of_nonneg_right (show (redP x.1 y.2).2 ≤ y.2 by omega) (show 0 ≤ (redP y.1 x.2).2 by omega)
  have h2 := Int.mul_le_mul_of_nonneg_left (show (redP y.1 x.2).2 ≤ x.2 by omega) (show 0 ≤ y.2 by omega)
  rw [Int.mul_comm y.2 x.2] at h2
  exact Int.le_trans h1 h2
theorem join_fn (fid : FuncId) (f : R2 → R2 → R2) (x0 : R2) (l : List R2) (hlen : l.length ≤ 1000)
    (hf : ∀ (i : Nat) (h : i < l.length), FnC Tryd.prog fid [r2AV ((l.take i).foldl f x0), r2AV l[i]] (r2AV (f ((l.take i).foldl f x0) l[i]))) :
    FnC Tryd.prog 88 [.x (.f (.func fid) [] []), r2sAV (x0 :: l)] (r2AV (l.foldl f x0)) := by
  have hsl : 1 ≤ (((x0 :: l).map r2PV).length : Int) := by simp; omega
  have hdr : ((((x0 :: l).map r2PV).take (((x0 :: l).map r2PV).length : Int).toNat).drop (Int.toNat 1)) = l.map r2PV := by rw [Int.toNat_natCast, List.take_of_length_le (Nat.le_refl _)]; rfl
  have hdl : (((((x0 :: l).map r2PV).take (((x0 :: l).map r2PV).length : Int).toNat).drop (Int.toNat 1)).length : Int) = (l.length : Int) := by rw [hdr, List.length_map]
  refine FnC_of_AW hTt Tryd.func88 rfl (by kernel_rfl) (res := [.cell 4 82]) rfl Tryd.ntmps88 (by simp) fun w0 K0 => ?_
  dsimp only [entry]
  repeat' first | with_reducible refine AW_seq ?_ | with_reducible refine AW_block ?_ | ((first | with_reducible refine AW_region hTt ?_ | with_reducible refine Exists.intro _ (And.intro (gd_any (And.intro (by decide) rfl)) ?_) | refine And.intro (gd_none ⟨by decide, hsl, Int.le_refl _⟩) ?_ | refine andA ?_ | fail); conv => whnf) | (refine fun hln => ?_; (try rw [List.length_map] at hln); unfold maxLen at hln; conv => whnf) | fail
  refine AW_loop (fun i : Nat => [(14, iv .i64 i), (13, iv .i64 l.length), (12, r2sAV l), (0, .x (.f (.func fid) [] [])), (5, .x (.b 5 0)), (4, .x (.b 4 0))])
    (fun i => [(5, .box [.d (.v (.int .i64 ((l.take i).foldl f x0).1)), .d (.v (.int .i64 ((l.take i).foldl f x0).2))]), (4, .box [.d (.v (.int .i64 0)), .d (.v (.int .i64 0))])])
    (fun i => i ≤ l.length) (fun i => l.length - i) 0 (by simp) (Imp.forget (by repeat' (first | exact trivial | refine And.intro ?_ ?_ | exact congrArg (fun xs : List (List PV) => some (AV.x (.d (.s 2 xs)))) hdr | exact ivE hdl | rfl | exact ivE (by first | omega | (simp only [List.length_map, List.length_append, List.length_singleton] <;> omega)) | exact oE (by first | omega | (simp only [List.length_map, List.length_append, List.length_singleton] <;> omega)))) (by repeat' (first | exact trivial | refine And.intro ?_ ?_ | exact congrArg (fun xs : List (List PV) => some (AV.x (.d (.s 2 xs)))) hdr | exact ivE hdl | rfl | exact ivE (by first | omega | (simp only [List.length_map, List.length_append, List.length_singleton] <;> omega)) | exact oE (by first | omega | (simp only [List.length_map, List.length_append, List.length_singleton] <;> omega)))) (by kernel_rfl) (by kernel_rfl) (by kernel_rfl)) ?_
  clear hsl hdr hdl
  intro i hi
  rcases Nat.lt_or_ge i l.length with hil | hil
  · have hc := hf i hil
    have e : f ((l.take i).foldl f x0) l[i] = (l.take (i + 1)).foldl f x0 := by
      rw [List.take_add_one, List.getElem?_eq_getElem hil, List.foldl_append]; rfl
    rw [e] at hc
    repeat' first | with_reducible refine AW_seq ?_ | with_reducible refine AW_block ?_ | ((first | with_reducible refine AW_skip ?_ | with_reducible refine AW_exit ?_ | with_reducible refine AW_ret ?_ | with_reducible refine AW_region hTt ?_ | ((refine ⟨_, (hc).call rfl rfl, ?_⟩); (rintro _ _ ⟨rfl, rfl⟩)) | fail); conv => whnf) | (exact absurd hb (by omega)) | (refine AW_cond rfl (fun hb => ?_) (fun hb => ?_) <;> first | (replace hb := of_decide_eq_true hb; try simp only [List.length_map] at hb) | (replace hb := of_decide_eq_false hb; try simp only [List.length_map] at hb) | (simp only [List.length_map, bne_iff_ne, ne_eq, beq_iff_eq, bne_eq_false_iff_eq, beq_eq_false_iff_ne, decide_eq_true_eq, decide_eq_false_iff_not, Bool.not_eq_true', Bool.not_eq_false', Int.natCast_inj] at hb) | skip) | ((first | refine ⟨_, wrap_of (by first | omega | (simp only [List.length_map]; omega)), ?_⟩ | refine andA ?_ | with_reducible refine Exists.intro _ (And.intro (gd_any (And.intro (by omega) (map_get (by omega)))) ?_) | fail); conv => whnf) | fail
    exact ⟨i + 1, hil, by omega, impA⟩
  · rw [List.take_of_length_le hil]
    repeat' first | with_reducible refine AW_seq ?_ | with_reducible refine AW_block ?_ | ((first | with_reducible refine AW_skip ?_ | with_reducible refine AW_exit ?_ | with_reducible refine AW_ret ?_ | with_reducible refine AW_region hTt ?_ | fail); conv => whnf) | (exact absurd hb (by omega)) | (refine AW_cond rfl (fun hb => ?_) (fun hb => ?_) <;> first | (replace hb := of_decide_eq_true hb; try simp only [List.length_map] at hb) | (replace hb := of_decide_eq_false hb; try simp only [List.length_map] at hb) | (simp only [List.length_map, bne_iff_ne, ne_eq, beq_iff_eq, bne_eq_false_iff_eq, beq_eq_false_iff_ne, decide_eq_true_eq, decide_eq_false_iff_not, Bool.not_eq_true', Bool.not_eq_false', Int.natCast_inj] at hb) | skip) | fail
    rfl
end Go.Proofs.YtnpleednkmhhhaaDoor
namespace Go.QL
open Go Go.RowKit
def PostL (tt : TT) (res : List ResultVar) (r : AV) : Exit → Fr → Sg → Prop
  | .normal, fr, σ | .ret, fr, σ => ∃ r', outcome tt res fr σ = some r' ∧ LeAV r' r
  | _, _, _ => False
theorem LeAV.refl (x : AV) : LeAV x x := by
  cases x with
  | t xs =>
    refine ⟨xs, rfl, ?_⟩
    induction xs with
    | nil => trivial
    | cons x r ih => exact ⟨LeAV1.refl x, ih⟩
  | x s => exact LeAV1.refl (.x s)
  | a s => exact LeAV1.refl (.a s)
  | g c s => exact LeAV1.refl (.g c s)
section
variable {P : Program}
theorem FnC_of_AWL {tt : TT} (htt : tt.ok P) {f : FuncId} {fn : Func} {c : Code} {args : List AV} {r : AV} {res : List ResultVar} (hf : P.funcs[f]? = some fn) (hb : fn.body = some c)
    (hname : (fn.name == "runtime.NumGoroutine") = false) (hres : fn.results = res.toArray) {nt : Nat} (hnt : fn.ntmps = nt) (hle : args.length ≤ nt)
    (h : ∀ w0 K0, AW P (Cx.lone w0 K0 nt) c (PostL tt res r) (entry 0 args) []) : FnC P f args r := by
  refine ⟨⟨fn, hf, by rw [hb]; rfl, hname⟩, fun K w vs hL hK hs hv => ?_⟩
  refine calls_of_wp hf hb ((wpIn_wide (n := 0)).1 ?_)
  have hrel : Rel (Cx.lone w ⟨K, (· < w.heap.size)⟩ nt) (entry 0 args) [] ⟨K, fun _ => undef⟩ ⟨vs ++ Array.replicate (fn.ntmps - vs.size) undef, []⟩ w := by
    refine ⟨⟨.refl _ _, fun _ h => h, .refl _ _, fun _ _ _ h => h, hK, (fun id ob hid => by cases hid), (fun id b hi => by cases hi), (fun i j b hi => by cases hi)⟩, fun t x ht => ?_, by simp; omega, DR.empty, fun s v hb => hb.elim⟩
    obtain ⟨_, hx⟩ := lk_entry args 0 t x ht
    rw [Nat.sub_zero] at hx
    have hlt : t < args.length := (List.getElem?_eq_some_iff.1 hx).1
    refine ⟨by show t < nt; omega, ?_⟩
    have hvt : vs[t]? = some (vs[t]'(by omega)) := Array.getElem?_eq_getElem (by omega)
    have e : (vs ++ Array.replicate (fn.ntmps - vs.size) undef).getD t undef = vs[t]'(by omega) := by
      rw [Array.getD_eq_getD_getElem?, Array.getElem?_append_left (by omega), hvt]; rfl
    show VR _ _ _ _ ((vs ++ Array.replicate (fn.ntmps - vs.size) undef).getD t undef)
    rw [e]
    exact VR_of_VR2 (hv t x _ hx hvt)
  refine wpIn_mono ((h w ⟨K, (· < w.heap.size)⟩).use hL hrel) ?_
  intro e a' w' ⟨fr, σ, g, hr, hq⟩
  have fin : (∃ r', outcome tt res fr σ = some r' ∧ LeAV r' r) → a'.defers = [] ∧ ∃ v, (results fn a'.tmps).run P w' = .ok v w' ∧ ∃ v_1 K', Ending.returned v = .returned v_1 ∧ Below w.heap.size w w' ∧ Ext K w K' w' ∧
      (∀ b o, b < w.heap.size → K' b o → K b o) ∧ (∀ b o, K' b o → b < w'.heap.size) ∧ VR2 [] ⟨K', fun _ => undef⟩ w' r v_1 := by
    rintro ⟨r', ho, hle⟩
    obtain ⟨v, hrun, hvr⟩ := outcome_ok htt hr hres ho (μ := fun _ => undef)
    exact ⟨hr.defers.nil, v, hrun, v, Kall σ g w', rfl, hr.hp.kept.below, hr.hp.ext.trans Kall_ext, Kall_old hr.hp, Kall_val hr.hp, hle.ok hvr⟩
  cases e with
  | normal => exact fin hq
  | ret => exact fin hq
  | _ => exact hq.elim
theorem AW_len1 {Γ : Cx} {fr : Fr} {σ : Sg} {c : Code} {Q : Exit → Fr → Sg → Prop} (t : Nat) {sz : Nat} {xs : List (List PV)} (h1 : lk t fr = some (.x (.d (.s sz xs))))
    (h : xs.length ≤ maxLen → AW P Γ c Q fr σ) : AW P Γ c Q fr σ := by
  refine AW.mk fun hL g a w hr => ?_
  have hv : SR σ g w (.d (.s sz xs)) (a.tmps.getD t undef) := (hr.fr t _ h1).2
  refine (h ?_).use hL hr
  generalize a.tmps.getD t undef = u at hv
  cases hv with
  | d _ _ hp =>
    cases hp with
    | s _ _ _ cap _ _ _ hcap hmax => exact Nat.le_trans hcap hmax
end
end Go.QL
