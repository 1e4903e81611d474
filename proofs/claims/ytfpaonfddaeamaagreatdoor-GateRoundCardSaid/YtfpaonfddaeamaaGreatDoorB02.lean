/- The logic of walks, and what the functions of the program return: part 2. No condition. -/
import Derived.Test.YtfpaonfddaeamaaGreatDoorB01
import Derived.Test.YtfpaonfddaeamaaGreatDoorProg
import Derived.KernelRfl
import Derived.Shelf.LaysM
import Derived.Shelf.LaysC
import Derived.Shelf.Strconv.Itoa3
import Derived.Shelf.Strconv.AtoiAll
import Derived.Shelf.Strconv.ErrVarAll
import Derived.Shelf.Strings.Split
import Derived.Shelf.Small.Wraps
import Derived.RecoverIn
set_option linter.all false
namespace Go.QL
open Go Go.RowKit
section
variable {α : Type}
theorem lk_app {L l0 : List (Nat × α)} {t : Nat} {v : α} : lk t (L ++ l0) = some v → (t, v) ∈ L ∨ ((∀ p ∈ L, p.1 ≠ t) ∧ lk t l0 = some v) := by
  induction L with
  | nil => intro h; exact .inr ⟨fun p hp => by simp at hp, h⟩
  | cons q r ih =>
    obtain ⟨i, x⟩ := q
    intro h
    rw [List.cons_append, lk_cons] at h
    by_cases e : i = t
    · subst e; rw [if_pos rfl] at h; cases h; exact .inl List.mem_cons_self
    · rw [if_neg e] at h
      rcases ih h with h | ⟨h1, h2⟩
      · exact .inl (List.mem_cons_of_mem _ h)
      · refine .inr ⟨fun p hp => ?_, h2⟩
        rcases List.mem_cons.1 hp with rfl | hp
        · exact e
        · exact h1 p hp
theorem lk_app_mem {L l0 : List (Nat × α)} {t : Nat} {v : α} (hf : ∀ p ∈ L, ∀ q ∈ L, p.1 = q.1 → p = q) (h : (t, v) ∈ L) : lk t (L ++ l0) = some v := by
  induction L with
  | nil => simp at h
  | cons q r ih =>
    obtain ⟨i, x⟩ := q
    rw [List.cons_append, lk_cons]
    by_cases e : i = t
    · rw [if_pos e]
      have := hf (i, x) List.mem_cons_self (t, v) h e
      cases this; rfl
    · rw [if_neg e]
      rcases List.mem_cons.1 h with h | h
      · cases h; exact absurd rfl e
      · exact ih (fun p hp q hq => hf p (List.mem_cons_of_mem _ hp) q (List.mem_cons_of_mem _ hq)) h
theorem lk_app_none {L l0 : List (Nat × α)} {t : Nat} (h : ∀ p ∈ L, p.1 ≠ t) : lk t (L ++ l0) = lk t l0 := by
  induction L with
  | nil => rfl
  | cons q r ih =>
    obtain ⟨i, x⟩ := q
    rw [List.cons_append, lk_cons, if_neg (h (i, x) List.mem_cons_self)]
    exact ih fun p hp => h p (List.mem_cons_of_mem _ hp)
theorem sup_app {Ls L D l0 : List (Nat × α)} (hf : ∀ p ∈ Ls, ∀ q ∈ Ls, p.1 = q.1 → p = q) (h0 : ∀ p ∈ Ls, lk p.1 l0 = none) (hDL : ∀ p ∈ D, p ∈ L) (hL : ∀ p ∈ L, p ∈ Ls) : Sup (D ++ l0) (L ++ l0) := by
  intro t v h
  rcases lk_app h with h | ⟨_, h⟩
  · exact lk_app_mem (fun p hp q hq => hf p (hL p hp) q (hL q hq)) (hDL _ h)
  · rw [lk_app_none (fun p hp e => by
      have := h0 p (hL p hp)
      rw [e, h] at this; cases this)]
    exact h
end
theorem mem_frs {E : List En} {p : Nat × AV} : p ∈ frs E ↔ ∃ e ∈ E, e.d = some p.1 ∧ e.x = p.2 := by
  induction E with
  | nil => simp [frs]
  | cons e r ih =>
    unfold frs
    cases hd : e.d with
    | none =>
      simp only [ih, List.mem_cons]
      constructor
      · rintro ⟨e', h, h'⟩; exact ⟨e', .inr h, h'⟩
      · rintro ⟨e', rfl | h, h'⟩
        · rw [hd] at h'; cases h'.1
        · exact ⟨e', h, h'⟩
    | some d =>
      simp only [List.mem_cons, ih]
      constructor
      · rintro (rfl | ⟨e', h, h'⟩)
        · exact ⟨e, .inl rfl, hd, rfl⟩
        · exact ⟨e', .inr h, h'⟩
      · rintro ⟨e', rfl | h, h1, h2⟩
        · left; rw [hd] at h1; cases h1; obtain ⟨a, b⟩ := p; cases h2; rfl
        · exact .inr ⟨e', h, h1, h2⟩
theorem mem_obs {E : List En} {p : Nat × Ob} : p ∈ obs E ↔ ∃ e ∈ E, e.ob = some p := by
  induction E with
  | nil => simp [obs]
  | cons e r ih =>
    unfold obs
    cases hd : e.ob with
    | none =>
      simp only [ih, List.mem_cons]
      constructor
      · rintro ⟨e', h, h'⟩; exact ⟨e', .inr h, h'⟩
      · rintro ⟨e', rfl | h, h'⟩
        · rw [hd] at h'; cases h'
        · exact ⟨e', h, h'⟩
    | some d =>
      simp only [List.mem_cons, ih]
      constructor
      · rintro (rfl | ⟨e', h, h'⟩)
        · exact ⟨e, .inl rfl, hd⟩
        · exact ⟨e', .inr h, h'⟩
      · rintro ⟨e', rfl | h, h1⟩
        · left; rw [hd] at h1; cases h1; rfl
        · exact .inr ⟨e', h, h1⟩
theorem mem_pickE {m : Nat} {e : En} : ∀ {E : List En}, e ∈ pickE m E → e ∈ E ∧ m.testBit e.i = true
  | [], h => by simp [pickE] at h
  | x :: r, h => by
    unfold pickE at h
    rw [bitOf_eq] at h
    cases hb : m.testBit x.i with
    | true =>
      rw [hb] at h
      rcases List.mem_cons.1 h with rfl | h
      · exact ⟨List.mem_cons_self, hb⟩
      · exact ⟨List.mem_cons_of_mem _ (mem_pickE h).1, (mem_pickE h).2⟩
    | false =>
      rw [hb] at h
      exact ⟨List.mem_cons_of_mem _ (mem_pickE h).1, (mem_pickE h).2⟩
theorem pickE_mem {m : Nat} {e : En} : ∀ {E : List En}, e ∈ E → m.testBit e.i = true → e ∈ pickE m E
  | [], h, _ => by simp at h
  | x :: r, h, hb => by
    unfold pickE
    rw [bitOf_eq]
    rcases List.mem_cons.1 h with rfl | h
    · rw [hb]; exact List.mem_cons_self
    · cases m.testBit x.i with
      | true => exact List.mem_cons_of_mem _ (pickE_mem h hb)
      | false => exact pickE_mem h hb
theorem lk_app_same {α : Type} {L D l0 : List (Nat × α)} (hf : ∀ p ∈ L, ∀ q ∈ L, p.1 = q.1 → p = q) (h : ∀ p, p ∈ D ↔ p ∈ L) : Sup (D ++ l0) (L ++ l0) := by
  intro t v hl
  rcases lk_app hl with hl | ⟨h1, hl⟩
  · exact lk_app_mem hf ((h _).1 hl)
  · rw [lk_app_none (fun p hp => h1 p ((h p).2 hp))]; exact hl
theorem addFr_eq (e : En) (E : List En) (fr0 : Fr) : addFr e.d e.x (frs E ++ fr0) = frs (e :: E) ++ fr0 := by
  unfold addFr; simp only [frs]; cases e.d <;> rfl
theorem addOb_eq (e : En) (E : List En) (σ0 : Sg) : addOb e.ob (obs E ++ σ0) = obs (e :: E) ++ σ0 := by
  unfold addOb; simp only [obs]; cases e.ob <;> rfl
def okDsts : List Oper → List Nat → Bool
  | [], _ => true
  | o :: r, ds => match o.dst with
    | none => okDsts r ds
    | some d => (ds.all fun e => !Nat.beq d e) && okDsts r (d :: ds)
theorem okDsts_ok : ∀ {l : List Oper} {ds : List Nat}, okDsts l ds = true → (∀ (i : Nat) (o : Oper) (d : Nat), l[i]? = some o → o.dst = some d → d ∉ ds) ∧
    (∀ (i j : Nat) (o o' : Oper) (d : Nat), l[i]? = some o → l[j]? = some o' → o.dst = some d → o'.dst = some d → i = j)
  | [], ds, _ => ⟨fun i o d h => by simp at h, fun i j o o' d h => by simp at h⟩
  | x :: r, ds, h => by
    unfold okDsts at h
    cases hd : x.dst with
    | none =>
      rw [hd] at h
      obtain ⟨h1, h2⟩ := okDsts_ok (l := r) h
      refine ⟨fun i o d hi ho => ?_, fun i j o o' d hi hj ho ho' => ?_⟩
      · cases i with
        | zero => cases hi; rw [hd] at ho; cases ho
        | succ i => exact h1 i o d hi ho
      · cases i with
        | zero => cases hi; rw [hd] at ho; cases ho
        | succ i =>
          cases j with
          | zero => cases hj; rw [hd] at ho'; cases ho'
          | succ j => rw [h2 i j o o' d hi hj ho ho']
    | some d0 =>
      rw [hd] at h
      simp only [Bool.and_eq_true] at h
      obtain ⟨h3, h5⟩ := h
      obtain ⟨h1, h2⟩ := okDsts_ok (l := r) h5
      have hin : d0 ∉ ds := fun hm => by
        rw [List.all_eq_true] at h3
        have := h3 d0 hm
        simp at this
      refine ⟨fun i o d hi ho => ?_, fun i j o o' d hi hj ho ho' => ?_⟩
      · cases i with
        | zero => cases hi; rw [hd] at ho; cases ho; exact hin
        | succ i => exact fun hm => h1 i o d hi ho (List.mem_cons_of_mem _ hm)
      · cases i with
        | zero =>
          cases hi; rw [hd] at ho; cases ho
          cases j with
          | zero => rfl
          | succ j => exact absurd List.mem_cons_self (h1 j o' d0 hj ho')
        | succ i =>
          cases j with
          | zero => cases hj; rw [hd] at ho'; cases ho'; exact absurd List.mem_cons_self (h1 i o d0 hi ho)
          | succ j => rw [h2 i j o o' d hi hj ho ho']
def okReadsAt (ms : List Nat) (j : Nat) (ts : List Nat) : List Oper → Nat → Bool
  | [], _ => true
  | o :: r, k => (match o.dst with
    | none => true
    | some d => Nat.beq k j || !(ts.any (Nat.beq d)) || Nat.testBit (ms.getD j 0) k || Nat.testBit (ms.getD k 0) j) && okReadsAt ms j ts r (k + 1)
def okReads (all : List Oper) (ms : List Nat) (pre : List Oper) : List Oper → Nat → Bool
  | [], _ => true
  | o :: r, j => okReadsAt ms j (looks all o) pre 0 && okReads all ms pre r (j + 1)
theorem okReadsAt_ok {ms : List Nat} {j : Nat} {ts : List Nat} : ∀ {l : List Oper} {k0 : Nat}, okReadsAt ms j ts l k0 = true → ∀ (k : Nat) (o : Oper) (d : Nat), l[k]? = some o → o.dst = some d → d ∈ ts →
    k0 + k = j ∨ (ms.getD j 0).testBit (k0 + k) = true ∨ (ms.getD (k0 + k) 0).testBit j = true
  | [], k0, _, k, o, d, hk, _, _ => by simp at hk
  | x :: r, k0, h, k, o, d, hk, ho, hd => by
    unfold okReadsAt at h
    simp only [Bool.and_eq_true] at h
    cases k with
    | zero =>
      cases hk
      rw [ho] at h
      simp only [Bool.or_eq_true] at h
      rcases h.1 with ((h1 | h1) | h1) | h1
      · exact .inl (Nat.eq_of_beq_eq_true h1)
      · have : ts.any (Nat.beq d) = true := by rw [List.any_eq_true]; exact ⟨d, hd, by simp⟩
        rw [this] at h1; cases h1
      · exact .inr (.inl h1)
      · exact .inr (.inr h1)
    | succ k =>
      have := okReadsAt_ok h.2 k o d hk ho hd
      rwa [Nat.add_assoc, Nat.add_comm 1 k] at this
theorem okReads_ok {all : List Oper} {ms : List Nat} {pre : List Oper} : ∀ {l : List Oper} {j0 : Nat}, okReads all ms pre l j0 = true → ∀ (j : Nat) (o : Oper), l[j]? = some o → okReadsAt ms (j0 + j) (looks all o) pre 0 = true
  | [], j0, _, j, o, hj => by simp at hj
  | x :: r, j0, h, j, o, hj => by
    unfold okReads at h
    simp only [Bool.and_eq_true] at h
    cases j with
    | zero => cases hj; exact h.1
    | succ j =>
      have := okReads_ok h.2 j o hj
      rwa [Nat.add_assoc, Nat.add_comm 1 j] at this
section
variable {P : Program} {Γ : Cx} {fr fr' : Fr} {σ σ' : Sg} {g : Gh} {a : Act} {w : World}
theorem Rel.same (h : Rel Γ fr σ g a w) (hf : Sup fr' fr) (h1 : Sup σ σ') (h2 : Sup σ' σ) : Rel Γ fr' σ' g a w := by
  have keep : ∀ s v, SR σ g w s v → SR σ' g w s v := fun s v hv => hv.sup h1
  refine ⟨⟨h.hp.kept, h.hp.flt, h.hp.ext, h.hp.old, h.hp.val, fun id ob hid => ?_, fun i b hi hb => h.hp.own i b ?_ hb, fun i j b hi hj => h.hp.inj i j b ?_ ?_⟩, fun t v ht => ⟨(h.fr t v (hf t v ht)).1, (h.fr t v (hf t v ht)).2.keep keep⟩, h.size, h.defers.map (fun i d _ hl hμ => ⟨h1 _ _ hl, hμ⟩), fun s v hb => ⟨keep _ _ (h.base s v hb).1, (h.base s v hb).2⟩⟩
  · have hO := h.hp.obs id ob (h2 _ _ hid)
    exact hO.keep keep (Ext.refl _ _) rfl (fun _ _ => rfl) (fun b hb o => h.hp.notK (h2 _ _ hid) hb o)
  · obtain ⟨x, hx⟩ := Option.isSome_iff_exists.1 hi; rw [h2 _ _ hx]; rfl
  · obtain ⟨x, hx⟩ := Option.isSome_iff_exists.1 hi; rw [h2 _ _ hx]; rfl
  · obtain ⟨x, hx⟩ := Option.isSome_iff_exists.1 hj; rw [h2 _ _ hx]; rfl
structure GoodE (P : Program) (Γ : Cx) (all : List Oper) (ob : Bool) (ms : List Nat) (fr0 : Fr) (σ0 : Sg) (es : List En) : Prop where
  idx : ∀ e ∈ es, ∀ e' ∈ es, e.i = e'.i → e = e'
  ids : ∀ e ∈ es, ∀ e' ∈ es, ∀ p q, e.ob = some p → e'.ob = some q → p.1 = q.1 → e = e'
  id0 : ∀ e ∈ es, ∀ p, e.ob = some p → lk p.1 σ0 = none ∧ ob = true
  obk : ∀ e ∈ es, ∀ p, e.ob = some p → ∃ o, all[e.i]? = some o ∧ noOb o.op = false
  sem : ∀ e ∈ es, ∃ o D, all[e.i]? = some o ∧ e.d = o.dst ∧ (∀ t, o.dst = some t → t < Γ.nt) ∧ (∀ e' ∈ D, e' ∈ es ∧ (ms.getD e.i 0).testBit e'.i = true) ∧ (∀ e' ∈ es, (ms.getD e.i 0).testBit e'.i = true → e'.i < e.i → e' ∈ D) ∧
    SemE P Γ all ob (selF (frs D ++ fr0) (looks all o)) (obs D ++ σ0) e.i o e.x e.ob
theorem putE_ok {nt : Nat} {dst : Option Tmp} {gd : Option Bool} {v : AV} {k : AV → Prop} (h : putE nt dst gd v k) : k (wrapG gd v) ∧ ∀ t, dst = some t → t < nt := by
  unfold putE at h
  cases dst with
  | none => cases gd <;> exact ⟨h, fun t ht => by cases ht⟩
  | some d =>
    simp only at h
    cases hb : Nat.blt d nt with
    | false => rw [hb] at h; exact h.elim
    | true =>
      rw [hb] at h
      cases gd <;> exact ⟨h, fun t ht => by cases ht; exact Nat.le_of_ble_eq_true hb⟩
theorem vcDr_ok {tt : TT} (htt : tt.ok P) (hL : Laid P Γ.K0.K Γ.w0) {all : List Oper} {ob : Bool} {ms : List Nat} {fr0 : Fr} {σ0 : Sg} {k : Fr → Sg → Prop} : ∀ (rest : List Oper) (es : List En) (i : Nat),
    vcDr P tt Γ.nt all ob ms fr0 σ0 k rest es i (frs es ++ fr0) (obs es ++ σ0) → (∀ (j : Nat) (o : Oper), rest[j]? = some o → all[i + j]? = some o) → (∀ e ∈ es, e.i < i) → (∀ j, j < i → ∃ e ∈ es, e.i = j) → GoodE P Γ all ob ms fr0 σ0 es →
    ∃ es', k (frs es' ++ fr0) (obs es' ++ σ0) ∧ GoodE P Γ all ob ms fr0 σ0 es' ∧ (∀ e ∈ es', e.i < i + rest.length) ∧ (∀ j, j < i + rest.length → ∃ e ∈ es', e.i = j)
  | [], es, i, h, _, hlt, hcov, hg => ⟨es, h, hg, hlt, hcov⟩
  | o :: rest, es, i, h, hall, hlt, hcov, hg => by
    unfold vcDr at h
    obtain ⟨id, hidn, h⟩ := idFor_ok h
    obtain ⟨gd, x, nob, hk, hnob, hsem⟩ := opDr_ok (Γ := Γ) htt hL h i
    obtain ⟨hk, hd⟩ := putE_ok hk
    let en : En := ⟨i, o.dst, wrapG gd x, nob⟩
    have e1 := addFr_eq en es fr0
    have e2 := addOb_eq en es σ0
    have hk : vcDr P tt Γ.nt all ob ms fr0 σ0 k rest (en :: es) (i + 1) (frs (en :: es) ++ fr0) (obs (en :: es) ++ σ0) := by
      rw [← e1, ← e2]; exact hk
    have hfresh : ∀ b, nob = some (id, b) → (∀ e ∈ es, ∀ q, e.ob = some q → q.1 ≠ id) ∧ lk id σ0 = none := by
      intro b _
      have hl := hidn
      have hno : ∀ p ∈ obs es, p.1 ≠ id := by
        intro p hp he
        have key : ∀ (L l0 : List (Nat × Ob)) (t : Nat), lk t (L ++ l0) = none → ∀ p ∈ L, p.1 ≠ t := by
          intro L l0 t
          induction L with
          | nil => intro _ p hp; simp at hp
          | cons q r ih =>
            intro h p hp
            obtain ⟨j, y⟩ := q
            rw [List.cons_append, lk_cons] at h
            by_cases ej : j = t
            · rw [if_pos ej] at h; cases h
            · rw [if_neg ej] at h
              rcases List.mem_cons.1 hp with rfl | hp
              · exact ej
              · exact ih h p hp
        exact key _ _ _ hl p hp he
      refine ⟨fun e he q hq => hno q (mem_obs.2 ⟨e, he, hq⟩), ?_⟩
      rw [← lk_app_none hno]; exact hl
    have := vcDr_ok htt hL rest (en :: es) (i + 1) hk (fun j o' hj => by
      have := hall (j + 1) o' hj
      rwa [Nat.add_assoc, Nat.add_comm 1 j]) (fun e he => by
      rcases List.mem_cons.1 he with rfl | he
      · exact Nat.lt_succ_self _
      · exact Nat.lt_succ_of_lt (hlt e he)) (fun j hj => by
      by_cases hji : j = i
      · exact ⟨en, List.mem_cons_self, hji.symm⟩
      · obtain ⟨e, he, h'⟩ := hcov j (by omega); exact ⟨e, List.mem_cons_of_mem _ he, h'⟩) ?_
    · obtain ⟨es', h1, h2, h3, h4⟩ := this
      refine ⟨es', h1, h2, fun e he => ?_, fun j hj => ?_⟩
      · have := h3 e he; simp; omega
      · exact h4 j (by simp at hj; omega)
    · refine ⟨fun e he e' he' hii => ?_, fun e he e' he' p q hp hq hpq => ?_, fun e he p hp => ?_, fun e he p hp => ?_, fun e he => ?_⟩
      · rcases List.mem_cons.1 he with rfl | he <;> rcases List.mem_cons.1 he' with rfl | he'
        · rfl
        · have := hlt e' he'; have : i = e'.i := hii; omega
        · have := hlt e he; have : e.i = i := hii; omega
        · exact hg.idx e he e' he' hii
      · rcases List.mem_cons.1 he with rfl | he <;> rcases List.mem_cons.1 he' with rfl | he'
        · rfl
        · have hp : nob = some p := hp
          rcases hnob with hn | ⟨_, _, b, hb⟩
          · rw [hn] at hp; cases hp
          · rw [hb] at hp; cases hp
            exact absurd hpq.symm ((hfresh b hb).1 e' he' q hq)
        · have hq : nob = some q := hq
          rcases hnob with hn | ⟨_, _, b, hb⟩
          · rw [hn] at hq; cases hq
          · rw [hb] at hq; cases hq
            exact absurd hpq ((hfresh b hb).1 e he p hp)
        · exact hg.ids e he e' he' p q hp hq hpq
      · rcases List.mem_cons.1 he with rfl | he
        · have hp : nob = some p := hp
          rcases hnob with hn | ⟨hon, _, b, hb⟩
          · rw [hn] at hp; cases hp
          · rw [hb] at hp; cases hp
            exact ⟨(hfresh b hb).2, hon⟩
        · exact hg.id0 e he p hp
      · rcases List.mem_cons.1 he with rfl | he
        · have hp : nob = some p := hp
          rcases hnob with hn | ⟨hon, hno, b, hb⟩
          · rw [hn] at hp; cases hp
          · exact ⟨o, by simpa using hall 0 o rfl, hno⟩
        · exact hg.obk e he p hp
      · rcases List.mem_cons.1 he with rfl | he
        · refine ⟨o, pickE (ms.getD i 0) es, by simpa using hall 0 o rfl, rfl, hd, fun e' he' => ⟨List.mem_cons_of_mem _ (mem_pickE he').1, (mem_pickE he').2⟩, fun e' he' hb hlt' => ?_, hsem⟩
          rcases List.mem_cons.1 he' with rfl | he'
          · exact absurd hlt' (Nat.lt_irrefl _)
          · exact pickE_mem he' hb
        · obtain ⟨o', D, a1, a2, a3, a4, a6, a5⟩ := hg.sem e he
          refine ⟨o', D, a1, a2, a3, fun e' he' => ⟨List.mem_cons_of_mem _ (a4 e' he').1, (a4 e' he').2⟩, fun e' he' hb hlt' => ?_, a5⟩
          rcases List.mem_cons.1 he' with rfl | he'
          · have := hlt e he; have hlt' : i < e.i := hlt'; omega
          · exact a6 e' he' hb hlt'
end
end Go.QL
namespace Go.QL
open Go Go.RowKit
section
variable {P : Program} {Γ : Cx} {fr : Fr} {σ : Sg} {Q : Exit → Fr → Sg → Prop}
theorem mem_frs_sub {D E : List En} (h : ∀ e ∈ D, e ∈ E) : ∀ p, p ∈ frs D → p ∈ frs E := fun p hp => by
  obtain ⟨e, he, h'⟩ := mem_frs.1 hp; exact mem_frs.2 ⟨e, h e he, h'⟩
theorem MaskOK.lt {ops : Array Oper} {ms : List Nat} {m : Nat} (h : MaskOK ops ms m) (i : Nat) : ∀ (o : Oper), ops[i]? = some o → ∀ b, (ms.getD i 0).testBit b = true → b < i := by
  induction i using Nat.strongRecOn with
  | _ i ih =>
    intro o ho b hb
    obtain ⟨e, he, hbd, h1⟩ := h.bit i o ho b hb
    have hlt := h.back i o ho e he hbd
    rcases h1 with rfl | h1
    · exact hlt
    · have hi : i < ops.size := (Array.getElem?_eq_some_iff.1 ho).1
      have := ih e.on hlt _ (Array.getElem?_eq_getElem (by omega)) b h1
      omega
theorem Rel.drawn {g : Gh} {a : Act} {w : World} (h : Rel Γ fr σ g a w) (n : Nat) : Rel Γ fr σ g a { w with drawn := n } := by
  have hd := h.hp.grow (w' := { w with drawn := n }) (K' := g.K) ⟨rfl, rfl, rfl, Nat.le_refl _, fun _ _ => rfl⟩ ⟨fun _ _ x => x, fun _ _ _ => rfl⟩ (fun _ _ _ x => x) (fun b o hk => h.hp.val b o hk)
  exact h.did hd
theorem AW_draw {tt : TT} (htt : tt.ok P) (hmix : P.follows .mixedOrders = true) (m : Nat) (ob : Bool) (ms : List Nat) {id : Nat} {ops : List Oper} (hms : okMasks ms m ops 0 = true) (hlen : Nat.ble m ops.length = true)
    (hds : okDsts (ops.take m) [] = true) (hrd : okReads ops ms (ops.take m) (ops.take m) 0 = true)
    (h : vcDr P tt Γ.nt ops ob ms fr σ (fun fr' σ' => vcOps P tt Γ.nt ops (Q .normal) (ops.drop m) fr' σ') (ops.take m) [] 0 fr σ) : AW P Γ (.region id ops.toArray true) Q fr σ := by
  refine AW.mk fun hLd g a w hr => ?_
  have hm := MaskOK.of hms
  have hlen : m ≤ ops.length := Nat.le_of_ble_eq_true hlen
  have htake : (ops.take m).length = m := by simp; omega
  obtain ⟨es, hk, hg, hlt, hcov⟩ := vcDr_ok (Γ := Γ) htt hLd (ops.take m) [] 0 h (fun j o hj => by
      rw [List.getElem?_take] at hj
      by_cases hjm : j < m
      · rw [if_pos hjm] at hj; simpa using hj
      · rw [if_neg hjm] at hj; cases hj) (fun e he => by simp at he) (fun j hj => by omega)
      ⟨fun e he => by simp at he, fun e he => by simp at he, fun e he => by simp at he, fun e he => by simp at he, fun e he => by simp at he⟩
  rw [htake] at hlt hcov
  simp only [Nat.zero_add] at hlt hcov
  obtain ⟨_, hd1⟩ := okDsts_ok hds
  have hrd := fun j o h => okReadsAt_ok (okReads_ok hrd j o h)
  simp only [Nat.zero_add] at hrd
  have hop : ∀ e ∈ es, ∃ o, (ops.take m)[e.i]? = some o ∧ e.d = o.dst := fun e he => by
    obtain ⟨o, D, h1, h2, _⟩ := hg.sem e he
    exact ⟨o, by rw [List.getElem?_take, if_pos (hlt e he)]; exact h1, h2⟩
  have hfF : ∀ p ∈ frs es, ∀ q ∈ frs es, p.1 = q.1 → p = q := by
    intro p hp q hq hpq
    obtain ⟨e, he, h1, h2⟩ := mem_frs.1 hp
    obtain ⟨e', he', h1', h2'⟩ := mem_frs.1 hq
    obtain ⟨o, ho, hd⟩ := hop e he
    obtain ⟨o', ho', hd'⟩ := hop e' he'
    have := hd1 e.i e'.i o o' p.1 ho ho' (by rw [← hd, h1]) (by rw [← hd', h1', hpq])
    have := hg.idx e he e' he' this
    subst this
    obtain ⟨p1, p2⟩ := p; obtain ⟨q1, q2⟩ := q
    simp only at *
    subst hpq; subst h2; subst h2'; rfl
  have hfO : ∀ p ∈ obs es, ∀ q ∈ obs es, p.1 = q.1 → p = q := by
    intro p hp q hq hpq
    obtain ⟨e, he, h1⟩ := mem_obs.1 hp
    obtain ⟨e', he', h1'⟩ := mem_obs.1 hq
    have := hg.ids e he e' he' p q h1 h1' hpq
    subst this; rw [h1] at h1'; cases h1'; rfl
  have hfO0 : ∀ p ∈ obs es, lk p.1 σ = none := by
    intro p hp
    obtain ⟨e, he, h1⟩ := mem_obs.1 hp
    exact (hg.id0 e he p h1).1
  have supO : ∀ D E : List En, (∀ e ∈ D, e ∈ E) → (∀ e ∈ E, e ∈ es) → Sup (obs D ++ σ) (obs E ++ σ) := fun D E h1 h2 =>
    sup_app hfO hfO0 (fun p hp => by obtain ⟨e, he, h'⟩ := mem_obs.1 hp; exact mem_obs.2 ⟨e, h1 e he, h'⟩) (fun p hp => by obtain ⟨e, he, h'⟩ := mem_obs.1 hp; exact mem_obs.2 ⟨e, h2 e he, h'⟩)
  let InvA : (Nat → Prop) → Act → World → Prop := fun L a w => ∃ (E : List En) (g : Gh), (∀ e ∈ E, e ∈ es) ∧ (∀ j, L j ↔ ∃ e ∈ E, e.i = j) ∧ (∀ k, L k → ∀ b, (ms.getD k 0).testBit b = true → L b) ∧ Rel Γ (frs E ++ fr) (obs E ++ σ) g a w
  let InvB : (Nat → Prop) → Act → World → Prop := fun L a w => ∃ j, m ≤ j ∧ j ≤ ops.length ∧ (∀ b, L b ↔ b < j) ∧ wpLs Γ.ro P ops.toArray (Lift Γ Q) (ops.drop j) a w
  have conv : ∀ L a w, InvA L a w → (∀ b, b < m → L b) → InvB L a w := by
    intro L a w ⟨E, g, h1, h2, _, h3⟩ hall
    refine ⟨m, Nat.le_refl _, hlen, fun b => ⟨fun hb => ?_, hall b⟩, ?_⟩
    · obtain ⟨e, he, hi⟩ := (h2 b).1 hb
      rw [← hi]; exact hlt e (h1 e he)
    · have hsub : ∀ e ∈ es, e ∈ E := by
        intro e he
        obtain ⟨e', he', hi⟩ := (h2 e.i).1 (hall e.i (hlt e he))
        have := hg.idx e' (h1 e' he') e he hi
        subst this; exact he'
      have hr' : Rel Γ (frs es ++ fr) (obs es ++ σ) g a w := h3.same (lk_app_same (fun p hp q hq => hfF p ((mem_frs_sub h1) p hp) q ((mem_frs_sub h1) q hq)) (fun p => ⟨mem_frs_sub hsub p, mem_frs_sub h1 p⟩)) (supO E es h1 (fun e he => he)) (supO es E hsub h1)
      exact vcOps_ok htt hLd (fun _ _ h => h) (ops.drop m) _ _ hk g a w hr'
  refine wpIn_region_any hmix ?_
  refine wpAny_inv hm (fun L a w => InvA L a w ∨ InvB L a w) ?_ ?_ _ _ _ _ (by simp) ?_ ?_ ?_
  · -- a step
    intro L a w hinv i hi hL hbits
    have hi' : i < ops.length := by simpa using hi
    have stepB : InvB L a w → wpOpIn (FX Γ.ro) 0 P ops.toArray (Lift Γ Q) i (fun a w => InvA (fun j => L j ∨ j = i) a w ∨ InvB (fun j => L j ∨ j = i) a w) a w := by
      intro ⟨j, hj1, hj2, hj3, hj4⟩
      have hji : j ≤ i := by
        rcases Nat.lt_or_ge i j with h' | h'
        · exact absurd ((hj3 i).2 h') hL
        · exact h'
      have hij : i = j := by
        rcases Nat.lt_or_ge j i with h' | h'
        · have := hm.tail i _ (Array.getElem?_eq_getElem (by simpa using hi')) (by omega) j h'
          have := (hj3 j).1 (hbits j this)
          omega
        · omega
      subst hij
      rw [List.drop_eq_getElem_cons hi'] at hj4
      have hoi : ops.toArray[i]? = some ops[i] := by simp [hi']
      have hnew : ∀ a w, wpLs Γ.ro P ops.toArray (Lift Γ Q) (ops.drop (i + 1)) a w → InvA (fun j => L j ∨ j = i) a w ∨ InvB (fun j => L j ∨ j = i) a w := by
        intro a w hw
        refine .inr ⟨i + 1, by omega, by omega, fun b => ?_, hw⟩
        show (L b ∨ b = i) ↔ b < i + 1
        rw [hj3 b]; omega
      unfold wpOpIn
      simp only [hoi]
      unfold wpLs wpLk at hj4
      split
      · rename_i hwant
        rw [if_pos hwant] at hj4
        exact Oper.wpIn_mono hnew hj4
      · rename_i hwant
        rw [if_neg hwant] at hj4
        exact ⟨fun _ _ => trivial, hnew _ _ hj4⟩
    rcases hinv with hA | hB
    · rcases Nat.lt_or_ge i m with him | him
      · obtain ⟨E, g, h1, h2, hcl, h3⟩ := hA
        obtain ⟨en, hen, heni⟩ := hcov i him
        obtain ⟨o, D, a1, a2, a3, a4, a6, a5⟩ := hg.sem en hen
        rw [heni] at a1 a4 a5 a6
        have hDE : ∀ e ∈ D, e ∈ E := by
          intro e he
          obtain ⟨he1, he2⟩ := a4 e he
          obtain ⟨e', he', hi'⟩ := (h2 e.i).1 (hbits e.i he2)
          have := hg.idx e' (h1 e' he') e he1 hi'
          subst this; exact he'
        have hsup : Sup (selF (frs D ++ fr) (looks ops o)) (frs E ++ fr) := by
          intro t v hl
          obtain ⟨ht, hl⟩ := selF_get hl
          rcases lk_app hl with hl | ⟨hn, hl⟩
          · exact lk_app_mem (fun p hp q hq => hfF p (mem_frs_sub h1 p hp) q (mem_frs_sub h1 q hq)) (mem_frs_sub hDE _ hl)
          · rw [lk_app_none]
            · exact hl
            · intro p hp hpt
              obtain ⟨e, he, h1', h2'⟩ := mem_frs.1 hp
              obtain ⟨oe, hoe, hde⟩ := hop e (h1 e he)
              have hLe : L e.i := (h2 e.i).2 ⟨e, he, rfl⟩
              rcases hrd i o (by rw [List.getElem?_take, if_pos him]; exact a1) e.i oe t hoe (by rw [← hde, h1', hpt]) ht with hk | hk | hk
              · exact hL (hk ▸ hLe)
              · have hlt' : e.i < i := hm.lt i o (by simpa using a1) e.i hk
                exact hn p (mem_frs.2 ⟨e, a6 e (h1 e he) hk hlt', h1', h2'⟩) hpt
              · exact hL (hcl e.i hLe i hk)
        refine a5 _ (frs E ++ fr) (obs E ++ σ) g a w hsup (supO D E hDE h1) ?_ ?_ h3 _ ?_ (by simpa using a1)
        · intro hob
          have hn : ∀ X : List En, (∀ e ∈ X, e ∈ es) → obs X = [] := by
            intro X hX
            cases hx : obs X with
            | nil => rfl
            | cons p r =>
              obtain ⟨e, he, hp⟩ := mem_obs.1 (show p ∈ obs X by rw [hx]; exact List.mem_cons_self)
              have := (hg.id0 e (hX e he) p hp).2
              rw [hob] at this; cases this
          rw [hn E h1, hn D (fun e he => h1 e (hDE e he))]
        · intro p hp
          rw [lk_app_none]
          · exact (hg.id0 en hen p hp).1
          · intro q hq he
            obtain ⟨e', he', hq'⟩ := mem_obs.1 hq
            have := hg.ids e' (h1 e' he') en hen q p hq' hp he
            subst this
            exact hL ((h2 i).2 ⟨e', he', heni⟩)
        · intro v g' w' hr' hv
          left
          refine ⟨en :: E, g', fun e he => ?_, fun j => ?_, fun k hk b hb => ?_, ?_⟩
          · rcases List.mem_cons.1 he with rfl | he
            · exact hen
            · exact h1 e he
          · show (L j ∨ j = i) ↔ _
            rw [h2 j]
            constructor
            · rintro (⟨e, he, h'⟩ | rfl)
              · exact ⟨e, List.mem_cons_of_mem _ he, h'⟩
              · exact ⟨en, List.mem_cons_self, heni⟩
            · rintro ⟨e, he, h'⟩
              rcases List.mem_cons.1 he with rfl | he
              · exact .inr (h'.symm.trans heni)
              · exact .inl ⟨e, he, h'⟩
          · rcases hk with hk | rfl
            · exact .inl (hcl k hk b hb)
            · exact .inl (hbits b hb)
          · rw [← addFr_eq, ← addOb_eq]
            rw [a2]
            cases hdd : o.dst with
            | none => exact hr'
            | some d => exact hr'.put (a3 d hdd) hv
      · have hall : ∀ b, b < i → L b := fun b hb => hbits b (hm.tail i _ (Array.getElem?_eq_getElem (by simpa using hi')) him b hb)
        exact stepB (conv L a w hA fun b hb => hall b (by omega))
    · exact stepB hB
  · -- the end
    intro L a w hinv hall
    have hB : InvB L a w := by
      rcases hinv with hA | hB
      · exact conv L a w hA fun b hb => hall b (by simp; omega)
      · exact hB
    obtain ⟨j, hj1, hj2, hj3, hj4⟩ := hB
    have : j = ops.length := by
      rcases Nat.lt_or_ge j ops.length with h' | h'
      · have := (hj3 j).1 (hall j (by simpa using h')); omega
      · omega
    subst this
    rw [List.drop_length] at hj4
    exact hj4
  · intro i hi
    have : (Array.replicate ops.length false)[i]?.getD false = false := by
      rw [Array.getElem?_replicate]; split <;> rfl
    simp [this] at hi
  · unfold unl
    refine Nat.le_trans (List.length_filter_le _ _) (by simp)
  · left
    refine ⟨[], g, fun e he => by simp at he, fun j => ?_, fun k hk => ?_, hr.drawn _⟩
    rotate_left
    · have : (Array.replicate ops.length false)[k]?.getD false = false := by
        rw [Array.getElem?_replicate]; split <;> rfl
      simp [this] at hk
    have : (Array.replicate ops.length false)[j]?.getD false = false := by
      rw [Array.getElem?_replicate]; split <;> rfl
    simp [this]
end
end Go.QL
namespace Go.QL
open Go Go.RowKit
section
variable {P : Program} {Γ : Cx} {fr : Fr} {σ : Sg} {Q : Exit → Fr → Sg → Prop}
structure Both (A B : Prop) : Prop where
  one : A
  two : B
end
end Go.QL
namespace Go.QL
open Go Go.RowKit
theorem lk_dom {α : Type} {k : Nat} {l : List (Nat × α)} {x : α} (h : lk k l = some x) : k ∈ l.map (·.1) := by
  have := lk_mem h
  exact List.mem_map.2 ⟨_, this, rfl⟩
theorem SR.inI {σ : Sg} {g : Gh} {w : World} {s : SV} {v : Value} (h : SR σ g w s v) : InI (σ.map (·.1)) s := by
  induction h with
  | d x v h => exact .d x
  | old c st n e sz st' xs v h hlt h1 => exact .o c st n (lk_dom h)
  | o c st n e sz xs a cap h hn hμ => exact .o c st n (lk_dom h)
  | b id off cs k h hμ => exact .b id off (lk_dom h)
  | se e off k l vs hK hc hr => exact .se e off
  | oeold c st i off e sz st' xs v h hlt h1 => exact .oe c st i off (lk_dom h)
  | oe c st i off e sz xs k cap h hμ => exact .oe c st i off (lk_dom h)
  | f fn first captured v1 v2 h1 h2 _ _ ih1 ih2 =>
    refine .f fn first captured (fun s hs => ?_) (fun s hs => ?_)
    · obtain ⟨i, hi, he⟩ := List.getElem_of_mem hs
      exact ih1 i s (v1[i]'(by omega)) (by rw [List.getElem?_eq_getElem hi, he]) (Array.getElem?_eq_getElem (by omega))
    · obtain ⟨i, hi, he⟩ := List.getElem_of_mem hs
      exact ih2 i s (v2[i]'(by omega)) (by rw [List.getElem?_eq_getElem hi, he]) (Array.getElem?_eq_getElem (by omega))
  | j v h1 => exact .j
  | h id o k h hμ => exact .h id (lk_dom h)
  | sb id off n cap cs k h hμ hn hc => exact .sb id off n cap (lk_dom h)
def results1 (tt : TT) (res : List ResultVar) (fr : Fr) (σ : Sg) : Option AV :=
  match resAVs tt σ fr res with
  | some [x] => some x
  | some xs => some (.t xs)
  | none => none
def PostR (tt : TT) (res : List ResultVar) (R : AV → Sg → Prop) : Exit → Fr → Sg → Prop
  | .normal, fr, σ | .ret, fr, σ => ∃ r, results1 tt res fr σ = some r ∧ R r σ
  | _, _, _ => False
section
variable {P : Program} {Γ : Cx} {fr : Fr} {σ : Sg} {g : Gh} {a : Act} {w : World}
theorem VR1_of_VR2 {x : AV} (h : flat1 x = true) {v : Value} (hv : VR2 σ g w x v) : VR1 σ g w x v := by
  cases x with
  | x _ => exact hv
  | a _ => exact hv
  | t _ => cases h
  | g _ _ => cases h
def results2 (tt : TT) (res : List ResultVar) (fr : Fr) (σ : Sg) : Option AV :=
  match resAVs tt σ fr res with
  | some [x] => some x
  | some xs => bif xs.all flat1 then some (.t xs) else none
  | none => none
def PostC (tt : TT) (res : List ResultVar) (R : AV → Sg → Prop) : Exit → Fr → Sg → Prop
  | .normal, fr, σ | .ret, fr, σ => ∃ r, results2 tt res fr σ = some r ∧ R r σ
  | _, _, _ => False
theorem results2_ok {tt : TT} (htt : tt.ok P) (hr : Rel Γ fr σ g a w) {fn : Func} {res : List ResultVar} (hres : fn.results = res.toArray) {r : AV} (h : results2 tt res fr σ = some r) :
    ∃ v, (results fn a.tmps).run P w = .ok v w ∧ VR2 σ g w r v := by
  unfold results2 at h
  cases hx : resAVs tt σ fr res with
  | none => rw [hx] at h; cases h
  | some xs =>
    rw [hx] at h
    obtain ⟨us, hus, hl, hrs⟩ := resAVs_ok htt hr hx
    have hm : (res.toArray.mapM (m := Sem) (resOne a.tmps)).run P w = .ok us.toArray w := by
      rw [Array.mapM_eq_mapM_toList, Sem.run_map, hus]; rfl
    have hrun : (results fn a.tmps).run P w = .ok (if h : us.toArray.size = 1 then us.toArray[0] else .tuple us.toArray) w := by
      rw [results_eq, hres, Sem.run_bind, hm]; rfl
    refine ⟨_, hrun, ?_⟩
    have many : ¬ us.toArray.size = 1 → (bif xs.all flat1 then some (AV.t xs) else none) = some r → VR2 σ g w r (.tuple us.toArray) := by
      intro _ h
      cases hall : xs.all flat1 with
      | false => rw [hall] at h; cases h
      | true =>
        rw [hall] at h; cases h
        rw [List.all_eq_true] at hall
        exact ⟨_, rfl, by simpa using hl, fun i z q hi hq => VR1_of_VR2 (hall z (List.mem_of_getElem? hi)) (hrs i z q hi (by simpa using hq))⟩
    match xs, us, hl, hrs, h, many with
    | [], [], _, _, h, many =>
      rw [dif_neg (by simp)]; exact many (by simp) h
    | [x], [u], _, hrs, h, _ => cases h; exact hrs 0 _ u rfl rfl
    | x :: y :: xs, u :: v :: us, _, _, h, many =>
      have hne : ¬ (u :: v :: us).toArray.size = 1 := by simp
      rw [dif_neg hne]; exact many hne h
theorem ACall_of_AW {tt : TT} (htt : tt.ok P) {f : FuncId} {fn : Func} {c : Code} {args : List AV} {σ : Sg} {R : AV → Sg → Prop} {res : List ResultVar} (hf : P.funcs[f]? = some fn) (hb : fn.body = some c)
    (hname : (fn.name == "runtime.NumGoroutine") = false) (hres : fn.results = res.toArray) {nt : Nat} (hnt : fn.ntmps = nt) (hle : args.length ≤ nt)
    (h : ∀ w0 K0 B, AW P ⟨w0, K0, nt, B, σ.map (·.1), none, [], []⟩ c (PostC tt res R) (entry 0 args) σ) : ACall P f args σ R := by
  refine ⟨⟨fn, hf, by rw [hb]; rfl, hname⟩, fun w0 K0 g w vs hL hp hs hv => ?_⟩
  refine calls_of_wp hf hb ((wpIn_wide (n := 0)).1 ?_)
  have hrel : Rel ⟨w0, K0, nt, SR σ g w, σ.map (·.1), none, [], []⟩ (entry 0 args) σ g ⟨vs ++ Array.replicate (fn.ntmps - vs.size) undef, []⟩ w := by
    refine ⟨hp, fun t x ht => ?_, by simp; omega, DRb.empty, fun s v hb => ⟨hb, SR.inI hb⟩⟩
    obtain ⟨_, hx⟩ := lk_entry args 0 t x ht
    rw [Nat.sub_zero] at hx
    have hlt : t < args.length := (List.getElem?_eq_some_iff.1 hx).1
    refine ⟨by show t < nt; omega, ?_⟩
    have hvt : vs[t]? = some (vs[t]'(by omega)) := Array.getElem?_eq_getElem (by omega)
    have e : (vs ++ Array.replicate (fn.ntmps - vs.size) undef).getD t undef = vs[t]'(by omega) := by
      rw [Array.getD_eq_getD_getElem?, Array.getElem?_append_left (by omega), hvt]; rfl
    show VR _ _ _ _ ((vs ++ Array.replicate (fn.ntmps - vs.size) undef).getD t undef)
    rw [e]
    exact VR_of_VR2 (hv t x _ hx hvt)
  refine wpIn_mono ((h w0 K0 _).use hL hrel) ?_
  intro e a' w' ⟨fr, σ', g', hr, hq⟩
  have fin : (∃ r, results2 tt res fr σ' = some r ∧ R r σ') → a'.defers = [] ∧ ∃ v, (results fn a'.tmps).run P w' = .ok v w' ∧ ∃ v_1 g'' σ'' r, Ending.returned v = .returned v_1 ∧ Did w0 K0 σ g w σ'' g'' w' ∧ VR2 σ'' g'' w' r v_1 ∧ R r σ'' := by
    rintro ⟨r, ho, hR⟩
    obtain ⟨v, hrun, hvr⟩ := results2_ok htt hr hres ho
    exact ⟨hr.defers.nil, v, hrun, v, g', σ', r, rfl, ⟨hr.hp, fun s u hs => (hr.base s u hs).1⟩, hvr, hR⟩
  cases e with
  | normal => exact fin hq
  | ret => exact fin hq
  | _ => exact hq.elim
theorem AW_len {c : Code} {Q : Exit → Fr → Sg → Prop} (t i : Nat) {cs : List SV} {sz : Nat} {xs : List (List PV)} (h1 : lk t fr = some (.a cs)) (h2 : cs[i]? = some (.d (.s sz xs)))
    (h : xs.length ≤ maxLen → AW P Γ c Q fr σ) : AW P Γ c Q fr σ := by
  refine AW.mk fun hL g a w hr => ?_
  have hv : VR σ g w (.a cs) (a.tmps.getD t undef) := (hr.fr t _ h1).2
  obtain ⟨vs, _, hl, hs⟩ := (show ∃ vs : Array Value, a.tmps.getD t undef = .agg vs ∧ vs.size = cs.length ∧ ∀ (i : Nat) (s : SV) (u : Value), cs[i]? = some s → vs[i]? = some u → SR σ g w s u from hv)
  have hi : i < cs.length := (List.getElem?_eq_some_iff.1 h2).1
  have hsr := hs i _ (vs[i]'(by omega)) h2 (Array.getElem?_eq_getElem (by omega))
  refine (h ?_).use hL hr
  generalize vs[i]'(by omega) = u at hsr
  cases hsr with
  | d _ _ hp =>
    cases hp with
    | s _ _ _ cap _ _ _ hcap hmax => exact Nat.le_trans hcap hmax
theorem Imp.slots {fr' : Fr} (hf : SubF fr fr') : Imp Γ fr σ fr' σ := fun g _ _ h => ⟨g, h.subF (SubF_ok hf)⟩
end
end Go.QL
namespace Go.QL
open Go Go.RowKit
def rnSV (ρ : Nat → Nat) : SV → SV
  | .d x => .d x
  | .o c st n => .o (ρ c) st n
  | .b id off => .b (ρ id) off
  | .se e off => .se e off
  | .oe c st i off => .oe (ρ c) st i off
  | .f fn a b => .f fn (a.map (rn1 ρ)) (b.map (rn1 ρ))
  | .j => .j
  | .h id => .h (ρ id)
  | .sb id off n cap => .sb (ρ id) off n cap
where
  rn1 (ρ : Nat → Nat) : SV → SV
    | .o c st n => .o (ρ c) st n
    | .b id off => .b (ρ id) off
    | .oe c st i off => .oe (ρ c) st i off
    | .f .. => .j
    | .h id => .h (ρ id)
    | .sb id off n cap => .sb (ρ id) off n cap
    | s => s
def rnAV1 (ρ : Nat → Nat) : AV → AV
  | .x s => .x (rnSV ρ s)
  | .a cs => .a (cs.map (rnSV ρ))
  | x => x
def rnAV (ρ : Nat → Nat) : AV → AV
  | .t xs => .t (xs.map (rnAV1 ρ))
  | x => rnAV1 ρ x
def rnV (ρ : Nat → Nat) : AV → AV
  | .g c x => .g c (rnAV ρ x)
  | x => rnAV ρ x
def rnFr (ρ : Nat → Nat) : Fr → Fr
  | [] => []
  | (t, x) :: r => (t, rnV ρ x) :: rnFr ρ r
def rnO2 (ρ : Nat → Nat) : Ob2 → Ob2
  | .map kt kvs => .map kt kvs
  | .mapIter (some m) since seen last => .mapIter (some (ρ m)) since seen last
  | .loop st pend params assign body nt fr dfr => .loop st pend params assign body nt (rnFr ρ fr) (ρ dfr)
  | o => o
theorem rnO2_kd (ρ : Nat → Nat) (o : Ob2) : (rnO2 ρ o).kd = o.kd := by
  cases o with
  | mapIter m since seen last => cases m <;> rfl
  | _ => rfl
theorem lk_rnFr {ρ : Nat → Nat} {t : Nat} : ∀ {l : Fr}, lk t (rnFr ρ l) = (lk t l).map (rnV ρ)
  | [] => rfl
  | (k0, x0) :: r => by
    unfold rnFr
    rw [lk_cons, lk_cons]
    by_cases e : k0 = t
    · rw [if_pos e, if_pos e]; rfl
    · rw [if_neg e, if_neg e]; exact lk_rnFr
def rnOb (ρ : Nat → Nat) : Ob → Ob
  | .box cs => .box (cs.map (rnSV ρ))
  | .chain e sz st xs => .chain e sz st xs
  | .x o => .x (rnO2 ρ o)
def rnSg (ρ : Nat → Nat) : Sg → Sg
  | [] => []
  | (i, o) :: r => (ρ i, rnOb ρ o) :: rnSg ρ r
def dropK (ids : List Nat) : Sg → Sg
  | [] => []
  | (i, o) :: r => bif ids.any (Nat.beq i) then dropK ids r else (i, o) :: dropK ids r
theorem any_beq {ids : List Nat} {i : Nat} : ids.any (Nat.beq i) = true ↔ i ∈ ids := by
  rw [List.any_eq_true]
  constructor
  · rintro ⟨x, hx, h⟩; rw [Nat.eq_of_beq_eq_true h]; exact hx
  · intro h; exact ⟨i, h, by simp⟩
theorem lk_dropK_out {ids : List Nat} {i : Nat} (h : i ∉ ids) (σ : Sg) : lk i (dropK ids σ) = lk i σ := by
  induction σ with
  | nil => rfl
  | cons p r ih =>
    obtain ⟨j, o⟩ := p
    unfold dropK
    cases hb : ids.any (Nat.beq j) with
    | true =>
      simp only [cond_true]
      rw [lk_cons, if_neg (fun e : j = i => by subst e; exact h (any_beq.1 hb))]; exact ih
    | false =>
      simp only [cond_false]
      rw [lk_cons, lk_cons, ih]
theorem lk_append {α : Type} {i : Nat} (l r : List (Nat × α)) : lk i (l ++ r) = match lk i l with | some x => some x | none => lk i r := by
  induction l with
  | nil => rfl
  | cons p l ih =>
    obtain ⟨j, x⟩ := p
    rw [List.cons_append, lk_cons, lk_cons]
    by_cases e : j = i
    · rw [if_pos e, if_pos e]
    · rw [if_neg e, if_neg e]; exact ih
def injK (ρ : Nat → Nat) : List Nat → Bool
  | [] => true
  | i :: r => (r.all fun j => Nat.beq i j || !Nat.beq (ρ i) (ρ j)) && injK ρ r
theorem injK_ok {ρ : Nat → Nat} : ∀ {l : List Nat}, injK ρ l = true → ∀ i ∈ l, ∀ j ∈ l, ρ i = ρ j → i = j
  | [], _, i, hi, _, _, _ => by simp at hi
  | k :: r, h, i, hi, j, hj, he => by
    unfold injK at h
    simp only [Bool.and_eq_true, List.all_eq_true, Bool.or_eq_true, Bool.not_eq_true'] at h
    have key : ∀ j ∈ r, ρ k = ρ j → k = j := fun j hj he => by
      rcases h.1 j hj with h | h
      · exact Nat.eq_of_beq_eq_true h
      · rw [he, show Nat.beq (ρ j) (ρ j) = true by simp] at h; cases h
    rw [List.mem_cons] at hi hj
    rcases hi with hi | hi <;> rcases hj with hj | hj
    · rw [hi, hj]
    · subst hi; exact key j hj he
    · subst hj; exact (key i hi he.symm).symm
    · exact injK_ok h.2 i hi j hj he
theorem lk_isSome_mem {α : Type} {i : Nat} {l : List (Nat × α)} : (lk i l).isSome = true ↔ i ∈ l.map (·.1) := by
  induction l with
  | nil => simp [lk]
  | cons p r ih =>
    obtain ⟨j, x⟩ := p
    rw [lk_cons]
    by_cases e : j = i
    · rw [if_pos e]; simp [e]
    · rw [if_neg e, ih]
      simp only [List.map_cons, List.mem_cons]
      exact ⟨.inr, fun h => h.resolve_left (fun h => e h.symm)⟩
theorem lk_rnSg {ρ : Nat → Nat} : ∀ {σ : Sg} {ks : List Nat} (_ : ∀ i ∈ ks, ∀ j ∈ ks, ρ i = ρ j → i = j) (_ : ∀ i ∈ σ.map (·.1), i ∈ ks) {i : Nat} (_ : i ∈ ks), lk (ρ i) (rnSg ρ σ) = (lk i σ).map (rnOb ρ)
  | [], _, _, _, _, _ => rfl
  | (j, o) :: r, ks, hinj, hsub, i, hi => by
    unfold rnSg
    rw [lk_cons, lk_cons]
    by_cases e : j = i
    · subst e; rw [if_pos rfl, if_pos rfl]; rfl
    · rw [if_neg e, if_neg (fun h => e (hinj j (hsub j (by simp)) i hi h))]
      exact lk_rnSg hinj (fun k hk => hsub k (by simp at hk ⊢; exact .inr hk)) hi
theorem lk_rnSg_none {ρ : Nat → Nat} {k : Nat} : ∀ {σ : Sg}, (∀ i ∈ σ.map (·.1), ρ i ≠ k) → lk k (rnSg ρ σ) = none
  | [], _ => rfl
  | (j, o) :: r, h => by
    unfold rnSg
    rw [lk_cons, if_neg (h j (by simp))]
    exact lk_rnSg_none fun i hi => h i (by simp at hi ⊢; exact .inr hi)
def unrn (ρ : Nat → Nat) : List Nat → Nat → Option Nat
  | [], _ => none
  | i :: r, k => if ρ i = k then some i else unrn ρ r k
theorem unrn_mem {ρ : Nat → Nat} {l : List Nat} (hinj : ∀ i ∈ l, ∀ j ∈ l, ρ i = ρ j → i = j) {i : Nat} (hi : i ∈ l) : unrn ρ l (ρ i) = some i := by
  have : ∀ (m : List Nat), (∀ j ∈ m, j ∈ l) → i ∈ m → unrn ρ m (ρ i) = some i := by
    intro m
    induction m with
    | nil => intro _ h; simp at h
    | cons j r ih =>
      intro hm hi'
      unfold unrn
      by_cases e : ρ j = ρ i
      · rw [if_pos e, hinj j (hm j (by simp)) i hi e]
      · rw [if_neg e]
        rcases List.mem_cons.1 hi' with rfl | h
        · exact absurd rfl e
        · exact ih (fun j hj => hm j (List.mem_cons_of_mem _ hj)) h
  exact this l (fun _ h => h) hi
theorem unrn_none {ρ : Nat → Nat} {k : Nat} : ∀ {l : List Nat}, (∀ i ∈ l, ρ i ≠ k) → unrn ρ l k = none
  | [], _ => rfl
  | j :: r, h => by
    unfold unrn
    rw [if_neg (h j (by simp))]
    exact unrn_none fun i hi => h i (List.mem_cons_of_mem _ hi)
section
variable {P : Program} {σ0 σ1 σ σ'' : Sg} {g g0 g1 g'' : Gh} {w w' : World} {ρ : Nat → Nat}
theorem rn1_pull (hl : ∀ id ob, lk id σ0 = some ob → lk (ρ id) σ = some (rnOb ρ ob)) {s : SV} (hs : rs1 σ0 s = true) {v : Value} (hv : SR σ g w (rnSV.rn1 ρ s) v) : SR σ0 ⟨g.K, fun i => g.μ (ρ i)⟩ w s v := by
  have chain : ∀ c, (lk c σ0).isSome = true → ∀ {e sz st xs}, lk (ρ c) σ = some (.chain e sz st xs) → lk c σ0 = some (.chain e sz st xs) := by
    intro c hc e sz st xs h
    obtain ⟨ob, hob⟩ := Option.isSome_iff_exists.1 hc
    have := hl c ob hob
    rw [h] at this
    cases ob with
    | box cs => cases this
    | chain => cases this; exact hob
    | x _ => cases this
  have oth : ∀ c, (lk c σ0).isSome = true → ∀ {o}, lk (ρ c) σ = some (.x o) → ∃ o', lk c σ0 = some (.x o') ∧ o.kd = o'.kd := by
    intro c hc o h
    obtain ⟨ob, hob⟩ := Option.isSome_iff_exists.1 hc
    have := hl c ob hob
    rw [h] at this
    cases ob with
    | box cs' => cases this
    | chain => cases this
    | x o' => cases this; exact ⟨o', hob, rnO2_kd _ _⟩
  have box : ∀ c, (lk c σ0).isSome = true → ∀ {cs}, lk (ρ c) σ = some (.box cs) → ∃ cs', lk c σ0 = some (.box cs') := by
    intro c hc cs h
    obtain ⟨ob, hob⟩ := Option.isSome_iff_exists.1 hc
    have := hl c ob hob
    rw [h] at this
    cases ob with
    | box cs' => exact ⟨cs', hob⟩
    | chain => cases this
    | x _ => cases this
  cases s with
  | d x => cases hv with | d _ _ h => exact .d _ _ h
  | o c st n =>
    cases hv with
    | old _ _ _ e sz st' xs v h hlt h1 => exact .old c st n e sz st' xs v (chain c hs h) hlt h1
    | o _ _ _ e sz xs a cap h hn hμ => exact .o c st n e sz xs a cap (chain c hs h) hn hμ
  | b id off =>
    cases hv with
    | b _ _ cs k h hμ => obtain ⟨cs', h'⟩ := box id hs h; exact .b id off cs' k h' hμ
  | se e off => cases hv with | se _ _ k l vs h1 h2 h3 => exact .se e off k l vs h1 h2 h3
  | oe c st i off =>
    cases hv with
    | oeold _ _ _ _ e sz st' xs v h hlt h1 => exact .oeold c st i off e sz st' xs v (chain c hs h) hlt h1
    | oe _ _ _ _ e sz xs k cap h hμ => exact .oe c st i off e sz xs k cap (chain c hs h) hμ
  | f => cases hs
  | j => cases hv with | j _ h => exact .j _ h
  | h id =>
    cases hv with
    | h _ o k h hμ => obtain ⟨o', h', hk⟩ := oth id hs h; rw [hk]; exact .h id o' k h' hμ
  | sb id off n cap =>
    cases hv with
    | sb _ _ _ _ cs k h hμ hn hc => obtain ⟨cs', h'⟩ := box id hs h; exact .sb id off n cap cs' k h' hμ hn hc
theorem rnSV_pull (hl : ∀ id ob, lk id σ0 = some ob → lk (ρ id) σ = some (rnOb ρ ob)) {s : SV} (hs : rsSV σ0 s = true) {v : Value} (hv : SR σ g w (rnSV ρ s) v) : SR σ0 ⟨g.K, fun i => g.μ (ρ i)⟩ w s v := by
  cases s with
  | f fn a b =>
    simp only [rsSV, Bool.and_eq_true, List.all_eq_true] at hs
    cases hv with
    | f _ _ _ v1 v2 h1 h2 r1 r2 =>
      refine .f fn a b v1 v2 (by simpa using h1) (by simpa using h2) (fun i s v hi hv => ?_) (fun i s v hi hv => ?_)
      · exact rn1_pull hl (hs.1 s (List.mem_of_getElem? hi)) (r1 i _ v (by rw [List.getElem?_map, hi]; rfl) hv)
      · exact rn1_pull hl (hs.2 s (List.mem_of_getElem? hi)) (r2 i _ v (by rw [List.getElem?_map, hi]; rfl) hv)
  | d x => exact rn1_pull hl (s := .d x) hs hv
  | o c st n => exact rn1_pull hl (s := .o c st n) hs hv
  | b id off => exact rn1_pull hl (s := .b id off) hs hv
  | se e off => exact rn1_pull hl (s := .se e off) hs hv
  | oe c st i off => exact rn1_pull hl (s := .oe c st i off) hs hv
  | j => exact rn1_pull hl (s := .j) hs hv
  | h id => exact rn1_pull hl (s := .h id) hs hv
  | sb id off n cap => exact rn1_pull hl (s := .sb id off n cap) hs hv
theorem rnAV1_pull (hl : ∀ id ob, lk id σ0 = some ob → lk (ρ id) σ = some (rnOb ρ ob)) {x : AV} (hs : rsAV1 σ0 x = true) {v : Value} (hv : VR1 σ g w (rnAV1 ρ x) v) : VR1 σ0 ⟨g.K, fun i => g.μ (ρ i)⟩ w x v := by
  cases x with
  | x s => exact rnSV_pull hl hs hv
  | a cs =>
    simp only [rsAV1, List.all_eq_true] at hs
    obtain ⟨vs, rfl, h1, h2⟩ := hv
    exact ⟨vs, rfl, by simpa using h1, fun i s u hi hu => rnSV_pull hl (hs s (List.mem_of_getElem? hi)) (h2 i _ u (by rw [List.getElem?_map, hi]; rfl) hu)⟩
  | _ => exact hv.elim
theorem rnAV_pull (hl : ∀ id ob, lk id σ0 = some ob → lk (ρ id) σ = some (rnOb ρ ob)) {x : AV} (hs : rsAV2 σ0 x = true) {v : Value} (hv : VR2 σ g w (rnAV ρ x) v) : VR2 σ0 ⟨g.K, fun i => g.μ (ρ i)⟩ w x v := by
  cases x with
  | t xs =>
    simp only [rsAV2, List.all_eq_true] at hs
    obtain ⟨vs, rfl, h1, h2⟩ := hv
    exact ⟨vs, rfl, by simpa using h1, fun i s u hi hu => rnAV1_pull hl (hs s (List.mem_of_getElem? hi)) (h2 i _ u (by rw [List.getElem?_map, hi]; rfl) hu)⟩
  | x s => exact rnAV1_pull (x := .x s) hl hs hv
  | a cs => exact rnAV1_pull (x := .a cs) hl hs hv
  | g _ _ => exact hv.elim
theorem rnV_pull (hl : ∀ id ob, lk id σ0 = some ob → lk (ρ id) σ = some (rnOb ρ ob)) {x : AV} (hs : rsAV σ0 x = true) {v : Value} (hv : VR σ g w (rnV ρ x) v) : VR σ0 ⟨g.K, fun i => g.μ (ρ i)⟩ w x v := by
  cases x with
  | g c y => exact ⟨fun hc => rnAV_pull hl hs (hv.1 hc), hv.2⟩
  | t xs => exact rnAV_pull (x := .t xs) hl hs hv
  | x s => exact rnAV_pull (x := .x s) hl hs hv
  | a cs => exact rnAV_pull (x := .a cs) hl hs hv
theorem rnSV_dat {ρ : Nat → Nat} {s : SV} (h : datS s = true) : rnSV ρ s = s := by cases s <;> first | rfl | cases h
theorem rnAV1_dat {ρ : Nat → Nat} {x : AV} (h : datAV x = true) : rnAV1 ρ x = x := by
  cases x with
  | x s => exact congrArg AV.x (rnSV_dat h)
  | a cs =>
    simp only [datAV, List.all_eq_true] at h
    show AV.a (cs.map (rnSV ρ)) = .a cs
    rw [List.map_congr_left (fun s hs => rnSV_dat (h s hs)), List.map_id']
  | _ => cases h
theorem rnO2_pull (hl : ∀ id ob, lk id σ0 = some ob → lk (ρ id) σ = some (rnOb ρ ob)) {o : Ob2} (hs : rsO2 σ0 o = true) {b : Nat} (hv : O2 σ g w b (rnO2 ρ o)) : O2 σ0 ⟨g.K, fun i => g.μ (ρ i)⟩ w b o := by
  cases o with
  | map kt kvs =>
    obtain ⟨es, h1, h2, h3, h4, h5, h6⟩ := hv
    refine ⟨es, h1, h2, fun i k x hi => ?_, h4, h5, h6⟩
    obtain ⟨e, a, c, d, f⟩ := h3 i k x hi
    have hd := h6 i k x hi
    exact ⟨e, a, c, d, rnAV1_pull hl (rsAV1_dat hd) (by rw [rnAV1_dat hd]; exact f)⟩
  | mapIter m since seen last =>
    cases m with
    | some m => obtain ⟨mb, h1, h2⟩ := hv; exact ⟨mb, h1, rn1_pull hl (s := .h m) hs h2⟩
    | none => exact hv
  | strIter s pos => exact hv
  | loop st pend params assign body nt fr dfr =>
    simp only [rsO2, Bool.and_eq_true] at hs
    obtain ⟨f, tmps, d, h1, h2, h3, h4⟩ := hv
    refine ⟨f, tmps, d, h1, h2, fun t v ht => ?_, rn1_pull hl (s := .h dfr) hs.2 h4⟩
    have := h3 t (rnV ρ v) (by rw [lk_rnFr, ht]; rfl)
    exact ⟨this.1, rnV_pull hl (rsFr_get hs.1 t v ht) this.2⟩
  | dfr => exact hv
theorem rnSV_push (hl : ∀ id ob, lk id σ1 = some ob → lk (ρ id) σ'' = some (rnOb ρ ob) ∧ g''.μ (ρ id) = g1.μ id) (hK : g''.K = g1.K) {s : SV} {v : Value} (hv : SR σ1 g1 w s v) : SR σ'' g'' w (rnSV ρ s) v ∧ SR σ'' g'' w (rnSV.rn1 ρ s) v := by
  induction hv with
  | d x v h => exact ⟨.d x v (by rw [hK]; exact h), .d x v (by rw [hK]; exact h)⟩
  | old c st n e sz st' xs v h hlt h1 => exact ⟨.old _ st n e sz st' xs v (hl _ _ h).1 hlt h1, .old _ st n e sz st' xs v (hl _ _ h).1 hlt h1⟩
  | o c st n e sz xs a cap h hn hμ => exact ⟨.o _ st n e sz xs a cap (hl _ _ h).1 hn (by rw [(hl _ _ h).2, hμ]), .o _ st n e sz xs a cap (hl _ _ h).1 hn (by rw [(hl _ _ h).2, hμ])⟩
  | b id off cs k h hμ => exact ⟨.b _ off _ k (hl _ _ h).1 (by rw [(hl _ _ h).2, hμ]), .b _ off _ k (hl _ _ h).1 (by rw [(hl _ _ h).2, hμ])⟩
  | se e off k l vs h1 h2 h3 => exact ⟨.se e off k l vs (by rw [hK]; exact h1) h2 (by rw [hK]; exact h3), .se e off k l vs (by rw [hK]; exact h1) h2 (by rw [hK]; exact h3)⟩
  | oeold c st i off e sz st' xs v h hlt h1 => exact ⟨.oeold _ st i off e sz st' xs v (hl _ _ h).1 hlt h1, .oeold _ st i off e sz st' xs v (hl _ _ h).1 hlt h1⟩
  | oe c st i off e sz xs k cap h hμ => exact ⟨.oe _ st i off e sz xs k cap (hl _ _ h).1 (by rw [(hl _ _ h).2, hμ]), .oe _ st i off e sz xs k cap (hl _ _ h).1 (by rw [(hl _ _ h).2, hμ])⟩
  | f fn a b v1 v2 h1 h2 _ _ ih1 ih2 =>
    refine ⟨.f fn _ _ v1 v2 (by simpa using h1) (by simpa using h2) (fun i s v hi hv => ?_) (fun i s v hi hv => ?_), .j _ rfl⟩
    · rw [List.getElem?_map] at hi
      cases hs : a[i]? with
      | none => rw [hs] at hi; cases hi
      | some s0 => rw [hs] at hi; cases hi; exact (ih1 i s0 v hs hv).2
    · rw [List.getElem?_map] at hi
      cases hs : b[i]? with
      | none => rw [hs] at hi; cases hi
      | some s0 => rw [hs] at hi; cases hi; exact (ih2 i s0 v hs hv).2
  | j v h1 => exact ⟨.j v h1, .j v h1⟩
  | h id o k h hμ =>
    have e := (rnO2_kd ρ o).symm
    rw [e]
    exact ⟨.h _ _ k (hl _ _ h).1 (by rw [(hl _ _ h).2, hμ]), .h _ _ k (hl _ _ h).1 (by rw [(hl _ _ h).2, hμ])⟩
  | sb id off n cap cs k h hμ hn hc => exact ⟨.sb _ off n cap _ k (hl _ _ h).1 (by rw [(hl _ _ h).2, hμ]) hn hc, .sb _ off n cap _ k (hl _ _ h).1 (by rw [(hl _ _ h).2, hμ]) hn hc⟩
theorem rnAV1_push (hl : ∀ id ob, lk id σ1 = some ob → lk (ρ id) σ'' = some (rnOb ρ ob) ∧ g''.μ (ρ id) = g1.μ id) (hK : g''.K = g1.K) {x : AV} {v : Value} (hv : VR1 σ1 g1 w x v) : VR1 σ'' g'' w (rnAV1 ρ x) v := by
  cases x with
  | x s => exact (rnSV_push hl hK hv).1
  | a cs =>
    obtain ⟨vs, rfl, h1, h2⟩ := hv
    refine ⟨vs, rfl, by simpa using h1, fun i s u hi hu => ?_⟩
    rw [List.getElem?_map] at hi
    cases hs : cs[i]? with
    | none => rw [hs] at hi; cases hi
    | some s0 => rw [hs] at hi; cases hi; exact (rnSV_push hl hK (h2 i s0 u hs hu)).1
  | _ => exact hv.elim
theorem rnAV_push (hl : ∀ id ob, lk id σ1 = some ob → lk (ρ id) σ'' = some (rnOb ρ ob) ∧ g''.μ (ρ id) = g1.μ id) (hK : g''.K = g1.K) {x : AV} {v : Value} (hv : VR2 σ1 g1 w x v) : VR2 σ'' g'' w (rnAV ρ x) v := by
  have one := fun (x : AV) (v : Value) (hv : VR1 σ1 g1 w x v) => rnAV1_push (g'' := g'') hl hK hv
  cases x with
  | t xs =>
    obtain ⟨vs, rfl, h1, h2⟩ := hv
    refine ⟨vs, rfl, by simpa using h1, fun i s u hi hu => ?_⟩
    rw [List.getElem?_map] at hi
    cases hs : xs[i]? with
    | none => rw [hs] at hi; cases hi
    | some s0 => rw [hs] at hi; cases hi; exact one _ _ (h2 i s0 u hs hu)
  | x s => exact one (.x s) v hv
  | a cs => exact one (.a cs) v hv
  | g _ _ => exact hv.elim
theorem rnV_push (hl : ∀ id ob, lk id σ1 = some ob → lk (ρ id) σ'' = some (rnOb ρ ob) ∧ g''.μ (ρ id) = g1.μ id) (hK : g''.K = g1.K) {x : AV} {v : Value} (hv : VR σ1 g1 w x v) : VR σ'' g'' w (rnV ρ x) v := by
  have up : ∀ {x : AV} {v : Value}, VR2 σ1 g1 w x v → VR2 σ'' g'' w (rnAV ρ x) v := fun h => rnAV_push (g'' := g'') hl hK h
  cases x with
  | g c y => exact ⟨fun hc => up (hv.1 hc), hv.2⟩
  | t xs => exact VR_of_VR2 (up (x := .t xs) hv)
  | x s => exact VR_of_VR2 (up (x := .x s) hv)
  | a cs => exact VR_of_VR2 (up (x := .a cs) hv)
theorem rnO2_push (hl : ∀ id ob, lk id σ1 = some ob → lk (ρ id) σ'' = some (rnOb ρ ob) ∧ g''.μ (ρ id) = g1.μ id) (hK : g''.K = g1.K) {b : Nat} {o : Ob2} (hv : O2 σ1 g1 w b o) : O2 σ'' g'' w b (rnO2 ρ o) := by
  cases o with
  | map kt kvs =>
    obtain ⟨es, h1, h2, h3, h4, h5, h6⟩ := hv
    refine ⟨es, h1, h2, fun i k x hi => ?_, h4, h5, h6⟩
    obtain ⟨e, a, c, d, f⟩ := h3 i k x hi
    exact ⟨e, a, c, d, by have := rnAV1_push hl hK f; rwa [rnAV1_dat (h6 i k x hi)] at this⟩
  | mapIter m since seen last =>
    cases m with
    | some m => obtain ⟨mb, h1, h2⟩ := hv; exact ⟨mb, h1, (rnSV_push hl hK h2).1⟩
    | none => exact hv
  | strIter s pos => exact hv
  | loop st pend params assign body nt fr dfr =>
    obtain ⟨f, tmps, d, h1, h2, h3, h4⟩ := hv
    refine ⟨f, tmps, d, h1, h2, fun t v ht => ?_, (rnSV_push hl hK h4).1⟩
    rw [lk_rnFr] at ht
    cases hx : lk t fr with
    | none => rw [hx] at ht; cases ht
    | some x => rw [hx] at ht; cases ht; exact ⟨(h3 t x hx).1, rnV_push hl hK (h3 t x hx).2⟩
  | dfr => exact hv
end
def after (ρ : Nat → Nat) (σ0 σ1 σ : Sg) : Sg := rnSg ρ σ1 ++ dropK ((σ0.map (·.1)).map ρ) σ
def okNames (ρ : Nat → Nat) (σ0 σ1 σ : Sg) : Bool :=
  injK ρ (σ1.map (·.1)) && (σ0.map (·.1)).all (fun i => (σ1.map (·.1)).any (Nat.beq i)) && (σ1.map (·.1)).all (fun i => (σ0.map (·.1)).any (Nat.beq i) || !((σ.map (·.1)).any (Nat.beq (ρ i))))
def SubR (ρ : Nat → Nat) (σ : Sg) : Sg → Prop
  | [] => True
  | (i, o) :: r => lk (ρ i) σ = some (rnOb ρ o) ∧ SubR ρ σ r
theorem SubR_ok {ρ : Nat → Nat} {σ : Sg} : ∀ {σ0 : Sg}, SubR ρ σ σ0 → ∀ id ob, lk id σ0 = some ob → lk (ρ id) σ = some (rnOb ρ ob)
  | [], _, id, ob, h => by cases h
  | (j, o) :: r, hs, id, ob, h => by
    rw [lk_cons] at h
    by_cases e : j = id
    · subst e; rw [if_pos rfl] at h; cases h; exact hs.1
    · rw [if_neg e] at h; exact SubR_ok hs.2 id ob h
theorem ACall.frame {P : Program} {f : FuncId} {args : List AV} {σ0 σ : Sg} {R : AV → Sg → Prop} (h : ACall P f args σ0 R) (ρ : Nat → Nat) (hl : SubR ρ σ σ0)
    (hc : (args.all (rsAV2 σ0) && rsSg σ0 σ0 && injK ρ (σ0.map (·.1))) = true) (hn : ∀ r1 σ1, R r1 σ1 → okNames ρ σ0 σ1 σ = true) :
    ACall P f (args.map (rnAV ρ)) σ (fun r σ' => ∃ r1 σ1, R r1 σ1 ∧ r = rnAV ρ r1 ∧ σ' = after ρ σ0 σ1 σ) := by
  refine ⟨h.1, fun w0 K0 g w vs hL hp hs hv => ?_⟩
  have hl := SubR_ok hl
  simp only [Bool.and_eq_true, List.all_eq_true] at hc
  obtain ⟨⟨hca, hcs⟩, hinj0⟩ := hc
  have hinj0 := injK_ok hinj0
  have dom0 : ∀ {i : Nat}, (lk i σ0).isSome = true → (lk (ρ i) σ).isSome = true := fun {i} hi => by
    obtain ⟨ob, hob⟩ := Option.isSome_iff_exists.1 hi
    rw [hl i ob hob]; rfl
  let g0 : Gh := ⟨g.K, fun i => g.μ (ρ i)⟩
  let F' : Nat → Prop := fun b => b < w.heap.size ∧ ∀ i, (lk i σ0).isSome = true → blk (g.μ (ρ i)) ≠ some b
  have hp0 : Hp w ⟨g.K, F'⟩ σ0 g0 w := by
    refine ⟨.refl _ _, fun b hb => hb.1, .refl _ _, fun _ _ _ h => h, hp.val, fun id ob hid => ?_, fun id b hid hb hF => hF.2 id hid hb, fun i j b hi hj hbi hbj => ?_⟩
    · have hO := hp.obs (ρ id) _ (hl id ob hid)
      cases ob with
      | box cs =>
        have hcs' := rsSg_get hcs _ _ hid
        simp only [rsOb, List.all_eq_true] at hcs'
        obtain ⟨b, us, T, k1, k2, k3, k4, k5, k6⟩ := hO
        refine ⟨b, us, T, k1, k2, k3, by simpa using k4, fun i s hi => ?_, k6⟩
        obtain ⟨v, hv, hr⟩ := k5 i (rnSV ρ s) (by rw [List.getElem?_map, hi]; rfl)
        exact ⟨v, hv, rnSV_pull hl (hcs' s (List.mem_of_getElem? hi)) hr⟩
      | chain e sz st xs => exact hO
      | x o => obtain ⟨b, k1, k2, k3, k4⟩ := hO; exact ⟨b, k1, k2, rnO2_pull hl (rsSg_get hcs _ _ hid) k3, k4⟩
    · have := hp.inj (ρ i) (ρ j) b (dom0 hi) (dom0 hj) hbi hbj
      exact hinj0 i (lk_isSome_mem.1 hi) j (lk_isSome_mem.1 hj) this
  refine (h.2 w ⟨g.K, F'⟩ g0 w vs (hL.mono hp.ext) hp0 (by simpa using hs) fun i x v hi hu => ?_).mono ?_
  · exact rnAV_pull hl (hca x (List.mem_of_getElem? hi)) (hv i (rnAV ρ x) v (by rw [List.getElem?_map, hi]; rfl) hu)
  rintro e w' ⟨v, g1, σ1, r1, he, hd, hvr, hR⟩
  have hon := hn r1 σ1 hR
  unfold okNames at hon
  simp only [Bool.and_eq_true, List.all_eq_true, Bool.or_eq_true, Bool.not_eq_true', any_beq] at hon
  obtain ⟨⟨hi1, hsub⟩, hnew⟩ := hon
  have hi1 := injK_ok hi1
  let ks := σ1.map (·.1)
  let g'' : Gh := ⟨g1.K, fun k => match unrn ρ ks k with | some i => g1.μ i | none => g.μ k⟩
  have out : ∀ {k : Nat}, (lk k σ).isSome = true → (∀ i, (lk i σ0).isSome = true → ρ i ≠ k) → ∀ i ∈ ks, ρ i ≠ k := by
    intro k hk hno i hi he'
    rcases hnew i hi with h1 | h1
    · exact hno i (lk_isSome_mem.2 h1) he'
    · have : ρ i ∈ σ.map (·.1) := by rw [he']; exact lk_isSome_mem.1 hk
      rw [any_beq.2 this] at h1; cases h1
  have lkin : ∀ {i : Nat}, i ∈ ks → lk (ρ i) (after ρ σ0 σ1 σ) = (lk i σ1).map (rnOb ρ) ∧ g''.μ (ρ i) = g1.μ i := by
    intro i hi
    have h1 := lk_rnSg (ρ := ρ) (σ := σ1) (ks := ks) hi1 (fun _ h => h) hi
    refine ⟨?_, ?_⟩
    · unfold after
      rw [lk_append, h1]
      obtain ⟨ob, hob⟩ := Option.isSome_iff_exists.1 (lk_isSome_mem.2 hi)
      rw [hob]; rfl
    · show (match unrn ρ ks (ρ i) with | some i => g1.μ i | none => _) = _
      rw [unrn_mem hi1 hi]
  have lkout : ∀ {k : Nat}, (∀ i ∈ ks, ρ i ≠ k) → (∀ i, (lk i σ0).isSome = true → ρ i ≠ k) → lk k (after ρ σ0 σ1 σ) = lk k σ ∧ g''.μ k = g.μ k := by
    intro k hk hk0
    refine ⟨?_, ?_⟩
    · unfold after
      rw [lk_append, lk_rnSg_none hk]
      exact lk_dropK_out (fun hm => by
        obtain ⟨i, hi, he'⟩ := List.mem_map.1 hm
        exact hk0 i (lk_isSome_mem.2 hi) he') σ
    · show (match unrn ρ ks k with | some i => g1.μ i | none => _) = _
      rw [unrn_none hk]
  have hlp : ∀ id ob, lk id σ1 = some ob → lk (ρ id) (after ρ σ0 σ1 σ) = some (rnOb ρ ob) ∧ g''.μ (ρ id) = g1.μ id := by
    intro id ob hid
    have := lkin (i := id) (lk_isSome_mem.1 (by rw [hid]; rfl))
    rw [hid] at this; exact this
  have hext : Ext g.K w g1.K w' := hd.hp.ext
  have leaf : ∀ {s : SV} {u : Value}, SR σ0 g0 w s u → SR (after ρ σ0 σ1 σ) g'' w' (rnSV ρ s) u := fun hs => (rnSV_push hlp rfl (hd.keep _ _ hs)).1
  have isin : ∀ k, (∃ i, (lk i σ0).isSome = true ∧ ρ i = k) ∨ (∀ i, (lk i σ0).isSome = true → ρ i ≠ k) := by
    intro k
    by_cases hk : ∃ i, (lk i σ0).isSome = true ∧ ρ i = k
    · exact .inl hk
    · exact .inr fun i hi he' => hk ⟨i, hi, he'⟩
  have keep : ∀ s u, SR σ g w s u → SR (after ρ σ0 σ1 σ) g'' w' s u := by
    intro s u hs
    induction hs with
    | d x v h => exact .d x v (h.mono hext)
    | old c st n e sz st' xs v h hlt h1 =>
      rcases isin c with ⟨i, hi, rfl⟩ | hno
      · exact leaf (s := .o i st n) (rn1_pull hl (s := .o i st n) hi (SR.old (σ := σ) (ρ i) st n e sz st' xs v h hlt h1))
      · have := lkout (out (by rw [h]; rfl) hno) hno
        exact .old c st n e sz st' xs v (by rw [this.1]; exact h) hlt h1
    | o c st n e sz xs a cap h hn hμ =>
      rcases isin c with ⟨i, hi, rfl⟩ | hno
      · exact leaf (s := .o i st n) (rn1_pull hl (s := .o i st n) hi (SR.o (σ := σ) (ρ i) st n e sz xs a cap h hn hμ))
      · have := lkout (out (by rw [h]; rfl) hno) hno
        exact .o c st n e sz xs a cap (by rw [this.1]; exact h) hn (by rw [this.2]; exact hμ)
    | b id off cs k h hμ =>
      rcases isin id with ⟨i, hi, rfl⟩ | hno
      · exact leaf (s := .b i off) (rn1_pull hl (s := .b i off) hi (SR.b (σ := σ) (ρ i) off cs k h hμ))
      · have := lkout (out (by rw [h]; rfl) hno) hno
        exact .b id off cs k (by rw [this.1]; exact h) (by rw [this.2]; exact hμ)
    | se e off k l vs hK hc' hr =>
      exact .se e off k l vs (fun j hj => hext.sub _ _ (hK j hj)) (fun j hj => by rw [hext.cell _ _ (hK j hj)]; exact hc' j hj) (fun j x hx => (hr j x hx).mono hext)
    | oeold c st i0 off e sz st' xs v h hlt h1 =>
      rcases isin c with ⟨i, hi, rfl⟩ | hno
      · exact leaf (s := .oe i st i0 off) (rn1_pull hl (s := .oe i st i0 off) hi (SR.oeold (σ := σ) (ρ i) st i0 off e sz st' xs v h hlt h1))
      · have := lkout (out (by rw [h]; rfl) hno) hno
        exact .oeold c st i0 off e sz st' xs v (by rw [this.1]; exact h) hlt h1
    | oe c st i0 off e sz xs k cap h hμ =>
      rcases isin c with ⟨i, hi, rfl⟩ | hno
      · exact leaf (s := .oe i st i0 off) (rn1_pull hl (s := .oe i st i0 off) hi (SR.oe (σ := σ) (ρ i) st i0 off e sz xs k cap h hμ))
      · have := lkout (out (by rw [h]; rfl) hno) hno
        exact .oe c st i0 off e sz xs k cap (by rw [this.1]; exact h) (by rw [this.2]; exact hμ)
    | f fn first captured v1 v2 h1 h2 _ _ ih1 ih2 => exact .f fn first captured v1 v2 h1 h2 ih1 ih2
    | j v h1 => exact .j v h1
    | h id o k h hμ =>
      rcases isin id with ⟨i, hi, rfl⟩ | hno
      · exact leaf (s := .h i) (rn1_pull hl (s := .h i) hi (SR.h (σ := σ) (ρ i) o k h hμ))
      · have := lkout (out (by rw [h]; rfl) hno) hno
        exact .h id o k (by rw [this.1]; exact h) (by rw [this.2]; exact hμ)
    | sb id off n cap cs k h hμ hn' hc' =>
      rcases isin id with ⟨i, hi, rfl⟩ | hno
      · exact leaf (s := .sb i off n cap) (rn1_pull hl (s := .sb i off n cap) hi (SR.sb (σ := σ) (ρ i) off n cap cs k h hμ hn' hc'))
      · have := lkout (out (by rw [h]; rfl) hno) hno
        exact .sb id off n cap cs k (by rw [this.1]; exact h) (by rw [this.2]; exact hμ) hn' hc'
  have fsub : ∀ b, K0.F b → F' b := fun b hb => ⟨hp.F_lt b hb, fun i hi he' => hp.own (ρ i) b (dom0 hi) he' hb⟩
  have cases' : ∀ {k : Nat}, (lk k (after ρ σ0 σ1 σ)).isSome = true → (∃ i, i ∈ ks ∧ ρ i = k) ∨ ((∀ i ∈ ks, ρ i ≠ k) ∧ (∀ i, (lk i σ0).isSome = true → ρ i ≠ k) ∧ (lk k σ).isSome = true) := by
    intro k hk
    by_cases hin : ∃ i, i ∈ ks ∧ ρ i = k
    · exact .inl hin
    · have hks : ∀ i ∈ ks, ρ i ≠ k := fun i hi he' => hin ⟨i, hi, he'⟩
      have hk0 : ∀ i, (lk i σ0).isSome = true → ρ i ≠ k := fun i hi => hks i (hsub i (lk_isSome_mem.1 hi))
      refine .inr ⟨hks, hk0, ?_⟩
      rw [(lkout hks hk0).1] at hk; exact hk
  have frameF : ∀ {k b : Nat}, (lk k σ).isSome = true → (∀ i, (lk i σ0).isSome = true → ρ i ≠ k) → blk (g.μ k) = some b → F' b := by
    intro k b hk hno hb
    obtain ⟨ob, hob⟩ := Option.isSome_iff_exists.1 hk
    exact ⟨((hp.obs k ob hob).blk_lt hb).2, fun i hi he' => hno i hi (hp.inj (ρ i) k b (dom0 hi) hk he' hb)⟩
  have hd1 := hd.hp
  refine ⟨v, g'', after ρ σ0 σ1 σ, rnAV ρ r1, he, ⟨⟨?_, hp.flt, hp.ext.trans hext, ?_, hd1.val, ?_, ?_, ?_⟩, keep⟩, rnAV_push hlp rfl hvr, r1, σ1, hR, rfl, rfl⟩
  · exact hp.kept.trans ⟨hd1.kept.os, hd1.kept.tape, hd1.kept.output, hd1.kept.size, fun b hb => hd1.kept.block b (fsub b hb)⟩
  · exact fun b o hF hk => hp.old b o hF (hd1.old b o (fsub b hF) hk)
  · intro k ob hk
    rcases cases' (by rw [hk]; rfl) with ⟨i, hi, rfl⟩ | ⟨hks, hk0, hkσ⟩
    · have h2 := lkin hi
      obtain ⟨ob1, hob1⟩ := Option.isSome_iff_exists.1 (lk_isSome_mem.2 hi)
      rw [hob1, hk] at h2
      obtain ⟨h2, h3⟩ := h2
      cases h2
      have hO := hd1.obs i ob1 hob1
      cases ob1 with
      | box cs =>
        obtain ⟨b, us, T, k1, k2, k3, k4, k5, k6⟩ := hO
        refine ⟨b, us, T, by rw [h3]; exact k1, k2, k3, by simpa using k4, fun j s hj => ?_, k6⟩
        rw [List.getElem?_map] at hj
        cases hs' : cs[j]? with
        | none => rw [hs'] at hj; cases hj
        | some s0 =>
          rw [hs'] at hj; cases hj
          obtain ⟨u, hu, hr⟩ := k5 j s0 hs'
          exact ⟨u, hu, (rnSV_push hlp rfl hr).1⟩
      | chain e sz st xs =>
        obtain ⟨us, k1, k2, k3, k4, k5⟩ := hO
        exact ⟨us, by rw [h3]; exact k1, by rw [h3]; exact k2, k3, k4, fun b hb => k5 b (by rw [← h3]; exact hb)⟩
      | x o => obtain ⟨b, k1, k2, k3, k4⟩ := hO; exact ⟨b, by rw [h3]; exact k1, k2, rnO2_push hlp rfl k3, k4⟩
    · have h2 := lkout hks hk0
      rw [h2.1] at hk
      have hO := hp.obs k ob hk
      refine hO.keep keep hext h2.2 (fun b hb => hd1.kept.block b (frameF hkσ hk0 hb)) (fun b hb o hkk => ?_)
      exact hp.notK hk hb o (hd1.old b o (frameF hkσ hk0 hb) hkk)
  · intro k b hk hb hF
    rcases cases' hk with ⟨i, hi, rfl⟩ | ⟨hks, hk0, hkσ⟩
    · rw [(lkin hi).2] at hb
      exact hd1.own i b (lk_isSome_mem.2 hi) hb (fsub b hF)
    · rw [(lkout hks hk0).2] at hb
      exact hp.own k b hkσ hb hF
  · intro k k' b hk hk' hb hb'
    rcases cases' hk with ⟨i, hi, rfl⟩ | ⟨hks, hk0, hkσ⟩ <;> rcases cases' hk' with ⟨j, hj, rfl⟩ | ⟨hks', hk0', hkσ'⟩
    · rw [(lkin hi).2] at hb; rw [(lkin hj).2] at hb'
      rw [hd1.inj i j b (lk_isSome_mem.2 hi) (lk_isSome_mem.2 hj) hb hb']
    · rw [(lkin hi).2] at hb; rw [(lkout hks' hk0').2] at hb'
      exact absurd (frameF hkσ' hk0' hb') (hd1.own i b (lk_isSome_mem.2 hi) hb)
    · rw [(lkout hks hk0).2] at hb; rw [(lkin hj).2] at hb'
      exact absurd (frameF hkσ hk0 hb) (hd1.own j b (lk_isSome_mem.2 hj) hb')
    · rw [(lkout hks hk0).2] at hb; rw [(lkout hks' hk0').2] at hb'
      exact hp.inj k k' b hkσ hkσ' hb hb'
end Go.QL
namespace Go.QL
open Go Go.RowKit
def rowPV (σ σ' : Sg) : SV → Option PV
  | .d p => some p
  | .o c st n => match lk c σ' with
    | some _ => none
    | none => (match viewSV σ (.o c st n) with | some (.d p) => some p | _ => none)
  | _ => none
def rowPVs (σ σ' : Sg) : List SV → Option (List PV)
  | [] => some []
  | s :: r => match rowPV σ σ' s, rowPVs σ σ' r with | some t, some l => some (t :: l) | _, _ => none
def keepSV (σ σ' : Sg) : SV → Option SV
  | .d p => some (.d p)
  | .se e off => some (.se e off)
  | .j => some .j
  | .o c st n => match lk c σ' with
    | some _ => some (.o c st n)
    | none => viewSV σ (.o c st n)
  | .b id off => match lk id σ' with
    | some _ => some (.b id off)
    | none => none
  | .oe c st i off => match lk c σ' with
    | some _ => some (.oe c st i off)
    | none => none
  | .h id => match lk id σ' with
    | some _ => some (.h id)
    | none => none
  | .sb id off n cap => match lk id σ' with
    | some _ => some (.sb id off n cap)
    | none => (match lk id σ with
      | some (.box cs) => (match off, rowPVs σ σ' cs with
        | 0, some ps => if n = ps.length then some (.d (.s 1 (ps.map fun p => [p]))) else none
        | _, _ => none)
      | _ => none)
  | .f fn a b => bif a.all (rs1 σ') && b.all (rs1 σ') then some (.f fn a b) else none
def keepL (σ σ' : Sg) : List SV → Option (List SV)
  | [] => some []
  | s :: r => match keepSV σ σ' s, keepL σ σ' r with | some t, some l => some (t :: l) | _, _ => none
def keepAV1 (σ σ' : Sg) : AV → Option AV
  | .x s => match keepSV σ σ' s with | some t => some (.x t) | none => none
  | .a cs => match keepL σ σ' cs with | some l => some (.a l) | none => none
  | _ => none
def keepAVs (σ σ' : Sg) : List AV → Option (List AV)
  | [] => some []
  | x :: r => match keepAV1 σ σ' x, keepAVs σ σ' r with | some y, some l => some (y :: l) | _, _ => none
def outKeep (tt : TT) (res : List ResultVar) (fr : Fr) (σ σ' : Sg) : Option AV :=
  match resAVs tt σ fr res with
  | some [x] => keepAV1 σ σ' x
  | some xs => (match keepAVs σ σ' xs with | some l => some (.t l) | none => none)
  | none => none
def PostD (tt : TT) (res : List ResultVar) (ids : List Nat) (R : AV → Sg → Prop) : Exit → Fr → Sg → Prop
  | .normal, fr, σ | .ret, fr, σ => ∃ r σ', SubS σ σ' ∧ (rsSg σ' σ' && idsIn ids σ') = true ∧ outKeep tt res fr σ σ' = some r ∧ R r σ'
  | _, _, _ => False
def Kend (σ σ' : Sg) (g : Gh) (w : World) : Nat → Nat → Prop := fun b o => g.K b o ∨ ∃ c ob, lk c σ = some ob ∧ lk c σ' = none ∧ blk (g.μ c) = some b ∧ b < w.heap.size
section
variable {P : Program} {Γ : Cx} {w0 : World} {K0 : Bs} {fr : Fr} {σ σ' : Sg} {g : Gh} {a : Act} {w : World}
theorem Kend_ext : Ext g.K w (Kend σ σ' g w) w := ⟨fun _ _ h => .inl h, fun _ _ _ => rfl⟩
theorem Kend_keep {s : SV} {v : Value} (h : SR σ' g w s v) : SR σ' ⟨Kend σ σ' g w, g.μ⟩ w s v :=
  SR.keep (σ := σ') (σ' := σ') (g := g) (g' := ⟨Kend σ σ' g w, g.μ⟩) (w := w) (w' := w) ⟨fun _ cs h => ⟨rfl, cs, h⟩, fun _ _ _ _ xs h => .inr ⟨rfl, xs, h, rfl⟩, fun _ o h => ⟨rfl, o, h, rfl⟩⟩ Kend_ext h
theorem Hp.atEnd (hp : Hp w0 K0 σ g w) (hs : Sup σ' σ) (ho : rsSg σ' σ' = true) : Hp w0 K0 σ' ⟨Kend σ σ' g w, g.μ⟩ w := by
  have hw := hp.weaken hs ho
  refine ⟨hw.kept, hw.flt, hw.ext.trans Kend_ext, fun b o hF hk => ?_, fun b o hk => ?_, fun id ob hid => ?_, hw.own, hw.inj⟩
  · rcases hk with hk | ⟨c, ob, hl, _, hb, _⟩
    · exact hp.old b o hF hk
    · exact absurd hF (hp.own c b (by rw [hl]; rfl) hb)
  · rcases hk with hk | ⟨c, ob, _, _, _, h⟩
    · exact hp.val b o hk
    · exact h
  · refine (hw.obs id ob hid).keep (fun s v h => Kend_keep h) Kend_ext rfl (fun _ _ => rfl) (fun b hb o hk => ?_)
    rcases hk with hk | ⟨c, ob', hl, hn, hb', _⟩
    · exact hw.notK hid hb o hk
    · have := hp.inj id c b (by rw [hs _ _ hid]; rfl) (by rw [hl]; rfl) hb hb'
      subst this; rw [hid] at hn; cases hn
theorem freezePR (hp : Hp w0 K0 σ g w) {c e sz st n : Nat} {xs : List (List PV)} (hl : lk c σ = some (.chain e sz st xs)) (hn : n ≤ xs.length) {v : Value} (hv : SR σ g w (.o c st n) v) :
    PR (fun b o => g.K b o ∨ (blk (g.μ c) = some b ∧ b < w.heap.size)) w (.s sz (xs.take n)) v := by
  have := Imp.freeze.freeze_one (σ' := []) (a := ⟨#[v], []⟩) (t := 0) hp hl hn (show VR σ g w (.x (.o c st n)) v from hv)
  have h2 : SR [] ⟨fun b o => g.K b o ∨ (blk (g.μ c) = some b ∧ b < w.heap.size), g.μ⟩ w (.d (.s sz (xs.take n))) v := this
  cases h2 with | d _ _ h => exact h
theorem rowPVs_get : ∀ {l : List SV} {t : List PV}, rowPVs σ σ' l = some t → t.length = l.length ∧ ∀ (i : Nat) (y : PV), t[i]? = some y → ∃ s, l[i]? = some s ∧ rowPV σ σ' s = some y
  | [], t, h => by cases h; exact ⟨rfl, fun i y hi => by simp at hi⟩
  | s :: r, t, h => by
    simp only [rowPVs] at h
    cases h1 : rowPV σ σ' s with
    | none => rw [h1] at h; cases h
    | some y =>
      cases h2 : rowPVs σ σ' r with
      | none => rw [h1, h2] at h; cases h
      | some l =>
        rw [h1, h2] at h; cases h
        obtain ⟨e, ih⟩ := rowPVs_get h2
        refine ⟨by simp [e], fun i z hi => ?_⟩
        cases i with
        | zero => cases hi; exact ⟨s, rfl, h1⟩
        | succ i => exact ih i z hi
theorem rowPV_ok (hp : Hp w0 K0 σ g w) {s : SV} {p : PV} (h : rowPV σ σ' s = some p) {v : Value} (hv : SR σ g w s v) : PR (Kend σ σ' g w) w p v := by
  cases s with
  | d q => cases h; cases hv with | d _ _ h => exact h.mono Kend_ext
  | o c st n =>
    simp only [rowPV] at h
    split at h
    · cases h
    · rename_i hno
      simp only [viewSV] at h
      split at h
      · rename_i p' h'
        cases h
        split at h'
        · rename_i e sz st' xs hl
          split at h'
          · rename_i hc; cases h'
            obtain ⟨rfl, hn⟩ := hc
            refine (freezePR hp hl hn hv).mono ⟨fun b o hk => ?_, fun _ _ _ => rfl⟩
            rcases hk with hk | ⟨h1, h2⟩
            · exact .inl hk
            · exact .inr ⟨c, _, hl, hno, h1, h2⟩
          · cases h'
        · cases h'
      · cases h
  | _ => cases h
theorem keepSV_ok (hp : Hp w0 K0 σ g w) (hs : Sup σ' σ) {s t : SV} (h : keepSV σ σ' s = some t) {v : Value} (hv : SR σ g w s v) : SR σ' ⟨Kend σ σ' g w, g.μ⟩ w t v := by
  cases s with
  | d p => cases h; cases hv with | d _ _ h => exact .d _ _ (h.mono Kend_ext)
  | se e off => cases h; exact Kend_keep (rs1_ok hs (s := .se e off) rfl hv)
  | j => cases h; exact Kend_keep (rs1_ok hs (s := .j) rfl hv)
  | o c st n =>
    simp only [keepSV] at h
    split at h
    · rename_i ob hob; cases h
      exact Kend_keep (rs1_ok hs (s := .o c st n) (by simp [rs1, hob]) hv)
    · rename_i hno
      simp only [viewSV] at h
      split at h
      · rename_i e sz st' xs hl
        split at h
        · rename_i hc; cases h
          obtain ⟨rfl, hn⟩ := hc
          refine .d _ _ ((freezePR hp hl hn hv).mono ⟨fun b o hk => ?_, fun _ _ _ => rfl⟩)
          rcases hk with hk | ⟨h1, h2⟩
          · exact .inl hk
          · exact .inr ⟨c, _, hl, hno, h1, h2⟩
        · cases h
      · cases h
  | b id off =>
    simp only [keepSV] at h
    split at h
    · rename_i ob hob; cases h
      exact Kend_keep (rs1_ok hs (s := .b id off) (by simp [rs1, hob]) hv)
    · cases h
  | oe c st i off =>
    simp only [keepSV] at h
    split at h
    · rename_i ob hob; cases h
      exact Kend_keep (rs1_ok hs (s := .oe c st i off) (by simp [rs1, hob]) hv)
    · cases h
  | h id =>
    simp only [keepSV] at h
    split at h
    · rename_i ob hob; cases h
      exact Kend_keep (rs1_ok hs (s := .h id) (by simp [rs1, hob]) hv)
    · cases h
  | sb id off n cap =>
    simp only [keepSV] at h
    split at h
    · rename_i ob hob; cases h
      exact Kend_keep (rs1_ok hs (s := .sb id off n cap) (by simp [rs1, hob]) hv)
    · rename_i hno
      split at h
      · rename_i cs hl
        split at h
        · rename_i ps hps
          split at h
          · rename_i hn
            cases h
            obtain ⟨hpl, hpg⟩ := rowPVs_get hps
            cases hv with
            | sb _ _ _ _ cs' k hl' hμ hn' hc' =>
              rw [hl] at hl'; cases hl'
              obtain ⟨b, vs, T, h1, h2, h3, h4, h5, h6⟩ := hp.obs _ _ hl
              rw [hμ] at h1
              have hkb : k = b := by injection h1 with h1; injection h1 with h1; injection h1
              subst hkb
              have hbl : blk (g.μ id) = some k := by rw [hμ]; rfl
              have hlt : k < w.heap.size := (hp.obs _ _ hl).blk_lt hbl |>.2
              have hcell : ∀ i v, vs[i]? = some v → w.cell? ⟨k, i, none⟩ = some v := fun i v hi => by
                unfold World.cell?; rw [h3]; simp [hi]
              have key : ∀ (i : Nat) (p : PV), ps[i]? = some p → ∃ v, vs[i]? = some v ∧ PR (Kend σ σ' g w) w p v := by
                intro i p hi
                obtain ⟨s, hs', hr'⟩ := hpg i p hi
                obtain ⟨v, hv1, hv2⟩ := h5 i s hs'
                exact ⟨v, hv1, rowPV_ok hp hr' hv2⟩
              have := PR.s (K := Kend σ σ' g w) (w := w) 1 (ps.map fun p => [p]) (some ⟨k, 0, none⟩) cap k 0 (fun i j => vs.getD (i + j) undef) (by simp; omega) hc' (by simp) (fun _ => rfl)
                (fun i el hi j hj => .inr ⟨id, _, hl, hno, hbl, hlt⟩) (fun i el hi j hj => by
                  rw [List.getElem?_map] at hi
                  cases hpi : ps[i]? with
                  | none => rw [hpi] at hi; cases hi
                  | some p =>
                    rw [hpi] at hi; cases hi
                    have hj0 : j = 0 := by simpa using hj
                    subst hj0
                    obtain ⟨v, hv1, hv2⟩ := key i p hpi
                    have e1 : vs.getD (i + 0) undef = v := by simp [hv1]
                    rw [e1]
                    simpa using hcell i v hv1) (fun i el hi j x hj => by
                  rw [List.getElem?_map] at hi
                  cases hpi : ps[i]? with
                  | none => rw [hpi] at hi; cases hi
                  | some p =>
                    rw [hpi] at hi; cases hi
                    cases j with
                    | succ j => simp at hj
                    | zero =>
                      cases hj
                      obtain ⟨v, hv1, hv2⟩ := key i _ hpi
                      have e1 : vs.getD (i + 0) undef = v := by simp [hv1]
                      rw [e1]; exact hv2)
              rw [List.length_map, ← hn] at this
              exact .d _ _ this
          · cases h
        · cases h
      · cases h
  | f fn a b =>
    simp only [keepSV] at h
    cases hc : (a.all (rs1 σ') && b.all (rs1 σ')) with
    | false => rw [hc] at h; cases h
    | true => rw [hc] at h; cases h; exact Kend_keep (rsSV_ok hs (s := .f fn a b) hc hv)
theorem keepL_get : ∀ {l t : List SV}, keepL σ σ' l = some t → t.length = l.length ∧ ∀ (i : Nat) (y : SV), t[i]? = some y → ∃ s, l[i]? = some s ∧ keepSV σ σ' s = some y
  | [], t, h => by cases h; exact ⟨rfl, fun i y hi => by simp at hi⟩
  | s :: r, t, h => by
    simp only [keepL] at h
    cases h1 : keepSV σ σ' s with
    | none => rw [h1] at h; cases h
    | some y =>
      cases h2 : keepL σ σ' r with
      | none => rw [h1, h2] at h; cases h
      | some l =>
        rw [h1, h2] at h; cases h
        obtain ⟨e, ih⟩ := keepL_get h2
        refine ⟨by simp [e], fun i z hi => ?_⟩
        cases i with
        | zero => cases hi; exact ⟨s, rfl, h1⟩
        | succ i => exact ih i z hi
theorem keepAVs_get : ∀ {l t : List AV}, keepAVs σ σ' l = some t → t.length = l.length ∧ ∀ (i : Nat) (y : AV), t[i]? = some y → ∃ s, l[i]? = some s ∧ keepAV1 σ σ' s = some y
  | [], t, h => by cases h; exact ⟨rfl, fun i y hi => by simp at hi⟩
  | s :: r, t, h => by
    simp only [keepAVs] at h
    cases h1 : keepAV1 σ σ' s with
    | none => rw [h1] at h; cases h
    | some y =>
      cases h2 : keepAVs σ σ' r with
      | none => rw [h1, h2] at h; cases h
      | some l =>
        rw [h1, h2] at h; cases h
        obtain ⟨e, ih⟩ := keepAVs_get h2
        refine ⟨by simp [e], fun i z hi => ?_⟩
        cases i with
        | zero => cases hi; exact ⟨s, rfl, h1⟩
        | succ i => exact ih i z hi
theorem keepAV1_ok (hp : Hp w0 K0 σ g w) (hs : Sup σ' σ) {x y : AV} (h : keepAV1 σ σ' x = some y) {v : Value} (hv : VR2 σ g w x v) : VR1 σ' ⟨Kend σ σ' g w, g.μ⟩ w y v ∧ flat1 y = true := by
  cases x with
  | x s =>
    simp only [keepAV1] at h
    cases h1 : keepSV σ σ' s with
    | none => rw [h1] at h; cases h
    | some t => rw [h1] at h; cases h; exact ⟨keepSV_ok hp hs h1 hv, rfl⟩
  | a cs =>
    simp only [keepAV1] at h
    cases h1 : keepL σ σ' cs with
    | none => rw [h1] at h; cases h
    | some l =>
      rw [h1] at h; cases h
      obtain ⟨vs, rfl, hsz, hr⟩ := hv
      obtain ⟨hl, hg⟩ := keepL_get h1
      refine ⟨⟨vs, rfl, by rw [hl, hsz], fun i s u hi hu => ?_⟩, rfl⟩
      obtain ⟨s', h1', h2'⟩ := hg i s hi
      exact keepSV_ok hp hs h2' (hr i s' u h1' hu)
  | t _ => cases h
  | g _ _ => cases h
theorem VR2_of_VR1 {x : AV} (h : flat1 x = true) {v : Value} (hv : VR1 σ g w x v) : VR2 σ g w x v := by
  cases x with
  | x _ => exact hv
  | a _ => exact hv
  | t _ => cases h
  | g _ _ => cases h
theorem outKeep_ok {tt : TT} (htt : tt.ok P) (hr : Rel Γ fr σ g a w) (hs : Sup σ' σ) {fn : Func} {res : List ResultVar} (hres : fn.results = res.toArray) {r : AV} (h : outKeep tt res fr σ σ' = some r) :
    ∃ v, (results fn a.tmps).run P w = .ok v w ∧ VR2 σ' ⟨Kend σ σ' g w, g.μ⟩ w r v := by
  unfold outKeep at h
  cases hx : resAVs tt σ fr res with
  | none => rw [hx] at h; cases h
  | some xs =>
    rw [hx] at h
    obtain ⟨us, hus, hl, hrs⟩ := resAVs_ok htt hr hx
    have hm : (res.toArray.mapM (m := Sem) (resOne a.tmps)).run P w = .ok us.toArray w := by
      rw [Array.mapM_eq_mapM_toList, Sem.run_map, hus]; rfl
    have hrun : (results fn a.tmps).run P w = .ok (if h : us.toArray.size = 1 then us.toArray[0] else .tuple us.toArray) w := by
      rw [results_eq, hres, Sem.run_bind, hm]; rfl
    refine ⟨_, hrun, ?_⟩
    have many : ¬ us.toArray.size = 1 → (match keepAVs σ σ' xs with | some l => some (AV.t l) | none => none) = some r → VR2 σ' ⟨Kend σ σ' g w, g.μ⟩ w r (.tuple us.toArray) := by
      intro _ h
      cases hk : keepAVs σ σ' xs with
      | none => rw [hk] at h; cases h
      | some l =>
        rw [hk] at h; cases h
        obtain ⟨hll, hg⟩ := keepAVs_get hk
        refine ⟨_, rfl, by simp; omega, fun i z q hi hq => ?_⟩
        obtain ⟨s, h1, h2⟩ := hg i z hi
        exact (keepAV1_ok hr.hp hs h2 (hrs i s q h1 (by simpa using hq))).1
    match xs, us, hl, hrs, h, many with
    | [], [], _, _, h, many => rw [dif_neg (by simp)]; exact many (by simp) h
    | [x], [u], _, hrs, h, _ =>
      have := keepAV1_ok hr.hp hs h (hrs 0 _ u rfl rfl)
      exact VR2_of_VR1 this.2 this.1
    | x :: y :: xs, u :: v :: us, _, _, h, many =>
      have hne : ¬ (u :: v :: us).toArray.size = 1 := by simp
      rw [dif_neg hne]; exact many hne h
theorem ACall_of_AWD {tt : TT} (htt : tt.ok P) {f : FuncId} {fn : Func} {c : Code} {args : List AV} {σ : Sg} {R : AV → Sg → Prop} {res : List ResultVar} (hf : P.funcs[f]? = some fn) (hb : fn.body = some c)
    (hname : (fn.name == "runtime.NumGoroutine") = false) (hres : fn.results = res.toArray) {nt : Nat} (hnt : fn.ntmps = nt) (hle : args.length ≤ nt)
    (h : ∀ w0 K0 B, AW P ⟨w0, K0, nt, B, σ.map (·.1), none, [], []⟩ c (PostD tt res (σ.map (·.1)) R) (entry 0 args) σ) : ACall P f args σ R := by
  refine ⟨⟨fn, hf, by rw [hb]; rfl, hname⟩, fun w0 K0 g w vs hL hp hs hv => ?_⟩
  refine calls_of_wp hf hb ((wpIn_wide (n := 0)).1 ?_)
  have hrel : Rel ⟨w0, K0, nt, SR σ g w, σ.map (·.1), none, [], []⟩ (entry 0 args) σ g ⟨vs ++ Array.replicate (fn.ntmps - vs.size) undef, []⟩ w := by
    refine ⟨hp, fun t x ht => ?_, by simp; omega, DRb.empty, fun s v hb => ⟨hb, SR.inI hb⟩⟩
    obtain ⟨_, hx⟩ := lk_entry args 0 t x ht
    rw [Nat.sub_zero] at hx
    have hlt : t < args.length := (List.getElem?_eq_some_iff.1 hx).1
    refine ⟨by show t < nt; omega, ?_⟩
    have hvt : vs[t]? = some (vs[t]'(by omega)) := Array.getElem?_eq_getElem (by omega)
    have e : (vs ++ Array.replicate (fn.ntmps - vs.size) undef).getD t undef = vs[t]'(by omega) := by
      rw [Array.getD_eq_getD_getElem?, Array.getElem?_append_left (by omega), hvt]; rfl
    show VR _ _ _ _ ((vs ++ Array.replicate (fn.ntmps - vs.size) undef).getD t undef)
    rw [e]
    exact VR_of_VR2 (hv t x _ hx hvt)
  refine wpIn_mono ((h w0 K0 _).use hL hrel) ?_
  intro e a' w' ⟨fr, τ, g', hr, hq⟩
  have fin : (∃ r σ', SubS τ σ' ∧ (rsSg σ' σ' && idsIn (σ.map (·.1)) σ') = true ∧ outKeep tt res fr τ σ' = some r ∧ R r σ') →
      a'.defers = [] ∧ ∃ v, (results fn a'.tmps).run P w' = .ok v w' ∧ ∃ v_1 g'' σ'' r, Ending.returned v = .returned v_1 ∧ Did w0 K0 σ g w σ'' g'' w' ∧ VR2 σ'' g'' w' r v_1 ∧ R r σ'' := by
    rintro ⟨r, σ', hsub, hc, ho, hR⟩
    simp only [Bool.and_eq_true] at hc
    have hsup := SubS_ok hsub
    obtain ⟨v, hrun, hvr⟩ := outKeep_ok htt hr hsup hres ho
    exact ⟨hr.defers.nil, v, hrun, v, _, σ', r, rfl, ⟨hr.hp.atEnd hsup hc.1, fun s u hs => Kend_keep (inI_weaken hsup hc.2 (hr.base s u hs).1 (hr.base s u hs).2)⟩, hvr, hR⟩
  cases e with
  | normal => exact fin hq
  | ret => exact fin hq
  | _ => exact hq.elim
end
end Go.QL
namespace Go.QL
open Go Go.RowKit
def bindP : List Tmp → List AV → Fr → Fr
  | t :: r, x :: s, fr => (t, x) :: bindP r s fr
  | _, _, fr => fr
def PostY (id : Nat) (ids : List Nat) (params : Array Tmp) (assign body : Code) (nt : Nat) (fr0 : Fr) (dfr : Nat) (R : AV → Sg → Prop) : Exit → Fr → Sg → Prop
  | .normal, _, σ => ∃ σ' pend, SubS σ σ' ∧ (rsSg σ' σ' && idsIn ids σ') = true ∧ lk id σ' = some (.x (.loop .busy pend params assign body nt fr0 dfr)) ∧ R (bv true) (setOb id (.x (.loop .ready none params assign body nt fr0 dfr)) σ')
  | .ret, _, σ => ∃ σ' pend, SubS σ σ' ∧ (rsSg σ' σ' && idsIn ids σ') = true ∧ lk id σ' = some (.x (.loop .busy pend params assign body nt fr0 dfr)) ∧ R (bv false) (setOb id (.x (.loop .done (some .ret) params assign body nt fr0 dfr)) σ')
  | .exit e, _, σ => ∃ σ' pend, SubS σ σ' ∧ (rsSg σ' σ' && idsIn ids σ') = true ∧ lk id σ' = some (.x (.loop .busy pend params assign body nt fr0 dfr)) ∧ R (bv false) (setOb id (.x (.loop .done (some (.exit e)) params assign body nt fr0 dfr)) σ')
  | _, _, _ => False
section
variable {P : Program} {Γ : Cx} {w0 : World} {K0 : Bs} {fr : Fr} {σ σ' : Sg} {g : Gh} {a : Act} {w : World} {Q : Exit → Fr → Sg → Prop}
theorem Hp.setLoop (hp : Hp w0 K0 σ g w) {id : Nat} {st st' : LoopState} {pend pend' : Option Code} {params : Array Tmp} {assign body : Code} {nt : Nat} {fr0 : Fr} {dfr : Nat}
    (hl : lk id σ = some (.x (.loop st pend params assign body nt fr0 dfr))) :
    ∃ (l : Nat) (r : Loop), g.μ id = .pointer (some ⟨l, 0, none⟩) ∧ w.heap[l]? = some (.loop r) ∧ r.state = st ∧ r.pending = pend ∧
      Did w0 K0 σ g w (setOb id (.x (.loop st' pend' params assign body nt fr0 dfr)) σ) ⟨g.K, upd g.μ id (.pointer (some ⟨l, 0, none⟩))⟩ (w.putObj l (.loop { r with state := st', pending := pend' })) := by
  obtain ⟨l, h1, h2, h3, _⟩ := hp.obs id _ hl
  obtain ⟨f, tmps, d, k1, k2, k3, k4⟩ := h3
  refine ⟨l, _, h1, k1, rfl, rfl, ?_⟩
  exact hp.setX (o' := .loop st' pend' params assign body nt fr0 dfr) hl rfl h1 (.loop { state := st', pending := pend', fn := f, tmps := tmps, params := params, assign := assign, body := body, defers := d })
    (fun σ'' g'' w'' hk hw => ⟨f, tmps, d, hw, k2, fun t v ht => ⟨(k3 t v ht).1, (k3 t v ht).2.keep hk⟩, hk _ _ k4⟩)
theorem foldl_set_size : ∀ (l : List (Tmp × Value)) (tmps : Array Value), (l.foldl (fun tmps (x : Tmp × Value) => tmps.setIfInBounds x.1 x.2) tmps).size = tmps.size
  | [], _ => rfl
  | (t, v) :: r, tmps => by rw [List.foldl_cons, foldl_set_size r]; simp
theorem foldl_set_get : ∀ (l : List (Tmp × Value)) (tmps : Array Value) (t : Nat), (∀ p ∈ l, p.1 ≠ t) → (l.foldl (fun tmps (x : Tmp × Value) => tmps.setIfInBounds x.1 x.2) tmps).getD t undef = tmps.getD t undef
  | [], _, _, _ => rfl
  | (s, v) :: r, tmps, t, h => by
    rw [List.foldl_cons, foldl_set_get r _ t (fun p hp => h p (List.mem_cons_of_mem _ hp))]
    have := h (s, v) (by simp)
    simp only [Array.getD_eq_getD_getElem?]
    rw [Array.getElem?_setIfInBounds_ne this]
theorem bindP_get : ∀ (ps : List Tmp) (xs : List AV) (vs : List Value) (tmps : Array Value), ps.Nodup → ps.length = xs.length → vs.length = xs.length → (∀ t ∈ ps, t < tmps.size) →
    ∀ (t : Nat) (x : AV), lk t (bindP ps xs fr) = some x →
      (∃ (i : Nat) (v : Value), xs[i]? = some x ∧ vs[i]? = some v ∧ t < tmps.size ∧ ((ps.zip vs).foldl (fun tmps (x : Tmp × Value) => tmps.setIfInBounds x.1 x.2) tmps).getD t undef = v) ∨
      (lk t fr = some x ∧ ((ps.zip vs).foldl (fun tmps (x : Tmp × Value) => tmps.setIfInBounds x.1 x.2) tmps).getD t undef = tmps.getD t undef)
  | [], xs, vs, tmps, _, h1, h2, _, t, x, h => .inr ⟨h, by simp⟩
  | p :: ps, [], vs, tmps, _, h1, _, _, t, x, h => by cases h1
  | p :: ps, y :: xs, [], tmps, _, _, h2, _, t, x, h => by cases h2
  | p :: ps, y :: xs, v :: vs, tmps, hnd, h1, h2, hlt, t, x, h => by
    rw [List.nodup_cons] at hnd
    unfold bindP at h
    rw [lk_cons] at h
    rw [List.zip_cons_cons, List.foldl_cons]
    by_cases e : p = t
    · subst e
      rw [if_pos rfl] at h; cases h
      refine .inl ⟨0, v, rfl, rfl, hlt p (by simp), ?_⟩
      rw [foldl_set_get _ _ p (fun q hq => by
        rintro rfl
        have := List.of_mem_zip (a := q.1) (b := q.2) hq
        exact hnd.1 this.1)]
      have := hlt p (by simp)
      simp [this]
    · rw [if_neg e] at h
      have ih := bindP_get ps xs vs (tmps.setIfInBounds p v) hnd.2 (by simpa using h1) (by simpa using h2) (fun t ht => by simp; exact hlt t (by simp [ht])) t x h
      rcases ih with ⟨i, u, a1, a2, a3, a4⟩ | ⟨a1, a2⟩
      · exact .inl ⟨i + 1, u, a1, a2, by simpa using a3, a4⟩
      · refine .inr ⟨a1, ?_⟩
        rw [a2]
        simp only [Array.getD_eq_getD_getElem?]
        rw [Array.getElem?_setIfInBounds_ne e]
theorem YC_of_AW {id : Nat} {args : List AV} {R : AV → Sg → Prop} {pend : Option Code} {params : Array Tmp} {assign body : Code} {nt : Nat} {fr0 : Fr} {dfr : Nat}
    (hl : lk id σ = some (.x (.loop .ready pend params assign body nt fr0 dfr))) (hps : params.toList.length = args.length) (hnd : params.toList.Nodup) (hpn : params.toList.all (fun t => Nat.blt t nt) = true)
    (h : ∀ w0 K0 B l, AW P ⟨w0, K0, nt, B, σ.map (·.1), some l, [], []⟩ assign (Exit.thn (fun fr2 σ2 => ∃ pend2, lk id σ2 = some (.x (.loop .ready pend2 params assign body nt fr0 dfr)) ∧
        AW P ⟨w0, K0, nt, B, σ.map (·.1), some l, [], []⟩ body (PostY id (σ.map (·.1)) params assign body nt fr0 dfr R) fr2 (setOb id (.x (.loop .busy pend2 params assign body nt fr0 dfr)) σ2)) (fun _ _ _ => False))
      (bindP params.toList args fr0) σ) : YC P id args σ R := by
  intro w0 K0 g w vs hL hp hs hv
  obtain ⟨l, h1, h2, h3, _⟩ := hp.obs id _ hl
  obtain ⟨f, tmps, d, k1, k2, k3, k4⟩ := h3
  have hsz : vs.size = params.size := by rw [hs, ← hps]; simp
  refine ⟨l, f, _, assign, body, _, hl, rfl, h1, run_yield k1 hsz, ?_⟩
  rw [List.all_eq_true] at hpn
  have hfold : (params.zip vs).foldl (fun tmps (x : Tmp × Value) => tmps.setIfInBounds x.1 x.2) tmps = (params.toList.zip vs.toList).foldl (fun tmps (x : Tmp × Value) => tmps.setIfInBounds x.1 x.2) tmps := by
    rw [← Array.foldl_toList, Array.toList_zip]
  have hrel : Rel ⟨w0, K0, nt, SR σ g w, σ.map (·.1), some l, [], []⟩ (bindP params.toList args fr0) σ g ⟨(params.zip vs).foldl (fun tmps (x : Tmp × Value) => tmps.setIfInBounds x.1 x.2) tmps, []⟩ w := by
    refine ⟨hp, fun t x ht => ?_, ?_, DRb.empty, fun s v hb => ⟨hb, SR.inI hb⟩⟩
    · dsimp only
      rw [hfold]
      rcases bindP_get params.toList args vs.toList tmps hnd hps (by simpa using hs) (fun t ht => by rw [k2]; exact Nat.le_of_ble_eq_true (hpn t ht)) t x ht with ⟨i, v, a1, a2, a3, a4⟩ | ⟨a1, a2⟩
      · refine ⟨by omega, ?_⟩
        rw [a4]
        exact VR_of_VR2 (hv i x v a1 (by simpa using a2))
      · have := k3 t x a1
        refine ⟨this.1, ?_⟩
        rw [a2]; exact this.2
    · dsimp only; rw [hfold, foldl_set_size, k2]
  refine roundIn_of_wpIn (F := Fence.wide) trivial ?_
  refine wpIn_mono (show assign.wpIn (FX (some l)) 0 P _ _ w from (h w0 K0 (SR σ g w) l).use hL hrel) ?_
  rintro e a1 w1 ⟨fr2, σ2, g2, hr2, hq⟩
  cases e with
  | normal =>
    obtain ⟨pend2, hl2, hbody⟩ := hq
    obtain ⟨l2, r2, hμ2, hheap2, hst2, hpe2, hd2⟩ := hr2.hp.setLoop (st' := .busy) (pend' := pend2) hl2
    have hll : l2 = l := by
      have hb := (hr2.base _ _ (SR.h id _ l hl h1)).1
      generalize hvv : Kd.val l (Ob2.kd (.loop .ready pend params assign body nt fr0 dfr)) = vv at hb
      cases hb with
      | h _ o k hl' hμ' =>
        rw [hl2] at hl'; cases hl'
        rw [hμ2] at hμ'; cases hμ'
        simp [Kd.val, Ob2.kd] at hvv; exact hvv.symm
    subst hll
    refine ⟨_, run_beginRound hheap2 hst2, ?_⟩
    have hrec : ({ r2 with state := .busy, pending := pend2 } : Loop) = { r2 with state := .busy } := by rw [← hpe2]
    rw [hrec] at hd2
    have hr3 := hr2.did hd2
    refine wpIn_mono (show body.wpIn (FX (some l2)) 0 P _ a1 _ from hbody.use hL hr3) ?_
    rintro e a3 w3 ⟨fr3, σ3, g3, hr4, hq3⟩
    have fin : ∀ (jump : Option Code) (b : Bool), jump.isNone = b → (∃ σ' pend, SubS σ3 σ' ∧ (rsSg σ' σ' && idsIn (σ.map (·.1)) σ') = true ∧ lk id σ' = some (.x (.loop .busy pend params assign body nt fr0 dfr)) ∧ R (bv b) (setOb id (.x (.loop (if jump.isNone then .ready else .done) jump params assign body nt fr0 dfr)) σ')) →
        ∃ v w', (Instr.endRound l2 jump).run P w3 = .ok v w' ∧ ∃ v1 g' σ' r, Ending.returned v = .returned v1 ∧ Did w0 K0 σ g w σ' g' w' ∧ VR2 σ' g' w' r v1 ∧ R r σ' := by
      rintro jump b hjb ⟨σ', pend', hsub, hc, hl', hR⟩
      simp only [Bool.and_eq_true] at hc
      have hsup := SubS_ok hsub
      have hw := hr4.hp.weaken hsup hc.1
      obtain ⟨l3, r3, hμ3, hheap3, hst3, hpe3, hd3⟩ := hw.setLoop (st' := if jump.isNone then .ready else .done) (pend' := jump) hl'
      have hll3 : l3 = l2 := by
        have hb := (hr4.base _ _ (SR.h id _ l2 hl h1)).1
        generalize hvv : Kd.val l2 (Ob2.kd (.loop .ready pend params assign body nt fr0 dfr)) = vv at hb
        cases hb with
        | h _ o k hl4 hμ' =>
          rw [hsup _ _ hl'] at hl4; cases hl4
          rw [hμ3] at hμ'; cases hμ'
          simp [Kd.val, Ob2.kd] at hvv; exact hvv.symm
      subst hll3
      refine ⟨.bool jump.isNone, _, run_endRound jump hheap3, _, _, _, bv b, rfl, ⟨hd3.hp, fun s v hs => hd3.keep _ _ (inI_weaken hsup hc.2 (hr4.base s v hs).1 (hr4.base s v hs).2)⟩, ?_, hR⟩
      rw [hjb]; exact vr_plain _ rfl
    cases e with
    | normal => exact fin none true rfl hq3
    | ret => exact fin (some .ret) false rfl hq3
    | exit e => exact fin (some (.exit e)) false rfl hq3
    | goto t => exact hq3.elim
    | panic ch => exact hq3.elim
    | outgrown => exact hq3.elim
  | _ => exact hq.elim
theorem nodup_dfs {dfs : List Nat} {ds : List Deferred} {i : Nat} (h : DR dfs σ g ds) (hi : lk i σ = none) : ∀ is : List Nat, is.length = ds.length → (∀ (k j : Nat) (x : Deferred), is[k]? = some j → ds[k]? = some x → j ∈ dfs ∧ lk j σ = some (.x .dfr) ∧ ∃ d, g.μ j = .pointer (some ⟨d, 0, none⟩) ∧ x = ⟨.collected d, #[]⟩) → i ∉ is := by
  intro is hl h3 hm
  obtain ⟨k, hk, he⟩ := List.getElem_of_mem hm
  have := h3 k i (ds[k]'(by omega)) (by rw [List.getElem?_eq_getElem hk, he]) (List.getElem?_eq_getElem (by omega))
  rw [hi] at this; cases this.2.1
theorem AW_rangeFunc {gop : Operand} {ps : Array Tmp} {assign body : Code} {fid : FuncId} {first captured : List SV} (idL idD : Nat) (hev : ev fr gop = some (none, .x (.f (.func fid) first captured)))
    (hL : lk idL σ = none) (hD : lk idD σ = none) (hne : idL ≠ idD) (hdfs : idD ∈ Γ.dfs) (hro : Γ.ro = none) (R : AV → Sg → Prop)
    (hcall : ACall P fid (first.map .x ++ [.x (.h idL)] ++ captured.map .x) ((idL, .x (.loop .ready none ps assign body Γ.nt fr idD)) :: (idD, .x .dfr) :: σ) R)
    (hk : ∀ rv σ', R rv σ' → lk idD σ' = some (.x .dfr) ∧ ∃ st pend, lk idL σ' = some (.x (.loop st pend ps assign body Γ.nt fr idD)) ∧ st ≠ .busy ∧
      (match pend with
       | none => Q .normal fr (setOb idL (.x (.loop .exhausted none ps assign body Γ.nt fr idD)) σ')
       | some c => AW P Γ c Q fr (setOb idL (.x (.loop .exhausted (some c) ps assign body Γ.nt fr idD)) σ'))) : AW P Γ (.rangeFunc gop ps assign body) Q fr σ := by
  refine AW.mk fun hLd g a w hr => ?_
  rw [hro]
  refine wpIn_rangeFunc (F := FX none) (n := 0) fun fn _ => ?_
  have hval : SR σ g w (.f (.func fid) first captured) (a.eval gop) := by
    have h' : ev1 fr none gop (fun v => v = .x (.f (.func fid) first captured)) := by unfold ev1; rw [hev]
    obtain ⟨v, hv, hvr⟩ := ev1_on h'
    subst hv
    exact hvr (.inl rfl) Γ σ g a w hr
  generalize hae : a.eval gop = fval at hval
  cases hval with
  | f _ _ _ v1 v2 s1 s2 r1 r2 =>
    let W1 := w.alloc (.deferred (some []))
    let W2 := W1.alloc (.loop { state := .ready, pending := none, fn := fn, tmps := a.tmps, params := ps, assign := assign, body := body, defers := w.heap.size })
    have d1 := hr.hp.addX idD hD .dfr (.deferred (some [])) (fun σ' g' w' _ hw => hw)
    let g1 : Gh := ⟨g.K, upd g.μ idD (.pointer (some ⟨w.heap.size, 0, none⟩))⟩
    have hL1 : lk idL ((idD, Ob.x .dfr) :: σ) = none := by rw [lk_cons, if_neg (fun e => hne e.symm)]; exact hL
    have d2 := d1.hp.addX idL hL1 (.loop .ready none ps assign body Γ.nt fr idD) (.loop { state := .ready, pending := none, fn := fn, tmps := a.tmps, params := ps, assign := assign, body := body, defers := w.heap.size })
      (fun σ' g' w' hk' hw => ⟨fn, a.tmps, w.heap.size, hw, hr.size, fun t v ht => ⟨(hr.fr t v ht).1, ((hr.fr t v ht).2.keep d1.keep).keep hk'⟩,
        hk' _ _ (SR.h (σ := (idD, Ob.x .dfr) :: σ) (g := g1) (w := W1) idD .dfr w.heap.size (by rw [lk_cons, if_pos rfl]) (upd_same _ _ _))⟩)
    have d12 := d1.trans d2
    have hgood := hcall.1
    obtain ⟨fnr, hf1, hf2, hf3⟩ := hgood
    refine ⟨w.heap.size + 1, [{ target := .collected w.heap.size, args := #[] }], W2, ⟨.fn (.func fid) v2, v1 ++ #[.func (.yield (w.heap.size + 1)) #[] #[]]⟩, W2, fid, v1 ++ #[.func (.yield (w.heap.size + 1)) #[] #[]] ++ v2, W2, run_enterLoop_outer fn a.tmps ps assign body, ?_, fun _ _ => trivial, ?_, depthX, ?_⟩
    · have hres : resolve a.eval (rangeCall gop (w.heap.size + 1)) 0 = Deferred.ofValue (a.eval gop) #[.func (.yield (w.heap.size + 1)) #[] #[]] := by
        unfold resolve rangeCall
        simp
        rfl
      rw [hres, hae]; rfl
    · have hb : ¬ fnr.body = none := fun e => by rw [e] at hf2; cases hf2
      have h3' : ¬ fnr.name = "runtime.NumGoroutine" := by simpa using hf3
      simp [invoke, callFunc, hf1, h3', hb]
    · refine callsIn_FX.2 ((hcall.2 Γ.w0 Γ.K0 _ W2 _ hLd d12.hp (by simp [s1, s2]; omega) ?_).mono ?_)
      · refine call_args (us := #[.func (.yield (w.heap.size + 1)) #[] #[]]) s1 s2 (fun i s v hi hv => d12.keep _ _ (r1 i s v hi hv)) (fun i s v hi hv => d12.keep _ _ (r2 i s v hi hv)) rfl (fun i x v hx hv => ?_)
        match i with
        | 0 =>
          cases hx; cases hv
          have hh : SR ((idL, Ob.x (.loop .ready none ps assign body Γ.nt fr idD)) :: (idD, Ob.x .dfr) :: σ) ⟨g1.K, upd g1.μ idL (.pointer (some ⟨W1.heap.size, 0, none⟩))⟩ W2 (.h idL) (.func (.yield W1.heap.size) #[] #[]) :=
            SR.h idL (.loop .ready none ps assign body Γ.nt fr idD) W1.heap.size (by rw [lk_cons, if_pos rfl]) (upd_same _ _ _)
          have hsz : W1.heap.size = w.heap.size + 1 := by simp [W1]
          have hvv : (Value.func (.yield W1.heap.size) #[] #[]) = .func (.yield (w.heap.size + 1)) #[] #[] := by rw [hsz]
          rw [hvv] at hh
          exact hh
        | i + 1 => simp at hx
      · rintro e w' ⟨v, g', σ', r, he, hd, hvr, hR⟩
        subst he
        have hdall := d12.trans hd
        obtain ⟨hlD, st, pend, hlL, hst, hq⟩ := hk r σ' hR
        obtain ⟨l3, r3, hμ3, hheap3, hst3, hpe3, hd3⟩ := hd.hp.setLoop (st' := .exhausted) (pend' := pend) hlL
        have hll : l3 = w.heap.size + 1 := by
          have hh : SR ((idL, Ob.x (.loop .ready none ps assign body Γ.nt fr idD)) :: (idD, Ob.x .dfr) :: σ) ⟨g1.K, upd g1.μ idL (.pointer (some ⟨W1.heap.size, 0, none⟩))⟩ W2 (.h idL) (.func (.yield W1.heap.size) #[] #[]) :=
            SR.h idL (.loop .ready none ps assign body Γ.nt fr idD) W1.heap.size (by rw [lk_cons, if_pos rfl]) (upd_same _ _ _)
          have hb := hd.keep _ _ hh
          generalize hvv : Value.func (.yield W1.heap.size) #[] #[] = vv at hb
          cases hb with
          | h _ o k hl4 hμ' =>
            rw [hlL] at hl4; cases hl4
            rw [hμ3] at hμ'; cases hμ'
            simp [Kd.val, Ob2.kd] at hvv
            rw [← hvv]; simp [W1]
        subst hll
        have hrec : ({ r3 with state := .exhausted, pending := pend } : Loop) = { r3 with state := .exhausted } := by rw [← hpe3]
        rw [hrec] at hd3
        have hdfin := hdall.trans hd3
        have hend := run_endLoop (P := P) hheap3 (by rw [hst3]; exact hst)
        have hmark : lk idD (setOb idL (.x (.loop .exhausted pend ps assign body Γ.nt fr idD)) σ') = some (.x .dfr) := by rw [lk_setOb_other _ _ _ _ (fun e => hne e.symm)]; exact hlD
        have hr' : Rel Γ fr (setOb idL (.x (.loop .exhausted pend ps assign body Γ.nt fr idD)) σ') ⟨g'.K, upd g'.μ idL (.pointer (some ⟨w.heap.size + 1, 0, none⟩))⟩ { a with defers := [{ target := .collected w.heap.size, args := #[] }] ++ a.defers } (w'.putObj (w.heap.size + 1) (.loop { r3 with state := .exhausted })) := by
          have hbase := hr.did hdfin
          refine ⟨hbase.hp, hbase.fr, hbase.size, ?_, hbase.base⟩
          obtain ⟨ms, hms, is, q1, q2, q3⟩ := hr.defers
          have hni := nodup_dfs (ds := ms) ⟨is, q1, q2, q3⟩ hD is q2 q3
          refine ⟨[_] ++ ms, by rw [hms, List.append_assoc], idD :: is, by rw [List.nodup_cons]; exact ⟨hni, q1⟩, by simp [q2], fun k i x hi hx => ?_⟩
          cases k with
          | zero =>
            cases hi; cases hx
            refine ⟨hdfs, hmark, w.heap.size, ?_, rfl⟩
            have hh : SR ((idD, Ob.x .dfr) :: σ) g1 W1 (.h idD) (.chan (some w.heap.size)) := SR.h idD .dfr w.heap.size (by rw [lk_cons, if_pos rfl]) (upd_same _ _ _)
            have hb := (d2.trans (hd.trans hd3)).keep _ _ hh
            generalize hvv : Value.chan (some w.heap.size) = vv at hb
            cases hb with
            | h _ o k hl4 hμ' =>
              rw [hmark] at hl4; cases hl4
              simp [Kd.val, Ob2.kd] at hvv
              exact hμ'.trans (by rw [hvv])
          | succ k =>
            obtain ⟨b1, b2, dd, b3, b4⟩ := q3 k i x hi hx
            have hb := hdfin.keep _ _ (SR.h (w := w) i .dfr dd b2 b3)
            generalize hvv : Kd.val dd (Ob2.kd .dfr) = vv at hb
            cases hb with
            | h _ o k hl4 hμ' =>
              cases o <;> simp [Kd.val, Ob2.kd] at hvv
              subst hvv
              exact ⟨b1, hl4, dd, hμ', b4⟩
        refine ⟨pend, _, by rw [← hpe3]; exact hend, ?_⟩
        cases pend with
        | none => exact ⟨fr, _, _, hr', hq⟩
        | some c =>
          have := hq.use hLd hr'
          rw [hro] at this
          exact this
end
end Go.QL
namespace Go.QL
open Go Go.RowKit
section
variable {P : Program} {Γ : Cx} {w0 : World} {K0 : Bs} {fr : Fr} {σ σ' : Sg} {g : Gh} {a : Act} {w : World}
theorem shutAll (hs : Sup σ' σ) (hr : rsSg σ' σ' = true) : ∀ (is : List Nat) (ds : List Deferred) (w : World), is.Nodup → is.length = ds.length → Hp w0 K0 σ' g w →
    (∀ i ∈ is, lk i σ' = none) →
    (∀ (k i : Nat) (x : Deferred), is[k]? = some i → ds[k]? = some x → ∃ d, g.μ i = .pointer (some ⟨d, 0, none⟩) ∧ x = ⟨.collected d, #[]⟩ ∧ w.heap[d]? = some (.deferred (some [])) ∧ (∀ o, ¬ g.K d o) ∧ ¬ K0.F d ∧ (∀ id, (lk id σ').isSome → blk (g.μ id) ≠ some d)) →
    (∀ (i j : Nat), i ∈ is → j ∈ is → ∀ b, blk (g.μ i) = some b → blk (g.μ j) = some b → i = j) →
    ∃ w1, Hp w0 K0 σ' g w1 ∧ (∀ s v, SR σ' g w s v → SR σ' g w1 s v) ∧ w1.heap.size = w.heap.size ∧
      ∀ (F : Fence) (n : Nat) (fn : Func) (tmps : Array Value) (R : Ending → World → Prop), LeavesInM F n P fn tmps R [] .returning w1 → LeavesInM F n P fn tmps R ds .returning w
  | [], ds, w, _, hl, hp, _, _, _ => by
    cases ds with
    | nil => exact ⟨w, hp, fun _ _ h => h, rfl, fun _ _ _ _ _ h => h⟩
    | cons _ _ => cases hl
  | i :: is, ds, w, hnd, hl, hp, hno, hx, hinj => by
    cases ds with
    | nil => cases hl
    | cons x ds =>
      rw [List.nodup_cons] at hnd
      obtain ⟨d, hμ, rfl, hheap, hK, hF, hother⟩ := hx 0 i x rfl rfl
      have hbi : blk (g.μ i) = some d := by rw [hμ]; rfl
      let w1 := putO w d (.deferred none)
      have hext : Ext g.K w g.K w1 := ⟨fun _ _ h => h, fun b o hk => World.cell?_of_block (w := w) (a := ⟨b, o, none⟩) (putO_other (fun e => hK o (e ▸ hk)))⟩
      have hkeep : ∀ s v, SR σ' g w s v → SR σ' g w1 s v := fun s v h =>
        SR.keep (σ := σ') (σ' := σ') (g := g) (g' := g) (w := w) (w' := w1) (Compat.refl σ' g) hext h
      have hp1 : Hp w0 K0 σ' g w1 := by
        refine ⟨?_, hp.flt, hp.ext.trans hext, hp.old, fun b o hk => by have := hp.val b o hk; simpa [w1] using this, fun id obj hid => ?_, hp.own, hp.inj⟩
        · exact hp.kept.trans ⟨rfl, rfl, rfl, by simp [w1], fun k hk => putO_other (fun e => hF (e ▸ hk))⟩
        · exact (hp.obs id obj hid).keep hkeep hext rfl (fun b hb => putO_other (fun e => hother id (by rw [hid]; rfl) (e ▸ hb))) (fun b hb o => hp.notK hid hb o)
      have ih := shutAll hs hr is ds w1 hnd.2 (by simpa using hl) hp1 (fun j hj => hno j (List.mem_cons_of_mem _ hj)) (fun k j y hj hy => ?_) (fun j k hj hk => hinj j k (List.mem_cons_of_mem _ hj) (List.mem_cons_of_mem _ hk))
      · obtain ⟨w2, q1, q2, q3, q4⟩ := ih
        refine ⟨w2, q1, fun s v h => q2 s v (hkeep s v h), by rw [q3]; simp [w1], fun F n fn tmps R h => ?_⟩
        refine ⟨by simp, .inl ⟨d, w1, rfl, run_takeDeferred hheap, q4 F n fn tmps R h⟩⟩
      · obtain ⟨d', p1, p2, p3, p4, p5, p6⟩ := hx (k + 1) j y hj hy
        refine ⟨d', p1, p2, ?_, p4, p5, p6⟩
        have hjm : j ∈ is := List.mem_of_getElem? hj
        have hne : d' ≠ d := fun e => by
          have := hinj j i (List.mem_cons_of_mem _ hjm) (by simp) d (by rw [p1, e]; rfl) hbi
          subst this; exact hnd.1 hjm
        show (putO w d (.deferred none)).heap[d']? = _
        rw [putO_other hne]; exact p3
def PostM (tt : TT) (res : List ResultVar) (ids dfs : List Nat) (R : AV → Sg → Prop) : Exit → Fr → Sg → Prop
  | .normal, fr, σ | .ret, fr, σ => ∃ fr1 σ1, SubF fr fr1 ∧ SubS σ σ1 ∧ (rsFr σ1 fr1 && rsSg σ1 σ1 && dfs.all (fun i => !(lk i σ1).isSome)) = true ∧
      ∃ r σ', SubS σ1 σ' ∧ (rsSg σ' σ' && idsIn ids σ' && idsIn ids σ1) = true ∧ outKeep tt res fr1 σ1 σ' = some r ∧ R r σ'
  | _, _, _ => False
theorem leaves_results {fn : Func} {tmps : Array Value} {R : Ending → World → Prop} {v : Value} (hr : (results fn tmps).run P w = .ok v w) (hR : R (.returned v) w) : LeavesInM (FX none) 0 P fn tmps R [] .returning w :=
  ⟨v, hr, hR⟩
theorem ACall_of_AWM {tt : TT} (htt : tt.ok P) {f : FuncId} {fn : Func} {c : Code} {args : List AV} {σ : Sg} {R : AV → Sg → Prop} {res : List ResultVar} (dfs : List Nat) (hf : P.funcs[f]? = some fn) (hb : fn.body = some c)
    (hname : (fn.name == "runtime.NumGoroutine") = false) (hres : fn.results = res.toArray) {nt : Nat} (hnt : fn.ntmps = nt) (hle : args.length ≤ nt)
    (h : ∀ w0 K0 B, AW P ⟨w0, K0, nt, B, σ.map (·.1), none, dfs, []⟩ c (PostM tt res (σ.map (·.1)) dfs R) (entry 0 args) σ) : ACall P f args σ R := by
  refine ⟨⟨fn, hf, by rw [hb]; rfl, hname⟩, fun w0 K0 g w vs hL hp hs hv => ?_⟩
  refine callsIn_wide.1 (callsIn_of_wp_marks (F := Fence.wide) (n := 0) hf hb trivial ?_)
  have hrel : Rel ⟨w0, K0, nt, SR σ g w, σ.map (·.1), none, dfs, []⟩ (entry 0 args) σ g ⟨vs ++ Array.replicate (fn.ntmps - vs.size) undef, []⟩ w := by
    refine ⟨hp, fun t x ht => ?_, by simp; omega, DRb.empty, fun s v hb => ⟨hb, SR.inI hb⟩⟩
    obtain ⟨_, hx⟩ := lk_entry args 0 t x ht
    rw [Nat.sub_zero] at hx
    have hlt : t < args.length := (List.getElem?_eq_some_iff.1 hx).1
    refine ⟨by show t < nt; omega, ?_⟩
    have hvt : vs[t]? = some (vs[t]'(by omega)) := Array.getElem?_eq_getElem (by omega)
    have e : (vs ++ Array.replicate (fn.ntmps - vs.size) undef).getD t undef = vs[t]'(by omega) := by
      rw [Array.getD_eq_getD_getElem?, Array.getElem?_append_left (by omega), hvt]; rfl
    show VR _ _ _ _ ((vs ++ Array.replicate (fn.ntmps - vs.size) undef).getD t undef)
    rw [e]
    exact VR_of_VR2 (hv t x _ hx hvt)
  refine wpIn_mono (show c.wpIn (FX none) 0 P _ _ w from (h w0 K0 _).use hL hrel) ?_
  intro e a' w' ⟨fr, τ, g', hr, hq⟩
  have fin : PostM tt res (σ.map (·.1)) dfs R .ret fr τ →
      LeavesInM Fence.wide 0 P fn a'.tmps (fun e w' => ∃ v g' σ' r, e = .returned v ∧ Did w0 K0 σ g w σ' g' w' ∧ VR2 σ' g' w' r v ∧ R r σ') a'.defers .returning w' := by
    rintro ⟨fr1, σ1, hsf, hss, hc, r, σ', hsub, hc2, ho, hR⟩
    simp only [Bool.and_eq_true, List.all_eq_true, Bool.not_eq_true'] at hc hc2
    obtain ⟨⟨hcf, hcs⟩, hno⟩ := hc
    have hsf := SubF_ok hsf
    have hss := SubS_ok hss
    have hp1 := hr.hp.weaken hss hcs
    obtain ⟨ms, hms, is, q1, q2, q3⟩ := hr.defers
    obtain rfl : ms = a'.defers := by simpa using hms.symm
    have hnone : ∀ i ∈ is, lk i σ1 = none := fun i hi => by
      obtain ⟨k, hk, he⟩ := List.getElem_of_mem hi
      have := (q3 k i (a'.defers[k]'(by omega)) (by rw [List.getElem?_eq_getElem hk, he]) (List.getElem?_eq_getElem (by omega))).1
      have := hno i this
      cases hl : lk i σ1 with
      | none => rfl
      | some _ => rw [hl] at this; cases this
    have hdfr : ∀ i ∈ is, lk i τ = some (.x .dfr) := fun i hi => by
      obtain ⟨k, hk, he⟩ := List.getElem_of_mem hi
      exact (q3 k i (a'.defers[k]'(by omega)) (by rw [List.getElem?_eq_getElem hk, he]) (List.getElem?_eq_getElem (by omega))).2.1
    obtain ⟨w1, s1, s2, s3, s4⟩ := shutAll (P := P) (w0 := w0) (K0 := K0) (g := g') hss hcs is a'.defers w' q1 q2 hp1 hnone (fun k i x hi hx => by
      obtain ⟨b1, b2, d, b3, b4⟩ := q3 k i x hi hx
      have hbi : blk (g'.μ i) = some d := by rw [b3]; rfl
      obtain ⟨b', h1, h2, h3, h4⟩ := hr.hp.obs i _ b2
      rw [b3] at h1; cases h1
      refine ⟨d, b3, b4, h3, h4, hr.hp.own i d (by rw [b2]; rfl) hbi, fun id hid hb => ?_⟩
      obtain ⟨ob, hob⟩ := Option.isSome_iff_exists.1 hid
      have := hr.hp.inj id i d (by rw [hss _ _ hob]; rfl) (by rw [b2]; rfl) hb hbi
      subst this
      rw [hnone id (List.mem_of_getElem? hi)] at hob; cases hob)
      (fun i j hi hj b hb1 hb2 => hr.hp.inj i j b (by rw [hdfr i hi]; rfl) (by rw [hdfr j hj]; rfl) hb1 hb2)
    refine s4 Fence.wide 0 fn a'.tmps _ ?_
    have hrel1 : Rel ⟨w0, K0, nt, SR σ g w, σ.map (·.1), none, [], []⟩ fr1 σ1 g' { a' with defers := [] } w1 := by
      refine ⟨s1, fun t v ht => ⟨(hr.fr t v (hsf t v ht)).1, ?_⟩, hr.size, DRb.empty, fun s v hb => ⟨s2 _ _ (inI_weaken hss hc2.2 (hr.base s v hb).1 (hr.base s v hb).2), (hr.base s v hb).2⟩⟩
      exact (rsAV_ok hss (rsFr_get hcf t v ht) (hr.fr t v (hsf t v ht)).2).keep s2
    have hsup := SubS_ok hsub
    obtain ⟨v, hrun, hvr⟩ := outKeep_ok htt hrel1 hsup hres ho
    refine leaves_results hrun ?_
    exact ⟨v, _, σ', r, rfl, ⟨hrel1.hp.atEnd hsup hc2.1.1, fun s u hs => Kend_keep (inI_weaken hsup hc2.1.2 (hrel1.base s u hs).1 (hrel1.base s u hs).2)⟩, hvr, hR⟩
  cases e with
  | normal => exact fin hq
  | ret => exact fin hq
  | _ => exact hq.elim
end
end Go.QL
namespace Go.QL
open Go Go.RowKit
theorem wpIn_put {F : Fence} {n : Nat} {P : Program} {o : Oper} {a : Act} {w : World} {K : Act → World → Prop} {Q : Exit → Act → World → Prop}
    (hh : o.wpIn F n P a w K Q) : o.wpIn F n P a w (fun a' w' => K a' w' ∧ ∃ v, a'.tmps = (a.put o.dst v).tmps) Q := by
  unfold Oper.wpIn at *
  refine ⟨hh.1, ?_⟩
  have hh := hh.2
  generalize (o.semAt F.round a.eval).run P w = r at *
  cases r with
  | ok x w' =>
    cases x <;> simp only [Oper.uponIn] at hh ⊢ <;>
      first
        | exact ⟨hh, _, rfl⟩
        | exact ⟨hh, undef, by unfold Act.put; cases o.dst <;> rfl⟩
        | exact ⟨hh.1, CallsIn.mono hh.2 (fun e w'' he => by cases e <;> first | exact ⟨he, _, rfl⟩ | exact he)⟩
        | exact ⟨hh.1, RowsIn.mono hh.2 (fun _ _ he => ⟨he, _, rfl⟩)⟩
        | exact ⟨hh.1, RoundIn.mono hh.2 (fun e w'' he => by cases e <;> first | exact ⟨he, _, rfl⟩ | exact he)⟩
  | halt x w' => cases x <;> simp only [Oper.uponIn] at hh ⊢ <;> exact hh
theorem wpOpIn_put {F : Fence} {n : Nat} {P : Program} {ops : Array Oper} {i : Nat} {o : Oper} (ho : ops[i]? = some o) {a : Act} {w : World} {K : Act → World → Prop} {Q : Exit → Act → World → Prop}
    (hh : wpOpIn F n P ops Q i K a w) : wpOpIn F n P ops Q i (fun a' w' => K a' w' ∧ ∃ v, a'.tmps = (a.put o.dst v).tmps) a w := by
  unfold wpOpIn at *
  simp only [ho] at hh ⊢
  split
  · rename_i hw; simp only [hw, if_true] at hh; exact wpIn_put hh
  · rename_i hw; simp only [hw] at hh; exact ⟨hh.1, hh.2, undef, rfl⟩
def dropDs : List Nat → Fr → Fr
  | _, [] => []
  | ds, (t, v) :: r => bif ds.any (Nat.beq t) then dropDs ds r else (t, v) :: dropDs ds r
theorem dropDs_get {ds : List Nat} : ∀ {fr : Fr} {t : Nat} {v : AV}, lk t (dropDs ds fr) = some v → t ∉ ds ∧ lk t fr = some v
  | [], t, v, h => by cases h
  | (s, x) :: r, t, v, h => by
    unfold dropDs at h
    cases hb : ds.any (Nat.beq s) with
    | true =>
      rw [hb] at h
      have h := dropDs_get (fr := r) h
      refine ⟨h.1, ?_⟩
      rw [lk_cons, if_neg]
      · exact h.2
      · intro e; subst e
        rw [List.any_eq_true] at hb
        obtain ⟨d, hd, e⟩ := hb
        have := Nat.eq_of_beq_eq_true e
        subst this
        exact h.1 hd
    | false =>
      rw [hb] at h
      simp only [cond_false] at h
      rw [lk_cons] at h ⊢
      by_cases e : s = t
      · rw [if_pos e] at h ⊢
        refine ⟨fun hd => ?_, h⟩
        subst e
        have : ds.any (Nat.beq s) = true := List.any_eq_true.2 ⟨s, hd, by simp⟩
        rw [this] at hb; cases hb
      · rw [if_neg e] at h ⊢; exact dropDs_get h
def lateDs (ops : List Oper) : List Nat → List Nat
  | [] => []
  | l :: r => match (ops[l]?).bind (·.dst) with
    | some d => d :: lateDs ops r
    | none => lateDs ops r
def okLate (ops : List Oper) (ms : List Nat) (m : Nat) (dm : Option Nat) : List Nat → Bool
  | [] => true
  | l :: r => (match ops[l]? with
    | some o => Nat.blt l m && noOb o.op && (looks ops o).all (fun t => (match dm with | some d => !Nat.beq d t | none => true) &&
        (List.range m).all fun k => match (ops[k]?).bind (·.dst) with | some d => !Nat.beq d t || Nat.testBit (ms.getD l 0) k | none => true)
    | none => false) && okLate ops ms m dm r
def vcLate (P : Program) (tt : TT) (nt : Nat) (ops : List Oper) (fr : Fr) (σ : Sg) (k : Prop) : List Nat → Prop
  | [] => k
  | l :: r => match ops[l]? with
    | some o => opDr P tt ops false (selF fr (looks ops o)) σ 0 o fun gd v nob => nob = none ∧ putE nt o.dst gd v fun x => (match o.dst with | some d => lk d fr = some x | none => True) ∧ vcLate P tt nt ops fr σ k r
    | none => False
section
variable {P : Program} {Γ : Cx} {fr : Fr} {σ : Sg} {Q : Exit → Fr → Sg → Prop}
theorem sup_addFr {F F' : Fr} (h : Sup F' F) (d : Option Tmp) (v : AV) : Sup (addFr d v F') (addFr d v F) := by
  cases d with
  | none => exact h
  | some d =>
    intro t x hl
    show lk t ((d, v) :: F) = some x
    have hl : lk t ((d, v) :: F') = some x := hl
    rw [lk_cons] at hl ⊢
    by_cases e : d = t
    · rw [if_pos e] at hl ⊢; exact hl
    · rw [if_neg e] at hl ⊢; exact h t x hl
theorem vcLate_ok {tt : TT} (htt : tt.ok P) (hL : Laid P Γ.K0.K Γ.w0) {ops : List Oper} {fr : Fr} {σ : Sg} {k : Prop} : ∀ {ls : List Nat}, vcLate P tt Γ.nt ops fr σ k ls →
    k ∧ ∀ l ∈ ls, ∃ o x, ops[l]? = some o ∧ SemE P Γ ops false (selF fr (looks ops o)) σ l o x none ∧ ∀ d, o.dst = some d → lk d fr = some x ∧ d < Γ.nt
  | [], h => ⟨h, fun l hl => by cases hl⟩
  | l :: r, h => by
    unfold vcLate at h
    cases ho : ops[l]? with
    | none => rw [ho] at h; exact h.elim
    | some o =>
      rw [ho] at h
      simp only at h
      obtain ⟨gd, x, nob, ⟨hn, hk⟩, _, hsem⟩ := opDr_ok (Γ := Γ) htt hL h l
      subst hn
      obtain ⟨⟨hx, hr⟩, hd⟩ := putE_ok hk
      obtain ⟨h1, h2⟩ := vcLate_ok htt hL hr
      refine ⟨h1, fun l' hl' => ?_⟩
      rcases List.mem_cons.1 hl' with rfl | hl'
      · refine ⟨o, wrapG gd x, ho, hsem, fun d hd' => ⟨?_, hd d hd'⟩⟩
        rw [hd'] at hx; exact hx
      · exact h2 l' hl'
theorem okLate_ok {ops : List Oper} {ms : List Nat} {m : Nat} {dm : Option Nat} : ∀ {ls : List Nat}, okLate ops ms m dm ls = true → ∀ l ∈ ls, l < m ∧ ∃ o, ops[l]? = some o ∧ noOb o.op = true ∧
    ∀ t ∈ looks ops o, dm ≠ some t ∧ ∀ (k : Nat) (o' : Oper), k < m → ops[k]? = some o' → o'.dst = some t → (ms.getD l 0).testBit k = true
  | [], _, l, hl => by cases hl
  | l0 :: r, h, l, hl => by
    unfold okLate at h
    rw [Bool.and_eq_true] at h
    rcases List.mem_cons.1 hl with rfl | hl
    · cases ho : ops[l]? with
      | none => rw [ho] at h; cases h.1
      | some o =>
        rw [ho] at h
        simp only [Bool.and_eq_true, List.all_eq_true] at h
        obtain ⟨⟨⟨h1, h2⟩, h3⟩, _⟩ := h
        refine ⟨Nat.le_of_ble_eq_true h1, o, rfl, h2, fun t ht => ⟨fun e => ?_, fun k o' hk ho' hd => ?_⟩⟩
        · have := (h3 t ht).1
          rw [e] at this
          simp at this
        · have := (h3 t ht).2 k (List.mem_range.2 hk)
          rw [ho'] at this
          simp only [Option.bind_some, hd] at this
          rw [Bool.or_eq_true] at this
          rcases this with h | h
          · simp at h
          · exact h
    · exact okLate_ok h.2 l hl
theorem lateDs_mem {ops : List Oper} {d : Nat} : ∀ {ls : List Nat}, d ∈ lateDs ops ls ↔ ∃ l ∈ ls, ∃ o, ops[l]? = some o ∧ o.dst = some d
  | [] => by simp [lateDs]
  | l :: r => by
    unfold lateDs
    have ih := lateDs_mem (ops := ops) (d := d) (ls := r)
    cases ho : ops[l]? with
    | none =>
      simp only [Option.bind_none, ih, List.mem_cons]
      constructor
      · rintro ⟨l', h, h'⟩; exact ⟨l', .inr h, h'⟩
      · rintro ⟨l', rfl | h, o, h', h''⟩
        · rw [ho] at h'; cases h'
        · exact ⟨l', h, o, h', h''⟩
    | some o =>
      cases hd : o.dst with
      | none =>
        simp only [Option.bind_some, hd, ih, List.mem_cons]
        constructor
        · rintro ⟨l', h, h'⟩; exact ⟨l', .inr h, h'⟩
        · rintro ⟨l', rfl | h, o', h', h''⟩
          · rw [ho] at h'; cases h'; rw [hd] at h''; cases h''
          · exact ⟨l', h, o', h', h''⟩
      | some d' =>
        simp only [Option.bind_some, hd, ih, List.mem_cons]
        constructor
        · rintro (rfl | ⟨l', h, h'⟩)
          · exact ⟨l, .inl rfl, o, ho, hd⟩
          · exact ⟨l', .inr h, h'⟩
        · rintro ⟨l', rfl | h, o', h', h''⟩
          · rw [ho] at h'; cases h'; rw [hd] at h''; cases h''; exact .inl rfl
          · exact .inr ⟨l', h, o', h', h''⟩
structure LateGo (d : Option Tmp) (fr2 F : Fr) (K : AV → Prop) : Prop where
  ex : ∃ v, fr2 = addFr d v F ∧ K v
theorem AW_drawM {tt : TT} (htt : tt.ok P) (hmix : P.follows .mixedOrders = true) (m : Nat) (ls : List Nat) (ob : Bool) (ms : List Nat) {id : Nat} {ops : List Oper} (om : Oper) (hms : okMasks ms (m + 1) ops 0 = true) (hlen : Nat.ble (m + 1) ops.length = true)
    (hds : okDsts (ops.take (m + 1)) [] = true) (hrd : okReads ops ms (ops.take m) (ops.take m) 0 = true)
    (hom : ops[m]? = some om) (hmm : ((List.range m).all fun b => Nat.testBit (ms.getD m 0) b || ls.any (Nat.beq b)) = true) (hls : okLate ops ms m om.dst ls = true)
    (h : vcDr P tt Γ.nt ops ob ms fr σ (fun fr' σ' => vcOps P tt Γ.nt ops (fun fr2 σ2 => LateGo om.dst fr2 (dropDs (lateDs ops ls) fr') fun v =>
      vcLate P tt Γ.nt ops fr' σ2 (vcOps P tt Γ.nt ops (Q .normal) (ops.drop (m + 1)) (addFr om.dst v fr') σ2) ls) [om] (dropDs (lateDs ops ls) fr') σ') (ops.take m) [] 0 fr σ) : AW P Γ (.region id ops.toArray true) Q fr σ := by
  refine AW.mk fun hLd g a w hr => ?_
  have hm := MaskOK.of hms
  have hls := okLate_ok hls
  have hlen' : m + 1 ≤ ops.length := Nat.le_of_ble_eq_true hlen
  have hlen : m ≤ ops.length := by omega
  have hmbit : ∀ b, b < m → b ∉ ls → (ms.getD m 0).testBit b = true := by
    intro b hb hbl
    rw [List.all_eq_true] at hmm
    have := hmm b (List.mem_range.2 hb)
    rw [Bool.or_eq_true] at this
    rcases this with h | h
    · exact h
    · rw [List.any_eq_true] at h
      obtain ⟨x, hx, e⟩ := h
      have := Nat.eq_of_beq_eq_true e
      subst this
      exact absurd hx hbl
  have htake : (ops.take m).length = m := by simp; omega
  obtain ⟨es, hkL, hg, hlt, hcov⟩ := vcDr_ok (Γ := Γ) htt hLd (ops.take m) [] 0 h (fun j o hj => by
      rw [List.getElem?_take] at hj
      by_cases hjm : j < m
      · rw [if_pos hjm] at hj; simpa using hj
      · rw [if_neg hjm] at hj; cases hj) (fun e he => by simp at he) (fun j hj => by omega)
      ⟨fun e he => by simp at he, fun e he => by simp at he, fun e he => by simp at he, fun e he => by simp at he, fun e he => by simp at he⟩
  rw [htake] at hlt hcov
  simp only [Nat.zero_add] at hlt hcov
  obtain ⟨_, hd1'⟩ := okDsts_ok hds
  have hd1 : ∀ (i j : Nat) (o o' : Oper) (d : Nat), (ops.take m)[i]? = some o → (ops.take m)[j]? = some o' → o.dst = some d → o'.dst = some d → i = j := by
    intro i j o o' d hi hj
    rw [List.getElem?_take] at hi hj
    by_cases c1 : i < m
    · rw [if_pos c1] at hi
      by_cases c2 : j < m
      · rw [if_pos c2] at hj
        exact hd1' i j o o' d (by rw [List.getElem?_take, if_pos (by omega)]; exact hi) (by rw [List.getElem?_take, if_pos (by omega)]; exact hj)
      · rw [if_neg c2] at hj; cases hj
    · rw [if_neg c1] at hi; cases hi
  have hrd := fun j o h => okReadsAt_ok (okReads_ok hrd j o h)
  simp only [Nat.zero_add] at hrd
  have hop : ∀ e ∈ es, ∃ o, (ops.take m)[e.i]? = some o ∧ e.d = o.dst := fun e he => by
    obtain ⟨o, D, h1, h2, _⟩ := hg.sem e he
    exact ⟨o, by rw [List.getElem?_take, if_pos (hlt e he)]; exact h1, h2⟩
  have hfF : ∀ p ∈ frs es, ∀ q ∈ frs es, p.1 = q.1 → p = q := by
    intro p hp q hq hpq
    obtain ⟨e, he, h1, h2⟩ := mem_frs.1 hp
    obtain ⟨e', he', h1', h2'⟩ := mem_frs.1 hq
    obtain ⟨o, ho, hd⟩ := hop e he
    obtain ⟨o', ho', hd'⟩ := hop e' he'
    have := hd1 e.i e'.i o o' p.1 ho ho' (by rw [← hd, h1]) (by rw [← hd', h1', hpq])
    have := hg.idx e he e' he' this
    subst this
    obtain ⟨p1, p2⟩ := p; obtain ⟨q1, q2⟩ := q
    simp only at *
    subst hpq; subst h2; subst h2'; rfl
  have hfO : ∀ p ∈ obs es, ∀ q ∈ obs es, p.1 = q.1 → p = q := by
    intro p hp q hq hpq
    obtain ⟨e, he, h1⟩ := mem_obs.1 hp
    obtain ⟨e', he', h1'⟩ := mem_obs.1 hq
    have := hg.ids e he e' he' p q h1 h1' hpq
    subst this; rw [h1] at h1'; cases h1'; rfl
  have hfO0 : ∀ p ∈ obs es, lk p.1 σ = none := by
    intro p hp
    obtain ⟨e, he, h1⟩ := mem_obs.1 hp
    exact (hg.id0 e he p h1).1
  have supO : ∀ D E : List En, (∀ e ∈ D, e ∈ E) → (∀ e ∈ E, e ∈ es) → Sup (obs D ++ σ) (obs E ++ σ) := fun D E h1 h2 =>
    sup_app hfO hfO0 (fun p hp => by obtain ⟨e, he, h'⟩ := mem_obs.1 hp; exact mem_obs.2 ⟨e, h1 e he, h'⟩) (fun p hp => by obtain ⟨e, he, h'⟩ := mem_obs.1 hp; exact mem_obs.2 ⟨e, h2 e he, h'⟩)
  let InvA : (Nat → Prop) → Act → World → Prop := fun L a w => ∃ (E : List En) (g : Gh), (∀ e ∈ E, e ∈ es) ∧ (∀ j, L j ↔ ∃ e ∈ E, e.i = j) ∧ (∀ k, L k → ∀ b, (ms.getD k 0).testBit b = true → L b) ∧ Rel Γ (frs E ++ fr) (obs E ++ σ) g a w
  let InvB : (Nat → Prop) → Act → World → Prop := fun L a w => ∃ j, m + 1 ≤ j ∧ j ≤ ops.length ∧ (∀ b, L b ↔ b < j) ∧ wpLs Γ.ro P ops.toArray (Lift Γ Q) (ops.drop j) a w
  let InvC : (Nat → Prop) → Act → World → Prop := fun L a w => ∃ (E : List En) (g : Gh) (v : AV) (σ2 : Sg), (∀ e ∈ E, e ∈ es) ∧ (∀ j, L j ↔ (∃ e ∈ E, e.i = j) ∨ j = m) ∧ (∀ e ∈ es, e.i ∉ ls → e ∈ E) ∧ Rel Γ (addFr om.dst v (frs E ++ fr)) σ2 g a w ∧
    vcLate P tt Γ.nt ops (frs es ++ fr) σ2 (vcOps P tt Γ.nt ops (Q .normal) (ops.drop (m + 1)) (addFr om.dst v (frs es ++ fr)) σ2) ls
  have hdm : ∀ e ∈ es, ∀ d, e.d = some d → om.dst ≠ some d := by
    intro e he d hd hdm
    obtain ⟨o, ho, hd'⟩ := hop e he
    rw [List.getElem?_take, if_pos (hlt e he)] at ho
    have := hd1' e.i m o om d (by rw [List.getElem?_take, if_pos (by have := hlt e he; omega)]; exact ho) (by rw [List.getElem?_take, if_pos (by omega)]; exact hom) (by rw [← hd', hd]) hdm
    have := hlt e he; omega
  have convC : ∀ L a w, InvC L a w → (∀ b, b < m → L b) → InvB L a w := by
    intro L a w ⟨E, g, v, σ2, h1, h2, _, h3, h4⟩ hall
    refine ⟨m + 1, Nat.le_refl _, hlen', fun b => ⟨fun hb => ?_, fun hb => ?_⟩, ?_⟩
    · rcases (h2 b).1 hb with ⟨e, he, hi⟩ | rfl
      · have := hlt e (h1 e he); omega
      · omega
    · by_cases e : b = m
      · exact (h2 b).2 (.inr e)
      · exact hall b (by omega)
    · have hsub : ∀ e ∈ es, e ∈ E := by
        intro e he
        rcases (h2 e.i).1 (hall e.i (hlt e he)) with ⟨e', he', hi⟩ | hi
        · have := hg.idx e' (h1 e' he') e he hi
          subst this; exact he'
        · have := hlt e he; omega
      exact vcOps_ok htt hLd (fun _ _ h => h) (ops.drop (m + 1)) _ _ (vcLate_ok (Γ := Γ) htt hLd h4).1 g a w (h3.subF (sup_addFr (lk_app_same (fun p hp q hq => hfF p ((mem_frs_sub h1) p hp) q ((mem_frs_sub h1) q hq)) (fun p => ⟨mem_frs_sub hsub p, mem_frs_sub h1 p⟩)) _ _))
  refine wpIn_region_any hmix ?_
  refine wpAny_inv hm (fun L a w => InvA L a w ∨ InvB L a w ∨ InvC L a w) ?_ ?_ _ _ _ _ (by simp) ?_ ?_ ?_
  · -- a step
    intro L a w hinv i hi hL hbits
    have hi' : i < ops.length := by simpa using hi
    have stepB : InvB L a w → wpOpIn (FX Γ.ro) 0 P ops.toArray (Lift Γ Q) i (fun a w => InvA (fun j => L j ∨ j = i) a w ∨ InvB (fun j => L j ∨ j = i) a w ∨ InvC (fun j => L j ∨ j = i) a w) a w := by
      intro ⟨j, hj1, hj2, hj3, hj4⟩
      have hji : j ≤ i := by
        rcases Nat.lt_or_ge i j with h' | h'
        · exact absurd ((hj3 i).2 h') hL
        · exact h'
      have hij : i = j := by
        rcases Nat.lt_or_ge j i with h' | h'
        · have := hm.tail i _ (Array.getElem?_eq_getElem (by simpa using hi')) (by omega) j h'
          have := (hj3 j).1 (hbits j this)
          omega
        · omega
      subst hij
      rw [List.drop_eq_getElem_cons hi'] at hj4
      have hoi : ops.toArray[i]? = some ops[i] := by simp [hi']
      have hnew : ∀ a w, wpLs Γ.ro P ops.toArray (Lift Γ Q) (ops.drop (i + 1)) a w → InvA (fun j => L j ∨ j = i) a w ∨ InvB (fun j => L j ∨ j = i) a w ∨ InvC (fun j => L j ∨ j = i) a w := by
        intro a w hw
        refine .inr (.inl ⟨i + 1, by omega, by omega, fun b => ?_, hw⟩)
        show (L b ∨ b = i) ↔ b < i + 1
        rw [hj3 b]; omega
      unfold wpOpIn
      simp only [hoi]
      unfold wpLs wpLk at hj4
      split
      · rename_i hwant
        rw [if_pos hwant] at hj4
        exact Oper.wpIn_mono hnew hj4
      · rename_i hwant
        rw [if_neg hwant] at hj4
        exact ⟨fun _ _ => trivial, hnew _ _ hj4⟩
    rcases hinv with hA | hB | hC
    · rcases Nat.lt_or_ge i m with him | him
      · obtain ⟨E, g, h1, h2, hcl, h3⟩ := hA
        obtain ⟨en, hen, heni⟩ := hcov i him
        obtain ⟨o, D, a1, a2, a3, a4, a6, a5⟩ := hg.sem en hen
        rw [heni] at a1 a4 a5 a6
        have hDE : ∀ e ∈ D, e ∈ E := by
          intro e he
          obtain ⟨he1, he2⟩ := a4 e he
          obtain ⟨e', he', hi'⟩ := (h2 e.i).1 (hbits e.i he2)
          have := hg.idx e' (h1 e' he') e he1 hi'
          subst this; exact he'
        have hsup : Sup (selF (frs D ++ fr) (looks ops o)) (frs E ++ fr) := by
          intro t v hl
          obtain ⟨ht, hl⟩ := selF_get hl
          rcases lk_app hl with hl | ⟨hn, hl⟩
          · exact lk_app_mem (fun p hp q hq => hfF p (mem_frs_sub h1 p hp) q (mem_frs_sub h1 q hq)) (mem_frs_sub hDE _ hl)
          · rw [lk_app_none]
            · exact hl
            · intro p hp hpt
              obtain ⟨e, he, h1', h2'⟩ := mem_frs.1 hp
              obtain ⟨oe, hoe, hde⟩ := hop e (h1 e he)
              have hLe : L e.i := (h2 e.i).2 ⟨e, he, rfl⟩
              rcases hrd i o (by rw [List.getElem?_take, if_pos him]; exact a1) e.i oe t hoe (by rw [← hde, h1', hpt]) ht with hk | hk | hk
              · exact hL (hk ▸ hLe)
              · have hlt' : e.i < i := hm.lt i o (by simpa using a1) e.i hk
                exact hn p (mem_frs.2 ⟨e, a6 e (h1 e he) hk hlt', h1', h2'⟩) hpt
              · exact hL (hcl e.i hLe i hk)
        refine a5 _ (frs E ++ fr) (obs E ++ σ) g a w hsup (supO D E hDE h1) ?_ ?_ h3 _ ?_ (by simpa using a1)
        · intro hob
          have hn : ∀ X : List En, (∀ e ∈ X, e ∈ es) → obs X = [] := by
            intro X hX
            cases hx : obs X with
            | nil => rfl
            | cons p r =>
              obtain ⟨e, he, hp⟩ := mem_obs.1 (show p ∈ obs X by rw [hx]; exact List.mem_cons_self)
              have := (hg.id0 e (hX e he) p hp).2
              rw [hob] at this; cases this
          rw [hn E h1, hn D (fun e he => h1 e (hDE e he))]
        · intro p hp
          rw [lk_app_none]
          · exact (hg.id0 en hen p hp).1
          · intro q hq he
            obtain ⟨e', he', hq'⟩ := mem_obs.1 hq
            have := hg.ids e' (h1 e' he') en hen q p hq' hp he
            subst this
            exact hL ((h2 i).2 ⟨e', he', heni⟩)
        · intro v g' w' hr' hv
          left
          refine ⟨en :: E, g', fun e he => ?_, fun j => ?_, fun k hk b hb => ?_, ?_⟩
          · rcases List.mem_cons.1 he with rfl | he
            · exact hen
            · exact h1 e he
          · show (L j ∨ j = i) ↔ _
            rw [h2 j]
            constructor
            · rintro (⟨e, he, h'⟩ | rfl)
              · exact ⟨e, List.mem_cons_of_mem _ he, h'⟩
              · exact ⟨en, List.mem_cons_self, heni⟩
            · rintro ⟨e, he, h'⟩
              rcases List.mem_cons.1 he with rfl | he
              · exact .inr (h'.symm.trans heni)
              · exact .inl ⟨e, he, h'⟩
          · rcases hk with hk | rfl
            · exact .inl (hcl k hk b hb)
            · exact .inl (hbits b hb)
          · rw [← addFr_eq, ← addOb_eq]
            rw [a2]
            cases hdd : o.dst with
            | none => exact hr'
            | some d => exact hr'.put (a3 d hdd) hv
      · rcases Nat.lt_or_ge m i with hmi | hmi
        · have hall : ∀ b, b < i → L b := fun b hb => hbits b (hm.tail i _ (Array.getElem?_eq_getElem (by simpa using hi')) hmi b hb)
          obtain ⟨E, g, h1, h2, _, h3⟩ := hA
          obtain ⟨e, he, hi2⟩ := (h2 m).1 (hall m hmi)
          have := hlt e (h1 e he); omega
        · have him : i = m := by omega
          subst him
          obtain ⟨E, g, h1, h2, _, h3⟩ := hA
          have hin : ∀ e ∈ es, e.i ∉ ls → e ∈ E := by
            intro e he hne
            obtain ⟨e', he', hi2⟩ := (h2 e.i).1 (hbits e.i (hmbit e.i (hlt e he) hne))
            have := hg.idx e' (h1 e' he') e he hi2
            subst this; exact he'
          have hsupF : Sup (dropDs (lateDs ops ls) (frs es ++ fr)) (frs E ++ fr) := by
            intro t v hl
            obtain ⟨hne, hl⟩ := dropDs_get hl
            rcases lk_app hl with hl | ⟨hn, hl⟩
            · obtain ⟨e, he, hd, hx⟩ := mem_frs.1 hl
              have hel : e.i ∉ ls := by
                intro hel
                obtain ⟨o, ho, hd'⟩ := hop e he
                rw [List.getElem?_take, if_pos (hlt e he)] at ho
                exact hne (lateDs_mem.2 ⟨e.i, hel, o, ho, by rw [← hd', hd]⟩)
              exact lk_app_mem (fun p hp q hq => hfF p (mem_frs_sub h1 p hp) q (mem_frs_sub h1 q hq)) (mem_frs.2 ⟨e, hin e he hel, hd, hx⟩)
            · rw [lk_app_none fun p hp => hn p (mem_frs_sub h1 p hp)]; exact hl
          have hobs : ∀ p, p ∈ obs es → p ∈ obs E := by
            intro p hp
            obtain ⟨e, he, hp⟩ := mem_obs.1 hp
            refine mem_obs.2 ⟨e, hin e he fun hel => ?_, hp⟩
            obtain ⟨o, ho, hn⟩ := hg.obk e he p hp
            obtain ⟨_, o', ho', hn', _⟩ := hls e.i hel
            rw [ho'] at ho; cases ho
            rw [hn'] at hn; cases hn
          have hs1 : Sup (obs E ++ σ) (obs es ++ σ) := supO E es h1 (fun e he => he)
          have hs2 : Sup (obs es ++ σ) (obs E ++ σ) := sup_app (fun p hp q hq => hfO p (by obtain ⟨e, he, h'⟩ := mem_obs.1 hp; exact mem_obs.2 ⟨e, h1 e he, h'⟩) q (by obtain ⟨e, he, h'⟩ := mem_obs.1 hq; exact mem_obs.2 ⟨e, h1 e he, h'⟩)) (fun p hp => hfO0 p (by obtain ⟨e, he, h'⟩ := mem_obs.1 hp; exact mem_obs.2 ⟨e, h1 e he, h'⟩)) hobs (fun p hp => hp)
          have hr' : Rel Γ (dropDs (lateDs ops ls) (frs es ++ fr)) (obs es ++ σ) g a w := h3.same hsupF hs1 hs2
          let Γ' : Cx := ⟨Γ.w0, Γ.K0, Γ.nt, SR (obs es ++ σ) g w, (obs es ++ σ).map (·.1), Γ.ro, Γ.dfs, Γ.bs⟩
          have hr2 : Rel Γ' (dropDs (lateDs ops ls) (frs es ++ fr)) (obs es ++ σ) g a w := ⟨hr'.hp, hr'.fr, hr'.size, hr'.defers, fun s v hb => ⟨hb, SR.inI hb⟩⟩
          have hw := vcOps_okK (Γ := Γ') htt hLd (Qx := Lift Γ Q) (K := fun a w => ∃ g2 fr2 σ2, Rel Γ' fr2 σ2 g2 a w ∧ ∃ v, fr2 = addFr om.dst v (dropDs (lateDs ops ls) (frs es ++ fr)) ∧
            vcLate P tt Γ.nt ops (frs es ++ fr) σ2 (vcOps P tt Γ.nt ops (Q .normal) (ops.drop (i + 1)) (addFr om.dst v (frs es ++ fr)) σ2) ls) (fun fr2 σ2 g2 a2 w2 hr2 hk2 => ⟨g2, fr2, σ2, hr2, hk2.ex⟩) [om] _ _ hkL g a w hr2
          have hoi : ops.toArray[i]? = some om := by simpa using hom
          have hw2 : wpOpIn (FX Γ.ro) 0 P ops.toArray (Lift Γ Q) i (fun a w => ∃ g2 fr2 σ2, Rel Γ' fr2 σ2 g2 a w ∧ ∃ v, fr2 = addFr om.dst v (dropDs (lateDs ops ls) (frs es ++ fr)) ∧
            vcLate P tt Γ.nt ops (frs es ++ fr) σ2 (vcOps P tt Γ.nt ops (Q .normal) (ops.drop (i + 1)) (addFr om.dst v (frs es ++ fr)) σ2) ls) a w := by
            unfold wpOpIn
            simp only [hoi]
            unfold wpLk at hw
            split
            · rename_i hwant
              rw [if_pos hwant] at hw
              exact hw
            · rename_i hwant
              rw [if_neg hwant] at hw
              exact ⟨fun _ _ => trivial, hw⟩
          refine wpOpIn_mono ?_ (wpOpIn_put hoi hw2)
          rintro a2 w2 ⟨⟨g2, fr2, σ2, hr2, v, rfl, hk2⟩, v', htm⟩
          refine .inr (.inr ⟨E, g2, v, σ2, h1, fun j => ?_, hin, ?_, hk2⟩)
          · show (L j ∨ j = i) ↔ _
            rw [h2 j]
          · have keep : ∀ s u, SR (obs E ++ σ) g w s u → SR σ2 g2 w2 s u := fun s u hsu => (hr2.base s u (hsu.sup hs1)).1
            refine ⟨hr2.hp, fun t x ht => ?_, hr2.size, hr2.defers, fun s u hb => ⟨keep s u (h3.base s u hb).1, (h3.base s u hb).2⟩⟩
            by_cases hdt : om.dst = some t
            · have : lk t (addFr om.dst v (dropDs (lateDs ops ls) (frs es ++ fr))) = some x := by
                rw [hdt] at ht ⊢
                have ht : lk t ((t, v) :: (frs E ++ fr)) = some x := ht
                show lk t ((t, v) :: _) = some x
                rw [lk_cons, if_pos rfl] at ht ⊢; exact ht
              exact hr2.fr t x this
            · have ht : lk t (frs E ++ fr) = some x := by
                cases hd : om.dst with
                | none => rw [hd] at ht; exact ht
                | some d =>
                  rw [hd] at ht
                  have ht : lk t ((d, v) :: (frs E ++ fr)) = some x := ht
                  rw [lk_cons, if_neg (fun e => hdt (by rw [hd, e]))] at ht
                  exact ht
              have h4 := h3.fr t x ht
              refine ⟨h4.1, ?_⟩
              have e : a2.tmps.getD t undef = a.tmps.getD t undef := by
                rw [htm]
                cases hd : om.dst with
                | none => rfl
                | some d =>
                  have : ¬ d = t := fun e => hdt (by rw [hd, e])
                  simp [Act.put, this]
              rw [e]
              exact h4.2.keep keep
    · exact stepB hB
    · rcases Nat.lt_or_ge i m with him | him
      · obtain ⟨E, g, v, σ2, h1, h2, hin, h3, h4⟩ := hC
        obtain ⟨en, hen, heni⟩ := hcov i him
        have hil : i ∈ ls := by
          by_cases c : i ∈ ls
          · exact c
          · exact absurd ((h2 i).2 (.inl ⟨en, hin en hen (by rw [heni]; exact c), heni⟩)) hL
        obtain ⟨o, x, ho, hsem, hdx⟩ := (vcLate_ok (Γ := Γ) htt hLd h4).2 i hil
        obtain ⟨_, o', ho', _, hlook⟩ := hls i hil
        rw [ho] at ho'; cases ho'
        have hend : en.d = o.dst := by
          obtain ⟨o', ho', hd⟩ := hop en hen
          rw [heni, List.getElem?_take, if_pos him, ho] at ho'
          cases ho'; exact hd
        have hsup : Sup (selF (frs es ++ fr) (looks ops o)) (addFr om.dst v (frs E ++ fr)) := by
          intro t y hl
          obtain ⟨ht, hl⟩ := selF_get hl
          obtain ⟨hdt, hwr⟩ := hlook t ht
          have hgo : lk t (frs E ++ fr) = some y := by
            rcases lk_app hl with hl | ⟨hn, hl⟩
            · obtain ⟨e, he, hd, hx⟩ := mem_frs.1 hl
              obtain ⟨oe, hoe, hde⟩ := hop e he
              rw [List.getElem?_take, if_pos (hlt e he)] at hoe
              have hbt := hbits e.i (hwr e.i oe (hlt e he) hoe (by rw [← hde, hd]))
              rcases (h2 e.i).1 hbt with ⟨e', he', hi2⟩ | hi2
              · have := hg.idx e' (h1 e' he') e he hi2
                subst this
                exact lk_app_mem (fun p hp q hq => hfF p (mem_frs_sub h1 p hp) q (mem_frs_sub h1 q hq)) (mem_frs.2 ⟨e', he', hd, hx⟩)
              · have := hlt e he; omega
            · rw [lk_app_none fun p hp => hn p (mem_frs_sub h1 p hp)]; exact hl
          cases hd : om.dst with
          | none => exact hgo
          | some d =>
            show lk t ((d, v) :: (frs E ++ fr)) = some y
            rw [lk_cons, if_neg (fun e => hdt (by rw [hd, e]))]; exact hgo
        refine hsem _ _ σ2 g a w hsup (fun _ _ h => h) (fun _ => rfl) (fun p hp => by cases hp) h3 _ (fun v' g' w' hr' hv => .inr (.inr ⟨en :: E, g', v, σ2, fun e he => ?_, fun j => ?_, fun e he hne => List.mem_cons_of_mem _ (hin e he hne), ?_, h4⟩)) (by simpa using ho)
        · rcases List.mem_cons.1 he with rfl | he
          · exact hen
          · exact h1 e he
        · show (L j ∨ j = i) ↔ _
          rw [h2 j]
          constructor
          · rintro ((⟨e, he, h'⟩ | h') | rfl)
            · exact .inl ⟨e, List.mem_cons_of_mem _ he, h'⟩
            · exact .inr h'
            · exact .inl ⟨en, List.mem_cons_self, heni⟩
          · rintro (⟨e, he, h'⟩ | h')
            · rcases List.mem_cons.1 he with rfl | he
              · exact .inr (h'.symm.trans heni)
              · exact .inl (.inl ⟨e, he, h'⟩)
            · exact .inl (.inr h')
        · have hr' : Rel Γ (addFr om.dst v (frs E ++ fr)) σ2 g' a w' := hr'
          have hE' : ∀ e ∈ en :: E, e ∈ es := fun e he => by
            rcases List.mem_cons.1 he with rfl | he
            · exact hen
            · exact h1 e he
          cases hdd : o.dst with
          | none =>
            have : frs (en :: E) = frs E := by simp only [frs, hend, hdd]
            rw [this]; exact hr'
          | some d =>
            obtain ⟨hx, hdn⟩ := hdx d hdd
            have hxe : x = en.x := by
              have := lk_app_mem (l0 := fr) hfF (mem_frs.2 ⟨en, hen, by rw [hend, hdd], rfl⟩ : (d, en.x) ∈ frs es)
              rw [hx] at this; cases this; rfl
            have hne := hdm en hen d (by rw [hend, hdd])
            refine (hr'.put hdn hv).subF ?_
            have : frs (en :: E) = (d, x) :: frs E := by simp only [frs, hend, hdd, hxe]
            rw [this]
            intro t y hl
            cases hd : om.dst with
            | none => rw [hd] at hl; exact hl
            | some d2 =>
              rw [hd] at hl
              have hl : lk t ((d2, v) :: (d, x) :: (frs E ++ fr)) = some y := hl
              show lk t ((d, x) :: (d2, v) :: (frs E ++ fr)) = some y
              rw [lk_cons, lk_cons] at hl ⊢
              have hdd2 : ¬ d2 = d := fun e => hne (by rw [hd, e])
              by_cases c1 : d2 = t
              · rw [if_pos c1] at hl
                rw [if_neg (fun e => hdd2 (c1.trans e.symm)), if_pos c1]; exact hl
              · rw [if_neg c1] at hl
                by_cases c2 : d = t
                · rw [if_pos c2] at hl ⊢; exact hl
                · rw [if_neg c2] at hl
                  rw [if_neg c2, if_neg c1]; exact hl
      · have him : m < i := by
          obtain ⟨E, g, v, σ2, h1, h2, _⟩ := hC
          have : i ≠ m := fun e => hL ((h2 i).2 (.inr e))
          omega
        have hall : ∀ b, b < i → L b := fun b hb => hbits b (hm.tail i _ (Array.getElem?_eq_getElem (by simpa using hi')) him b hb)
        exact stepB (convC L a w hC fun b hb => hall b (by omega))
  · -- the end
    intro L a w hinv hall
    have hB : InvB L a w := by
      rcases hinv with hA | hB | hC
      · obtain ⟨E, g, h1, h2, _, h3⟩ := hA
        obtain ⟨e, he, hi2⟩ := (h2 m).1 (hall m (by simp; omega))
        have := hlt e (h1 e he); omega
      · exact hB
      · exact convC L a w hC fun b hb => hall b (by simp; omega)
    obtain ⟨j, hj1, hj2, hj3, hj4⟩ := hB
    have : j = ops.length := by
      rcases Nat.lt_or_ge j ops.length with h' | h'
      · have := (hj3 j).1 (hall j (by simpa using h')); omega
      · omega
    subst this
    rw [List.drop_length] at hj4
    exact hj4
  · intro i hi
    have : (Array.replicate ops.length false)[i]?.getD false = false := by
      rw [Array.getElem?_replicate]; split <;> rfl
    simp [this] at hi
  · unfold unl
    refine Nat.le_trans (List.length_filter_le _ _) (by simp)
  · left
    refine ⟨[], g, fun e he => by simp at he, fun j => ?_, fun k hk => ?_, hr.drawn _⟩
    rotate_left
    · have : (Array.replicate ops.length false)[k]?.getD false = false := by
        rw [Array.getElem?_replicate]; split <;> rfl
      simp [this] at hk
    have : (Array.replicate ops.length false)[j]?.getD false = false := by
      rw [Array.getElem?_replicate]; split <;> rfl
    simp [this]
end
end Go.QL
namespace Go.QL
open Go Go.RowKit
section
variable {P : Program} {Γ : Cx} {fr : Fr} {σ : Sg} {Q : Exit → Fr → Sg → Prop}
theorem AW_label {l : Nat} (h : Q .normal fr σ) : AW P Γ (.label l) Q fr σ := AW.mk fun hL g a w hr => wpIn_label ⟨fr, σ, g, hr, h⟩
def Exit.noGo (Q : Exit → Fr → Sg → Prop) : Exit → Fr → Sg → Prop
  | .goto _, _, _ => False
  | e, fr, σ => Q e fr σ
section
variable {b : Frame} {a : Act} {k : List Item} {cs : List Frame} {w : World}
theorem stepR_scope {c : Code} : step P (lone (b.atR a (.code (.scope c) :: k)) cs w) = .next (lone (b.atR a (.code c :: .inScope c :: k)) cs w) :=
  step_lone_go (by simp [stepG, stepG.exec, Frame.atR])
theorem stepR_inScope {c : Code} : step P (lone (b.atR a (.inScope c :: k)) cs w) = .next (lone (b.atR a k) cs w) :=
  step_lone_go (by simp [stepG, stepG.exec, Frame.atR])
end
theorem AW_scope {c : Code} (h : AW P Γ c (Exit.noGo Q) fr σ) : AW P Γ (.scope c) Q fr σ := by
  refine AW.mk fun hL g a w hr b k cs hro hb hrm => ?_
  obtain ⟨e, a₁, w₁, ⟨fr1, σ1, g1, r1, hq⟩, harr⟩ := h.use hL hr b (.inScope c :: k) cs hro hb hrm
  have s0 : StepsIn (Machine.fenced P (FX Γ.ro)) P (lone (b.atR a (.code (.scope c) :: k)) cs w) (lone (b.atR a (.code c :: .inScope c :: k)) cs w) := .one (fenced_calm hb hrm rfl) stepR_scope
  cases e with
  | normal => exact ⟨.normal, a₁, w₁, ⟨fr1, σ1, g1, r1, hq⟩, StepsIn.trans s0 (StepsIn.trans harr (.one (fenced_calm hb hrm rfl) stepR_inScope))⟩
  | exit id =>
    refine ⟨.exit id, a₁, w₁, ⟨fr1, σ1, g1, r1, hq⟩, fun k' hk => StepsIn.trans s0 (harr.1 k' hk), fun hr' hk => ?_⟩
    obtain ⟨k₁, h1, h2⟩ := harr.2 hr' hk
    exact ⟨k₁, h1, StepsIn.trans s0 h2⟩
  | goto l => exact hq.elim
  | ret => exact ⟨.ret, a₁, w₁, ⟨fr1, σ1, g1, r1, hq⟩, fun hr' => let ⟨t, ht⟩ := harr.1 hr'; ⟨t, StepsIn.trans s0 ht⟩, fun hr' => let ⟨t, ht⟩ := harr.2 hr'; ⟨t, StepsIn.trans s0 ht⟩⟩
  | panic ch => obtain ⟨t, ht⟩ := harr; exact ⟨.panic ch, a₁, w₁, ⟨fr1, σ1, g1, r1, hq⟩, t, StepsIn.trans s0 ht⟩
  | outgrown => exact ⟨.outgrown, a₁, w₁, ⟨fr1, σ1, g1, r1, hq⟩, ArrivesIn.of_steps (e := .outgrown) (b := b) (k := k) (cs := cs) (a := a₁) (w := w₁) s0 harr⟩
end
end Go.QL
namespace Go.Proofs.YtfpaonfddaeamaaGreatDoor
open Go Go.QL
def tab : List (Nat × TI) := [
  (1, ⟨.other, 1, 8, [.nilFunc]⟩),
  (2, ⟨.int .i64, 1, 8, [.int .i64 0]⟩),
  (3, ⟨.int .i64, 1, 8, [.int .i64 0]⟩),
  (4, ⟨.bool, 1, 1, [.bool false]⟩),
  (5, ⟨.int .u8, 1, 1, [.int .u8 0]⟩),
  (6, ⟨.int .u8, 1, 1, [.int .u8 0]⟩),
  (7, ⟨.st [(0, 2), (1, 3), (2, 4), (3, 6)] [.int .i64, .int .i64, .bool, .int .u8], 4, 24, [.int .i64 0, .int .i64 0, .bool false, .int .u8 0]⟩),
  (8, ⟨.st [(0, 2), (1, 3), (2, 4), (3, 6)] [.int .i64, .int .i64, .bool, .int .u8], 4, 24, [.int .i64 0, .int .i64 0, .bool false, .int .u8 0]⟩),
  (9, ⟨.str, 1, 16, [.string ByteArray.empty]⟩),
  (10, ⟨.str, 1, 16, [.string ByteArray.empty]⟩),
  (11, ⟨.str, 1, 16, [.string ByteArray.empty]⟩),
  (12, ⟨.int .u64, 1, 8, [.int .u64 0]⟩),
  (13, ⟨.st [(0, 9), (1, 12)] [], 2, 24, [.string ByteArray.empty, .int .u64 0]⟩),
  (14, ⟨.st [(0, 9), (1, 12)] [], 2, 24, [.string ByteArray.empty, .int .u64 0]⟩),
  (15, ⟨.other, 1, 8, [.pointer none]⟩),
  (16, ⟨.other, 1, 8, [.pointer none]⟩),
  (17, ⟨.other, 1, 8, [.pointer none]⟩),
  (18, ⟨.st [(0, 17)] [], 1, 8, [.pointer none]⟩),
  (19, ⟨.st [(0, 17)] [], 1, 8, [.pointer none]⟩),
  (20, ⟨.other, 1, 16, [.nilIface]⟩),
  (21, ⟨.int .i32, 1, 4, [.int .i32 0]⟩),
  (22, ⟨.sl 38, 1, 24, [.slice none 0 0]⟩),
  (23, ⟨.sl 3, 1, 24, [.slice none 0 0]⟩),
  (24, ⟨.st [(0, 3), (1, 22), (2, 23)] [], 3, 56, [.int .i64 0, .slice none 0 0, .slice none 0 0]⟩),
  (25, ⟨.st [(0, 3), (1, 22), (2, 23)] [], 3, 56, [.int .i64 0, .slice none 0 0, .slice none 0 0]⟩),
  (26, ⟨.int .i64, 1, 8, [.int .i64 0]⟩),
  (28, ⟨.other, 1, 8, [.nilFunc]⟩),
  (30, ⟨.other, 1, 8, [.nilFunc]⟩),
  (31, ⟨.other, 1, 8, [.nilFunc]⟩),
  (32, ⟨.other, 1, 8, [.nilFunc]⟩),
  (33, ⟨.other, 1, 8, [.nilFunc]⟩),
  (35, ⟨.other, 1, 8, [.nilFunc]⟩),
  (36, ⟨.other, 1, 8, [.nilFunc]⟩),
  (37, ⟨.st [(0, 3), (1, 3), (2, 3)] [.int .i64, .int .i64, .int .i64], 3, 24, [.int .i64 0, .int .i64 0, .int .i64 0]⟩),
  (38, ⟨.st [(0, 3), (1, 3), (2, 3)] [.int .i64, .int .i64, .int .i64], 3, 24, [.int .i64 0, .int .i64 0, .int .i64 0]⟩),
  (39, ⟨.sl 9, 1, 24, [.slice none 0 0]⟩),
  (40, ⟨.other, 1, 8, [.nilFunc]⟩),
  (41, ⟨.other, 1, 8, [.nilFunc]⟩),
  (43, ⟨.other, 1, 8, [.nilFunc]⟩),
  (44, ⟨.other, 1, 8, [.nilFunc]⟩),
  (45, ⟨.other, 1, 8, [.nilFunc]⟩),
  (46, ⟨.other, 1, 8, [.nilFunc]⟩),
  (47, ⟨.other, 1, 8, [.nilFunc]⟩),
  (48, ⟨.other, 1, 8, [.nilFunc]⟩),
  (49, ⟨.other, 1, 8, [.nilFunc]⟩),
  (50, ⟨.other, 1, 8, [.nilFunc]⟩),
  (52, ⟨.other, 1, 8, [.nilFunc]⟩),
  (53, ⟨.sl 23, 1, 24, [.slice none 0 0]⟩),
  (54, ⟨.other, 1, 8, [.nilFunc]⟩),
  (55, ⟨.other, 1, 8, [.nilFunc]⟩),
  (56, ⟨.other, 1, 8, [.nilFunc]⟩),
  (57, ⟨.st [(0, 3), (1, 3)] [.int .i64, .int .i64], 2, 16, [.int .i64 0, .int .i64 0]⟩),
  (58, ⟨.st [(0, 3), (1, 3)] [.int .i64, .int .i64], 2, 16, [.int .i64 0, .int .i64 0]⟩),
  (59, ⟨.sl 58, 1, 24, [.slice none 0 0]⟩),
  (60, ⟨.other, 1, 8, [.nilFunc]⟩),
  (61, ⟨.sl 67, 1, 24, [.slice none 0 0]⟩),
  (63, ⟨.other, 1, 8, [.nilFunc]⟩),
  (64, ⟨.other, 1, 8, [.nilFunc]⟩),
  (65, ⟨.other, 1, 8, [.nilFunc]⟩),
  (66, ⟨.other, 1, 8, [.nilFunc]⟩),
  (67, ⟨.sl 4, 1, 24, [.slice none 0 0]⟩),
  (68, ⟨.other, 1, 8, [.nilFunc]⟩),
  (69, ⟨.other, 1, 8, [.nilFunc]⟩),
  (70, ⟨.other, 1, 8, [.nilFunc]⟩),
  (71, ⟨.other, 1, 8, [.nilFunc]⟩),
  (72, ⟨.other, 1, 8, [.nilFunc]⟩),
  (73, ⟨.other, 1, 8, [.nilFunc]⟩),
  (74, ⟨.other, 1, 8, [.nilFunc]⟩),
  (75, ⟨.other, 1, 8, [.nilFunc]⟩),
  (76, ⟨.other, 1, 16, [.nilIface]⟩),
  (77, ⟨.other, 1, 16, [.nilIface]⟩),
  (79, ⟨.other, 1, 8, [.nilFunc]⟩),
  (80, ⟨.other, 1, 8, [.nilFunc]⟩),
  (81, ⟨.other, 1, 8, [.nilFunc]⟩),
  (82, ⟨.other, 1, 8, [.nilFunc]⟩),
  (83, ⟨.other, 1, 8, [.nilFunc]⟩),
  (84, ⟨.other, 1, 8, [.pointer none]⟩),
  (85, ⟨.other, 1, 8, [.nilFunc]⟩),
  (86, ⟨.other, 1, 8, [.nilFunc]⟩),
  (87, ⟨.sl 112, 1, 24, [.slice none 0 0]⟩),
  (88, ⟨.sl 111, 1, 24, [.slice none 0 0]⟩),
  (89, ⟨.st [(0, 25), (3, 87), (4, 23), (5, 88)] [], 6, 128, [.int .i64 0, .slice none 0 0, .slice none 0 0, .slice none 0 0, .slice none 0 0, .slice none 0 0]⟩),
  (90, ⟨.st [(0, 25), (3, 87), (4, 23), (5, 88)] [], 6, 128, [.int .i64 0, .slice none 0 0, .slice none 0 0, .slice none 0 0, .slice none 0 0, .slice none 0 0]⟩),
  (92, ⟨.other, 1, 8, [.nilFunc]⟩),
  (93, ⟨.other, 1, 8, [.nilFunc]⟩),
  (94, ⟨.mp 3 58, 1, 8, [.map none]⟩),
  (95, ⟨.other, 1, 8, [.nilFunc]⟩),
  (96, ⟨.st [(0, 3), (1, 3)] [.int .i64, .int .i64], 2, 16, [.int .i64 0, .int .i64 0]⟩),
  (97, ⟨.st [(0, 3), (1, 3)] [.int .i64, .int .i64], 2, 16, [.int .i64 0, .int .i64 0]⟩),
  (98, ⟨.other, 1, 8, [.nilFunc]⟩),
  (99, ⟨.sl 53, 1, 24, [.slice none 0 0]⟩),
  (101, ⟨.other, 1, 8, [.nilFunc]⟩),
  (102, ⟨.other, 1, 8, [.nilFunc]⟩),
  (103, ⟨.sl 25, 1, 24, [.slice none 0 0]⟩),
  (104, ⟨.sl 5, 1, 24, [.slice none 0 0]⟩),
  (105, ⟨.other, 1, 8, [.nilFunc]⟩),
  (106, ⟨.other, 1, 8, [.nilFunc]⟩),
  (107, ⟨.other, 1, 8, [.nilFunc]⟩),
  (108, ⟨.other, 1, 8, [.nilFunc]⟩),
  (109, ⟨.other, 1, 8, [.nilFunc]⟩),
  (110, ⟨.int .u16, 1, 2, [.int .u16 0]⟩),
  (111, ⟨.int .u16, 1, 2, [.int .u16 0]⟩),
  (112, ⟨.ar 2 111, 2, 4, [.int .u16 0, .int .u16 0]⟩),
  (113, ⟨.other, 1, 8, [.nilFunc]⟩),
  (114, ⟨.ar 6 113, 6, 48, [.nilFunc, .nilFunc, .nilFunc, .nilFunc, .nilFunc, .nilFunc]⟩),
  (115, ⟨.other, 1, 8, [.nilFunc]⟩),
  (116, ⟨.st [(0, 97), (2, 3)] [.int .i64, .int .i64, .int .i64], 3, 24, [.int .i64 0, .int .i64 0, .int .i64 0]⟩),
  (117, ⟨.st [(0, 97), (2, 3)] [.int .i64, .int .i64, .int .i64], 3, 24, [.int .i64 0, .int .i64 0, .int .i64 0]⟩),
  (118, ⟨.mp 97 117, 1, 8, [.map none]⟩),
  (119, ⟨.sl 97, 1, 24, [.slice none 0 0]⟩),
  (122, ⟨.other, 1, 8, [.nilFunc]⟩),
  (123, ⟨.other, 1, 8, [.nilFunc]⟩),
  (124, ⟨.other, 1, 8, [.nilFunc]⟩),
  (125, ⟨.other, 1, 8, [.nilFunc]⟩),
  (126, ⟨.other, 1, 8, [.nilFunc]⟩),
  (127, ⟨.other, 1, 8, [.nilFunc]⟩),
  (128, ⟨.other, 1, 8, [.nilFunc]⟩),
  (129, ⟨.other, 1, 8, [.nilFunc]⟩),
  (131, ⟨.other, 1, 8, [.nilFunc]⟩),
  (132, ⟨.other, 1, 8, [.nilFunc]⟩),
  (133, ⟨.int .i64, 1, 8, [.int .i64 0]⟩),
  (135, ⟨.other, 1, 8, [.nilFunc]⟩),
  (136, ⟨.other, 1, 8, [.pointer none]⟩),
  (137, ⟨.other, 1, 8, [.nilFunc]⟩),
  (138, ⟨.other, 1, 8, [.nilFunc]⟩),
  (139, ⟨.other, 1, 8, [.nilFunc]⟩),
  (140, ⟨.ar 24 5, 24, 24, [.int .u8 0, .int .u8 0, .int .u8 0, .int .u8 0, .int .u8 0, .int .u8 0, .int .u8 0, .int .u8 0, .int .u8 0, .int .u8 0, .int .u8 0, .int .u8 0, .int .u8 0, .int .u8 0, .int .u8 0, .int .u8 0, .int .u8 0, .int .u8 0, .int .u8 0, .int .u8 0, .int .u8 0, .int .u8 0, .int .u8 0, .int .u8 0]⟩),
  (141, ⟨.int .u64, 1, 8, [.int .u64 0]⟩),
  (142, ⟨.other, 1, 8, [.nilFunc]⟩),
  (143, ⟨.other, 1, 8, [.nilFunc]⟩),
  (145, ⟨.other, 1, 8, [.nilFunc]⟩),
  (146, ⟨.other, 1, 8, [.nilFunc]⟩),
  (147, ⟨.int .u64, 1, 8, [.int .u64 0]⟩),
  (149, ⟨.other, 1, 8, [.nilFunc]⟩),
  (150, ⟨.other, 1, 8, [.nilFunc]⟩),
  (151, ⟨.st [(0, 9), (1, 9), (2, 77)] [], 3, 48, [.string ByteArray.empty, .string ByteArray.empty, .nilIface]⟩),
  (152, ⟨.st [(0, 9), (1, 9), (2, 77)] [], 3, 48, [.string ByteArray.empty, .string ByteArray.empty, .nilIface]⟩),
  (153, ⟨.other, 1, 8, [.nilFunc]⟩),
  (154, ⟨.other, 1, 8, [.nilFunc]⟩),
  (155, ⟨.ar 20 141, 20, 160, [.int .u64 0, .int .u64 0, .int .u64 0, .int .u64 0, .int .u64 0, .int .u64 0, .int .u64 0, .int .u64 0, .int .u64 0, .int .u64 0, .int .u64 0, .int .u64 0, .int .u64 0, .int .u64 0, .int .u64 0, .int .u64 0, .int .u64 0, .int .u64 0, .int .u64 0, .int .u64 0]⟩),
  (156, ⟨.int .u32, 1, 4, [.int .u32 0]⟩),
  (157, ⟨.ar 65 5, 65, 65, [.int .u8 0, .int .u8 0, .int .u8 0, .int .u8 0, .int .u8 0, .int .u8 0, .int .u8 0, .int .u8 0, .int .u8 0, .int .u8 0, .int .u8 0, .int .u8 0, .int .u8 0, .int .u8 0, .int .u8 0, .int .u8 0, .int .u8 0, .int .u8 0, .int .u8 0, .int .u8 0, .int .u8 0, .int .u8 0, .int .u8 0, .int .u8 0, .int .u8 0, .int .u8 0, .int .u8 0, .int .u8 0, .int .u8 0, .int .u8 0, .int .u8 0, .int .u8 0, .int .u8 0, .int .u8 0, .int .u8 0, .int .u8 0, .int .u8 0, .int .u8 0, .int .u8 0, .int .u8 0, .int .u8 0, .int .u8 0, .int .u8 0, .int .u8 0, .int .u8 0, .int .u8 0, .int .u8 0, .int .u8 0, .int .u8 0, .int .u8 0, .int .u8 0, .int .u8 0, .int .u8 0, .int .u8 0, .int .u8 0, .int .u8 0, .int .u8 0, .int .u8 0, .int .u8 0, .int .u8 0, .int .u8 0, .int .u8 0, .int .u8 0, .int .u8 0, .int .u8 0]⟩),
  (158, ⟨.other, 1, 8, [.nilFunc]⟩),
  (160, ⟨.st [(0, 5), (1, 5)] [.int .u8, .int .u8], 2, 2, [.int .u8 0, .int .u8 0]⟩),
  (161, ⟨.st [(0, 5), (1, 5)] [.int .u8, .int .u8], 2, 2, [.int .u8 0, .int .u8 0]⟩),
  (162, ⟨.ar 16 161, 32, 32, [.int .u8 0, .int .u8 0, .int .u8 0, .int .u8 0, .int .u8 0, .int .u8 0, .int .u8 0, .int .u8 0, .int .u8 0, .int .u8 0, .int .u8 0, .int .u8 0, .int .u8 0, .int .u8 0, .int .u8 0, .int .u8 0, .int .u8 0, .int .u8 0, .int .u8 0, .int .u8 0, .int .u8 0, .int .u8 0, .int .u8 0, .int .u8 0, .int .u8 0, .int .u8 0, .int .u8 0, .int .u8 0, .int .u8 0, .int .u8 0, .int .u8 0, .int .u8 0]⟩),
  (164, ⟨.other, 1, 8, [.nilFunc]⟩),
  (165, ⟨.other, 1, 8, [.nilFunc]⟩),
  (166, ⟨.other, 1, 8, [.nilFunc]⟩),
  (167, ⟨.other, 1, 8, [.pointer none]⟩),
  (168, ⟨.other, 1, 8, [.pointer none]⟩),
  (169, ⟨.st [(0, 9)] [.str], 1, 16, [.string ByteArray.empty]⟩),
  (170, ⟨.st [(0, 9)] [.str], 1, 16, [.string ByteArray.empty]⟩),
  (171, ⟨.other, 1, 8, [.nilFunc]⟩),
  (172, ⟨.ar 32 5, 32, 32, [.int .u8 0, .int .u8 0, .int .u8 0, .int .u8 0, .int .u8 0, .int .u8 0, .int .u8 0, .int .u8 0, .int .u8 0, .int .u8 0, .int .u8 0, .int .u8 0, .int .u8 0, .int .u8 0, .int .u8 0, .int .u8 0, .int .u8 0, .int .u8 0, .int .u8 0, .int .u8 0, .int .u8 0, .int .u8 0, .int .u8 0, .int .u8 0, .int .u8 0, .int .u8 0, .int .u8 0, .int .u8 0, .int .u8 0, .int .u8 0, .int .u8 0, .int .u8 0]⟩),
  (173, ⟨.ar 64 5, 64, 64, [.int .u8 0, .int .u8 0, .int .u8 0, .int .u8 0, .int .u8 0, .int .u8 0, .int .u8 0, .int .u8 0, .int .u8 0, .int .u8 0, .int .u8 0, .int .u8 0, .int .u8 0, .int .u8 0, .int .u8 0, .int .u8 0, .int .u8 0, .int .u8 0, .int .u8 0, .int .u8 0, .int .u8 0, .int .u8 0, .int .u8 0, .int .u8 0, .int .u8 0, .int .u8 0, .int .u8 0, .int .u8 0, .int .u8 0, .int .u8 0, .int .u8 0, .int .u8 0, .int .u8 0, .int .u8 0, .int .u8 0, .int .u8 0, .int .u8 0, .int .u8 0, .int .u8 0, .int .u8 0, .int .u8 0, .int .u8 0, .int .u8 0, .int .u8 0, .int .u8 0, .int .u8 0, .int .u8 0, .int .u8 0, .int .u8 0, .int .u8 0, .int .u8 0, .int .u8 0, .int .u8 0, .int .u8 0, .int .u8 0, .int .u8 0, .int .u8 0, .int .u8 0, .int .u8 0, .int .u8 0, .int .u8 0, .int .u8 0, .int .u8 0, .int .u8 0]⟩),
  (174, ⟨.other, 1, 8, [.nilFunc]⟩),
  (175, ⟨.st [(0, 17), (1, 17), (2, 17), (3, 9)] [], 4, 40, [.pointer none, .pointer none, .pointer none, .string ByteArray.empty]⟩),
  (176, ⟨.st [(0, 17), (1, 17), (2, 17), (3, 9)] [], 4, 40, [.pointer none, .pointer none, .pointer none, .string ByteArray.empty]⟩),
  (177, ⟨.ar 0 16, 0, 0, []⟩),
  (178, ⟨.st [(0, 177)] [], 0, 0, []⟩),
  (179, ⟨.st [(0, 177)] [], 0, 0, []⟩),
  (180, ⟨.other, 1, 8, [.nilFunc]⟩),
  (181, ⟨.int .u8, 1, 1, [.int .u8 0]⟩),
  (182, ⟨.int .u8, 1, 1, [.int .u8 0]⟩),
  (183, ⟨.other, 1, 8, [.nilFunc]⟩),
  (184, ⟨.int .i32, 1, 4, [.int .i32 0]⟩),
  (185, ⟨.int .i32, 1, 4, [.int .i32 0]⟩),
  (186, ⟨.st [(0, 12), (1, 12), (2, 156), (3, 181), (4, 5), (5, 5), (6, 182), (7, 183), (8, 167), (9, 184), (10, 185)] [], 11, 48, [.int .u64 0, .int .u64 0, .int .u32 0, .int .u8 0, .int .u8 0, .int .u8 0, .int .u8 0, .nilFunc, .pointer none, .int .i32 0, .int .i32 0]⟩),
  (187, ⟨.st [(0, 12), (1, 12), (2, 156), (3, 181), (4, 5), (5, 5), (6, 182), (7, 183), (8, 167), (9, 184), (10, 185)] [], 11, 48, [.int .u64 0, .int .u64 0, .int .u32 0, .int .u8 0, .int .u8 0, .int .u8 0, .int .u8 0, .nilFunc, .pointer none, .int .i32 0, .int .i32 0]⟩),
  (188, ⟨.other, 1, 8, [.pointer none]⟩)]
set_option maxRecDepth 100000 in
theorem tab_is : tab.map (fun p => tiOf Tryz.prog p.1) = tab.map (fun p => some p.2) := by kernel_rfl
theorem tab_good : tab.all (fun p => tiGood p.2) = true := by kernel_rfl
def Tt : TT := fun T => lk T tab
theorem hTt : Tt.ok Tryz.prog := tab_ok tab_is tab_good
theorem hMix : Tryz.prog.follows .mixedOrders = true := by kernel_rfl
end Go.Proofs.YtfpaonfddaeamaaGreatDoor
namespace Go.Proofs.YtfpaonfddaeamaaGreatDoor
open Go Go.QL
theorem gd_none {p : Prop} (h : p) : Gd none p := h
theorem gd_any {gd : Option Bool} {p : Prop} (h : p) : Gd gd p := by
  cases gd with
  | none => exact h
  | some c => exact fun _ => h
theorem gd_self {c : Bool} : Gd (some c) (c = true) := fun h => h
theorem gd_some {c : Bool} {p : Prop} (h : c = true → p) : Gd (some c) p := h
theorem map_get {α β : Type} {f : α → β} {l : List α} {i : Nat} (h : i < l.length) : (l.map f)[((i : Int)).toNat]? = some (f l[i]) := by
  simp [h]
theorem map_get' {α β : Type} {f : α → β} {l : List α} {n : Int} (h0 : 0 ≤ n) (h : n.toNat < l.length) : (l.map f)[n.toNat]? = some (f (l[n.toNat]'h)) := by
  simp [h]
theorem andA {p q : Prop} (hq : q) (hp : p := by first | exact trivial | rfl | exact gd_self | exact gd_any (by omega) | exact fun h => h | decide | (constructor <;> simp [chunk, maxLen]; done) | (intro h; simpa using h)) : p ∧ q := ⟨hp, hq⟩
def sl (l : List Int) : AV := .x (.d (.s 1 (l.map fun n => [.v (.int .i64 n)])))
structure GateT where
  kind : Int
  a : Int
  b : Int
deriving DecidableEq
structure NetT where
  inn : Int
  gates : List GateT
  out : List Int
deriving DecidableEq
def gPV (g : GateT) : List PV := [.v (.int .i64 g.kind), .v (.int .i64 g.a), .v (.int .i64 g.b)]
def gatesPV (l : List GateT) : PV := .s 3 (l.map gPV)
def intsPV (l : List Int) : PV := .s 1 (l.map fun n => [.v (.int .i64 n)])
def netAV (n : NetT) : AV := .a [.d (.v (.int .i64 n.inn)), .d (gatesPV n.gates), .d (intsPV n.out)]
end Go.Proofs.YtfpaonfddaeamaaGreatDoor
namespace Go.Proofs
open Go.Shelf
def Tryz.laysM171_ren : Go.Shelf.Ren := ⟨fun | 129 => 107 | 171 => 37 | 243 => 60 | 246 => 81 | 283 => 94 | 284 => 95 | 285 => 96 | 286 => 97 | 317 => 106 | 318 => 108 | 319 => 109 | 320 => 110 | 337 => 115 | 338 => 116 | n => n, fun | 0 => 0 | 2 => 2 | 3 => 3 | 4 => 4 | 5 => 5 | 9 => 9 | 20 => 20 | 37 => 104 | 46 => 147 | 51 => 156 | 53 => 141 | 171 => 140 | 173 => 144 | 212 => 155 | 213 => 157 | 232 => 172 | 233 => 173 | n => n, fun | 17 => 3 | 18 => 6 | 19 => 7 | n => n⟩
theorem Tryz.laysM171 : Go.Proofs.LaysM.n171 Tryz.prog Tryz.laysM171_ren := {
  mixed := by kernel_rfl
  f129 := Tryz.func107.trans (congrArg some (by kernel_rfl))
  f171 := Tryz.func37.trans (congrArg some (by kernel_rfl))
  f243 := Tryz.func60.trans (congrArg some (by kernel_rfl))
  f246 := Tryz.func81.trans (congrArg some (by kernel_rfl))
  f283 := Tryz.func94.trans (congrArg some (by kernel_rfl))
  f284 := Tryz.func95.trans (congrArg some (by kernel_rfl))
  f285 := Tryz.func96.trans (congrArg some (by kernel_rfl))
  f286 := Tryz.func97.trans (congrArg some (by kernel_rfl))
  f317 := Tryz.func106.trans (congrArg some (by kernel_rfl))
  f318 := Tryz.func108.trans (congrArg some (by kernel_rfl))
  f319 := Tryz.func109.trans (congrArg some (by kernel_rfl))
  f320 := Tryz.func110.trans (congrArg some (by kernel_rfl))
  f337 := Tryz.func115.trans (congrArg some (by kernel_rfl))
  f338 := Tryz.func116.trans (congrArg some (by kernel_rfl))
  t0 := Tryz.underlying0
  a0 := Tryz.isAgg0
  z0 := Tryz.sizeOf0
  v0 := Tryz.zeroValue0
  t2 := Tryz.underlying2
  a2 := Tryz.isAgg2
  z2 := Tryz.sizeOf2
  v2 := Tryz.zeroValue2
  t3 := Tryz.underlying3
  a3 := Tryz.isAgg3
  z3 := Tryz.sizeOf3
  v3 := Tryz.zeroValue3
  t4 := Tryz.underlying4
  a4 := Tryz.isAgg4
  z4 := Tryz.sizeOf4
  v4 := Tryz.zeroValue4
  t5 := Tryz.underlying5
  a5 := Tryz.isAgg5
  z5 := Tryz.sizeOf5
  v5 := Tryz.zeroValue5
  t9 := Tryz.underlying9
  a9 := Tryz.isAgg9
  z9 := Tryz.sizeOf9
  v9 := Tryz.zeroValue9
  t20 := Tryz.underlying20
  a20 := Tryz.isAgg20
  z20 := Tryz.sizeOf20
  v20 := Tryz.zeroValue20
  t37 := Tryz.underlying104
  a37 := Tryz.isAgg104
  z37 := Tryz.sizeOf104
  v37 := Tryz.zeroValue104
  t46 := Tryz.underlying147
  a46 := Tryz.isAgg147
  z46 := Tryz.sizeOf147
  v46 := Tryz.zeroValue147
  t51 := Tryz.underlying156
  a51 := Tryz.isAgg156
  z51 := Tryz.sizeOf156
  v51 := Tryz.zeroValue156
  t53 := Tryz.underlying141
  a53 := Tryz.isAgg141
  z53 := Tryz.sizeOf141
  v53 := Tryz.zeroValue141
  t171 := Tryz.underlying140
  a171 := Tryz.isAgg140
  z171 := Tryz.sizeOf140
  v171 := Tryz.zeroValue140
  t173 := Tryz.underlying144
  a173 := Tryz.isAgg144
  z173 := Tryz.sizeOf144
  v173 := Tryz.zeroValue144
  t212 := Tryz.underlying155
  a212 := Tryz.isAgg155
  z212 := Tryz.sizeOf155
  v212 := Tryz.zeroValue155
  t213 := Tryz.underlying157
  a213 := Tryz.isAgg157
  z213 := Tryz.sizeOf157
  t232 := Tryz.underlying172
  a232 := Tryz.isAgg172
  z232 := Tryz.sizeOf172
  v232 := Tryz.zeroValue172
  t233 := Tryz.underlying173
  a233 := Tryz.isAgg173
  z233 := Tryz.sizeOf173
  v233 := Tryz.zeroValue173
  g17 := by kernel_rfl
  g18 := by kernel_rfl
  g19 := by kernel_rfl
  i0 := by kernel_rfl
  i2 := by kernel_rfl
  i3 := by kernel_rfl
  i4 := by kernel_rfl
  i5 := by kernel_rfl
  i9 := by kernel_rfl
  i20 := by kernel_rfl
  i37 := by kernel_rfl
  i46 := by kernel_rfl
  i51 := by kernel_rfl
  i53 := by kernel_rfl
  i171 := by kernel_rfl
  i173 := by kernel_rfl
  i212 := by kernel_rfl
  i232 := by kernel_rfl
  i233 := by kernel_rfl
  m17 := by kernel_rfl
  m18 := by kernel_rfl
  m19 := by kernel_rfl }
def Tryz.laysC172_ren : Go.Shelf.Ren := ⟨fun | 129 => 107 | 171 => 37 | 172 => 45 | 205 => 105 | 243 => 60 | 244 => 65 | 245 => 66 | 246 => 81 | 247 => 86 | 279 => 87 | 280 => 88 | 281 => 89 | 282 => 90 | 283 => 94 | 284 => 95 | 285 => 96 | 286 => 97 | 287 => 103 | 316 => 104 | 317 => 106 | 318 => 108 | 319 => 109 | 320 => 110 | 321 => 113 | 322 => 114 | 337 => 115 | 338 => 116 | n => n, fun | 0 => 0 | 2 => 2 | 3 => 3 | 4 => 4 | 5 => 5 | 9 => 9 | 20 => 20 | 21 => 21 | 37 => 104 | 46 => 147 | 51 => 156 | 53 => 141 | 75 => 77 | 76 => 78 | 80 => 174 | 85 => 134 | 127 => 167 | 143 => 168 | 145 => 170 | 167 => 133 | 168 => 136 | 171 => 140 | 173 => 144 | 175 => 148 | 210 => 152 | 212 => 155 | 213 => 157 | 232 => 172 | 233 => 173 | n => n, fun | 15 => 1 | 16 => 2 | 17 => 3 | 18 => 6 | 19 => 7 | n => n⟩
theorem Tryz.laysC172 : Go.Proofs.LaysC.n172 Tryz.prog Tryz.laysC172_ren := {
  mixed := by kernel_rfl
  f129 := Tryz.func107.trans (congrArg some (by kernel_rfl))
  f171 := Tryz.func37.trans (congrArg some (by kernel_rfl))
  f172 := Tryz.func45.trans (congrArg some (by kernel_rfl))
  f205 := Tryz.func105.trans (congrArg some (by kernel_rfl))
  f243 := Tryz.func60.trans (congrArg some (by kernel_rfl))
  f244 := Tryz.func65.trans (congrArg some (by kernel_rfl))
  f245 := Tryz.func66.trans (congrArg some (by kernel_rfl))
  f246 := Tryz.func81.trans (congrArg some (by kernel_rfl))
  f247 := Tryz.func86.trans (congrArg some (by kernel_rfl))
  f279 := Tryz.func87.trans (congrArg some (by kernel_rfl))
  f280 := Tryz.func88.trans (congrArg some (by kernel_rfl))
  f281 := Tryz.func89.trans (congrArg some (by kernel_rfl))
  f282 := Tryz.func90.trans (congrArg some (by kernel_rfl))
  f283 := Tryz.func94.trans (congrArg some (by kernel_rfl))
  f284 := Tryz.func95.trans (congrArg some (by kernel_rfl))
  f285 := Tryz.func96.trans (congrArg some (by kernel_rfl))
  f286 := Tryz.func97.trans (congrArg some (by kernel_rfl))
  f287 := Tryz.func103.trans (congrArg some (by kernel_rfl))
  f316 := Tryz.func104.trans (congrArg some (by kernel_rfl))
  f317 := Tryz.func106.trans (congrArg some (by kernel_rfl))
  f318 := Tryz.func108.trans (congrArg some (by kernel_rfl))
  f319 := Tryz.func109.trans (congrArg some (by kernel_rfl))
  f320 := Tryz.func110.trans (congrArg some (by kernel_rfl))
  f321 := Tryz.func113.trans (congrArg some (by kernel_rfl))
  f322 := Tryz.func114.trans (congrArg some (by kernel_rfl))
  f337 := Tryz.func115.trans (congrArg some (by kernel_rfl))
  f338 := Tryz.func116.trans (congrArg some (by kernel_rfl))
  t0 := Tryz.underlying0
  a0 := Tryz.isAgg0
  z0 := Tryz.sizeOf0
  v0 := Tryz.zeroValue0
  t2 := Tryz.underlying2
  a2 := Tryz.isAgg2
  z2 := Tryz.sizeOf2
  v2 := Tryz.zeroValue2
  t3 := Tryz.underlying3
  a3 := Tryz.isAgg3
  z3 := Tryz.sizeOf3
  v3 := Tryz.zeroValue3
  t4 := Tryz.underlying4
  a4 := Tryz.isAgg4
  z4 := Tryz.sizeOf4
  v4 := Tryz.zeroValue4
  t5 := Tryz.underlying5
  a5 := Tryz.isAgg5
  z5 := Tryz.sizeOf5
  v5 := Tryz.zeroValue5
  t9 := Tryz.underlying9
  a9 := Tryz.isAgg9
  z9 := Tryz.sizeOf9
  v9 := Tryz.zeroValue9
  t20 := Tryz.underlying20
  a20 := Tryz.isAgg20
  z20 := Tryz.sizeOf20
  v20 := Tryz.zeroValue20
  t21 := Tryz.underlying21
  a21 := Tryz.isAgg21
  z21 := Tryz.sizeOf21
  v21 := Tryz.zeroValue21
  t37 := Tryz.underlying104
  a37 := Tryz.isAgg104
  z37 := Tryz.sizeOf104
  v37 := Tryz.zeroValue104
  t46 := Tryz.underlying147
  a46 := Tryz.isAgg147
  z46 := Tryz.sizeOf147
  v46 := Tryz.zeroValue147
  t51 := Tryz.underlying156
  a51 := Tryz.isAgg156
  z51 := Tryz.sizeOf156
  v51 := Tryz.zeroValue156
  t53 := Tryz.underlying141
  a53 := Tryz.isAgg141
  z53 := Tryz.sizeOf141
  v53 := Tryz.zeroValue141
  t75 := Tryz.underlying77
  a75 := Tryz.isAgg77
  z75 := Tryz.sizeOf77
  v75 := Tryz.zeroValue77
  t76 := Tryz.underlying78
  a76 := Tryz.isAgg78
  z76 := Tryz.sizeOf78
  v76 := Tryz.zeroValue78
  t85 := Tryz.underlying134
  a85 := Tryz.isAgg134
  z85 := Tryz.sizeOf134
  v85 := Tryz.zeroValue134
  t127 := Tryz.underlying167
  a127 := Tryz.isAgg167
  z127 := Tryz.sizeOf167
  v127 := Tryz.zeroValue167
  t143 := Tryz.underlying168
  a143 := Tryz.isAgg168
  z143 := Tryz.sizeOf168
  v143 := Tryz.zeroValue168
  t145 := Tryz.underlying170
  a145 := Tryz.isAgg170
  z145 := Tryz.sizeOf170
  v145 := Tryz.zeroValue170
  t167 := Tryz.underlying133
  a167 := Tryz.isAgg133
  z167 := Tryz.sizeOf133
  v167 := Tryz.zeroValue133
  t168 := Tryz.underlying136
  a168 := Tryz.isAgg136
  z168 := Tryz.sizeOf136
  v168 := Tryz.zeroValue136
  t171 := Tryz.underlying140
  a171 := Tryz.isAgg140
  z171 := Tryz.sizeOf140
  v171 := Tryz.zeroValue140
  t173 := Tryz.underlying144
  a173 := Tryz.isAgg144
  z173 := Tryz.sizeOf144
  v173 := Tryz.zeroValue144
  t175 := Tryz.underlying148
  a175 := Tryz.isAgg148
  z175 := Tryz.sizeOf148
  v175 := Tryz.zeroValue148
  t210 := Tryz.underlying152
  a210 := Tryz.isAgg152
  z210 := Tryz.sizeOf152
  v210 := Tryz.zeroValue152
  t212 := Tryz.underlying155
  a212 := Tryz.isAgg155
  z212 := Tryz.sizeOf155
  v212 := Tryz.zeroValue155
  t213 := Tryz.underlying157
  a213 := Tryz.isAgg157
  z213 := Tryz.sizeOf157
  t232 := Tryz.underlying172
  a232 := Tryz.isAgg172
  z232 := Tryz.sizeOf172
  v232 := Tryz.zeroValue172
  t233 := Tryz.underlying173
  a233 := Tryz.isAgg173
  z233 := Tryz.sizeOf173
  v233 := Tryz.zeroValue173
  g15 := by kernel_rfl
  g16 := by kernel_rfl
  g17 := by kernel_rfl
  g18 := by kernel_rfl
  g19 := by kernel_rfl
  t80 := Tryz.underlying174
  a80 := Tryz.isAgg174
  z80 := Tryz.sizeOf174
  v80 := Tryz.zeroValue174
  i0 := by kernel_rfl
  i2 := by kernel_rfl
  i3 := by kernel_rfl
  i4 := by kernel_rfl
  i5 := by kernel_rfl
  i9 := by kernel_rfl
  i20 := by kernel_rfl
  i21 := by kernel_rfl
  i37 := by kernel_rfl
  i46 := by kernel_rfl
  i51 := by kernel_rfl
  i53 := by kernel_rfl
  i75 := by kernel_rfl
  i76 := by kernel_rfl
  i80 := by kernel_rfl
  i85 := by kernel_rfl
  i127 := by kernel_rfl
  i143 := by kernel_rfl
  i145 := by kernel_rfl
  i167 := by kernel_rfl
  i168 := by kernel_rfl
  i171 := by kernel_rfl
  i173 := by kernel_rfl
  i175 := by kernel_rfl
  i210 := by kernel_rfl
  i212 := by kernel_rfl
  i232 := by kernel_rfl
  i233 := by kernel_rfl
  m15 := by kernel_rfl
  m16 := by kernel_rfl
  m17 := by kernel_rfl
  m18 := by kernel_rfl
  m19 := by kernel_rfl
  c0 := by kernel_rfl
  c2 := by kernel_rfl
  c3 := by kernel_rfl
  c4 := by kernel_rfl
  c5 := by kernel_rfl
  c9 := by kernel_rfl
  c20 := by kernel_rfl
  c21 := by kernel_rfl
  c37 := by kernel_rfl
  c46 := by kernel_rfl
  c51 := by kernel_rfl
  c53 := by kernel_rfl
  c75 := by kernel_rfl
  c76 := by kernel_rfl
  c80 := by kernel_rfl
  c85 := by kernel_rfl
  c127 := by kernel_rfl
  c143 := by kernel_rfl
  c145 := by kernel_rfl
  c167 := by kernel_rfl
  c168 := by kernel_rfl
  c171 := by kernel_rfl
  c173 := by kernel_rfl
  c175 := by kernel_rfl
  c210 := by kernel_rfl
  c212 := by kernel_rfl
  c213 := by kernel_rfl
  c232 := by kernel_rfl
  c233 := by kernel_rfl }
def Tryz.lays146_ren : Go.Shelf.Ren := ⟨fun | 138 => 63 | 143 => 64 | 146 => 19 | 195 => 82 | 197 => 83 | 217 => 99 | 218 => 84 | 219 => 85 | 221 => 44 | 224 => 101 | 225 => 100 | 260 => 98 | 266 => 111 | 267 => 102 | 268 => 62 | 314 => 112 | n => n, fun | 0 => 0 | 3 => 3 | 4 => 4 | 5 => 5 | 9 => 9 | 21 => 21 | 31 => 39 | 46 => 147 | 51 => 156 | 105 => 130 | 119 => 159 | 138 => 161 | 139 => 162 | 146 => 163 | n => n, fun | 1 => 0 | 3 => 4 | 4 => 5 | n => n⟩
theorem Tryz.lays146 : Go.Proofs.Lays.n146 Tryz.prog Tryz.lays146_ren := {
  mixed := by kernel_rfl
  f138 := Tryz.func63.trans (congrArg some (by kernel_rfl))
  f143 := Tryz.func64.trans (congrArg some (by kernel_rfl))
  f146 := Tryz.func19.trans (congrArg some (by kernel_rfl))
  f195 := Tryz.func82.trans (congrArg some (by kernel_rfl))
  f197 := Tryz.func83.trans (congrArg some (by kernel_rfl))
  f217 := Tryz.func99.trans (congrArg some (by kernel_rfl))
  f218 := Tryz.func84.trans (congrArg some (by kernel_rfl))
  f219 := Tryz.func85.trans (congrArg some (by kernel_rfl))
  f221 := Tryz.func44.trans (congrArg some (by kernel_rfl))
  f224 := Tryz.func101.trans (congrArg some (by kernel_rfl))
  f225 := Tryz.func100.trans (congrArg some (by kernel_rfl))
  f260 := Tryz.func98.trans (congrArg some (by kernel_rfl))
  f266 := Tryz.func111.trans (congrArg some (by kernel_rfl))
  f267 := Tryz.func102.trans (congrArg some (by kernel_rfl))
  f268 := Tryz.func62.trans (congrArg some (by kernel_rfl))
  f314 := Tryz.func112.trans (congrArg some (by kernel_rfl))
  t0 := Tryz.underlying0
  a0 := Tryz.isAgg0
  z0 := Tryz.sizeOf0
  v0 := Tryz.zeroValue0
  t3 := Tryz.underlying3
  a3 := Tryz.isAgg3
  z3 := Tryz.sizeOf3
  v3 := Tryz.zeroValue3
  t4 := Tryz.underlying4
  a4 := Tryz.isAgg4
  z4 := Tryz.sizeOf4
  v4 := Tryz.zeroValue4
  t5 := Tryz.underlying5
  a5 := Tryz.isAgg5
  z5 := Tryz.sizeOf5
  v5 := Tryz.zeroValue5
  t9 := Tryz.underlying9
  a9 := Tryz.isAgg9
  z9 := Tryz.sizeOf9
  v9 := Tryz.zeroValue9
  t21 := Tryz.underlying21
  a21 := Tryz.isAgg21
  z21 := Tryz.sizeOf21
  v21 := Tryz.zeroValue21
  t31 := Tryz.underlying39
  a31 := Tryz.isAgg39
  z31 := Tryz.sizeOf39
  v31 := Tryz.zeroValue39
  t46 := Tryz.underlying147
  a46 := Tryz.isAgg147
  z46 := Tryz.sizeOf147
  v46 := Tryz.zeroValue147
  t51 := Tryz.underlying156
  a51 := Tryz.isAgg156
  z51 := Tryz.sizeOf156
  v51 := Tryz.zeroValue156
  t105 := Tryz.underlying130
  a105 := Tryz.isAgg130
  z105 := Tryz.sizeOf130
  v105 := Tryz.zeroValue130
  t119 := Tryz.underlying159
  a119 := Tryz.isAgg159
  z119 := Tryz.sizeOf159
  t138 := Tryz.underlying161
  a138 := Tryz.isAgg161
  z138 := Tryz.sizeOf161
  v138 := Tryz.zeroValue161
  t139 := Tryz.underlying162
  a139 := Tryz.isAgg162
  z139 := Tryz.sizeOf162
  v139 := Tryz.zeroValue162
  t146 := Tryz.underlying163
  a146 := Tryz.isAgg163
  z146 := Tryz.sizeOf163
  v146 := Tryz.zeroValue163
  g1 := by kernel_rfl
  g3 := by kernel_rfl
  g4 := by kernel_rfl }
def Tryz.lays104_ren : Go.Shelf.Ren := ⟨fun | 104 => 17 | 207 => 61 | 211 => 43 | n => n, fun | 3 => 3 | 4 => 4 | 9 => 9 | 24 => 42 | n => n, fun | n => n⟩
theorem Tryz.lays104 : Go.Proofs.Lays.n104 Tryz.prog Tryz.lays104_ren := {
  mixed := by kernel_rfl
  f104 := Tryz.func17.trans (congrArg some (by kernel_rfl))
  f207 := Tryz.func61.trans (congrArg some (by kernel_rfl))
  f211 := Tryz.func43.trans (congrArg some (by kernel_rfl))
  t3 := Tryz.underlying3
  a3 := Tryz.isAgg3
  z3 := Tryz.sizeOf3
  v3 := Tryz.zeroValue3
  t4 := Tryz.underlying4
  a4 := Tryz.isAgg4
  z4 := Tryz.sizeOf4
  v4 := Tryz.zeroValue4
  t9 := Tryz.underlying9
  a9 := Tryz.isAgg9
  z9 := Tryz.sizeOf9
  v9 := Tryz.zeroValue9
  t24 := Tryz.underlying42
  a24 := Tryz.isAgg42
  z24 := Tryz.sizeOf42
  v24 := Tryz.zeroValue42 }
end Go.Proofs
namespace Go.QL
open Go Go.RowKit
section
variable {w0 : World} {K0 : Bs} {σ : Sg} {g : Gh} {w : World}
end
structure Stg where
  w : Nat
  ob : Bool
  fz : Bool
  re : List Nat
  fl : List Nat
def inL (l : List Nat) (i : Nat) : Bool := l.any (Nat.beq i)
def okOne (ms : List Nat) (m i : Nat) (ls : List Nat) : Bool := Nat.blt i m && !inL ls i && (List.range m).all fun b => !Nat.testBit (ms.getD i 0) b || inL ls b
theorem inL_iff {l : List Nat} {i : Nat} : inL l i = true ↔ i ∈ l := by
  unfold inL
  rw [List.any_eq_true]
  constructor
  · rintro ⟨x, hx, e⟩
    have := Nat.eq_of_beq_eq_true e
    subst this; exact hx
  · intro h; exact ⟨i, h, by simp⟩
section
variable {P : Program} {Γ : Cx} {fr : Fr} {σ : Sg} {Q : Exit → Fr → Sg → Prop}
structure GoodS (ops : List Oper) (ms : List Nat) (m nt : Nat) (es : List En) : Prop where
  idx : ∀ e ∈ es, ∀ e' ∈ es, e.i = e'.i → e = e'
  lt : ∀ e ∈ es, e.i < m
  op : ∀ e ∈ es, ∃ o, ops[e.i]? = some o ∧ e.d = o.dst ∧ ∀ t, o.dst = some t → t < nt
  cl : ∀ e ∈ es, ∀ b, (ms.getD e.i 0).testBit b = true → b < m → b ∈ es.map (·.i)
def SemF (P : Program) (Γ : Cx) (ops : List Oper) (ms : List Nat) (fr0 : Fr) (es : List En) (σ : Sg) (e : En) : Prop :=
  ∃ o, ops[e.i]? = some o ∧ SemE P Γ ops false (selF (frs (pickE (ms.getD e.i 0) es) ++ fr0) (looks ops o)) σ e.i o e.x none
theorem okOne_ok {ms : List Nat} {m i : Nat} {ls : List Nat} (h : okOne ms m i ls = true) : i < m ∧ i ∉ ls ∧ ∀ b, b < m → (ms.getD i 0).testBit b = true → b ∈ ls := by
  unfold okOne at h
  simp only [Bool.and_eq_true, List.all_eq_true] at h
  obtain ⟨⟨h1, h2⟩, h3⟩ := h
  refine ⟨Nat.le_of_ble_eq_true h1, fun hm => ?_, fun b hb hbit => ?_⟩
  · rw [inL_iff.2 hm] at h2; cases h2
  · have := h3 b (List.mem_range.2 hb)
    rw [hbit] at this
    exact inL_iff.1 (by simpa using this)
theorem GoodS.add {ops : List Oper} {ms : List Nat} {m nt : Nat} {es : List En} (hg : GoodS ops ms m nt es) {i : Nat} {o : Oper} {x : AV} {ob : Option (Nat × Ob)} (ho : ops[i]? = some o) (h1 : okOne ms m i (es.map (·.i)) = true) (hd : ∀ t, o.dst = some t → t < nt) :
    GoodS ops ms m nt (⟨i, o.dst, x, ob⟩ :: es) := by
  obtain ⟨h1, h2, h3⟩ := okOne_ok h1
  have hn : ∀ e ∈ es, e.i ≠ i := fun e he hi => h2 (List.mem_map.2 ⟨e, he, hi⟩)
  refine ⟨fun e he e' he' hii => ?_, fun e he => ?_, fun e he => ?_, fun e he b hb hbm => ?_⟩
  · rcases List.mem_cons.1 he with rfl | he <;> rcases List.mem_cons.1 he' with rfl | he'
    · rfl
    · exact absurd hii.symm (hn e' he')
    · exact absurd hii (hn e he)
    · exact hg.idx e he e' he' hii
  · rcases List.mem_cons.1 he with rfl | he
    · exact h1
    · exact hg.lt e he
  · rcases List.mem_cons.1 he with rfl | he
    · exact ⟨o, ho, rfl, hd⟩
    · exact hg.op e he
  · rcases List.mem_cons.1 he with rfl | he
    · exact List.mem_cons_of_mem _ (h3 b hbm hb)
    · exact List.mem_cons_of_mem _ (hg.cl e he b hb hbm)
theorem pickE_skip {ms k : Nat} {e : En} {es : List En} (h : ms.testBit e.i = false) : pickE ms (e :: es) = pickE ms es := by
  obtain ⟨i, d, x, ob⟩ := e
  show (bif bitOf ms i then _ else _) = _
  rw [bitOf_eq, h]; rfl
theorem SemF.add {ops : List Oper} {ms : List Nat} {m nt : Nat} {fr0 : Fr} {es : List En} {σ : Sg} (hg : GoodS ops ms m nt es) {en : En} (hen : en.i ∉ es.map (·.i)) (hm : en.i < m) {e : En} (he : e ∈ es) (h : SemF P Γ ops ms fr0 es σ e) : SemF P Γ ops ms fr0 (en :: es) σ e := by
  obtain ⟨o, ho, hs⟩ := h
  refine ⟨o, ho, ?_⟩
  rw [pickE_skip (k := 0)]
  · exact hs
  · cases hb : (ms.getD e.i 0).testBit en.i with
    | false => rfl
    | true => exact absurd (hg.cl e he en.i hb hm) hen
end
end Go.QL
namespace Go.QL
open Go Go.RowKit
def allN (g : Nat → Oper → Prop) : List Oper → Nat → Prop
  | [], _ => True
  | o :: r, i => g i o ∧ allN g r (i + 1)
theorem allN_get {g : Nat → Oper → Prop} : ∀ {l : List Oper} {k : Nat}, allN g l k → ∀ (j : Nat) (o : Oper), l[j]? = some o → g (k + j) o
  | [], _, _, j, o, h => by simp at h
  | x :: r, k, h, 0, o, hj => by cases hj; exact h.1
  | x :: r, k, h, j + 1, o, hj => by
    have := allN_get h.2 j o hj
    rwa [show k + 1 + j = k + (j + 1) by omega] at this
section
variable {P : Program} {Γ : Cx} {fr : Fr} {σ : Sg} {Q : Exit → Fr → Sg → Prop}
theorem land_pow {d i : Nat} (h : d.testBit i = false) : Nat.land d (Nat.pow 2 i) = 0 := by
  show d &&& 2 ^ i = 0
  apply Nat.eq_of_testBit_eq
  intro j
  rw [Nat.testBit_and, Nat.zero_testBit, Nat.testBit_two_pow]
  by_cases e : i = j
  · subst e; simp [h]
  · simp [e]
theorem land_sub {m d : Nat} (h : ∀ b, m.testBit b = true → d.testBit b = true) : Nat.land m d = m := by
  show m &&& d = m
  apply Nat.eq_of_testBit_eq
  intro j
  rw [Nat.testBit_and]
  cases hm : m.testBit j with
  | false => rfl
  | true => rw [h j hm]; rfl
end
end Go.QL
namespace Go.QL
open Go Go.RowKit
def PostL (tt : TT) (res : List ResultVar) (r : AV) : Exit → Fr → Sg → Prop
  | .normal, fr, σ | .ret, fr, σ => ∃ r', outcome tt res fr σ = some r' ∧ LeAV r' r
  | _, _, _ => False
theorem LeAV.refl (x : AV) : LeAV x x := by
  cases x with
  | t xs =>
    refine ⟨xs, rfl, ?_⟩
    induction xs with
    | nil => trivial
    | cons x r ih => exact ⟨LeAV1.refl x, ih⟩
  | x s => exact LeAV1.refl (.x s)
  | a s => exact LeAV1.refl (.a s)
  | g c s => exact LeAV1.refl (.g c s)
section
variable {P : Program}
theorem FnC_of_AWL {tt : TT} (htt : tt.ok P) {f : FuncId} {fn : Func} {c : Code} {args : List AV} {r : AV} {res : List ResultVar} (hf : P.funcs[f]? = some fn) (hb : fn.body = some c)
    (hname : (fn.name == "runtime.NumGoroutine") = false) (hres : fn.results = res.toArray) {nt : Nat} (hnt : fn.ntmps = nt) (hle : args.length ≤ nt)
    (h : ∀ w0 K0, AW P (Cx.lone w0 K0 nt) c (PostL tt res r) (entry 0 args) []) : FnC P f args r := by
  refine ⟨⟨fn, hf, by rw [hb]; rfl, hname⟩, fun K w vs hL hK hs hv => ?_⟩
  refine calls_of_wp hf hb ((wpIn_wide (n := 0)).1 ?_)
  have hrel : Rel (Cx.lone w ⟨K, (· < w.heap.size)⟩ nt) (entry 0 args) [] ⟨K, fun _ => undef⟩ ⟨vs ++ Array.replicate (fn.ntmps - vs.size) undef, []⟩ w := by
    refine ⟨⟨.refl _ _, fun _ h => h, .refl _ _, fun _ _ _ h => h, hK, (fun id ob hid => by cases hid), (fun id b hi => by cases hi), (fun i j b hi => by cases hi)⟩, fun t x ht => ?_, by simp; omega, DRb.empty, fun s v hb => hb.elim⟩
    obtain ⟨_, hx⟩ := lk_entry args 0 t x ht
    rw [Nat.sub_zero] at hx
    have hlt : t < args.length := (List.getElem?_eq_some_iff.1 hx).1
    refine ⟨by show t < nt; omega, ?_⟩
    have hvt : vs[t]? = some (vs[t]'(by omega)) := Array.getElem?_eq_getElem (by omega)
    have e : (vs ++ Array.replicate (fn.ntmps - vs.size) undef).getD t undef = vs[t]'(by omega) := by
      rw [Array.getD_eq_getD_getElem?, Array.getElem?_append_left (by omega), hvt]; rfl
    show VR _ _ _ _ ((vs ++ Array.replicate (fn.ntmps - vs.size) undef).getD t undef)
    rw [e]
    exact VR_of_VR2 (hv t x _ hx hvt)
  refine wpIn_mono ((h w ⟨K, (· < w.heap.size)⟩).use hL hrel) ?_
  intro e a' w' ⟨fr, σ, g, hr, hq⟩
  have fin : (∃ r', outcome tt res fr σ = some r' ∧ LeAV r' r) → a'.defers = [] ∧ ∃ v, (results fn a'.tmps).run P w' = .ok v w' ∧ ∃ v_1 K', Ending.returned v = .returned v_1 ∧ Below w.heap.size w w' ∧ Ext K w K' w' ∧
      (∀ b o, b < w.heap.size → K' b o → K b o) ∧ (∀ b o, K' b o → b < w'.heap.size) ∧ VR2 [] ⟨K', fun _ => undef⟩ w' r v_1 := by
    rintro ⟨r', ho, hle⟩
    obtain ⟨v, hrun, hvr⟩ := outcome_ok htt hr hres ho (μ := fun _ => undef)
    exact ⟨hr.defers.nil, v, hrun, v, Kall σ g w', rfl, hr.hp.kept.below, hr.hp.ext.trans Kall_ext, Kall_old hr.hp, Kall_val hr.hp, hle.ok hvr⟩
  cases e with
  | normal => exact fin hq
  | ret => exact fin hq
  | _ => exact hq.elim
end
end Go.QL
namespace Go.QL.DC
open Go Go.RowKit Go.QL
structure En where
  i : Nat
  d : Option Tmp
  x : AV
  ob : Sg
def frs : List En → Fr
  | [] => []
  | ⟨_, d, x, _⟩ :: r => match d with | some d => (d, x) :: frs r | none => frs r
def obs : List En → Sg
  | [] => []
  | ⟨_, _, _, ob⟩ :: r => ob ++ obs r
def pickE (m : Nat) : List En → List En
  | [] => []
  | ⟨i, d, x, ob⟩ :: r => bif bitOf m i then ⟨i, d, x, ob⟩ :: pickE m r else pickE m r
def addOb (ob : Sg) (σ : Sg) : Sg := ob ++ σ
def ndB : List Nat → Bool
  | [] => true
  | x :: r => r.all (fun y => !Nat.beq x y) && ndB r
def newNames (nob σ : Sg) : Bool := nob.all (fun p => !(lk p.1 σ).isSome) && ndB (nob.map (·.1))
def oL : Option (Nat × Ob) → Sg
  | some p => [p]
  | none => []
def opDrC (P : Program) (tt : TT) (all : List Oper) (ob : Bool) (fr : Fr) (σ σt : Sg) (id : Nat) (o : Oper) (kk : Option Bool → AV → Sg → Prop) : Prop :=
  match o.op with
  | .call ⟨.value f, args, _⟩ => guardK all fr o.guard fun gd => ev1 fr gd f fun fv => evL fr gd args.toList fun vs =>
    (match fv, gd with
    | .x (.f (.func fid) first captured), none => ∃ rv nob, (ob && newNames nob σt) = true ∧ (∀ σE, (∀ p ∈ nob, lk p.1 σE = none) → ACall P fid (first.map .x ++ vs ++ captured.map .x) σE fun r' σ' => r' = rv ∧ σ' = nob ++ σE) ∧ kk none rv nob
    | _, _ => False)
  | _ => opDr P tt all ob fr σ id o fun gd v nob => kk gd v (oL nob)
def vcDr (P : Program) (tt : TT) (nt : Nat) (all : List Oper) (ob : Bool) (ms : List Nat) (fr0 : Fr) (σ0 : Sg) (k : Fr → Sg → Prop) : List Oper → List En → Nat → Fr → Sg → Prop
  | [], _, _, fr, σ => k fr σ
  | o :: r, es, i, fr, σ =>
    idFor σ o.dst fun id => opDrC P tt all ob (selF (frs (pickE (ms.getD i 0) es) ++ fr0) (looks all o)) (obs (pickE (ms.getD i 0) es) ++ σ0) σ id o fun gd v nob =>
      putE nt o.dst gd v fun x => vcDr P tt nt all ob ms fr0 σ0 k r (⟨i, o.dst, x, nob⟩ :: es) (i + 1) (addFr o.dst x fr) (addOb nob σ)
section
variable {P : Program} {Γ : Cx} {Qq : Exit → Act → World → Prop}
def SemE (P : Program) (Γ : Cx) (all : List Oper) (ob : Bool) (fr : Fr) (σ : Sg) (i : Nat) (o : Oper) (x : AV) (nob : Sg) : Prop :=
  ∀ (Qq : Exit → Act → World → Prop) (frE : Fr) (σE : Sg) (g : Gh) (a : Act) (w : World), Sup fr frE → Sup σ σE → (ob = false → σE = σ) → (∀ p, p ∈ nob → lk p.1 σE = none) → Rel Γ frE σE g a w →
    ∀ K : Act → World → Prop, (∀ v g' w', Rel Γ frE (addOb nob σE) g' a w' → VR (addOb nob σE) g' w' x v → K (a.put o.dst v) w') → all.toArray[i]? = some o → wpOpIn (FX Γ.ro) 0 P all.toArray Qq i K a w
theorem SemE.of {all : List Oper} {ob : Bool} {fr : Fr} {σ : Sg} {i : Nat} {o : Oper} {x : AV} {nob : Option (Nat × Ob)} (h : QL.SemE P Γ all ob fr σ i o x nob) : SemE P Γ all ob fr σ i o x (oL nob) := by
  intro Qq frE σE g a w hf hs hob hid hr K hK ho
  refine h Qq frE σE g a w hf hs hob (fun p hp => hid p (by subst hp; exact List.mem_singleton.2 rfl)) hr K (fun v g' w' hr' hv => hK v g' w' ?_ ?_) ho
  · cases nob <;> exact hr'
  · cases nob <;> exact hv
theorem opDrC_ok {tt : TT} (htt : tt.ok P) (hL : Laid P Γ.K0.K Γ.w0) {all : List Oper} {ob : Bool} {fr : Fr} {σ σt : Sg} {id : Nat} (hid : lk id σt = none) {o : Oper} {kk : Option Bool → AV → Sg → Prop}
    (h : opDrC P tt all ob fr σ σt id o kk) (i : Nat) :
    ∃ gd x nob, kk gd x nob ∧ (nob = [] ∨ (ob = true ∧ newNames nob σt = true)) ∧ SemE P Γ all ob fr σ i o (wrapG gd x) nob := by
  unfold opDrC at h
  split at h
  · rename_i f args ts hop
    have hnd : ∀ c, o.op ≠ .defer c := fun c hc => by rw [hc] at hop; cases hop
    obtain ⟨gd, h, hgd⟩ := guardK_ok h
    obtain ⟨fv, h2, hfv⟩ := ev1_on h
    clear h
    obtain ⟨vs, h, hl, hvs⟩ := evL_on h2
    clear h2
    split at h
    · rename_i fid first captured
      obtain ⟨rv, nob, hnn, hac, hk⟩ := h
      simp only [Bool.and_eq_true] at hnn
      refine ⟨none, rv, nob, hk, .inr hnn, ?_⟩
      intro Qq frE σE g a w hf hs hob hid' hr K hK ho
      obtain ⟨hwant, _⟩ := hgd Γ σE g a w (hr.subF hf) o rfl
      unfold wpOpIn
      simp only [ho]
      rw [if_pos (hwant.2 (.inl rfl))]
      have hac := hac σE hid'
      have hrD := hr.subF hf
      have hsr : SR σE g w (.f (.func fid) first captured) (a.eval f) := hfv (.inl rfl) Γ σE g a w hrD
      generalize hae : a.eval f = fval at hsr
      cases hsr with
      | f _ _ _ v1 v2 s1 s2 r1 r2 =>
        have hvl : vs.length = (args.map a.eval).size := by simpa using hl
        have hargs := call_args (us := args.map a.eval) s1 s2 r1 r2 hvl (fun j x v hx hv => by
          rw [Array.getElem?_map] at hv
          cases ha : args[j]? with
          | none => rw [ha] at hv; cases hv
          | some y => rw [ha] at hv; cases hv; exact hvs (.inl rfl) Γ σE g a w hrD _ x y hx (by simpa using ha))
        have hsize : (v1 ++ args.map a.eval ++ v2).size = (first.map AV.x ++ vs ++ captured.map AV.x).length := by
          simp at hvl; simp [s1, s2, hvl]
        refine ⟨fun _ _ => trivial, ?_⟩
        rw [Oper.semAt_eq _ _ o hnd, run_call hop hae hac.1 w]
        refine ⟨depthX, callsIn_FX.2 ?_⟩
        refine (hac.2 Γ.w0 Γ.K0 g w _ hL hr.hp hsize hargs).mono fun e w' ⟨v, g', σ', r, he, hd, hv, hR⟩ => ?_
        obtain ⟨rfl, rfl⟩ := hR
        subst he
        exact hK v g' w' (hr.did hd) (VR_of_VR2 hv)
    · exact h.elim
  · obtain ⟨gd, x, nob, hk, hn, hs⟩ := opDr_ok (Γ := Γ) htt hL h i
    refine ⟨gd, x, oL nob, hk, ?_, SemE.of hs⟩
    rcases hn with rfl | ⟨h1, _, b, rfl⟩
    · exact .inl rfl
    · exact .inr ⟨h1, by simp [newNames, oL, hid, ndB]⟩
theorem mem_frs {E : List En} {p : Nat × AV} : p ∈ frs E ↔ ∃ e ∈ E, e.d = some p.1 ∧ e.x = p.2 := by
  induction E with
  | nil => simp [frs]
  | cons e r ih =>
    unfold frs
    cases hd : e.d with
    | none =>
      simp only [ih, List.mem_cons]
      constructor
      · rintro ⟨e', h, h'⟩; exact ⟨e', .inr h, h'⟩
      · rintro ⟨e', rfl | h, h'⟩
        · rw [hd] at h'; cases h'.1
        · exact ⟨e', h, h'⟩
    | some d =>
      simp only [List.mem_cons, ih]
      constructor
      · rintro (rfl | ⟨e', h, h'⟩)
        · exact ⟨e, .inl rfl, hd, rfl⟩
        · exact ⟨e', .inr h, h'⟩
      · rintro ⟨e', rfl | h, h1, h2⟩
        · left; rw [hd] at h1; cases h1; obtain ⟨a, b⟩ := p; cases h2; rfl
        · exact .inr ⟨e', h, h1, h2⟩
theorem mem_obs {E : List En} {p : Nat × Ob} : p ∈ obs E ↔ ∃ e ∈ E, p ∈ e.ob := by
  induction E with
  | nil => simp [obs]
  | cons e r ih =>
    unfold obs
    rw [List.mem_append, ih]
    constructor
    · rintro (h | ⟨e', h, h'⟩)
      · exact ⟨e, List.mem_cons_self, h⟩
      · exact ⟨e', List.mem_cons_of_mem _ h, h'⟩
    · rintro ⟨e', h, h'⟩
      rcases List.mem_cons.1 h with rfl | h
      · exact .inl h'
      · exact .inr ⟨e', h, h'⟩
theorem mem_pickE {m : Nat} {e : En} : ∀ {E : List En}, e ∈ pickE m E → e ∈ E ∧ m.testBit e.i = true
  | [], h => by simp [pickE] at h
  | x :: r, h => by
    unfold pickE at h
    rw [bitOf_eq] at h
    cases hb : m.testBit x.i with
    | true =>
      rw [hb] at h
      rcases List.mem_cons.1 h with rfl | h
      · exact ⟨List.mem_cons_self, hb⟩
      · exact ⟨List.mem_cons_of_mem _ (mem_pickE h).1, (mem_pickE h).2⟩
    | false =>
      rw [hb] at h
      exact ⟨List.mem_cons_of_mem _ (mem_pickE h).1, (mem_pickE h).2⟩
theorem pickE_mem {m : Nat} {e : En} : ∀ {E : List En}, e ∈ E → m.testBit e.i = true → e ∈ pickE m E
  | [], h, _ => by simp at h
  | x :: r, h, hb => by
    unfold pickE
    rw [bitOf_eq]
    rcases List.mem_cons.1 h with rfl | h
    · rw [hb]; exact List.mem_cons_self
    · cases m.testBit x.i with
      | true => exact List.mem_cons_of_mem _ (pickE_mem h hb)
      | false => exact pickE_mem h hb
theorem addFr_eq (e : En) (E : List En) (fr0 : Fr) : addFr e.d e.x (frs E ++ fr0) = frs (e :: E) ++ fr0 := by
  unfold addFr; simp only [frs]; cases e.d <;> rfl
theorem addOb_eq (e : En) (E : List En) (σ0 : Sg) : addOb e.ob (obs E ++ σ0) = obs (e :: E) ++ σ0 := by
  unfold addOb; simp only [obs]; rw [List.append_assoc]
theorem ndB_ok : ∀ {l : Sg}, ndB (l.map (·.1)) = true → ∀ p ∈ l, ∀ q ∈ l, p.1 = q.1 → p = q
  | [], _, p, hp, _, _, _ => by cases hp
  | x :: r, h, p, hp, q, hq, e => by
    simp only [List.map_cons, ndB, Bool.and_eq_true, List.all_eq_true] at h
    have hx : ∀ y ∈ r, x.1 ≠ y.1 := fun y hy he => by
      have := h.1 y.1 (List.mem_map.2 ⟨y, hy, rfl⟩)
      rw [he] at this; simp at this
    rcases List.mem_cons.1 hp with hp1 | hp1 <;> rcases List.mem_cons.1 hq with hq1 | hq1
    · rw [hp1, hq1]
    · exact absurd (by rw [← hp1]; exact e) (hx q hq1)
    · exact absurd (by rw [← hq1]; exact e.symm) (hx p hp1)
    · exact ndB_ok h.2 p hp1 q hq1 e
theorem newNames_ok {nob σ : Sg} (h : newNames nob σ = true) : (∀ p ∈ nob, lk p.1 σ = none) ∧ ∀ p ∈ nob, ∀ q ∈ nob, p.1 = q.1 → p = q := by
  unfold newNames at h
  simp only [Bool.and_eq_true, List.all_eq_true] at h
  refine ⟨fun p hp => ?_, ndB_ok h.2⟩
  have := h.1 p hp
  cases hl : lk p.1 σ with
  | none => rfl
  | some _ => rw [hl] at this; cases this
structure GoodE (P : Program) (Γ : Cx) (all : List Oper) (ob : Bool) (ms : List Nat) (fr0 : Fr) (σ0 : Sg) (es : List En) : Prop where
  idx : ∀ e ∈ es, ∀ e' ∈ es, e.i = e'.i → e = e'
  ids : ∀ e ∈ es, ∀ e' ∈ es, ∀ p q, p ∈ e.ob → q ∈ e'.ob → p.1 = q.1 → e = e' ∧ p = q
  id0 : ∀ e ∈ es, ∀ p, p ∈ e.ob → lk p.1 σ0 = none ∧ ob = true
  sem : ∀ e ∈ es, ∃ o D, all[e.i]? = some o ∧ e.d = o.dst ∧ (∀ t, o.dst = some t → t < Γ.nt) ∧ (∀ e' ∈ D, e' ∈ es ∧ (ms.getD e.i 0).testBit e'.i = true) ∧ (∀ e' ∈ es, (ms.getD e.i 0).testBit e'.i = true → e'.i < e.i → e' ∈ D) ∧
    SemE P Γ all ob (selF (frs D ++ fr0) (looks all o)) (obs D ++ σ0) e.i o e.x e.ob
theorem vcDr_ok {tt : TT} (htt : tt.ok P) (hL : Laid P Γ.K0.K Γ.w0) {all : List Oper} {ob : Bool} {ms : List Nat} {fr0 : Fr} {σ0 : Sg} {k : Fr → Sg → Prop} : ∀ (rest : List Oper) (es : List En) (i : Nat),
    vcDr P tt Γ.nt all ob ms fr0 σ0 k rest es i (frs es ++ fr0) (obs es ++ σ0) → (∀ (j : Nat) (o : Oper), rest[j]? = some o → all[i + j]? = some o) → (∀ e ∈ es, e.i < i) → (∀ j, j < i → ∃ e ∈ es, e.i = j) → GoodE P Γ all ob ms fr0 σ0 es →
    ∃ es', k (frs es' ++ fr0) (obs es' ++ σ0) ∧ GoodE P Γ all ob ms fr0 σ0 es' ∧ (∀ e ∈ es', e.i < i + rest.length) ∧ (∀ j, j < i + rest.length → ∃ e ∈ es', e.i = j)
  | [], es, i, h, _, hlt, hcov, hg => ⟨es, h, hg, hlt, hcov⟩
  | o :: rest, es, i, h, hall, hlt, hcov, hg => by
    unfold vcDr at h
    obtain ⟨id, hidn, h⟩ := idFor_ok h
    obtain ⟨gd, x, nob, hk, hnob, hsem⟩ := opDrC_ok (Γ := Γ) htt hL hidn h i
    obtain ⟨hk, hd⟩ := putE_ok hk
    let en : En := ⟨i, o.dst, wrapG gd x, nob⟩
    have e1 := addFr_eq en es fr0
    have e2 := addOb_eq en es σ0
    have hk : vcDr P tt Γ.nt all ob ms fr0 σ0 k rest (en :: es) (i + 1) (frs (en :: es) ++ fr0) (obs (en :: es) ++ σ0) := by
      rw [← e1, ← e2]; exact hk
    have hfresh : ob = true ∧ newNames nob (obs es ++ σ0) = true → (∀ p ∈ nob, ∀ e ∈ es, ∀ q ∈ e.ob, q.1 ≠ p.1) ∧ (∀ p ∈ nob, lk p.1 σ0 = none) ∧ ∀ p ∈ nob, ∀ q ∈ nob, p.1 = q.1 → p = q := by
      rintro ⟨_, hn⟩
      obtain ⟨h1, h2⟩ := newNames_ok hn
      have key : ∀ (L l0 : List (Nat × Ob)) (t : Nat), lk t (L ++ l0) = none → ∀ p ∈ L, p.1 ≠ t := by
        intro L l0 t
        induction L with
        | nil => intro _ p hp; simp at hp
        | cons q r ih =>
          intro h p hp
          obtain ⟨j, y⟩ := q
          rw [List.cons_append, lk_cons] at h
          by_cases ej : j = t
          · rw [if_pos ej] at h; cases h
          · rw [if_neg ej] at h
            rcases List.mem_cons.1 hp with rfl | hp
            · exact ej
            · exact ih h p hp
      refine ⟨fun p hp e he q hq => key _ _ _ (h1 p hp) q (mem_obs.2 ⟨e, he, hq⟩), fun p hp => ?_, h2⟩
      rw [← lk_app_none (L := obs es) (key _ _ _ (h1 p hp))]; exact h1 p hp
    have hnob : ∀ p ∈ nob, ob = true ∧ newNames nob (obs es ++ σ0) = true := fun p hp => by
      rcases hnob with hn | hn
      · rw [hn] at hp; cases hp
      · exact hn
    have := vcDr_ok htt hL rest (en :: es) (i + 1) hk (fun j o' hj => by
      have := hall (j + 1) o' hj
      rwa [Nat.add_assoc, Nat.add_comm 1 j]) (fun e he => by
      rcases List.mem_cons.1 he with rfl | he
      · exact Nat.lt_succ_self _
      · exact Nat.lt_succ_of_lt (hlt e he)) (fun j hj => by
      by_cases hji : j = i
      · exact ⟨en, List.mem_cons_self, hji.symm⟩
      · obtain ⟨e, he, h'⟩ := hcov j (by omega); exact ⟨e, List.mem_cons_of_mem _ he, h'⟩) ?_
    · obtain ⟨es', h1, h2, h3, h4⟩ := this
      refine ⟨es', h1, h2, fun e he => ?_, fun j hj => ?_⟩
      · have := h3 e he; simp; omega
      · exact h4 j (by simp at hj; omega)
    · refine ⟨fun e he e' he' hii => ?_, fun e he e' he' p q hp hq hpq => ?_, fun e he p hp => ?_, fun e he => ?_⟩
      · rcases List.mem_cons.1 he with rfl | he <;> rcases List.mem_cons.1 he' with rfl | he'
        · rfl
        · have := hlt e' he'; have : i = e'.i := hii; omega
        · have := hlt e he; have : e.i = i := hii; omega
        · exact hg.idx e he e' he' hii
      · rcases List.mem_cons.1 he with rfl | he <;> rcases List.mem_cons.1 he' with rfl | he'
        · exact ⟨rfl, (hfresh (hnob p hp)).2.2 p hp q hq hpq⟩
        · exact absurd hpq.symm ((hfresh (hnob p hp)).1 p hp e' he' q hq)
        · exact absurd hpq ((hfresh (hnob q hq)).1 q hq e he p hp)
        · exact hg.ids e he e' he' p q hp hq hpq
      · rcases List.mem_cons.1 he with rfl | he
        · exact ⟨(hfresh (hnob p hp)).2.1 p hp, (hnob p hp).1⟩
        · exact hg.id0 e he p hp
      · rcases List.mem_cons.1 he with rfl | he
        · refine ⟨o, pickE (ms.getD i 0) es, by simpa using hall 0 o rfl, rfl, hd, fun e' he' => ⟨List.mem_cons_of_mem _ (mem_pickE he').1, (mem_pickE he').2⟩, fun e' he' hb hlt' => ?_, hsem⟩
          rcases List.mem_cons.1 he' with rfl | he'
          · exact absurd hlt' (Nat.lt_irrefl _)
          · exact pickE_mem he' hb
        · obtain ⟨o', D, a1, a2, a3, a4, a6, a5⟩ := hg.sem e he
          refine ⟨o', D, a1, a2, a3, fun e' he' => ⟨List.mem_cons_of_mem _ (a4 e' he').1, (a4 e' he').2⟩, fun e' he' hb hlt' => ?_, a5⟩
          rcases List.mem_cons.1 he' with rfl | he'
          · have := hlt e he; have hlt' : i < e.i := hlt'; omega
          · exact a6 e' he' hb hlt'
theorem mem_frs_sub {D E : List En} (h : ∀ e ∈ D, e ∈ E) : ∀ p, p ∈ frs D → p ∈ frs E := fun p hp => by
  obtain ⟨e, he, h'⟩ := mem_frs.1 hp; exact mem_frs.2 ⟨e, h e he, h'⟩
variable {fr : Fr} {σ : Sg} {Q : Exit → Fr → Sg → Prop}
theorem AW_drawC {tt : TT} (htt : tt.ok P) (hmix : P.follows .mixedOrders = true) (m : Nat) (ob : Bool) (ms : List Nat) {id : Nat} {ops : List Oper} (hms : okMasks ms m ops 0 = true) (hlen : Nat.ble m ops.length = true)
    (hds : okDsts (ops.take m) [] = true) (hrd : okReads ops ms (ops.take m) (ops.take m) 0 = true)
    (h : vcDr P tt Γ.nt ops ob ms fr σ (fun fr' σ' => vcOps P tt Γ.nt ops (Q .normal) (ops.drop m) fr' σ') (ops.take m) [] 0 fr σ) : AW P Γ (.region id ops.toArray true) Q fr σ := by
  refine AW.mk fun hLd g a w hr => ?_
  have hm := MaskOK.of hms
  have hlen : m ≤ ops.length := Nat.le_of_ble_eq_true hlen
  have htake : (ops.take m).length = m := by simp; omega
  obtain ⟨es, hk, hg, hlt, hcov⟩ := vcDr_ok (Γ := Γ) htt hLd (ops.take m) [] 0 h (fun j o hj => by
      rw [List.getElem?_take] at hj
      by_cases hjm : j < m
      · rw [if_pos hjm] at hj; simpa using hj
      · rw [if_neg hjm] at hj; cases hj) (fun e he => by simp at he) (fun j hj => by omega)
      ⟨fun e he => by simp at he, fun e he => by simp at he, fun e he => by simp at he, fun e he => by simp at he⟩
  rw [htake] at hlt hcov
  simp only [Nat.zero_add] at hlt hcov
  obtain ⟨_, hd1⟩ := okDsts_ok hds
  have hrd := fun j o h => okReadsAt_ok (okReads_ok hrd j o h)
  simp only [Nat.zero_add] at hrd
  have hop : ∀ e ∈ es, ∃ o, (ops.take m)[e.i]? = some o ∧ e.d = o.dst := fun e he => by
    obtain ⟨o, D, h1, h2, _⟩ := hg.sem e he
    exact ⟨o, by rw [List.getElem?_take, if_pos (hlt e he)]; exact h1, h2⟩
  have hfF : ∀ p ∈ frs es, ∀ q ∈ frs es, p.1 = q.1 → p = q := by
    intro p hp q hq hpq
    obtain ⟨e, he, h1, h2⟩ := mem_frs.1 hp
    obtain ⟨e', he', h1', h2'⟩ := mem_frs.1 hq
    obtain ⟨o, ho, hd⟩ := hop e he
    obtain ⟨o', ho', hd'⟩ := hop e' he'
    have := hd1 e.i e'.i o o' p.1 ho ho' (by rw [← hd, h1]) (by rw [← hd', h1', hpq])
    have := hg.idx e he e' he' this
    subst this
    obtain ⟨p1, p2⟩ := p; obtain ⟨q1, q2⟩ := q
    simp only at *
    subst hpq; subst h2; subst h2'; rfl
  have hfO : ∀ p ∈ obs es, ∀ q ∈ obs es, p.1 = q.1 → p = q := by
    intro p hp q hq hpq
    obtain ⟨e, he, h1⟩ := mem_obs.1 hp
    obtain ⟨e', he', h1'⟩ := mem_obs.1 hq
    exact (hg.ids e he e' he' p q h1 h1' hpq).2
  have hfO0 : ∀ p ∈ obs es, lk p.1 σ = none := by
    intro p hp
    obtain ⟨e, he, h1⟩ := mem_obs.1 hp
    exact (hg.id0 e he p h1).1
  have supO : ∀ D E : List En, (∀ e ∈ D, e ∈ E) → (∀ e ∈ E, e ∈ es) → Sup (obs D ++ σ) (obs E ++ σ) := fun D E h1 h2 =>
    sup_app hfO hfO0 (fun p hp => by obtain ⟨e, he, h'⟩ := mem_obs.1 hp; exact mem_obs.2 ⟨e, h1 e he, h'⟩) (fun p hp => by obtain ⟨e, he, h'⟩ := mem_obs.1 hp; exact mem_obs.2 ⟨e, h2 e he, h'⟩)
  let InvA : (Nat → Prop) → Act → World → Prop := fun L a w => ∃ (E : List En) (g : Gh), (∀ e ∈ E, e ∈ es) ∧ (∀ j, L j ↔ ∃ e ∈ E, e.i = j) ∧ (∀ k, L k → ∀ b, (ms.getD k 0).testBit b = true → L b) ∧ Rel Γ (frs E ++ fr) (obs E ++ σ) g a w
  let InvB : (Nat → Prop) → Act → World → Prop := fun L a w => ∃ j, m ≤ j ∧ j ≤ ops.length ∧ (∀ b, L b ↔ b < j) ∧ wpLs Γ.ro P ops.toArray (Lift Γ Q) (ops.drop j) a w
  have conv : ∀ L a w, InvA L a w → (∀ b, b < m → L b) → InvB L a w := by
    intro L a w ⟨E, g, h1, h2, _, h3⟩ hall
    refine ⟨m, Nat.le_refl _, hlen, fun b => ⟨fun hb => ?_, hall b⟩, ?_⟩
    · obtain ⟨e, he, hi⟩ := (h2 b).1 hb
      rw [← hi]; exact hlt e (h1 e he)
    · have hsub : ∀ e ∈ es, e ∈ E := by
        intro e he
        obtain ⟨e', he', hi⟩ := (h2 e.i).1 (hall e.i (hlt e he))
        have := hg.idx e' (h1 e' he') e he hi
        subst this; exact he'
      have hr' : Rel Γ (frs es ++ fr) (obs es ++ σ) g a w := h3.same (lk_app_same (fun p hp q hq => hfF p ((mem_frs_sub h1) p hp) q ((mem_frs_sub h1) q hq)) (fun p => ⟨mem_frs_sub hsub p, mem_frs_sub h1 p⟩)) (supO E es h1 (fun e he => he)) (supO es E hsub h1)
      exact vcOps_ok htt hLd (fun _ _ h => h) (ops.drop m) _ _ hk g a w hr'
  refine wpIn_region_any hmix ?_
  refine wpAny_inv hm (fun L a w => InvA L a w ∨ InvB L a w) ?_ ?_ _ _ _ _ (by simp) ?_ ?_ ?_
  · -- a step
    intro L a w hinv i hi hL hbits
    have hi' : i < ops.length := by simpa using hi
    have stepB : InvB L a w → wpOpIn (FX Γ.ro) 0 P ops.toArray (Lift Γ Q) i (fun a w => InvA (fun j => L j ∨ j = i) a w ∨ InvB (fun j => L j ∨ j = i) a w) a w := by
      intro ⟨j, hj1, hj2, hj3, hj4⟩
      have hji : j ≤ i := by
        rcases Nat.lt_or_ge i j with h' | h'
        · exact absurd ((hj3 i).2 h') hL
        · exact h'
      have hij : i = j := by
        rcases Nat.lt_or_ge j i with h' | h'
        · have := hm.tail i _ (Array.getElem?_eq_getElem (by simpa using hi')) (by omega) j h'
          have := (hj3 j).1 (hbits j this)
          omega
        · omega
      subst hij
      rw [List.drop_eq_getElem_cons hi'] at hj4
      have hoi : ops.toArray[i]? = some ops[i] := by simp [hi']
      have hnew : ∀ a w, wpLs Γ.ro P ops.toArray (Lift Γ Q) (ops.drop (i + 1)) a w → InvA (fun j => L j ∨ j = i) a w ∨ InvB (fun j => L j ∨ j = i) a w := by
        intro a w hw
        refine .inr ⟨i + 1, by omega, by omega, fun b => ?_, hw⟩
        show (L b ∨ b = i) ↔ b < i + 1
        rw [hj3 b]; omega
      unfold wpOpIn
      simp only [hoi]
      unfold wpLs wpLk at hj4
      split
      · rename_i hwant
        rw [if_pos hwant] at hj4
        exact Oper.wpIn_mono hnew hj4
      · rename_i hwant
        rw [if_neg hwant] at hj4
        exact ⟨fun _ _ => trivial, hnew _ _ hj4⟩
    rcases hinv with hA | hB
    · rcases Nat.lt_or_ge i m with him | him
      · obtain ⟨E, g, h1, h2, hcl, h3⟩ := hA
        obtain ⟨en, hen, heni⟩ := hcov i him
        obtain ⟨o, D, a1, a2, a3, a4, a6, a5⟩ := hg.sem en hen
        rw [heni] at a1 a4 a5 a6
        have hDE : ∀ e ∈ D, e ∈ E := by
          intro e he
          obtain ⟨he1, he2⟩ := a4 e he
          obtain ⟨e', he', hi'⟩ := (h2 e.i).1 (hbits e.i he2)
          have := hg.idx e' (h1 e' he') e he1 hi'
          subst this; exact he'
        have hsup : Sup (selF (frs D ++ fr) (looks ops o)) (frs E ++ fr) := by
          intro t v hl
          obtain ⟨ht, hl⟩ := selF_get hl
          rcases lk_app hl with hl | ⟨hn, hl⟩
          · exact lk_app_mem (fun p hp q hq => hfF p (mem_frs_sub h1 p hp) q (mem_frs_sub h1 q hq)) (mem_frs_sub hDE _ hl)
          · rw [lk_app_none]
            · exact hl
            · intro p hp hpt
              obtain ⟨e, he, h1', h2'⟩ := mem_frs.1 hp
              obtain ⟨oe, hoe, hde⟩ := hop e (h1 e he)
              have hLe : L e.i := (h2 e.i).2 ⟨e, he, rfl⟩
              rcases hrd i o (by rw [List.getElem?_take, if_pos him]; exact a1) e.i oe t hoe (by rw [← hde, h1', hpt]) ht with hk | hk | hk
              · exact hL (hk ▸ hLe)
              · have hlt' : e.i < i := hm.lt i o (by simpa using a1) e.i hk
                exact hn p (mem_frs.2 ⟨e, a6 e (h1 e he) hk hlt', h1', h2'⟩) hpt
              · exact hL (hcl e.i hLe i hk)
        refine a5 _ (frs E ++ fr) (obs E ++ σ) g a w hsup (supO D E hDE h1) ?_ ?_ h3 _ ?_ (by simpa using a1)
        · intro hob
          have hn : ∀ X : List En, (∀ e ∈ X, e ∈ es) → obs X = [] := by
            intro X hX
            cases hx : obs X with
            | nil => rfl
            | cons p r =>
              obtain ⟨e, he, hp⟩ := mem_obs.1 (show p ∈ obs X by rw [hx]; exact List.mem_cons_self)
              have := (hg.id0 e (hX e he) p hp).2
              rw [hob] at this; cases this
          rw [hn E h1, hn D (fun e he => h1 e (hDE e he))]
        · intro p hp
          rw [lk_app_none]
          · exact (hg.id0 en hen p hp).1
          · intro q hq he
            obtain ⟨e', he', hq'⟩ := mem_obs.1 hq
            have := (hg.ids e' (h1 e' he') en hen q p hq' hp he).1
            subst this
            exact hL ((h2 i).2 ⟨e', he', heni⟩)
        · intro v g' w' hr' hv
          left
          refine ⟨en :: E, g', fun e he => ?_, fun j => ?_, fun k hk b hb => ?_, ?_⟩
          · rcases List.mem_cons.1 he with rfl | he
            · exact hen
            · exact h1 e he
          · show (L j ∨ j = i) ↔ _
            rw [h2 j]
            constructor
            · rintro (⟨e, he, h'⟩ | rfl)
              · exact ⟨e, List.mem_cons_of_mem _ he, h'⟩
              · exact ⟨en, List.mem_cons_self, heni⟩
            · rintro ⟨e, he, h'⟩
              rcases List.mem_cons.1 he with rfl | he
              · exact .inr (h'.symm.trans heni)
              · exact .inl ⟨e, he, h'⟩
          · rcases hk with hk | rfl
            · exact .inl (hcl k hk b hb)
            · exact .inl (hbits b hb)
          · rw [← addFr_eq, ← addOb_eq]
            rw [a2]
            cases hdd : o.dst with
            | none => exact hr'
            | some d => exact hr'.put (a3 d hdd) hv
      · have hall : ∀ b, b < i → L b := fun b hb => hbits b (hm.tail i _ (Array.getElem?_eq_getElem (by simpa using hi')) him b hb)
        exact stepB (conv L a w hA fun b hb => hall b (by omega))
    · exact stepB hB
  · -- the end
    intro L a w hinv hall
    have hB : InvB L a w := by
      rcases hinv with hA | hB
      · exact conv L a w hA fun b hb => hall b (by simp; omega)
      · exact hB
    obtain ⟨j, hj1, hj2, hj3, hj4⟩ := hB
    have : j = ops.length := by
      rcases Nat.lt_or_ge j ops.length with h' | h'
      · have := (hj3 j).1 (hall j (by simpa using h')); omega
      · omega
    subst this
    rw [List.drop_length] at hj4
    exact hj4
  · intro i hi
    have : (Array.replicate ops.length false)[i]?.getD false = false := by
      rw [Array.getElem?_replicate]; split <;> rfl
    simp [this] at hi
  · unfold unl
    refine Nat.le_trans (List.length_filter_le _ _) (by simp)
  · left
    refine ⟨[], g, fun e he => by simp at he, fun j => ?_, fun k hk => ?_, hr.drawn _⟩
    rotate_left
    · have : (Array.replicate ops.length false)[k]?.getD false = false := by
        rw [Array.getElem?_replicate]; split <;> rfl
      simp [this] at hk
    have : (Array.replicate ops.length false)[j]?.getD false = false := by
      rw [Array.getElem?_replicate]; split <;> rfl
    simp [this]
end
theorem dropK_nil : ∀ (σ : Sg), dropK [] σ = σ
  | [] => rfl
  | (i, o) :: r => by
    show (bif false then _ else _) = _
    rw [cond_false, dropK_nil r]
theorem ACall.anew {P : Program} {f : FuncId} {args : List AV} {rv : AV} {nob : Sg} (h : ACall P f args [] (fun r σ' => r = rv ∧ σ' = nob)) (ρ : Nat → Nat) {args' : List AV} {rv' : AV} {nob' : Sg}
    (ha : args' = args.map (rnAV ρ)) (hr : rv' = rnAV ρ rv) (hn : nob' = rnSg ρ nob) (hc : (args.all (rsAV2 []) && injK ρ (nob.map (·.1))) = true) (σE : Sg) (hf : ∀ p ∈ nob', lk p.1 σE = none) :
    ACall P f args' σE (fun r' σ' => r' = rv' ∧ σ' = nob' ++ σE) := by
  subst ha; subst hr; subst hn
  simp only [Bool.and_eq_true] at hc
  refine (h.frame ρ (σ := σE) trivial (by simp [hc.1, rsSg, injK]) ?_).mono ?_
  · rintro r1 σ1 ⟨rfl, rfl⟩
    unfold okNames
    simp only [List.map_nil, List.all_nil, Bool.and_true, List.any_nil, Bool.false_or, Bool.and_eq_true, List.all_eq_true, Bool.not_eq_true']
    refine ⟨hc.2, fun i hi => ?_⟩
    obtain ⟨p, hp, rfl⟩ := List.mem_map.1 hi
    have hm : ∃ q ∈ rnSg ρ σ1, q.1 = ρ p.1 := by
      clear hc hf hi h
      induction σ1 with
      | nil => cases hp
      | cons x r ih =>
        rcases List.mem_cons.1 hp with rfl | hp
        · exact ⟨_, List.mem_cons_self, rfl⟩
        · obtain ⟨q, hq, e⟩ := ih hp
          exact ⟨q, List.mem_cons_of_mem _ hq, e⟩
    obtain ⟨q, hq, e⟩ := hm
    have h1 := hf q hq
    rw [e] at h1
    cases hb : (σE.map (·.1)).any (Nat.beq (ρ p.1)) with
    | false => rfl
    | true =>
      have := lk_isSome_mem.2 (any_beq.1 hb)
      rw [h1] at this; cases this
  · rintro r σ' ⟨r1, σ1, ⟨rfl, rfl⟩, rfl, rfl⟩
    refine ⟨rfl, ?_⟩
    unfold after
    congr 1
    exact dropK_nil σE
end Go.QL.DC
namespace Go.QL
open Go Go.RowKit
def PCall (P : Program) (f : FuncId) (args : List AV) (σ : Sg) (R : AV → Sg → Prop) (Rp : Value → Sg → Prop) : Prop :=
  Good P f ∧ ∀ (w0 : World) (K0 : Bs) (g : Gh) (w : World) (vs : Array Value), Laid P K0.K w0 → Hp w0 K0 σ g w → vs.size = args.length →
    (∀ (i : Nat) (x : AV) (v : Value), args[i]? = some x → vs[i]? = some v → VR2 σ g w x v) →
    Calls P f vs w (fun e w' => (∃ v g' σ' r, e = .returned v ∧ Did w0 K0 σ g w σ' g' w' ∧ VR2 σ' g' w' r v ∧ R r σ') ∨
      ∃ v g' σ', e = .panicked [{ v := v, recovered := false }] ∧ Did w0 K0 σ g w σ' g' w' ∧ Rp v σ')
theorem PCall.mono {P : Program} {f : FuncId} {args : List AV} {σ : Sg} {R R' : AV → Sg → Prop} {Rp Rp' : Value → Sg → Prop} (h : PCall P f args σ R Rp) (hr : ∀ r σ', R r σ' → R' r σ') (hp : ∀ v σ', Rp v σ' → Rp' v σ') : PCall P f args σ R' Rp' :=
  ⟨h.1, fun w0 K0 g w vs hL hp' hs hv => (h.2 w0 K0 g w vs hL hp' hs hv).mono fun e w' h => h.elim (fun ⟨v, g', σ', r, a, b, c, d⟩ => .inl ⟨v, g', σ', r, a, b, c, hr _ _ d⟩) fun ⟨v, g', σ', a, b, c⟩ => .inr ⟨v, g', σ', a, b, hp _ _ c⟩⟩
def concrete (P : Program) (T : TypeId) : Prop := ∃ d, P.underlying T = some d ∧ (match d with | .interface _ => false | _ => true) = true
def kNilI (op : BinOp) (u : AV) (k : AV → Prop) : Prop :=
  match op, u with
  | .eql, .x (.d (.v (.iface _ _))) => k (bv false)
  | .neq, .x (.d (.v (.iface _ _))) => k (bv true)
  | .eql, .x (.d (.v .nilIface)) => k (bv true)
  | .neq, .x (.d (.v .nilIface)) => k (bv false)
  | _, _ => False
def opP (P : Program) (tt : TT) (nt : Nat) (all : List Oper) (kp : Value → Fr → Sg → Prop) (o : Oper) (fr : Fr) (σ : Sg) (k : Fr → Sg → Prop) : Prop :=
  match o.guard, o.op with
  | none, .panic x => ev1 fr none x fun u => (match u with | .x (.d (.v (.iface T v))) => kp (.iface T v) fr σ | _ => False)
  | none, .makeInterface T x => concrete P T ∧ ev1 fr none x fun u => (match u with | .x (.d (.v v)) => putFr nt o.dst none (.x (.d (.v (.iface T v)))) fr fun fr' => k fr' σ | _ => False)
  | none, .typeAssert x _ T false => concrete P T ∧ ev1 fr none x fun u => (match u with | .x (.d (.v (.iface S v))) => S = T ∧ v.oneCell' = true ∧ putFr nt o.dst none (.x (.d (.v v))) fr fun fr' => k fr' σ | _ => False)
  | none, .binOp op xT x (.const .nilIface) _ => (∃ ms, P.underlying xT = some (.interface ms)) ∧ ev1 fr none x fun u => kNilI op u fun v => putFr nt o.dst none v fr fun fr' => k fr' σ
  | none, .call ⟨.value f, args, _⟩ => ev1 fr none f fun fv => evL fr none args.toList fun vs =>
      (match fv with
      | .x (.f (.func fid) first captured) => ∃ R Rp, PCall P fid (first.map .x ++ vs ++ captured.map .x) σ R Rp ∧ (∀ rv σ', R rv σ' → putFr nt o.dst none rv fr fun fr' => k fr' σ') ∧ ∀ v σ', Rp v σ' → kp v fr σ'
      | _ => False)
  | _, _ => vcOps P tt nt all k [o] fr σ
def vcOpsP (P : Program) (tt : TT) (nt : Nat) (all : List Oper) (kp : Value → Fr → Sg → Prop) (k : Fr → Sg → Prop) : List Oper → Fr → Sg → Prop
  | [], fr, σ => k fr σ
  | o :: r, fr, σ => opP P tt nt all kp o fr σ (vcOpsP P tt nt all kp k r)
section
variable {P : Program} {Γ : Cx} {fr : Fr} {σ : Sg} {Q : Exit → Fr → Sg → Prop}
theorem run_nilI {op : BinOp} {xT : TypeId} {ms : Array (String × TypeId)} (hu : P.underlying xT = some (.interface ms)) {X : Operand} {u : AV} {k : AV → Prop} (h : kNilI op u k) {g : Gh} {w : World} {v : Value} (hv : VR2 σ g w u v) :
    ∃ b, k (bv b) ∧ (do eqGuard op xT X (.const .nilIface) v .nilIface; binOp op xT v .nilIface : Sem Value).run P w = .ok (.bool b) w := by
  have hun := run_underlying hu w
  have e1 : ∀ T v, (Op.equal xT (.iface T v) .nilIface).run P w = .ok false w := fun T v => by
    show (Op.equalIn (Op.maxDepth - 1 + 1) xT (.iface T v) .nilIface).run P w = _
    rw [Op.equalIn, Sem.run_bind, hun]; rfl
  have e2 : (Op.equal xT .nilIface .nilIface).run P w = .ok true w := by
    show (Op.equalIn (Op.maxDepth - 1 + 1) xT .nilIface .nilIface).run P w = _
    rw [Op.equalIn, Sem.run_bind, hun]; rfl
  unfold kNilI at h
  split at h
  · have := vr_plain_inv hv; subst this
    refine ⟨_, h, ?_⟩
    show ((do pure (.bool (← Op.equal xT _ .nilIface)) : Sem Value)).run P w = _
    rw [Sem.run_bind, e1]; rfl
  · have := vr_plain_inv hv; subst this
    refine ⟨_, h, ?_⟩
    show ((do pure (.bool (!(← Op.equal xT _ .nilIface))) : Sem Value)).run P w = _
    rw [Sem.run_bind, e1]; rfl
  · have := vr_plain_inv hv; subst this
    refine ⟨_, h, ?_⟩
    rw [eqGuard_nil_constR]
    show ((do pure (.bool (← Op.equal xT .nilIface .nilIface)) : Sem Value)).run P w = _
    rw [Sem.run_bind, e2]; rfl
  · have := vr_plain_inv hv; subst this
    refine ⟨_, h, ?_⟩
    rw [eqGuard_nil_constR]
    show ((do pure (.bool (!(← Op.equal xT .nilIface .nilIface))) : Sem Value)).run P w = _
    rw [Sem.run_bind, e2]; rfl
  · exact h.elim
theorem opP_okK {tt : TT} (htt : tt.ok P) (hL : Laid P Γ.K0.K Γ.w0) {all : List Oper} {E : Exit → Act → World → Prop} {kp : Value → Fr → Sg → Prop} {k : Fr → Sg → Prop} {K : Act → World → Prop}
    (hE : ∀ v fr σ g a w, Rel Γ fr σ g a w → kp v fr σ → E (.panic [{ v := v, recovered := false }]) a w) (rest : List Oper) (hk : ∀ fr σ g a w, Rel Γ fr σ g a w → k fr σ → wpLk Γ.ro P all.toArray E K rest a w)
    (o : Oper) (fr : Fr) (σ : Sg) (h : opP P tt Γ.nt all kp o fr σ k) (g : Gh) (a : Act) (w : World) (hr : Rel Γ fr σ g a w) : wpLk Γ.ro P all.toArray E K (o :: rest) a w := by
  have easy : vcOps P tt Γ.nt all k [o] fr σ → wpLk Γ.ro P all.toArray E K (o :: rest) a w := fun h => by
    have h2 := vcOps_okK (Γ := Γ) htt hL (Qx := E) (K := wpLk Γ.ro P all.toArray E K rest) hk [o] fr σ h g a w hr
    unfold wpLk at h2 ⊢
    exact h2
  unfold opP at h
  have val : o.guard = none → ∀ (x : AV) (v : Value), (execOp a.eval o).run P w = .ok (.value v) w → (∀ c, ¬ o.op = .defer c) → VR2 σ g w x v → putFr Γ.nt o.dst none x fr (fun fr' => k fr' σ) → wpLk Γ.ro P all.toArray E K (o :: rest) a w := by
    intro hg x v hrun hnc hv hput
    unfold wpLk
    rw [if_pos (show Region.wanted o _ = true by simp [Region.wanted, hg])]
    refine ⟨fun _ _ => trivial, ?_⟩
    rw [Oper.semAt_eq _ _ o hnc, hrun]
    obtain ⟨fr', hk', hr''⟩ := putFr_ok hr hput (v := v) (VR_of_VR2 hv)
    exact hk _ _ _ _ _ hr'' hk'
  split at h
  · rename_i x hg ho
    obtain ⟨u, hk, hu⟩ := ev1_on h
    split at hk
    · rename_i T v
      have hv := vr_plain_inv (hu (.inl rfl) Γ σ g a w hr)
      unfold wpLk
      rw [if_pos (show Region.wanted o _ = true by simp [Region.wanted, hg])]
      refine ⟨fun _ _ => trivial, ?_⟩
      rw [Oper.semAt_eq _ _ o (by intro c hc; rw [ho] at hc; cases hc)]
      have hrun : (execOp a.eval o).run P w = .halt (.panic (.iface T v)) w := by
        simp only [execOp, ho]
        rw [hv]
        rfl
      rw [hrun]
      exact hE _ _ _ _ _ _ hr hk
    · exact hk.elim
  · rename_i T x hg ho
    obtain ⟨⟨d, hd, hdc⟩, h⟩ := h
    obtain ⟨u, hk, hu⟩ := ev1_on h
    split at hk
    · rename_i v
      have hv := vr_plain_inv (hu (.inl rfl) Γ σ g a w hr)
      refine val hg _ (.iface T v) ?_ (by intro c hc; rw [ho] at hc; cases hc) (vr_plain _ rfl) hk
      simp only [execOp, ho]
      rw [hv]
      simp only [Instr.makeInterface, Sem.run_bind, run_underlying hd, Result.andThen_ok]
      cases d <;> first | (cases hdc; done) | rfl
    · exact hk.elim
  · rename_i x xT T hg ho
    obtain ⟨⟨d, hd, hdc⟩, h⟩ := h
    obtain ⟨u, hk, hu⟩ := ev1_on h
    split at hk
    · rename_i S v
      obtain ⟨rfl, h1, hk⟩ := hk
      have hv := vr_plain_inv (hu (.inl rfl) Γ σ g a w hr)
      refine val hg _ v ?_ (by intro c hc; rw [ho] at hc; cases hc) (vr_plain _ h1) hk
      simp only [execOp, ho]
      rw [hv]
      simp only [Instr.typeAssert, Sem.run_bind, run_underlying hd, Result.andThen_ok]
      cases d <;> first | (cases hdc; done) | simp
    · exact hk.elim
  · rename_i op xT x yT hg ho
    obtain ⟨⟨ms, hms⟩, h⟩ := h
    obtain ⟨u, hk, hu⟩ := ev1_on h
    obtain ⟨b, hb, hrun⟩ := run_nilI (X := x) hms hk (hu (.inl rfl) Γ σ g a w hr)
    refine val hg _ (.bool b) ?_ (by intro c hc; rw [ho] at hc; cases hc) (vr_plain _ rfl) hb
    simp only [execOp, ho]
    show ((do eqGuard op xT x (.const .nilIface) (a.eval x) .nilIface; binOp op xT (a.eval x) .nilIface) >>= fun x => pure (Next.value x) : Sem Next).run P w = _
    rw [Sem.run_bind, hrun]; rfl
  · rename_i f args ts hg ho
    obtain ⟨fv, h2, hfv⟩ := ev1_on h
    clear h
    obtain ⟨vs, h, hl, hvs⟩ := evL_on h2
    clear h2
    split at h
    · rename_i fid first captured
      obtain ⟨R, Rp, hac, hcont, hpan⟩ := h
      unfold wpLk
      rw [if_pos (show Region.wanted o _ = true by simp [Region.wanted, hg])]
      refine ⟨fun _ _ => trivial, ?_⟩
      rw [Oper.semAt_eq _ _ o (by intro c hc; rw [ho] at hc; cases hc)]
      have hsr : SR σ g w (.f (.func fid) first captured) (a.eval f) := hfv (.inl rfl) Γ σ g a w hr
      generalize hae : a.eval f = fval at hsr
      cases hsr with
      | f _ _ _ v1 v2 s1 s2 r1 r2 =>
        have hvl : vs.length = (args.map a.eval).size := by simpa using hl
        have hargs := call_args (us := args.map a.eval) s1 s2 r1 r2 hvl (fun j x v hx hv => by
          rw [Array.getElem?_map] at hv
          cases ha : args[j]? with
          | none => rw [ha] at hv; cases hv
          | some y => rw [ha] at hv; cases hv; exact hvs (.inl rfl) Γ σ g a w hr _ x y hx (by simpa using ha))
        have hsize : (v1 ++ args.map a.eval ++ v2).size = (first.map AV.x ++ vs ++ captured.map AV.x).length := by
          simp at hvl; simp [s1, s2, hvl]
        rw [run_call ho hae hac.1 w]
        refine ⟨depthX, callsIn_FX.2 ?_⟩
        refine (hac.2 Γ.w0 Γ.K0 g w _ hL hr.hp hsize hargs).mono fun e w' h => ?_
        rcases h with ⟨v, g', σ', r, he, hd, hv, hR⟩ | ⟨v, g', σ', he, hd, hR⟩
        · subst he
          have hr' := hr.did hd
          obtain ⟨fr', hk', hr''⟩ := putFr_ok hr' (hcont r σ' hR) (v := v) (VR_of_VR2 hv)
          exact hk _ _ _ _ _ hr'' hk'
        · subst he
          exact hE _ _ _ _ _ _ (hr.did hd) (hpan v σ' hR)
    · exact h.elim
  · exact easy h
theorem vcOpsP_okK {tt : TT} (htt : tt.ok P) (hL : Laid P Γ.K0.K Γ.w0) {all : List Oper} {E : Exit → Act → World → Prop} {kp : Value → Fr → Sg → Prop} {k : Fr → Sg → Prop} {K : Act → World → Prop}
    (hE : ∀ v fr σ g a w, Rel Γ fr σ g a w → kp v fr σ → E (.panic [{ v := v, recovered := false }]) a w) (hk : ∀ fr σ g a w, Rel Γ fr σ g a w → k fr σ → K a w) :
    ∀ (rest : List Oper) (fr : Fr) (σ : Sg), vcOpsP P tt Γ.nt all kp k rest fr σ → ∀ (g : Gh) (a : Act) (w : World), Rel Γ fr σ g a w → wpLk Γ.ro P all.toArray E K rest a w
  | [], fr, σ, h, g, a, w, hr => by unfold vcOpsP at h; exact hk _ _ _ _ _ hr h
  | o :: rest, fr, σ, h, g, a, w, hr => by
    unfold vcOpsP at h
    exact opP_okK htt hL hE rest (fun fr σ g a w hr hh => vcOpsP_okK htt hL hE hk rest fr σ hh g a w hr) o fr σ h g a w hr
theorem AW_regionP {tt : TT} (htt : tt.ok P) {id : Nat} {ops : List Oper} (h : vcOpsP P tt Γ.nt ops (fun v fr σ => Q (.panic [{ v := v, recovered := false }]) fr σ) (Q .normal) ops fr σ) : AW P Γ (.region id ops.toArray false) Q fr σ :=
  AW.mk fun hL g a w hr => wpIn_region_lit (vcOpsP_okK htt hL (E := Lift Γ Q) (fun _ _ _ _ _ _ hr hq => ⟨_, _, _, hr, hq⟩) (fun _ _ _ _ _ hr hq => ⟨_, _, _, hr, hq⟩) ops fr σ h g a w hr)
def vcAnyP (P : Program) (tt : TT) (nt : Nat) (all : List Oper) (kp : Value → Fr → Sg → Prop) (ms : List Nat) (full : Nat) (k : Fr → Sg → Prop) : Nat → Nat → Fr → Sg → Prop
  | 0, done, fr, σ => bif Nat.beq done full then k fr σ else False
  | f + 1, done, fr, σ => bif Nat.beq done full then k fr σ else
    allN (fun i o => bif Nat.beq (Nat.land done (Nat.pow 2 i)) 0 && Nat.beq (Nat.land (ms.getD i 0) done) (ms.getD i 0) then
      opP P tt nt all kp o fr σ (fun fr' σ' => vcAnyP P tt nt all kp ms full k f (Nat.lor done (Nat.pow 2 i)) fr' σ') else True) all 0
theorem AW_drawP {tt : TT} (htt : tt.ok P) (hmix : P.follows .mixedOrders = true) (ms : List Nat) {id : Nat} {ops : List Oper} (hms : okMasks ms ops.length ops 0 = true) (fr' : Fr) (σ' : Sg)
    (h : vcAnyP P tt Γ.nt ops (fun v fr σ => Q (.panic [{ v := v, recovered := false }]) fr σ) ms (Nat.sub (Nat.pow 2 ops.length) 1) (fun fr1 σ1 => Imp Γ fr1 σ1 fr' σ') ops.length 0 fr σ) (hk : Q .normal fr' σ') : AW P Γ (.region id ops.toArray true) Q fr σ := by
  refine AW.mk fun hLd g a w hr => ?_
  have hm := MaskOK.of hms
  generalize hfull : Nat.sub (Nat.pow 2 ops.length) 1 = full at h
  have hfb : ∀ j, full.testBit j = decide (j < ops.length) := by
    intro j; rw [← hfull]; exact Nat.testBit_two_pow_sub_one ops.length j
  let Inv : (Nat → Prop) → Act → World → Prop := fun L a w => ∃ (fr1 : Fr) (σ1 : Sg) (g : Gh) (f done : Nat), Rel Γ fr1 σ1 g a w ∧ vcAnyP P tt Γ.nt ops (fun v fr σ => Q (.panic [{ v := v, recovered := false }]) fr σ) ms full (fun fr1 σ1 => Imp Γ fr1 σ1 fr' σ') f done fr1 σ1 ∧ (∀ j, L j ↔ done.testBit j = true) ∧ (∀ j, L j → j < ops.length)
  refine wpIn_region_any hmix ?_
  refine wpAny_inv hm Inv ?_ ?_ _ _ _ _ (by simp) ?_ ?_ ?_
  · intro L a w ⟨fr1, σ1, g1, f, done, hr1, hv, hL, hlt⟩ i hi hLi hbits
    have hi' : i < ops.length := by simpa using hi
    have hdi : done.testBit i = false := by
      cases hb : done.testBit i with
      | false => rfl
      | true => exact absurd ((hL i).2 hb) hLi
    have hne : Nat.beq done full = false := by
      cases hb : Nat.beq done full with
      | false => rfl
      | true =>
        have := Nat.eq_of_beq_eq_true hb
        rw [this, hfb] at hdi
        simp [hi'] at hdi
    cases f with
    | zero => unfold vcAnyP at hv; rw [hne] at hv; exact hv.elim
    | succ f =>
      unfold vcAnyP at hv
      rw [hne] at hv
      simp only [cond_false] at hv
      have hoi : ops.toArray[i]? = some ops[i] := by simp [hi']
      have h1 := allN_get hv i ops[i] (List.getElem?_eq_getElem hi')
      rw [Nat.zero_add, land_pow hdi, land_sub (fun b hb => (hL b).1 (hbits b hb))] at h1
      have e1 : Nat.beq 0 0 = true := rfl
      have e2 : Nat.beq (ms.getD i 0) (ms.getD i 0) = true := by rw [Nat.beq_eq]
      rw [e1, e2] at h1
      simp only [Bool.and_self, cond_true] at h1
      have h2 := opP_okK (Γ := Γ) htt hLd (E := Lift Γ Q) (K := Inv (fun j => L j ∨ j = i)) (fun _ _ _ _ _ _ hr hq => ⟨_, _, _, hr, hq⟩) [] (fun fr2 σ2 g2 a2 w2 hr2 hv2 => by
        refine ⟨fr2, σ2, g2, f, _, hr2, hv2, fun j => ?_, fun j hj => ?_⟩
        · show (L j ∨ j = i) ↔ (done ||| 2 ^ i).testBit j = true
          rw [Nat.testBit_or, Nat.testBit_two_pow, hL j]
          simp only [Bool.or_eq_true, decide_eq_true_eq]
          exact ⟨fun h => h.elim .inl (fun e => .inr e.symm), fun h => h.elim .inl (fun e => .inr e.symm)⟩
        · rcases hj with hj | rfl
          · exact hlt j hj
          · exact hi') ops[i] fr1 σ1 h1 g1 a w hr1
      unfold wpOpIn
      simp only [hoi]
      unfold wpLk at h2
      split
      · rename_i hwant
        rw [if_pos hwant] at h2
        exact Oper.wpIn_mono (fun a w h => h) h2
      · rename_i hwant
        rw [if_neg hwant] at h2
        exact ⟨fun _ _ => trivial, h2⟩
  · intro L a w ⟨fr1, σ1, g1, f, done, hr1, hv, hL, hlt⟩ hall
    have hd : done = full := by
      apply Nat.eq_of_testBit_eq
      intro j
      rw [hfb]
      by_cases hj : j < ops.length
      · rw [(hL j).1 (hall j (by simpa using hj))]; simp [hj]
      · cases hb : done.testBit j with
        | true => exact absurd (hlt j ((hL j).2 hb)) hj
        | false => simp [hj]
    have hb : Nat.beq done full = true := by rw [hd, Nat.beq_eq]
    have hi : Imp Γ fr1 σ1 fr' σ' := by
      cases f with
      | zero => unfold vcAnyP at hv; rw [hb] at hv; exact hv
      | succ f => unfold vcAnyP at hv; rw [hb] at hv; exact hv
    obtain ⟨g', hr'⟩ := hi g1 a w hr1
    exact ⟨fr', σ', g', hr', hk⟩
  · intro i hi
    have : (Array.replicate ops.length false)[i]?.getD false = false := by
      rw [Array.getElem?_replicate]; split <;> rfl
    simp [this] at hi
  · unfold unl
    refine Nat.le_trans (List.length_filter_le _ _) (by simp)
  · refine ⟨fr, σ, g, ops.length, 0, hr.drawn _, h, fun j => ?_, fun j hj => ?_⟩
    · have : (Array.replicate ops.length false)[j]?.getD false = false := by
        rw [Array.getElem?_replicate]; split <;> rfl
      simp [this]
    · have : (Array.replicate ops.length false)[j]?.getD false = false := by
        rw [Array.getElem?_replicate]; split <;> rfl
      simp [this] at hj
end
end Go.QL
