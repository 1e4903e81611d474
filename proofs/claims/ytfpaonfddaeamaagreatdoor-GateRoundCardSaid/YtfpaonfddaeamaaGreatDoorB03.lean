/- The logic of walks, and what the functions of the program return: part 3. No condition. -/
import Derived.Test.YtfpaonfddaeamaaGreatDoorB02
import Derived.Lib.AppendIntMem
import Derived.Lib.ItoaLen
import Derived.Lib.SplitLaws
import Derived.Lib.AtoiErrMem
import Derived.Lib.SlicesS
set_option linter.all false
namespace Go.QL
open Go Go.RowKit
def DCall (P : Program) (f : FuncId) (args : List AV) (σ : Sg) (u : FrameMode) (R : FrameMode → Sg → Prop) : Prop :=
  Good P f ∧ ∀ (w0 : World) (K0 : Bs) (g : Gh) (w : World) (vs : Array Value), Laid P K0.K w0 → Hp w0 K0 σ g w → vs.size = args.length →
    (∀ (i : Nat) (x : AV) (v : Value), args[i]? = some x → vs[i]? = some v → VR2 σ g w x v) →
    CallsDIn Fence.wide 0 P f vs u w fun e u' w' => ∃ v g' σ', e = .returned v ∧ Did w0 K0 σ g w σ' g' w' ∧ R u' σ'
def AWx (P : Program) (Γ : Cx) (c : Code) (E : Exit → Act → World → Prop) (fr : Fr) (σ : Sg) : Prop :=
  Laid P Γ.K0.K Γ.w0 → ∀ g a w, Rel Γ fr σ g a w → c.wpIn (FX Γ.ro) 0 P E a w
def DF (B B' : SV → Value → Prop) (fid : FuncId) (first captured : List SV) (d : Deferred) : Prop :=
  (∀ s v, B s v → B' s v) ∧ ∃ v1 v2, B' (.f (.func fid) first captured) (.func (.func fid) v1 v2) ∧ d = ⟨.fn (.func fid) v2, v1⟩
abbrev Cx.dfrd (Γ : Cx) (σ : Sg) (B' : SV → Value → Prop) (d : Deferred) : Cx := ⟨Γ.w0, Γ.K0, Γ.nt, B', σ.map (·.1), Γ.ro, Γ.dfs, d :: Γ.bs⟩
def vcOpsD (P : Program) (tt : TT) (Γ : Cx) (all : List Oper) (k : Cx → Fr → Sg → Prop) : List Oper → Fr → Sg → Prop
  | [], _, _ => False
  | o :: r, fr, σ =>
    match o.guard, o.dst, o.op with
    | none, none, .defer ⟨.value f, args, _⟩ => args.toList = [] ∧ ev1 fr none f fun fv =>
      (match fv with
      | .x (.f (.func fid) first captured) => (Γ.dfs.all fun i => !(lk i σ).isSome) = true ∧ ∀ B' d, DF Γ.B B' fid first captured d → vcOps P tt Γ.nt all (fun fr' σ' => k (Γ.dfrd σ B' d) fr' σ') r fr σ
      | _ => False)
    | _, _, _ => vcOps P tt Γ.nt all (fun fr' σ' => vcOpsD P tt Γ all k r fr' σ') [o] fr σ
section
variable {P : Program} {Γ : Cx} {fr : Fr} {σ : Sg}
theorem AWx_of {c : Code} {Q : Exit → Fr → Sg → Prop} {E : Exit → Act → World → Prop} (h : AW P Γ c Q fr σ) (hq : ∀ e fr σ g a w, Rel Γ fr σ g a w → Q e fr σ → E e a w) : AWx P Γ c E fr σ :=
  fun hL g a w hr => wpIn_mono (h.use hL hr) fun e a w ⟨fr, σ, g, r, q⟩ => hq e fr σ g a w r q
theorem AWx_seq {x y : Code} {Q : Exit → Fr → Sg → Prop} {E : Exit → Act → World → Prop} (h : AW P Γ x (Exit.thn (AWx P Γ y E) Q) fr σ) (hq : ∀ e fr σ g a w, Rel Γ fr σ g a w → Q e fr σ → E e a w) : AWx P Γ (.seq x y) E fr σ := by
  intro hL g a w hr
  refine wpIn_seq (wpIn_mono (h.use hL hr) ?_)
  intro e a w ⟨fr, σ, g, r, q⟩
  cases e with
  | normal => exact q hL g a w r
  | ret => exact hq _ _ _ _ _ _ r q
  | exit _ => exact hq _ _ _ _ _ _ r q
  | goto _ => exact hq _ _ _ _ _ _ r q
  | panic _ => exact hq _ _ _ _ _ _ r q
  | outgrown => exact hq _ _ _ _ _ _ r q
theorem Rel.dfrd {g : Gh} {a : Act} {w : World} (hr : Rel Γ fr σ g a w) (hno : (Γ.dfs.all fun i => !(lk i σ).isSome) = true) (d : Deferred) : Rel (Γ.dfrd σ (SR σ g w) d) fr σ g { a with defers := d :: a.defers } w := by
  refine ⟨hr.hp, hr.fr, hr.size, ?_, fun s v h => ⟨h, h.inI⟩⟩
  obtain ⟨ms, hms, is, h1, h2, h3⟩ := hr.defers
  have : ms = [] := by
    cases ms with
    | nil => rfl
    | cons x r =>
      cases is with
      | nil => cases h2
      | cons i r' =>
        obtain ⟨hi, hl, _⟩ := h3 0 i x rfl rfl
        rw [List.all_eq_true] at hno
        have := hno i hi
        rw [hl] at this; cases this
  subst this
  exact ⟨[], by show d :: a.defers = _; rw [hms]; rfl, DR.empty⟩
theorem vcOpsD_ok {tt : TT} (htt : tt.ok P) (hro : Γ.ro = none) (hL : Laid P Γ.K0.K Γ.w0) {all : List Oper} {k : Cx → Fr → Sg → Prop} {E : Exit → Act → World → Prop} {K : Act → World → Prop}
    (hk : ∀ σ0 B' d fr σ g a w, Rel (Γ.dfrd σ0 B' d) fr σ g a w → k (Γ.dfrd σ0 B' d) fr σ → K a w) : ∀ (rest : List Oper) (fr : Fr) (σ : Sg), vcOpsD P tt Γ all k rest fr σ →
    ∀ (g : Gh) (a : Act) (w : World), Rel Γ fr σ g a w → wpLk Γ.ro P all.toArray E K rest a w
  | [], fr, σ, h, g, a, w, hr => h.elim
  | o :: rest, fr, σ, h, g, a, w, hr => by
    have ih := fun fr σ => vcOpsD_ok htt hro hL (all := all) (E := E) hk rest fr σ
    unfold vcOpsD at h
    split at h
    · rename_i f args ts hg hdst ho
      obtain ⟨ha, h⟩ := h
      obtain ⟨fv, h, hfv⟩ := ev1_on h
      split at h
      · rename_i fid first captured
        obtain ⟨hno, h⟩ := h
        have hsr : SR σ g w (.f (.func fid) first captured) (a.eval f) := hfv (.inl rfl) Γ σ g a w hr
        generalize hae : a.eval f = fval at hsr
        have hsr0 := hsr
        cases hsr with
        | f _ _ _ v1 v2 s1 s2 r1 r2 =>
          unfold wpLk
          rw [if_pos (show Region.wanted o _ = true by simp [Region.wanted, hg])]
          refine ⟨fun _ _ => trivial, ?_⟩
          obtain ⟨args⟩ := args
          simp only at ha
          subst ha
          have hrun : (o.semAt (FX Γ.ro).round a.eval).run P w = .ok (.defer ⟨.fn (.func fid) v2, v1⟩) w := by
            rw [show (FX Γ.ro).round = none from hro, Oper.semAt_none]
            simp [execOp, ho, resolve, Deferred.ofValue, hae]
          rw [hrun]
          show wpLk Γ.ro P all.toArray E K rest ({ a with defers := ⟨.fn (.func fid) v2, v1⟩ :: a.defers }.put o.dst undef) w
          rw [hdst]
          show wpLk Γ.ro P all.toArray E K rest { a with defers := ⟨.fn (.func fid) v2, v1⟩ :: a.defers } w
          have hr' := hr.dfrd hno ⟨.fn (.func fid) v2, v1⟩
          exact vcOps_okK (Γ := Γ.dfrd σ (SR σ g w) ⟨.fn (.func fid) v2, v1⟩) htt hL (Qx := E) (K := K) (fun fr σ g a w hr h => hk _ _ _ _ _ _ _ _ hr h) rest fr σ
            (h (SR σ g w) _ ⟨fun s v hb => (hr.base s v hb).1, v1, v2, hsr0, rfl⟩) g _ w hr'
      · exact h.elim
    · have h2 := vcOps_okK (Γ := Γ) htt hL (Qx := E) (K := wpLk Γ.ro P all.toArray E K rest) (fun fr2 σ2 g2 a2 w2 hr2 hv2 => ih fr2 σ2 hv2 g2 a2 w2 hr2) [o] fr σ h g a w hr
      unfold wpLk at h2 ⊢
      exact h2
theorem AWx_defer {tt : TT} (htt : tt.ok P) (hro : Γ.ro = none) {id : Nat} {ops : List Oper} {y : Code} {E : Exit → Act → World → Prop} (h : vcOpsD P tt Γ ops (fun Γ' fr σ => AWx P Γ' y E fr σ) ops fr σ) : AWx P Γ (.seq (.region id ops.toArray false) y) E fr σ := by
  intro hL g a w hr
  refine wpIn_seq (wpIn_region_lit ?_)
  exact vcOpsD_ok htt hro hL (E := Exit.then (y.wpIn (FX Γ.ro) 0 P E) E) (K := fun a w => y.wpIn (FX Γ.ro) 0 P E a w) (fun σ0 B' d fr σ g a w hr h => h hL g a w hr) ops fr σ h g a w hr
end
section
variable {P : Program} {Γ : Cx} {w0 : World} {K0 : Bs} {fr : Fr} {σ σ' : Sg} {g : Gh} {a : Act} {w : World}
theorem shutAllB (hs : Sup σ' σ) (hr : rsSg σ' σ' = true) : ∀ (is : List Nat) (ds : List Deferred) (w : World), is.Nodup → is.length = ds.length → Hp w0 K0 σ' g w →
    (∀ i ∈ is, lk i σ' = none) →
    (∀ (k i : Nat) (x : Deferred), is[k]? = some i → ds[k]? = some x → ∃ d, g.μ i = .pointer (some ⟨d, 0, none⟩) ∧ x = ⟨.collected d, #[]⟩ ∧ w.heap[d]? = some (.deferred (some [])) ∧ (∀ o, ¬ g.K d o) ∧ ¬ K0.F d ∧ (∀ id, (lk id σ').isSome → blk (g.μ id) ≠ some d)) →
    (∀ (i j : Nat), i ∈ is → j ∈ is → ∀ b, blk (g.μ i) = some b → blk (g.μ j) = some b → i = j) →
    ∃ w1, Hp w0 K0 σ' g w1 ∧ (∀ s v, SR σ' g w s v → SR σ' g w1 s v) ∧ w1.heap.size = w.heap.size ∧
      ∀ (F : Fence) (n : Nat) (fn : Func) (tmps : Array Value) (R : Ending → World → Prop), ∀ (u : FrameMode) (bs : List Deferred), u ≠ .run → LeavesInM F n P fn tmps R bs u w1 → LeavesInM F n P fn tmps R (ds ++ bs) u w
  | [], ds, w, _, hl, hp, _, _, _ => by
    cases ds with
    | nil => exact ⟨w, hp, fun _ _ h => h, rfl, fun _ _ _ _ _ _ _ _ h => h⟩
    | cons _ _ => cases hl
  | i :: is, ds, w, hnd, hl, hp, hno, hx, hinj => by
    cases ds with
    | nil => cases hl
    | cons x ds =>
      rw [List.nodup_cons] at hnd
      obtain ⟨d, hμ, rfl, hheap, hK, hF, hother⟩ := hx 0 i x rfl rfl
      have hbi : blk (g.μ i) = some d := by rw [hμ]; rfl
      let w1 := putO w d (.deferred none)
      have hext : Ext g.K w g.K w1 := ⟨fun _ _ h => h, fun b o hk => World.cell?_of_block (w := w) (a := ⟨b, o, none⟩) (putO_other (fun e => hK o (e ▸ hk)))⟩
      have hkeep : ∀ s v, SR σ' g w s v → SR σ' g w1 s v := fun s v h =>
        SR.keep (σ := σ') (σ' := σ') (g := g) (g' := g) (w := w) (w' := w1) (Compat.refl σ' g) hext h
      have hp1 : Hp w0 K0 σ' g w1 := by
        refine ⟨?_, hp.flt, hp.ext.trans hext, hp.old, fun b o hk => by have := hp.val b o hk; simpa [w1] using this, fun id obj hid => ?_, hp.own, hp.inj⟩
        · exact hp.kept.trans ⟨rfl, rfl, rfl, by simp [w1], fun k hk => putO_other (fun e => hF (e ▸ hk))⟩
        · exact (hp.obs id obj hid).keep hkeep hext rfl (fun b hb => putO_other (fun e => hother id (by rw [hid]; rfl) (e ▸ hb))) (fun b hb o => hp.notK hid hb o)
      have ih := shutAllB hs hr is ds w1 hnd.2 (by simpa using hl) hp1 (fun j hj => hno j (List.mem_cons_of_mem _ hj)) (fun k j y hj hy => ?_) (fun j k hj hk => hinj j k (List.mem_cons_of_mem _ hj) (List.mem_cons_of_mem _ hk))
      · obtain ⟨w2, q1, q2, q3, q4⟩ := ih
        refine ⟨w2, q1, fun s v h => q2 s v (hkeep s v h), by rw [q3]; simp [w1], fun F n fn tmps R u bs hu h => ?_⟩
        refine ⟨hu, .inl ⟨d, w1, rfl, run_takeDeferred hheap, q4 F n fn tmps R u bs hu h⟩⟩
      · obtain ⟨d', p1, p2, p3, p4, p5, p6⟩ := hx (k + 1) j y hj hy
        refine ⟨d', p1, p2, ?_, p4, p5, p6⟩
        have hjm : j ∈ is := List.mem_of_getElem? hj
        have hne : d' ≠ d := fun e => by
          have := hinj j i (List.mem_cons_of_mem _ hjm) (by simp) d (by rw [p1, e]; rfl) hbi
          subst this; exact hnd.1 hjm
        show (putO w d (.deferred none)).heap[d']? = _
        rw [putO_other hne]; exact p3
def EndX (P : Program) (fn : Func) (w0 : World) (K0 : Bs) (σ : Sg) (g : Gh) (w : World) (R : AV → Sg → Prop) : Exit → Act → World → Prop :=
  bodyPostM Fence.wide 0 P fn fun e w' => ∃ v g' σ' r, e = .returned v ∧ Did w0 K0 σ g w σ' g' w' ∧ VR2 σ' g' w' r v ∧ R r σ'
theorem EndX_plain {tt : TT} (htt : tt.ok P) {fn : Func} {res : List ResultVar} (hres : fn.results = res.toArray) {nt : Nat} {dfs : List Nat} {R : AV → Sg → Prop} {e : Exit} {fr : Fr} {τ : Sg} {g' : Gh} {a' : Act} {w' : World}
    (hr : Rel ⟨w0, K0, nt, SR σ g w, σ.map (·.1), none, dfs, []⟩ fr τ g' a' w') (hq : PostM tt res (σ.map (·.1)) dfs R e fr τ) : EndX P fn w0 K0 σ g w R e a' w' := by
  have fin : PostM tt res (σ.map (·.1)) dfs R .ret fr τ →
      LeavesInM Fence.wide 0 P fn a'.tmps (fun e w' => ∃ v g' σ' r, e = .returned v ∧ Did w0 K0 σ g w σ' g' w' ∧ VR2 σ' g' w' r v ∧ R r σ') a'.defers .returning w' := by
    rintro ⟨fr1, σ1, hsf, hss, hc, r, σ', hsub, hc2, ho, hR⟩
    simp only [Bool.and_eq_true, List.all_eq_true, Bool.not_eq_true'] at hc hc2
    obtain ⟨⟨hcf, hcs⟩, hno⟩ := hc
    have hsf := SubF_ok hsf
    have hss := SubS_ok hss
    have hp1 := hr.hp.weaken hss hcs
    obtain ⟨ms, hms, is, q1, q2, q3⟩ := hr.defers
    obtain rfl : ms = a'.defers := by simpa using hms.symm
    have hnone : ∀ i ∈ is, lk i σ1 = none := fun i hi => by
      obtain ⟨k, hk, he⟩ := List.getElem_of_mem hi
      have := (q3 k i (a'.defers[k]'(by omega)) (by rw [List.getElem?_eq_getElem hk, he]) (List.getElem?_eq_getElem (by omega))).1
      have := hno i this
      cases hl : lk i σ1 with
      | none => rfl
      | some _ => rw [hl] at this; cases this
    have hdfr : ∀ i ∈ is, lk i τ = some (.x .dfr) := fun i hi => by
      obtain ⟨k, hk, he⟩ := List.getElem_of_mem hi
      exact (q3 k i (a'.defers[k]'(by omega)) (by rw [List.getElem?_eq_getElem hk, he]) (List.getElem?_eq_getElem (by omega))).2.1
    obtain ⟨w1, s1, s2, s3, s4⟩ := shutAllB (P := P) (w0 := w0) (K0 := K0) (g := g') hss hcs is a'.defers w' q1 q2 hp1 hnone (fun k i x hi hx => by
      obtain ⟨b1, b2, d, b3, b4⟩ := q3 k i x hi hx
      have hbi : blk (g'.μ i) = some d := by rw [b3]; rfl
      obtain ⟨b', h1, h2, h3, h4⟩ := hr.hp.obs i _ b2
      rw [b3] at h1; cases h1
      refine ⟨d, b3, b4, h3, h4, hr.hp.own i d (by rw [b2]; rfl) hbi, fun id hid hb => ?_⟩
      obtain ⟨ob, hob⟩ := Option.isSome_iff_exists.1 hid
      have := hr.hp.inj id i d (by rw [hss _ _ hob]; rfl) (by rw [b2]; rfl) hb hbi
      subst this
      rw [hnone id (List.mem_of_getElem? hi)] at hob; cases hob)
      (fun i j hi hj b hb1 hb2 => hr.hp.inj i j b (by rw [hdfr i hi]; rfl) (by rw [hdfr j hj]; rfl) hb1 hb2)
    rw [← List.append_nil a'.defers]
    refine s4 Fence.wide 0 fn a'.tmps _ _ [] (by simp) ?_
    have hrel1 : Rel ⟨w0, K0, nt, SR σ g w, σ.map (·.1), none, [], []⟩ fr1 σ1 g' { a' with defers := [] } w1 := by
      refine ⟨s1, fun t v ht => ⟨(hr.fr t v (hsf t v ht)).1, ?_⟩, hr.size, DRb.empty, fun s v hb => ⟨s2 _ _ (inI_weaken hss hc2.2 (hr.base s v hb).1 (hr.base s v hb).2), (hr.base s v hb).2⟩⟩
      exact (rsAV_ok hss (rsFr_get hcf t v ht) (hr.fr t v (hsf t v ht)).2).keep s2
    have hsup := SubS_ok hsub
    obtain ⟨v, hrun, hvr⟩ := outKeep_ok htt hrel1 hsup hres ho
    refine leaves_results hrun ?_
    exact ⟨v, _, σ', r, rfl, ⟨hrel1.hp.atEnd hsup hc2.1.1, fun s u hs => Kend_keep (inI_weaken hsup hc2.1.2 (hrel1.base s u hs).1 (hrel1.base s u hs).2)⟩, hvr, hR⟩
  cases e with
  | normal => exact fin hq
  | ret => exact fin hq
  | _ => exact hq.elim
theorem Rel.unmark {nt : Nat} {B : SV → Value → Prop} {ids dfs : List Nat} {bs : List Deferred} {fr fr1 : Fr} {τ σ1 : Sg} {g' : Gh} {a' : Act} {w' : World} (hr : Rel ⟨w0, K0, nt, B, ids, none, dfs, bs⟩ fr τ g' a' w') (hsf : SubF fr fr1) (hss : SubS τ σ1)
    (hc : (rsFr σ1 fr1 && rsSg σ1 σ1 && dfs.all (fun i => !(lk i σ1).isSome) && idsIn ids σ1) = true) :
    ∃ w1, Rel ⟨w0, K0, nt, B, ids, none, [], bs⟩ fr1 σ1 g' { a' with defers := bs } w1 ∧ ∀ (fn : Func) (tmps : Array Value) (R : Ending → World → Prop) (u : FrameMode), u ≠ .run → LeavesInM Fence.wide 0 P fn tmps R bs u w1 → LeavesInM Fence.wide 0 P fn tmps R a'.defers u w' := by
  simp only [Bool.and_eq_true, List.all_eq_true, Bool.not_eq_true'] at hc
  obtain ⟨⟨⟨hcf, hcs⟩, hno⟩, hids⟩ := hc
  have hsf := SubF_ok hsf
  have hss := SubS_ok hss
  have hp1 := hr.hp.weaken hss hcs
  obtain ⟨ms, hms, is, q1, q2, q3⟩ := hr.defers
  have hdi : ∀ i ∈ is, i ∈ dfs ∧ lk i τ = some (.x .dfr) := fun i hi => by
    obtain ⟨k, hk, he⟩ := List.getElem_of_mem hi
    have := q3 k i (ms[k]'(by omega)) (by rw [List.getElem?_eq_getElem hk, he]) (List.getElem?_eq_getElem (by omega))
    exact ⟨this.1, this.2.1⟩
  have hnone : ∀ i ∈ is, lk i σ1 = none := fun i hi => by
    have := hno i (hdi i hi).1
    cases hl : lk i σ1 with
    | none => rfl
    | some _ => rw [hl] at this; cases this
  obtain ⟨w1, s1, s2, s3, s4⟩ := shutAllB (P := P) (w0 := w0) (K0 := K0) (g := g') hss hcs is ms w' q1 q2 hp1 hnone (fun k i x hi hx => by
    obtain ⟨b1, b2, d, b3, b4⟩ := q3 k i x hi hx
    have hbi : blk (g'.μ i) = some d := by rw [b3]; rfl
    obtain ⟨b', h1, h2, h3, h4⟩ := hr.hp.obs i _ b2
    rw [b3] at h1; cases h1
    refine ⟨d, b3, b4, h3, h4, hr.hp.own i d (by rw [b2]; rfl) hbi, fun id hid hb => ?_⟩
    obtain ⟨ob, hob⟩ := Option.isSome_iff_exists.1 hid
    have := hr.hp.inj id i d (by rw [hss _ _ hob]; rfl) (by rw [b2]; rfl) hb hbi
    subst this
    rw [hnone id (List.mem_of_getElem? hi)] at hob; cases hob)
    (fun i j hi hj b hb1 hb2 => hr.hp.inj i j b (by rw [(hdi i hi).2]; rfl) (by rw [(hdi j hj).2]; rfl) hb1 hb2)
  refine ⟨w1, ⟨s1, fun t v ht => ⟨(hr.fr t v (hsf t v ht)).1, ?_⟩, hr.size, DRb.empty, fun s v hb => ⟨s2 _ _ (inI_weaken hss hids (hr.base s v hb).1 (hr.base s v hb).2), (hr.base s v hb).2⟩⟩, fun fn tmps R u hu h => ?_⟩
  · exact (rsAV_ok hss (rsFr_get hcf t v ht) (hr.fr t v (hsf t v ht)).2).keep s2
  · rw [show a'.defers = ms ++ bs from hms]
    exact s4 Fence.wide 0 fn tmps R u bs hu h
def EndStep (P : Program) (tt : TT) (res : List ResultVar) (ids ids' dfs : List Nat) (R : AV → Sg → Prop) (fid : FuncId) (first captured : List SV) (u : FrameMode) (fr : Fr) (τ : Sg) : Prop :=
  ∃ fr1 σ1, SubF fr fr1 ∧ SubS τ σ1 ∧ (rsFr σ1 fr1 && rsSg σ1 σ1 && dfs.all (fun i => !(lk i σ1).isSome) && idsIn ids' σ1) = true ∧
    ∃ Rd, DCall P fid (first.map .x ++ captured.map .x) σ1 u Rd ∧ ∀ u' σ2, Rd u' σ2 → settle u' = .returning ∧
      ∃ r σ', SubS σ2 σ' ∧ (rsSg σ' σ' && idsIn ids σ') = true ∧ outKeep tt res fr1 σ2 σ' = some r ∧ R r σ'
def PostDf (P : Program) (tt : TT) (res : List ResultVar) (ids ids' dfs : List Nat) (R : AV → Sg → Prop) (fid : FuncId) (first captured : List SV) : Exit → Fr → Sg → Prop
  | .normal, fr, τ | .ret, fr, τ => EndStep P tt res ids ids' dfs R fid first captured .returning fr τ
  | .panic ch, fr, τ => EndStep P tt res ids ids' dfs R fid first captured (.panicking ch) fr τ
  | _, _, _ => False
theorem EndX_rec {tt : TT} (htt : tt.ok P) (hL : Laid P K0.K w0) {fn : Func} {res : List ResultVar} (hres : fn.results = res.toArray) {nt : Nat} {dfs ids' : List Nat} {R : AV → Sg → Prop} {fid : FuncId} {first captured : List SV} {B' : SV → Value → Prop} {d : Deferred}
    (hd : DF (SR σ g w) B' fid first captured d) {e : Exit} {fr : Fr} {τ : Sg} {g' : Gh} {a' : Act} {w' : World}
    (hr : Rel ⟨w0, K0, nt, B', ids', none, dfs, [d]⟩ fr τ g' a' w') (hq : PostDf P tt res (σ.map (·.1)) ids' dfs R fid first captured e fr τ) : EndX P fn w0 K0 σ g w R e a' w' := by
  have fin : ∀ u, u ≠ .run → EndStep P tt res (σ.map (·.1)) ids' dfs R fid first captured u fr τ →
      LeavesInM Fence.wide 0 P fn a'.tmps (fun e w' => ∃ v g' σ' r, e = .returned v ∧ Did w0 K0 σ g w σ' g' w' ∧ VR2 σ' g' w' r v ∧ R r σ') a'.defers u w' := by
    rintro u hu ⟨fr1, σ1, hsf, hss, hc, Rd, hdc, hR⟩
    obtain ⟨w1, hr1, hl⟩ := Rel.unmark (P := P) hr hsf hss hc
    refine hl fn a'.tmps _ u hu ?_
    obtain ⟨hB, v1, v2, hf, rfl⟩ := hd
    have hsr := (hr1.base _ _ hf).1
    have hargs : ∀ (i : Nat) (x : AV) (v : Value), (first.map AV.x ++ [] ++ captured.map AV.x)[i]? = some x → (v1 ++ #[] ++ v2)[i]? = some v → VR2 σ1 g' w1 x v := by
      cases hsr with
      | f _ _ _ _ _ s1 s2 r1 r2 => exact call_args (us := #[]) (vs := []) s1 s2 r1 r2 rfl (fun j x v hx hv => by simp at hx)
    have hsz : (v1 ++ v2).size = (first.map AV.x ++ captured.map AV.x).length := by
      cases hsr with
      | f _ _ _ _ _ s1 s2 r1 r2 => simp [s1, s2]
    obtain ⟨hgood, hcall⟩ := hdc
    have hinv : (invoke (.fn (.func fid) v2) v1).run P w1 = .ok (.enter fid (v1 ++ v2)) w1 := by
      obtain ⟨fn, h1, h2, h3⟩ := hgood
      have hb : ¬ fn.body = none := fun e => by rw [e] at h2; cases h2
      have h3' : ¬ fn.name = "runtime.NumGoroutine" := by simpa using h3
      simp [invoke, callFunc, h1, h3', hb]
    refine ⟨hu, .inr ⟨(fun h => by cases h), .func fid, v2, fid, v1 ++ v2, rfl, hinv, fun _ _ => trivial, ?_⟩⟩
    refine (hcall w0 K0 g' w1 (v1 ++ v2) hL hr1.hp hsz (fun i x v hx hv => hargs i x v (by simpa using hx) (by simpa using hv))).mono fun e u' w2 ⟨v, g2, σ2, he, hdid, hRd⟩ => ?_
    subst he
    obtain ⟨hset, r, σ', hsub, hc2, ho, hRr⟩ := hR u' σ2 hRd
    simp only [Bool.and_eq_true] at hc2
    have hr2 := hr1.did hdid
    have hsup := SubS_ok hsub
    obtain ⟨v', hrun, hvr⟩ := outKeep_ok htt hr2 hsup hres ho
    show LeavesInM Fence.wide 0 P fn a'.tmps _ [] (settle u') w2
    rw [hset]
    refine ⟨v', hrun, v', _, σ', r, rfl, ⟨hr2.hp.atEnd hsup hc2.1, fun s u hs => ?_⟩, hvr, hRr⟩
    exact Kend_keep (inI_weaken hsup hc2.2 (hr2.base s u (hB _ _ hs)).1 hs.inI)
  cases e with
  | normal => exact fin .returning (by simp) hq
  | ret => exact fin .returning (by simp) hq
  | panic ch => exact fin (.panicking ch) (by simp) hq
  | exit id => exact hq.elim
  | goto l => exact hq.elim
  | outgrown => exact hq.elim
theorem ACall_of_AWx {f : FuncId} {fn : Func} {c : Code} {args : List AV} {σ : Sg} {R : AV → Sg → Prop} (dfs : List Nat) (hf : P.funcs[f]? = some fn) (hb : fn.body = some c)
    (hname : (fn.name == "runtime.NumGoroutine") = false) {nt : Nat} (hnt : fn.ntmps = nt) (hle : args.length ≤ nt)
    (h : ∀ w0 K0 g w, Laid P K0.K w0 → AWx P ⟨w0, K0, nt, SR σ g w, σ.map (·.1), none, dfs, []⟩ c (EndX P fn w0 K0 σ g w R) (entry 0 args) σ) : ACall P f args σ R := by
  refine ⟨⟨fn, hf, by rw [hb]; rfl, hname⟩, fun w0 K0 g w vs hL hp hs hv => ?_⟩
  refine callsIn_wide.1 (callsIn_of_wp_marks (F := Fence.wide) (n := 0) hf hb trivial ?_)
  have hrel : Rel ⟨w0, K0, nt, SR σ g w, σ.map (·.1), none, dfs, []⟩ (entry 0 args) σ g ⟨vs ++ Array.replicate (fn.ntmps - vs.size) undef, []⟩ w := by
    refine ⟨hp, fun t x ht => ?_, by simp; omega, DRb.empty, fun s v hb => ⟨hb, SR.inI hb⟩⟩
    obtain ⟨_, hx⟩ := lk_entry args 0 t x ht
    rw [Nat.sub_zero] at hx
    have hlt : t < args.length := (List.getElem?_eq_some_iff.1 hx).1
    refine ⟨by show t < nt; omega, ?_⟩
    have hvt : vs[t]? = some (vs[t]'(by omega)) := Array.getElem?_eq_getElem (by omega)
    have e : (vs ++ Array.replicate (fn.ntmps - vs.size) undef).getD t undef = vs[t]'(by omega) := by
      rw [Array.getD_eq_getD_getElem?, Array.getElem?_append_left (by omega), hvt]; rfl
    show VR _ _ _ _ ((vs ++ Array.replicate (fn.ntmps - vs.size) undef).getD t undef)
    rw [e]
    exact VR_of_VR2 (hv t x _ hx hvt)
  exact h w0 K0 g w hL hL g _ w hrel
inductive Rcv : FrameMode → Value → FrameMode → Prop
  | none : Rcv .returning .nilIface .returning
  | some (v : Value) : Rcv (.panicking [{ v := v, recovered := false }]) v (.panicking [{ v := v, recovered := true }])
theorem Rcv.recoverD {u u' : FrameMode} {rv : Value} (h : Rcv u rv u') (c₀ : Frame) (cs : List Frame) (hu : c₀.mode = u) :
    (Go.recoverD (c₀ :: cs) = Option.some (rv, { c₀ with mode := u' } :: cs)) ∨ (Go.recoverD (c₀ :: cs) = Option.none ∧ rv = .nilIface ∧ { c₀ with mode := u' } = c₀) := by
  cases h with
  | none => exact .inr ⟨by simp [Go.recoverD, hu], rfl, by rw [← hu]⟩
  | some v => exact .inl (by simp [Go.recoverD, hu])
theorem wpSIn_region_rec {Q : Exit → Act → List Frame → World → Prop} {cs : List Frame} {c₀ : Frame} {u u' : FrameMode} {rv : Value} (hu : Rcv u rv u') (hc : c₀.mode = u) {id : Nat} {o : Oper} {ops : List Oper} {ts : Array TypeId} (ho : o.op = .call ⟨.builtin .recover, #[], ts⟩) (hg : o.guard = none)
    (h : wpLs none P (o :: ops).toArray (fun e a w => Q e a ({ c₀ with mode := u' } :: cs) w) ops (a.put o.dst rv) w) : (Code.region id (o :: ops).toArray false).wpSIn Fence.wide 0 P Q a (c₀ :: cs) w := by
  intro b k hb hro hF hroom
  have hx := wpOpsIn_of_wpLs (ro := none) (P := P) (ops := (o :: ops).toArray) ops 1 (fun j => by simp [Nat.add_comm 1 j]) _ w h
  obtain ⟨e, a', w', hq, harr⟩ := wp_opsIn (F := FX none) (n := 0) _ _ w hx b k ({ c₀ with mode := u' } :: cs) hro hF hroom
  have hgo : ((o :: ops).toArray)[0]? = Option.some o := by simp
  have hw : Region.wanted o (yielded (o :: ops).toArray a.tmps) = true := by simp [Region.wanted, hg]
  have hgs := stepGR_op (P := P) (b := b) (a := a) (k := k) (cs := c₀ :: cs) (w := w) (rest := List.range' 1 ops.length) hgo hw
  rw [hro, Oper.semAt_none] at hgs
  have hfin : ∀ v, (b.atR a (.inRegion (o :: ops).toArray (0 :: List.range' 1 ops.length) :: k)).finish v = b.atR (a.put o.dst v) (.inRegion (o :: ops).toArray (List.range' 1 ops.length) :: k) := by
    intro v; rw [Frame.finish_atR, hgo]; rfl
  have hk : (b.atR a (.inRegion (o :: ops).toArray (0 :: List.range' 1 ops.length) :: k)).kind = .deferred := hb
  have htr := tryRecover_deferred hk (c₀ :: cs)
  have hr : (execOp a.eval o).run P w = .ok .recover w := by
    simp [execOp, ho, resolve, invoke, builtin]
  have hrange : List.range ((o :: ops).toArray).size = 0 :: List.range' 1 ops.length := by
    rw [List.range_eq_range']; simp [List.range'_succ]
  have hstep : step P (lone (b.atR a (.inRegion (o :: ops).toArray (0 :: List.range' 1 ops.length) :: k)) (c₀ :: cs) w) = .next (lone (b.atR (a.put o.dst rv) (.inRegion (o :: ops).toArray (List.range' 1 ops.length) :: k)) ({ c₀ with mode := u' } :: cs) w) := by
    refine step_lone_go ?_
    rw [hgs, ← hfin]
    rcases hu.recoverD c₀ cs hc with hrec | ⟨hrec, rfl, heq⟩
    · simp only [Frame.atR, hro] at htr ⊢
      simp [stepG.apply, hr, htr, hrec]
    · rw [heq]
      simp only [Frame.atR, hro] at htr ⊢
      simp [stepG.apply, hr, htr, hrec]
  refine ⟨e, a', _, w', by simp, hq, .of_steps (.head (fenced_calm hF hroom rfl) stepR_region (.one ?_ (hrange ▸ hstep))) harr⟩
  rw [hrange]
  exact fenced_oper hF hroom hgo (fun f hf => trivial)
theorem DCall_of_recover {tt : TT} (htt : tt.ok P) {f : FuncId} {fn : Func} {id : Nat} {o : Oper} {ops : List Oper} {ts : Array TypeId} {y : Code} {args : List AV} {σ : Sg} {Rd : FrameMode → Sg → Prop} {res : List ResultVar} {u u' : FrameMode} {rv : Value}
    (hu : Rcv u rv u') (h1 : rv.oneCell' = true) (hf : P.funcs[f]? = Option.some fn) (hb : fn.body = Option.some (.seq (.region id (o :: ops).toArray false) y)) (ho : o.op = .call ⟨.builtin .recover, #[], ts⟩) (hg : o.guard = none)
    (hname : (fn.name == "runtime.NumGoroutine") = false) (hres : fn.results = res.toArray) {nt : Nat} (hnt : fn.ntmps = nt) (hle : args.length ≤ nt)
    (h : ∀ w0 K0 B, putFr nt o.dst none (.x (.d (.v rv))) (entry 0 args) fun fr' => vcOps P tt nt (o :: ops) (AW P ⟨w0, K0, nt, B, σ.map (·.1), none, [], []⟩ y (PostD tt res (σ.map (·.1)) fun _ σ' => Rd u' σ')) ops fr' σ) : DCall P f args σ u Rd := by
  refine ⟨⟨fn, hf, by rw [hb]; rfl, hname⟩, fun w0 K0 g w vs hL hp hs hv => ?_⟩
  refine callsDIn_of_wpSIn hf hb trivial fun c₀ cs hc => ?_
  have hrel : Rel ⟨w0, K0, nt, SR σ g w, σ.map (·.1), none, [], []⟩ (entry 0 args) σ g ⟨vs ++ Array.replicate (fn.ntmps - vs.size) undef, []⟩ w := by
    refine ⟨hp, fun t x ht => ?_, by simp; omega, DRb.empty, fun s v hb => ⟨hb, SR.inI hb⟩⟩
    obtain ⟨_, hx⟩ := lk_entry args 0 t x ht
    rw [Nat.sub_zero] at hx
    have hlt : t < args.length := (List.getElem?_eq_some_iff.1 hx).1
    refine ⟨by show t < nt; omega, ?_⟩
    have hvt : vs[t]? = Option.some (vs[t]'(by omega)) := Array.getElem?_eq_getElem (by omega)
    have e : (vs ++ Array.replicate (fn.ntmps - vs.size) undef).getD t undef = vs[t]'(by omega) := by
      rw [Array.getD_eq_getD_getElem?, Array.getElem?_append_left (by omega), hvt]; rfl
    show VR _ _ _ _ ((vs ++ Array.replicate (fn.ntmps - vs.size) undef).getD t undef)
    rw [e]
    exact VR_of_VR2 (hv t x _ hx hvt)
  refine wpSIn_seq (wpSIn_region_rec hu hc ho hg ?_)
  obtain ⟨fr', hk, hrel'⟩ := putFr_ok hrel (h w0 K0 (SR σ g w)) (v := rv) (vr_plain _ h1)
  have fin : ∀ e a w', Lift ⟨w0, K0, nt, SR σ g w, σ.map (·.1), none, [], []⟩ (PostD tt res (σ.map (·.1)) fun _ σ' => Rd u' σ') e a w' →
      bodyPostS P fn c₀ cs (fun e u' w' => ∃ v g' σ', e = .returned v ∧ Did w0 K0 σ g w σ' g' w' ∧ Rd u' σ') e a ({ c₀ with mode := u' } :: cs) w' := by
    intro e a' w' ⟨fr, τ, g', hr, hq⟩
    have fin2 : (∃ r σ', SubS τ σ' ∧ (rsSg σ' σ' && idsIn (σ.map (·.1)) σ') = true ∧ outKeep tt res fr τ σ' = Option.some r ∧ Rd u' σ') →
        a'.defers = [] ∧ ∃ u'', ({ c₀ with mode := u' } :: cs : List Frame) = { c₀ with mode := u'' } :: cs ∧ ∃ v, (results fn a'.tmps).run P w' = .ok v w' ∧ ∃ v1 g'' σ'', Ending.returned v = .returned v1 ∧ Did w0 K0 σ g w σ'' g'' w' ∧ Rd u'' σ'' := by
      rintro ⟨r, σ', hsub, hc, ho, hR⟩
      simp only [Bool.and_eq_true] at hc
      have hsup := SubS_ok hsub
      obtain ⟨v, hrun, hvr⟩ := outKeep_ok htt hr hsup hres ho
      exact ⟨hr.defers.nil, u', rfl, v, hrun, v, _, σ', rfl, ⟨hr.hp.atEnd hsup hc.1, fun s u hs => Kend_keep (inI_weaken hsup hc.2 (hr.base s u hs).1 (hr.base s u hs).2)⟩, hR⟩
    cases e with
    | normal => exact fin2 hq
    | ret => exact fin2 hq
    | _ => exact hq.elim
  refine vcOps_okK (Γ := ⟨w0, K0, nt, SR σ g w, σ.map (·.1), none, [], []⟩) htt hL ?_ ops fr' σ hk g _ w hrel'
  intro fr σ1 g1 a1 w1 hr1 haw
  show y.wpSIn Fence.wide 0 P _ a1 _ w1
  exact wpSIn_of_wpIn rfl (wpIn_mono (haw.use hL hr1) fin)
end
end Go.QL
namespace Go.Proofs.YtfpaonfddaeamaaGreatDoor
open Go Go.QL Go.RowKit
set_option maxHeartbeats 1600000
attribute [local irreducible] ACall FnC YC
theorem itoa_all (n : Int) (h0 : -9223372036854775808 ≤ n) (h1 : n ≤ 9223372036854775807) : FnC Tryz.prog 37 [iv .i64 n] (sv ⟨(Lib.itoa n).toArray⟩) := by
  unfold FnC
  refine ⟨⟨_, Tryz.func37, rfl, rfl⟩, fun K w vs hL hK hs hv => ?_⟩
  obtain ⟨v, rfl⟩ : ∃ v, vs = #[v] := by
    match vs, hs with
    | ⟨[v]⟩, _ => exact ⟨v, rfl⟩
  have h2 := hv 0 (iv .i64 n) v rfl rfl
  have hvi : v = .int .i64 n := by
    cases h2 with
    | d _ _ h => cases h; rfl
  subst hvi
  refine Calls.mono (show Calls Tryz.prog 37 #[.int .i64 n] w _ from Any.strconv_Itoa Tryz.laysM171 n h0 h1 w (hL.tab (by decide +kernel) (by kernel_rfl : _ = some 3))) ?_
  rintro e w' ⟨rfl, k, os, rfl⟩
  have hb := Lib.below_grow w.heap.size w (Nat.le_refl _) k os
  refine ⟨_, K, rfl, hb, ⟨fun _ _ h => h, fun b o hk => ?_⟩, fun _ _ _ h => h, fun b o hk => Nat.lt_of_lt_of_le (hK b o hk) hb.size, vr_plain _ rfl⟩
  exact hb.cell (hK b o hk)
def atoiR (s : ByteArray) (r : AV) : Prop :=
  match Lib.atoiAll s.data.toList with
  | .ok v => r = .t [iv .i64 v, .x (.d (.v .nilIface))]
  | _ => ∃ u t p, r = .t [iv .i64 u, .x (.d (.v (.iface t p)))]
theorem tup2 {σ : Sg} {g : Gh} {w : World} {a b : Value} (ha : a.oneCell' = true) (hb : b.oneCell' = true) : VR2 σ g w (.t [.x (.d (.v a)), .x (.d (.v b))]) (.tuple #[a, b]) := by
  refine ⟨#[a, b], rfl, rfl, fun i x v hi hv => ?_⟩
  match i with
  | 0 => cases hi; cases hv; exact vr_plain _ ha
  | 1 => cases hi; cases hv; exact vr_plain _ hb
  | i + 2 => simp at hi
theorem atoi_call (s : ByteArray) (hs : s.size ≤ 281474976710656) {σ : Sg} : ACall Tryz.prog 45 [sv s] σ (fun r σ' => σ' = σ ∧ atoiR s r) := by
  unfold ACall
  refine ⟨⟨_, Tryz.func45, rfl, rfl⟩, fun w0 K0 g w vs hL hhp hs' hv => ?_⟩
  obtain ⟨v, rfl⟩ : ∃ v, vs = #[v] := by
    match vs, hs' with
    | ⟨[v]⟩, _ => exact ⟨v, rfl⟩
  have h2 := vr_plain_inv (hv 0 (sv s) v rfl rfl)
  subst h2
  have hLw := hL.mono hhp.ext
  have fin : ∀ (w' : World) (a b : Value) (ha : a.oneCell' = true) (hb : b.oneCell' = true), Below w.heap.size w w' → atoiR s (.t [.x (.d (.v a)), .x (.d (.v b))]) →
      ∃ v g' σ' r, Ending.returned (.tuple #[a, b]) = .returned v ∧ Did w0 K0 σ g w σ' g' w' ∧ VR2 σ' g' w' r v ∧ σ' = σ ∧ atoiR s r := by
    intro w' a b ha hb hbl hR
    refine ⟨_, ⟨g.K, g.μ⟩, σ, _, rfl, hhp.grow hbl ⟨fun _ _ h => h, fun b o hk => hbl.cell (hhp.val b o hk)⟩ (fun _ _ _ h => h) (fun b o hk => Nat.lt_of_lt_of_le (hhp.val b o hk) hbl.size), tup2 ha hb, rfl, hR⟩
  cases h : Lib.atoiAll s.data.toList with
  | ok v =>
    refine (show Calls Tryz.prog 45 #[.string s] w _ from Any.strconv_Atoi_ok Tryz.laysC172 s (by omega) v h w).mono ?_
    rintro e w' ⟨rfl, hw⟩
    have hbl : Below w.heap.size w w' := by
      rcases hw with rfl | ⟨t, rfl⟩
      · exact Below.refl _ _
      · exact Lib.bytesWorld_below w _ t
    exact fin w' _ _ rfl rfl hbl (by unfold atoiR; rw [h])
  | range =>
    obtain ⟨tp, p, hvar⟩ := hLw.err (nm := "strconv.ErrRange") (by decide +kernel) (by kernel_rfl : _ = some 2)
    refine (show Calls Tryz.prog 45 #[.string s] w _ from Any.strconv_Atoi_range_var Tryz.laysC172 s hs h tp p w hvar).mono ?_
    rintro e w' ⟨N, rfl, _, _, hbl⟩
    exact fin w' _ _ rfl rfl hbl (by unfold atoiR; rw [h]; exact ⟨_, _, _, rfl⟩)
  | _ =>
    obtain ⟨tp, p, hvar⟩ := hLw.err (nm := "strconv.ErrSyntax") (by decide +kernel) (by kernel_rfl : _ = some 1)
    refine (show Calls Tryz.prog 45 #[.string s] w _ from Any.strconv_Atoi_syntax_var Tryz.laysC172 s hs h tp p w hvar).mono ?_
    rintro e w' ⟨N, rfl, _, _, hbl⟩
    exact fin w' _ _ rfl rfl hbl (by unfold atoiR; rw [h]; exact ⟨_, _, _, rfl⟩)
abbrev strsPV (l : List ByteArray) : List (List PV) := l.map fun p => [.v (.string p)]
theorem split_fn (s sep : ByteArray) (hs : s.size < 4294967281) (h1 : 1 ≤ sep.size) : FnC Tryz.prog 19 [sv s, sv sep] (.x (.d (.s 1 (strsPV (Lib.splitB sep 0 (Lib.countB s sep) s))))) := by
  unfold FnC
  refine ⟨⟨_, Tryz.func19, rfl, rfl⟩, fun K w vs hL hK hs' hv => ?_⟩
  obtain ⟨u, v, rfl⟩ : ∃ u v, vs = #[u, v] := by
    match vs, hs' with
    | ⟨[u, v]⟩, _ => exact ⟨u, v, rfl⟩
  have h2 := vr_plain_inv (hv 0 (sv s) u rfl rfl)
  have h3 := vr_plain_inv (hv 1 (sv sep) v rfl rfl)
  subst h2; subst h3
  obtain ⟨m, hm⟩ := hL.len (nm := "internal/bytealg.MaxLen") (by decide +kernel) (by kernel_rfl : _ = some 0)
  refine Calls.mono (show Calls Tryz.prog 19 #[.string s, .string sep] w _ from Any.strings_Split Tryz.lays146 (by kernel_rfl) s sep m w hs hm h1) ?_
  rintro e w' ⟨rfl, rfl⟩
  have hle := Lib.countB_le sep h1 s.size s (Nat.le_refl _)
  have hlen := Lib.splitB_all sep h1 0 _ s rfl
  generalize hps : Lib.splitB sep 0 (Lib.countB s sep) s = ps at hlen
  have hbl : Below w.heap.size w (w.alloc (.cells (ps.map Value.string).toArray 9)) := (Below.refl _ w).alloc (Nat.le_refl _) _
  refine ⟨_, fun b o => K b o ∨ b = w.heap.size, rfl, hbl, ⟨fun _ _ h => .inl h, fun b o hk => hbl.cell (hK b o hk)⟩, fun b o hlt hk => hk.elim id fun e => absurd e (Nat.ne_of_lt hlt), fun b o hk => ?_, ?_⟩
  · rcases hk with hk | rfl
    · exact Nat.lt_of_lt_of_le (hK b o hk) hbl.size
    · simp
  · refine .d _ _ ?_
    have hpr := PR.s (K := fun b o => K b o ∨ b = w.heap.size) (w := w.alloc (.cells (ps.map Value.string).toArray 9)) 1 (strsPV ps) (some ⟨w.heap.size, 0, none⟩) (Lib.countB s sep + 1) w.heap.size 0 (fun i _ => .string (ps.getD i ByteArray.empty))
      (by simp [strsPV, hlen]) (by unfold maxLen; omega) (by intro e he; simp [strsPV] at he; obtain ⟨a, _, rfl⟩ := he; rfl) (fun _ => rfl) (fun i e _ j _ => .inr rfl)
      (fun i e he j hj => by
        simp only [strsPV, List.getElem?_map, Option.map_eq_some_iff] at he
        obtain ⟨p, hp, rfl⟩ := he
        simp at hj
        subst hj
        rw [World.cell?_alloc_at _ _ _ _ rfl]
        simp [hp])
      (fun i e he j x hx => by
        simp only [strsPV, List.getElem?_map, Option.map_eq_some_iff] at he
        obtain ⟨p, hp, rfl⟩ := he
        cases j with
        | zero => cases hx; simp [List.getD, hp]; exact .v _ rfl
        | succ j => simp at hx)
    rw [show (strsPV ps).length = Lib.countB s sep + 1 by simp [strsPV, hlen]] at hpr
    exact hpr
end Go.Proofs.YtfpaonfddaeamaaGreatDoor
namespace Go.Proofs.YtfpaonfddaeamaaGreatDoor
open Go Go.QL
set_option maxHeartbeats 400000
def inB (n lo hi : Int) : Bool := bif decide (lo ≤ n) then decide (n ≤ hi) else false
theorem in_fn (n lo hi : Int) : FnC Tryz.prog 38 [iv .i64 n, iv .i64 lo, iv .i64 hi] (bv (inB n lo hi)) := by
  refine FnC_of_AW hTt Tryz.func38 rfl (by kernel_rfl) (res := [.tmp 6]) rfl Tryz.ntmps38 (by simp) fun w0 K0 => ?_
  dsimp only [entry]
  repeat' first | with_reducible refine AW_seq ?_ | ((first | with_reducible refine AW_ret ?_ | with_reducible refine AW_region hTt ?_ | refine andA ?_ | fail); conv => whnf) | fail
  rfl
def delays : List GateT → Nat
  | [] => 0
  | g :: r => (if g.kind = 5 then 1 else 0) + delays r
theorem delays_take (l : List GateT) (i : Nat) (h : i < l.length) : delays (l.take (i + 1)) = delays (l.take i) + (if l[i].kind = 5 then 1 else 0) := by
  induction l generalizing i with
  | nil => simp at h
  | cons g r ih =>
    cases i with
    | zero => simp [delays]
    | succ i => simp at h; simp only [List.take_succ_cons, delays, ih i h, List.getElem_cons_succ]; omega
theorem delays_le (l : List GateT) : delays l ≤ l.length := by
  induction l with
  | nil => simp [delays]
  | cons g r ih => simp only [delays, List.length_cons]; split <;> omega
theorem delays_fn (n : NetT) : FnC Tryz.prog 40 [netAV n] (iv .i64 (delays n.gates)) := by
  refine FnC_of_AW hTt Tryz.func40 rfl (by kernel_rfl) (res := [.tmp 2]) rfl Tryz.ntmps40 (by simp) fun w0 K0 => ?_
  dsimp only [entry]
  repeat' first | with_reducible refine AW_seq ?_ | with_reducible refine AW_block ?_ | ((with_reducible refine AW_region hTt ?_); conv => whnf) | fail
  refine AW_loop (fun i : Nat => [(4, iv .i64 i), (3, iv .i64 (delays (n.gates.take i))), (1, .x (.b 1 0))]) (fun _ => [(1, .box [.d (.v (.int .i64 n.inn)), .d (gatesPV n.gates), .d (intsPV n.out)])]) (fun i => i ≤ n.gates.length) (fun i => n.gates.length - i) 0 (by simp) (Imp.forget ⟨rfl, rfl, rfl, trivial⟩ ⟨rfl, trivial⟩ rfl) ?_
  intro i hi
  have hdl := delays_le (n.gates.take i)
  rw [List.length_take] at hdl
  repeat' first | with_reducible refine AW_seq ?_ | with_reducible refine AW_block ?_ | ((first | with_reducible refine AW_skip ?_ | with_reducible refine AW_exit ?_ | with_reducible refine AW_ret ?_ | with_reducible refine AW_region hTt ?_ | fail); conv => whnf) | (refine AW_cond rfl (fun hb => ?_) (fun hb => ?_) <;> first | (replace hb := of_decide_eq_true hb; try simp only [List.length_map] at hb) | (replace hb := of_decide_eq_false hb; try simp only [List.length_map] at hb)) | ((first | refine ⟨_, wrap_of (by first | omega | (simp only [List.length_map]; omega)), ?_⟩ | refine andA ?_ | with_reducible refine Exists.intro _ (And.intro (gd_any (And.intro (by omega) (map_get (by omega)))) ?_) | fail); conv => whnf) | (refine fun hln => ?_; (try rw [List.length_map] at hln); unfold maxLen at hln; conv => whnf) | fail
  · have e : (delays (n.gates.take i) : Int) + 1 = delays (n.gates.take (i + 1)) := by
      rw [delays_take _ _ (by omega), if_pos hb]; omega
    exact ⟨i + 1, by omega, by omega, Imp.forget ⟨rfl, congrArg (fun k : Int => some (iv .i64 k)) e, rfl, trivial⟩ ⟨rfl, trivial⟩ rfl⟩
  · have e : (delays (n.gates.take i) : Int) = delays (n.gates.take (i + 1)) := by
      rw [delays_take _ _ (by omega), if_neg hb]; omega
    exact ⟨i + 1, by omega, by omega, Imp.forget ⟨rfl, congrArg (fun k : Int => some (iv .i64 k)) e, rfl, trivial⟩ ⟨rfl, trivial⟩ rfl⟩
  · rw [List.take_of_length_le (by omega)]; rfl
end Go.Proofs.YtfpaonfddaeamaaGreatDoor
namespace Go.Proofs.YtfpaonfddaeamaaGreatDoor
open Go Go.QL
set_option maxHeartbeats 400000
def gateErr (inn : Int) (len i : Nat) (g : GateT) : Int :=
  if inB g.kind 1 5 = false then 2
  else
    let last := if g.kind = 5 then inn + len - 1 else inn + i - 1
    let b := if g.kind = 4 ∨ g.kind = 5 then 0 else last
    if inB g.a 0 last = false ∨ inB g.b 0 b = false then 4 else 0
theorem gate_fn (n : NetT) (i : Nat) (hi : i < n.gates.length) (h1 : 1 ≤ n.inn) (h6 : n.inn ≤ 6) (hl : n.gates.length ≤ 24) :
    FnC Tryz.prog 39 [netAV n, iv .i64 i] (iv .i64 (gateErr n.inn n.gates.length i n.gates[i])) := by
  refine FnC_of_AW hTt Tryz.func39 rfl (by kernel_rfl) (res := [.tmp 4]) rfl Tryz.ntmps39 (by simp) fun w0 K0 => ?_
  dsimp only [entry]
  repeat' first | with_reducible refine AW_seq ?_ | ((first | with_reducible refine AW_skip ?_ | with_reducible refine AW_ret ?_ | with_reducible refine AW_region hTt ?_ | ((refine ⟨_, (in_fn _ _ _).call rfl rfl, ?_⟩); (rintro _ _ ⟨rfl, rfl⟩)) | refine ⟨_, fun _ => (in_fn _ _ _).call rfl rfl, ?_⟩ | fail); conv => whnf) | (refine AW_cond rfl (fun hb => ?_) (fun hb => ?_) <;> first | (replace hb := of_decide_eq_true hb; try simp only [List.length_map] at hb) | (replace hb := of_decide_eq_false hb; try simp only [List.length_map] at hb) | (simp only [List.length_map, bne_iff_ne, ne_eq, beq_iff_eq, bne_eq_false_iff_eq, beq_eq_false_iff_ne, decide_eq_true_eq, decide_eq_false_iff_not, Bool.not_eq_true', Bool.not_eq_false', Int.natCast_inj] at hb) | skip) | ((first | refine ⟨_, wrap_of (by first | omega | (simp only [List.length_map]; omega)), ?_⟩ | refine andA ?_ | with_reducible refine Exists.intro _ (And.intro (gd_any (And.intro (by omega) (map_get (by omega)))) ?_) | fail); conv => whnf) | (refine fun hln => ?_; (try rw [List.length_map] at hln); unfold maxLen at hln; conv => whnf) | fail
  all_goals first
    | (rw [show gateErr n.inn n.gates.length i n.gates[i] = 2 from by simp_all [gateErr]]; rfl)
    | (rw [show gateErr n.inn n.gates.length i n.gates[i] = 4 from by simp_all [gateErr]]; rfl)
    | (rw [show gateErr n.inn n.gates.length i n.gates[i] = 0 from by simp_all [gateErr]]; rfl)
end Go.Proofs.YtfpaonfddaeamaaGreatDoor
namespace Go.Proofs.YtfpaonfddaeamaaGreatDoor
open Go Go.QL
set_option maxHeartbeats 800000
attribute [local irreducible] ACall FnC
theorem inB_iff {n lo hi : Int} : inB n lo hi = true ↔ lo ≤ n ∧ n ≤ hi := by
  unfold inB
  cases h : decide (lo ≤ n) with
  | true => have := of_decide_eq_true h; simp [this]
  | false => have := of_decide_eq_false h; simp [this]
def firstGate (inn : Int) (len : Nat) : List GateT → Nat → Option (Nat × Int)
  | [], _ => none
  | g :: r, i => if gateErr inn len i g = 0 then firstGate inn len r (i + 1) else some (i, gateErr inn len i g)
def firstOut (last : Int) : List Int → Nat → Option Nat
  | [], _ => none
  | x :: r, j => if inB x 0 last = true then firstOut last r (j + 1) else some j
def checkR (n : NetT) : Int × Int × Int :=
  if inB n.inn 1 6 = false then (1, 0, 7)
  else if 24 < n.gates.length ∨ inB n.out.length 1 4 = false then (1, 0, 3)
  else match firstGate n.inn n.gates.length n.gates 0 with
    | some (i, e) => (2, i, e)
    | none =>
      if 5 < delays n.gates then (1, 0, 3)
      else match firstOut (n.inn + n.gates.length - 1) n.out 0 with
        | some j => (3, j, 4)
        | none => (0, 0, 0)
def three (t : Int × Int × Int) : AV := .t [iv .i64 t.1, iv .i64 t.2.1, iv .i64 t.2.2]
theorem check_fn (n : NetT) : FnC Tryz.prog 14 [netAV n] (three (checkR n)) := by
  refine FnC_of_AW hTt Tryz.func14 rfl (by kernel_rfl) (res := [.tmp 2, .tmp 3, .tmp 4]) rfl Tryz.ntmps14 (by simp) fun w0 K0 => ?_
  dsimp only [entry]
  repeat' first | with_reducible refine AW_seq ?_ | with_reducible refine AW_block ?_ | ((first | with_reducible refine AW_skip ?_ | with_reducible refine AW_ret ?_ | with_reducible refine AW_region hTt ?_ | ((refine ⟨_, (in_fn _ _ _).call rfl rfl, ?_⟩); (rintro _ _ ⟨rfl, rfl⟩)) | refine ⟨_, fun _ => (in_fn _ _ _).call rfl rfl, ?_⟩ | fail); conv => whnf) | (refine AW_cond rfl (fun hb => ?_) (fun hb => ?_) <;> first | (replace hb := of_decide_eq_true hb; try simp only [List.length_map] at hb) | (replace hb := of_decide_eq_false hb; try simp only [List.length_map] at hb) | (simp only [List.length_map, bne_iff_ne, ne_eq, beq_iff_eq, bne_eq_false_iff_eq, beq_eq_false_iff_ne, decide_eq_true_eq, decide_eq_false_iff_not, Bool.not_eq_true', Bool.not_eq_false', Int.natCast_inj] at hb)) | ((refine andA ?_); conv => whnf) | (refine fun hln => ?_; (try rw [List.length_map] at hln); unfold maxLen at hln; conv => whnf) | fail
  · rw [show checkR n = (1, 0, 7) from by unfold checkR; rw [if_pos hb]]; rfl
  · rename_i hin
    rw [show checkR n = (1, 0, 3) from by
      unfold checkR
      rw [if_neg (by rw [hin]; exact Bool.noConfusion), if_pos]
      revert hb
      cases hd : decide (24 < (n.gates.length : Int)) with
      | true => intro _; have := of_decide_eq_true hd; exact .inl (by omega)
      | false => intro hb; right; simpa using hb]; rfl
  · rename_i hin
    have hlen : n.gates.length ≤ 24 ∧ inB n.out.length 1 4 = true := by
      revert hb
      cases hd : decide (24 < (n.gates.length : Int)) with
      | true => intro hb; cases hb
      | false => intro hb; have := of_decide_eq_false hd; exact ⟨by omega, by simpa using hb⟩
    obtain ⟨h1, h6⟩ := inB_iff.1 hin
    have e0 : checkR n = match firstGate n.inn n.gates.length n.gates 0 with
      | some (i, e) => (2, i, e)
      | none =>
        if 5 < delays n.gates then (1, 0, 3)
        else match firstOut (n.inn + n.gates.length - 1) n.out 0 with
          | some j => (3, j, 4)
          | none => (0, 0, 0) := by
      unfold checkR
      rw [if_neg (by rw [hin]; exact Bool.noConfusion), if_neg (by rw [hlen.2]; intro h; rcases h with h | h; omega; cases h)]
    refine AW_loop (fun i : Nat => [(5, iv .i64 i), (1, .x (.b 1 0))]) (fun _ => [(1, .box [.d (.v (.int .i64 n.inn)), .d (gatesPV n.gates), .d (intsPV n.out)])])
      (fun i => i ≤ n.gates.length ∧ firstGate n.inn n.gates.length n.gates 0 = firstGate n.inn n.gates.length (n.gates.drop i) i) (fun i => n.gates.length - i) 0 (by simp) (Imp.forget ⟨rfl, rfl, trivial⟩ ⟨rfl, trivial⟩ rfl) ?_
    rintro i ⟨hi, hfg⟩
    repeat' first | with_reducible refine AW_seq ?_ | with_reducible refine AW_block ?_ | ((first | with_reducible refine AW_skip ?_ | with_reducible refine AW_exit ?_ | with_reducible refine AW_ret ?_ | with_reducible refine AW_region hTt ?_ | ((refine ⟨_, (gate_fn n i (by omega) h1 h6 hlen.1).call rfl rfl, ?_⟩); (rintro _ _ ⟨rfl, rfl⟩)) | ((refine ⟨_, (delays_fn n).call rfl rfl, ?_⟩); (rintro _ _ ⟨rfl, rfl⟩)) | fail); conv => whnf) | (refine AW_cond rfl (fun hb => ?_) (fun hb => ?_) <;> first | (replace hb := of_decide_eq_true hb; try simp only [List.length_map] at hb) | (replace hb := of_decide_eq_false hb; try simp only [List.length_map] at hb) | (simp only [List.length_map, bne_iff_ne, ne_eq, beq_iff_eq, bne_eq_false_iff_eq, beq_eq_false_iff_ne, decide_eq_true_eq, decide_eq_false_iff_not, Bool.not_eq_true', Bool.not_eq_false', Int.natCast_inj] at hb)) | ((first | refine ⟨_, wrap_of (by first | omega | (simp only [List.length_map]; omega)), ?_⟩ | refine andA ?_ | fail); conv => whnf) | (refine fun hln => ?_; (try rw [List.length_map] at hln); unfold maxLen at hln; conv => whnf) | fail
    · have e1 : checkR n = (2, (i : Int), gateErr n.inn n.gates.length i n.gates[i]) := by
        rw [e0, hfg, List.drop_eq_getElem_cons (by omega)]
        simp only [firstGate]
        rw [if_neg hb]
      rw [e1]; rfl
    · refine ⟨i + 1, ⟨by omega, ?_⟩, by omega, Imp.forget ⟨rfl, rfl, trivial⟩ ⟨rfl, trivial⟩ rfl⟩
      rw [hfg, List.drop_eq_getElem_cons (by omega)]
      simp only [firstGate]
      rw [if_pos hb]
    · have e2 : firstGate n.inn n.gates.length n.gates 0 = none := by
        rw [hfg, List.drop_eq_nil_of_le (by omega)]; rfl
      rw [show checkR n = (1, 0, 3) from by rw [e0, e2]; exact if_pos (by omega)]; rfl
    · have e2 : firstGate n.inn n.gates.length n.gates 0 = none := by
        rw [hfg, List.drop_eq_nil_of_le (by omega)]; rfl
      have e3 : checkR n = match firstOut (n.inn + n.gates.length - 1) n.out 0 with
          | some j => (3, (j : Int), 4)
          | none => (0, 0, 0) := by
        rw [e0, e2]; exact if_neg (by omega)
      refine AW_loop (fun j : Nat => [(7, iv .i64 j), (1, .x (.b 1 0))]) (fun _ => [(1, .box [.d (.v (.int .i64 n.inn)), .d (gatesPV n.gates), .d (intsPV n.out)])])
        (fun j => j ≤ n.out.length ∧ firstOut (n.inn + n.gates.length - 1) n.out 0 = firstOut (n.inn + n.gates.length - 1) (n.out.drop j) j) (fun j => n.out.length - j) 0 (by simp) (Imp.forget ⟨rfl, rfl, trivial⟩ ⟨rfl, trivial⟩ rfl) ?_
      rintro j ⟨hj, hfo⟩
      have hll := hlen.1
      repeat' first | with_reducible refine AW_seq ?_ | with_reducible refine AW_block ?_ | ((first | with_reducible refine AW_skip ?_ | with_reducible refine AW_exit ?_ | with_reducible refine AW_ret ?_ | with_reducible refine AW_region hTt ?_ | refine AW_draw hTt hMix (id := 16) 12 false [0, 1, 0, 7, 15, 0, 32, 0, 128, 384, 992, 2016, 4095, 8191] (by kernel_rfl) rfl rfl (by kernel_rfl) ?_ | ((refine ⟨_, (in_fn _ _ _).call rfl rfl, ?_⟩); (rintro _ _ ⟨rfl, rfl⟩)) | fail); conv => whnf) | (refine AW_cond rfl (fun hb => ?_) (fun hb => ?_) <;> first | (replace hb := of_decide_eq_true hb; try simp only [List.length_map] at hb) | (replace hb := of_decide_eq_false hb; try simp only [List.length_map] at hb) | (simp only [List.length_map, bne_iff_ne, ne_eq, beq_iff_eq, bne_eq_false_iff_eq, beq_eq_false_iff_ne, decide_eq_true_eq, decide_eq_false_iff_not, Bool.not_eq_true', Bool.not_eq_false', Int.natCast_inj] at hb)) | ((first | refine ⟨_, wrap_of (by first | omega | (simp only [List.length_map]; omega)), ?_⟩ | refine andA ?_ | with_reducible refine Exists.intro _ (And.intro (gd_any (And.intro (by omega) (map_get (by omega)))) ?_) | fail); conv => whnf) | (refine fun hln => ?_; (try rw [List.length_map] at hln); unfold maxLen at hln; conv => whnf) | fail
      · have e4 : checkR n = (3, (j : Int), 4) := by
          rw [e3, hfo, List.drop_eq_getElem_cons (by omega)]
          simp only [firstOut]
          rw [if_neg (by rw [hb]; exact Bool.noConfusion)]
        rw [e4]; rfl
      · refine ⟨j + 1, ⟨by omega, ?_⟩, by omega, Imp.forget ⟨rfl, rfl, trivial⟩ ⟨rfl, trivial⟩ rfl⟩
        rw [hfo, List.drop_eq_getElem_cons (by omega)]
        simp only [firstOut]
        rw [if_pos hb]
      · have e4 : checkR n = (0, 0, 0) := by
          rw [e3, hfo, List.drop_eq_nil_of_le (by omega)]; rfl
        rw [e4]; rfl
end Go.Proofs.YtfpaonfddaeamaaGreatDoor
namespace Go.Proofs.YtfpaonfddaeamaaGreatDoor
open Go Go.QL
set_option maxHeartbeats 800000
attribute [local irreducible] ACall FnC
def outB (n hi : Int) : Bool := bif decide (n < 0) then true else decide (hi < n)
theorem out_fn (n hi : Int) : FnC Tryz.prog 34 [iv .i64 n, iv .i64 hi] (bv (outB n hi)) := by
  refine FnC_of_AW hTt Tryz.func34 rfl (by kernel_rfl) (res := [.tmp 4]) rfl Tryz.ntmps34 (by simp) fun w0 K0 => ?_
  dsimp only [entry]
  repeat' first | with_reducible refine AW_seq ?_ | ((first | with_reducible refine AW_ret ?_ | with_reducible refine AW_region hTt ?_ | refine andA ?_ | fail); conv => whnf) | fail
  rfl
theorem chk1_fn (last x : Int) (rest : Sg) : ACall Tryz.prog 36 [iv .i64 x, .x (.b 6 0)] ((6, .box [.d (.v (.int .i64 last))]) :: rest)
    (fun r σ' => r = bv (outB x last) ∧ σ' = (6, .box [.d (.v (.int .i64 last))]) :: rest) := by
  refine ACall_of_AW hTt Tryz.func36 rfl (by kernel_rfl) (res := [.tmp 3]) rfl Tryz.ntmps36 (by simp) fun w0 K0 B => ?_
  dsimp only [entry]
  repeat' first | with_reducible refine AW_seq ?_ | ((first | with_reducible refine AW_ret ?_ | with_reducible refine AW_region hTt ?_ | ((refine ⟨_, (out_fn _ _).call rfl rfl, ?_⟩); (rintro _ _ ⟨rfl, rfl⟩)) | fail); conv => whnf) | fail
  exact ⟨_, rfl, rfl, rfl⟩
def firstBad (last : Int) (l : List Int) : Int :=
  match firstOut last l 0 with
  | some j => j
  | none => -1
theorem outB_eq (x hi : Int) : outB x hi = !inB x 0 hi := by
  unfold outB inB
  by_cases h : x < 0
  · simp [h]
  · by_cases h2 : hi < x
    · have : ¬ x ≤ hi := by omega
      simp [h, h2, this]
    · have : x ≤ hi := by omega
      have h3 : 0 ≤ x := by omega
      simp [h2, this, h3]
theorem idxf_fn (last : Int) (l : List Int) (rest : Sg) : ACall Tryz.prog 35 [sl l, .x (.f (.func 36) [] [.b 6 0])] ((6, .box [.d (.v (.int .i64 last))]) :: rest)
    (fun r σ' => r = iv .i64 (firstBad last l) ∧ σ' = (6, .box [.d (.v (.int .i64 last))]) :: rest) := by
  refine ACall_of_AW hTt Tryz.func35 rfl (by kernel_rfl) (res := [.tmp 4]) rfl Tryz.ntmps35 (by simp) fun w0 K0 B => ?_
  dsimp only [entry]
  repeat' first | with_reducible refine AW_seq ?_ | with_reducible refine AW_block ?_ | ((with_reducible refine AW_region hTt ?_); conv => whnf) | (refine fun hln => ?_; (try rw [List.length_map] at hln); unfold maxLen at hln; conv => whnf) | fail
  refine AW_loop (fun i : Nat => [(8, iv .i64 i), (7, iv .i64 l.length), (0, sl l), (1, .x (.f (.func 36) [] [.b 6 0]))]) (fun _ => (6, .box [.d (.v (.int .i64 last))]) :: rest)
    (fun i => i ≤ l.length ∧ firstOut last l 0 = firstOut last (l.drop i) i) (fun i => l.length - i) 0 (by simp) (Imp.slots ⟨rfl, congrArg (fun k : Nat => some (iv .i64 k)) (List.length_map _), rfl, rfl, trivial⟩) ?_
  rintro i ⟨hi, hfo⟩
  repeat' first | with_reducible refine AW_seq ?_ | with_reducible refine AW_block ?_ | ((first | with_reducible refine AW_skip ?_ | with_reducible refine AW_exit ?_ | with_reducible refine AW_ret ?_ | with_reducible refine AW_region hTt ?_ | ((refine ⟨_, chk1_fn _ _ _, ?_⟩); (rintro _ _ ⟨rfl, rfl⟩)) | fail); conv => whnf) | (refine AW_cond rfl (fun hb => ?_) (fun hb => ?_) <;> first | (replace hb := of_decide_eq_true hb; try simp only [List.length_map] at hb) | (replace hb := of_decide_eq_false hb; try simp only [List.length_map] at hb) | skip) | ((first | refine ⟨_, wrap_of (by first | omega | (simp only [List.length_map]; omega)), ?_⟩ | refine andA ?_ | with_reducible refine Exists.intro _ (And.intro (gd_any (And.intro (by omega) (map_get (by omega)))) ?_) | fail); conv => whnf) | fail
  · have e : firstBad last l = i := by
      unfold firstBad
      rw [hfo, List.drop_eq_getElem_cons (by omega)]
      simp only [firstOut]
      rw [outB_eq] at hb
      rw [if_neg (by simpa using hb)]
    exact ⟨_, rfl, by rw [e], rfl⟩
  · refine ⟨i + 1, ⟨by omega, ?_⟩, by omega, Imp.slots ⟨rfl, rfl, rfl, rfl, trivial⟩⟩
    rw [hfo, List.drop_eq_getElem_cons (by omega)]
    simp only [firstOut]
    rw [outB_eq] at hb
    rw [if_pos (by simpa using hb)]
  · have e : firstBad last l = -1 := by
      unfold firstBad
      rw [hfo, List.drop_eq_nil_of_le (by omega)]; rfl
    exact ⟨_, rfl, by rw [e], rfl⟩
def i64 (n : Int) : Prop := -9223372036854775808 ≤ n ∧ n ≤ 9223372036854775807
theorem wrap_low {n : Int} (h : i64 n) {hi : Int} (hh : hi < 9223372036854775807) : outB (IntKind.i64.wrap (n - 1)) hi = !inB n 1 (hi + 1) := by
  obtain ⟨h1, h2⟩ := h
  by_cases hn : n = -9223372036854775808
  · subst hn
    have : IntKind.i64.wrap (-9223372036854775808 - 1) = 9223372036854775807 := by decide
    rw [this]
    unfold outB inB
    simp [hh]
  · rw [wrap_of (by omega), outB_eq]
    congr 1
    unfold inB
    by_cases h3 : 1 ≤ n
    · have : 0 ≤ n - 1 := by omega
      simp only [this, h3, decide_true, cond_true]
      exact decide_eq_decide.2 (by omega)
    · have : ¬ 0 ≤ n - 1 := by omega
      simp [this, h3]
theorem or_if {a b : Bool} : (if (!a) = false ∨ (!b) = false then (4 : Int) else 0) = if (bif a then true else b) = true then 4 else 0 := by
  cases a <;> cases b <;> rfl
theorem inB_out (x hi : Int) : inB x 0 hi = !outB x hi := by rw [outB_eq, Bool.not_not]
theorem gerr1 {inn : Int} {len i : Nat} {g : GateT} (hk : g.kind = 1 ∨ g.kind = 2 ∨ g.kind = 3) : gateErr inn len i g = if (bif outB g.a (inn + i - 1) then true else outB g.b (inn + i - 1)) = true then 4 else 0 := by
  unfold gateErr
  rw [if_neg (by rw [show inB g.kind 1 5 = true from inB_iff.2 (by omega)]; exact Bool.noConfusion)]
  simp only [show ¬ g.kind = 5 by omega, show ¬ g.kind = 4 by omega, or_self, if_false, inB_out]
  exact or_if
theorem gerr4 {inn : Int} {len i : Nat} {g : GateT} (hk : g.kind = 4) : gateErr inn len i g = if (bif outB g.a (inn + i - 1) then true else outB g.b 0) = true then 4 else 0 := by
  unfold gateErr
  rw [if_neg (by rw [show inB g.kind 1 5 = true from inB_iff.2 (by omega)]; exact Bool.noConfusion)]
  simp only [show ¬ g.kind = 5 by omega, hk, true_or, if_false, if_true, inB_out, show ¬ (4 : Int) = 5 by omega]
  exact or_if
theorem gerr5 {inn : Int} {len i : Nat} {g : GateT} (hk : g.kind = 5) : gateErr inn len i g = if (bif outB g.a (inn + len - 1) then true else outB g.b 0) = true then 4 else 0 := by
  unfold gateErr
  rw [if_neg (by rw [show inB g.kind 1 5 = true from inB_iff.2 (by omega)]; exact Bool.noConfusion)]
  simp only [hk, show ((5 : Int) = 4 ∨ (5 : Int) = 5) by omega, if_true, inB_out]
  exact or_if
theorem gerrX {inn : Int} {len i : Nat} {g : GateT} (hk : ¬ (1 ≤ g.kind ∧ g.kind ≤ 5)) : gateErr inn len i g = 2 := by
  unfold gateErr
  rw [if_pos]
  cases h : inB g.kind 1 5 with
  | false => rfl
  | true => exact absurd (inB_iff.1 h) hk
theorem pcheck_fn (n : NetT) (hr : i64 n.inn) : FnC Tryz.prog 11 [netAV n] (three (checkR n)) := by
  refine FnC_of_AW hTt Tryz.func11 rfl (by kernel_rfl) (res := [.tmp 2, .tmp 3, .tmp 4]) rfl Tryz.ntmps11 (by simp) fun w0 K0 => ?_
  dsimp only [entry]
  refine AW_len 0 2 rfl rfl fun hol => ?_
  rw [List.length_map] at hol
  unfold maxLen at hol
  have ew : IntKind.i64.wrap ((n.out.length : Int) - 1) = (n.out.length : Int) - 1 := wrap_of (by omega)
  repeat' first | with_reducible refine AW_seq ?_ | with_reducible refine AW_block ?_ | ((first | with_reducible refine AW_skip ?_ | with_reducible refine AW_ret ?_ | with_reducible refine AW_region hTt ?_ | refine AW_draw hTt hMix (id := 5) 9 true [0, 1, 0, 4, 12, 31, 63, 0, 128, 511] (by kernel_rfl) rfl rfl (by kernel_rfl) ?_ | ((refine ⟨_, (out_fn _ _).call rfl rfl, ?_⟩); (rintro _ _ ⟨rfl, rfl⟩)) | refine ⟨_, fun _ => (out_fn _ _).call rfl rfl, ?_⟩ | fail); conv => whnf) | (refine AW_cond rfl (fun hb => ?_) (fun hb => ?_) <;> first | (replace hb := of_decide_eq_true hb; try simp only [List.length_map] at hb) | (replace hb := of_decide_eq_false hb; try simp only [List.length_map] at hb) | (simp only [List.length_map, bne_iff_ne, ne_eq, beq_iff_eq, bne_eq_false_iff_eq, beq_eq_false_iff_ne, decide_eq_true_eq, decide_eq_false_iff_not, Bool.not_eq_true', Bool.not_eq_false', Int.natCast_inj] at hb) | skip) | ((first | refine ⟨_, wrap_of (by first | omega | (simp only [List.length_map]; omega)), ?_⟩ | refine ⟨IntKind.wrap _ _, rfl, ?_⟩ | refine andA ?_ | fail); conv => whnf) | (refine fun hln => ?_; (try rw [List.length_map] at hln); unfold maxLen at hln; conv => whnf) | fail
  · rw [wrap_low hr (by decide)] at hb
    rw [show checkR n = (1, 0, 7) from by unfold checkR; rw [if_pos (by simpa using hb)]]; rfl
  · rename_i hin
    rw [wrap_low hr (by decide)] at hin
    rw [show checkR n = (1, 0, 3) from by
      unfold checkR
      rw [if_neg (by intro h; rw [show (5 : Int) + 1 = 6 from rfl, h] at hin; cases hin), if_pos]
      revert hb
      cases hd : decide (24 < (n.gates.length : Int)) with
      | true => intro _; have := of_decide_eq_true hd; exact .inl (by omega)
      | false =>
        intro hb; right
        simp only [cond_false] at hb
        rw [← ew, wrap_low (n := (n.out.length : Int)) ⟨by omega, by omega⟩ (by decide)] at hb
        simpa using hb]; rfl
  · rename_i hin _
    rw [wrap_low hr (by decide)] at hin
    have hin : inB n.inn 1 6 = true := by simpa using hin
    have hlen : n.gates.length ≤ 24 ∧ inB n.out.length 1 4 = true := by
      revert hb
      cases hd : decide (24 < (n.gates.length : Int)) with
      | true => intro hb; cases hb
      | false =>
        intro hb; have := of_decide_eq_false hd
        simp only [cond_false] at hb
        rw [← ew, wrap_low (n := (n.out.length : Int)) ⟨by omega, by omega⟩ (by decide)] at hb
        exact ⟨by omega, by simpa using hb⟩
    obtain ⟨h1, h6⟩ := inB_iff.1 hin
    have e0 : checkR n = match firstGate n.inn n.gates.length n.gates 0 with
      | some (i, e) => (2, (i : Int), e)
      | none =>
        if 5 < delays n.gates then (1, 0, 3)
        else match firstOut (n.inn + n.gates.length - 1) n.out 0 with
          | some j => (3, (j : Int), 4)
          | none => (0, 0, 0) := by
      unfold checkR
      rw [if_neg (by rw [hin]; exact Bool.noConfusion), if_neg (by rw [hlen.2]; intro h; rcases h with h | h; omega; cases h)]
      try rfl
    have hll := hlen.1
    have elast : IntKind.i64.wrap (IntKind.i64.wrap (n.inn + (n.gates.map gPV).length) - 1) = n.inn + n.gates.length - 1 := by
      rw [List.length_map, wrap_of (n := n.inn + n.gates.length) (by omega), wrap_of (by omega)]
    refine AW_loop (fun i : Nat => [(39, iv .i64 i), (38, iv .i64 n.gates.length), (37, .x (.d (gatesPV n.gates))), (5, iv .i64 (delays (n.gates.take i))), (6, .x (.b 6 0)), (1, .x (.b 1 0))])
      (fun _ => [(6, .box [.d (.v (.int .i64 (n.inn + n.gates.length - 1)))]), (1, .box [.d (.v (.int .i64 n.inn)), .d (gatesPV n.gates), .d (intsPV n.out)])])
      (fun i => i ≤ n.gates.length ∧ firstGate n.inn n.gates.length n.gates 0 = firstGate n.inn n.gates.length (n.gates.drop i) i) (fun i => n.gates.length - i) 0 (by simp)
      (Imp.forget ⟨rfl, congrArg (fun k : Nat => some (iv .i64 k)) (List.length_map _), rfl, rfl, rfl, rfl, trivial⟩ ⟨congrArg (fun k : Int => some (Ob.box [.d (.v (.int .i64 k))])) elast, rfl, trivial⟩ rfl) ?_
    rintro i ⟨hi, hfg⟩
    have hdl := delays_le (n.gates.take i)
    rw [List.length_take] at hdl
    have herr : ∀ (hi' : i < n.gates.length) (e : Int), gateErr n.inn n.gates.length i n.gates[i] = e → e ≠ 0 → checkR n = (2, (i : Int), e) := by
      intro hi' e h1 h2
      rw [e0, hfg, List.drop_eq_getElem_cons hi']
      simp only [firstGate]
      rw [if_neg (by rw [h1]; exact h2), h1]
    have hok : ∀ (hi' : i < n.gates.length), gateErr n.inn n.gates.length i n.gates[i] = 0 → firstGate n.inn n.gates.length n.gates 0 = firstGate n.inn n.gates.length (n.gates.drop (i + 1)) (i + 1) := by
      intro hi' h1
      rw [hfg, List.drop_eq_getElem_cons hi']
      simp only [firstGate]
      rw [if_pos h1]
    have hdt : ∀ (hi' : i < n.gates.length) (k : Nat), (if n.gates[i].kind = 5 then 1 else 0) = k → delays (n.gates.take (i + 1)) = delays (n.gates.take i) + k := by
      intro hi' k hk
      rw [delays_take _ _ hi', hk]
    repeat' first | with_reducible refine AW_seq ?_ | with_reducible refine AW_block ?_ | ((first | with_reducible refine AW_skip ?_ | with_reducible refine AW_exit ?_ | with_reducible refine AW_ret ?_ | with_reducible refine AW_region hTt ?_ | refine AW_draw hTt hMix (id := 9) 11 false [0, 1, 0, 7, 15, 0, 32, 0, 224, 480, 31, 2047] (by kernel_rfl) rfl rfl (by kernel_rfl) ?_ | ((refine ⟨_, (out_fn _ _).call rfl rfl, ?_⟩); (rintro _ _ ⟨rfl, rfl⟩)) | refine ⟨_, fun _ => (out_fn _ _).call rfl rfl, ?_⟩ | fail); conv => whnf) | (refine AW_cond rfl (fun hb => ?_) (fun hb => ?_) <;> first | (replace hb := of_decide_eq_true hb; try simp only [List.length_map] at hb) | (replace hb := of_decide_eq_false hb; try simp only [List.length_map] at hb) | skip) | ((first | refine ⟨_, wrap_of (by first | omega | (simp only [List.length_map]; omega)), ?_⟩ | refine andA ?_ | with_reducible refine Exists.intro _ (And.intro (gd_any (And.intro (by omega) (map_get (by omega)))) ?_) | fail); conv => whnf) | fail
    all_goals first
      | (rw [herr (by omega) 4 ((gerr1 (by omega)).trans (if_pos hb)) (by decide)]; rfl)
      | (rw [herr (by omega) 4 ((gerr4 (by omega)).trans (if_pos hb)) (by decide)]; rfl)
      | (rw [herr (by omega) 4 ((gerr5 (by omega)).trans (if_pos hb)) (by decide)]; rfl)
      | (rw [herr (by omega) 2 (gerrX (by omega)) (by decide)]; rfl)
      | (refine ⟨i + 1, ⟨by omega, hok (by omega) ((gerr1 (by omega)).trans (if_neg (by rw [hb]; exact Bool.noConfusion)))⟩, by omega, ?_⟩
         rw [hdt (by omega) 0 (if_neg (by omega))]
         exact Imp.forget ⟨rfl, rfl, rfl, rfl, rfl, rfl, trivial⟩ ⟨rfl, rfl, trivial⟩ rfl)
      | (refine ⟨i + 1, ⟨by omega, hok (by omega) ((gerr4 (by omega)).trans (if_neg (by rw [hb]; exact Bool.noConfusion)))⟩, by omega, ?_⟩
         rw [hdt (by omega) 0 (if_neg (by omega))]
         exact Imp.forget ⟨rfl, rfl, rfl, rfl, rfl, rfl, trivial⟩ ⟨rfl, rfl, trivial⟩ rfl)
      | (refine ⟨i + 1, ⟨by omega, hok (by omega) ((gerr5 (by omega)).trans (if_neg (by rw [hb]; exact Bool.noConfusion)))⟩, by omega, ?_⟩
         rw [hdt (by omega) 1 (if_pos (by omega))]
         exact Imp.forget ⟨rfl, rfl, rfl, rfl, rfl, rfl, trivial⟩ ⟨rfl, rfl, trivial⟩ rfl)
      | skip
    · have e2 : firstGate n.inn n.gates.length n.gates 0 = none := by
        rw [hfg, List.drop_eq_nil_of_le (by omega)]; rfl
      rw [List.take_of_length_le (by omega)] at hb
      rw [show checkR n = (1, 0, 3) from by rw [e0, e2]; exact if_pos (by omega)]; rfl
    · have e2 : firstGate n.inn n.gates.length n.gates 0 = none := by
        rw [hfg, List.drop_eq_nil_of_le (by omega)]; rfl
      rw [List.take_of_length_le (by omega)] at hb
      have e3 : checkR n = match firstOut (n.inn + n.gates.length - 1) n.out 0 with
          | some j => (3, (j : Int), 4)
          | none => (0, 0, 0) := by
        rw [e0, e2]; exact if_neg (by omega)
      repeat' first | with_reducible refine AW_seq ?_ | ((first | with_reducible refine AW_skip ?_ | with_reducible refine AW_ret ?_ | with_reducible refine AW_region hTt ?_ | ((refine ⟨_, idxf_fn _ _ _, ?_⟩); (rintro _ _ ⟨rfl, rfl⟩)) | fail); conv => whnf) | (refine AW_cond rfl (fun hb => ?_) (fun hb => ?_) <;> first | (replace hb := of_decide_eq_true hb; try simp only [List.length_map] at hb) | (replace hb := of_decide_eq_false hb; try simp only [List.length_map] at hb)) | fail
      · have e4 : checkR n = (3, firstBad (n.inn + n.gates.length - 1) n.out, 4) := by
          rw [e3]
          revert hb
          unfold firstBad
          cases firstOut (n.inn + n.gates.length - 1) n.out 0 with
          | none => intro hb; exact absurd hb (by decide)
          | some j => intro _; rfl
        rw [e4]; rfl
      · have e4 : checkR n = (0, 0, 0) := by
          rw [e3]
          revert hb
          unfold firstBad
          cases firstOut (n.inn + n.gates.length - 1) n.out 0 with
          | none => intro _; rfl
          | some j => intro hb; exact absurd (Int.natCast_nonneg j) hb
        rw [e4]; rfl
end Go.Proofs.YtfpaonfddaeamaaGreatDoor
namespace Go.Proofs.YtfpaonfddaeamaaGreatDoor
open Go Go.QL
set_option maxHeartbeats 800000
attribute [local irreducible] ACall FnC
structure FaultT where
  sig : Int
  at_ : Int
deriving DecidableEq
def faultAV (f : FaultT) : AV := .a [.d (.v (.int .i64 f.sig)), .d (.v (.int .i64 f.at_))]
def fine : FaultT := ⟨-1, 0⟩
def faultErr (n : NetT) (f : FaultT) : Int :=
  if inB f.sig 0 (n.inn + n.gates.length - 1) = false then 4 else if inB f.at_ 0 1 = false then 7 else 0
def adder : NetT := ⟨2, [⟨5, 7, 0⟩, ⟨3, 0, 1⟩, ⟨3, 3, 2⟩, ⟨1, 0, 1⟩, ⟨1, 3, 2⟩, ⟨2, 5, 6⟩], [4]⟩
end Go.Proofs.YtfpaonfddaeamaaGreatDoor
namespace Go.Proofs.YtfpaonfddaeamaaGreatDoor
open Go Go.QL
set_option maxHeartbeats 400000
end Go.Proofs.YtfpaonfddaeamaaGreatDoor
namespace Go.Proofs.YtfpaonfddaeamaaGreatDoor
open Go Go.QL
set_option maxHeartbeats 800000
attribute [local irreducible] ACall FnC
def faultPV (f : FaultT) : List PV := [.v (.int .i64 f.sig), .v (.int .i64 f.at_)]
def faultsAV (l : List FaultT) : AV := .x (.d (.s 2 (l.map faultPV)))
def rowsAV (l : List (List Int)) : AV := .x (.d (.s 1 (l.map fun r => [intsPV r])))
theorem tests_fn : FnC Tryz.prog 26 [] (rowsAV [[3, 0], [0], [3, 1, 0]]) := by
  refine FnC_of_AW hTt Tryz.func26 rfl (by kernel_rfl) (res := [.tmp 0]) rfl Tryz.ntmps26 (by simp) fun w0 K0 => ?_
  dsimp only [entry]
  repeat' first | with_reducible refine AW_seq ?_ | ((first | with_reducible refine AW_ret ?_ | with_reducible refine AW_region hTt ?_ | fail); conv => whnf) | fail
  rfl
theorem faults_fn : FnC Tryz.prog 29 [] (faultsAV [⟨7, 0⟩, ⟨2, 1⟩, ⟨6, 0⟩, ⟨4, 0⟩]) := by
  refine FnC_of_AW hTt Tryz.func29 rfl (by kernel_rfl) (res := [.tmp 0]) rfl Tryz.ntmps29 (by simp) fun w0 K0 => ?_
  dsimp only [entry]
  repeat' first | with_reducible refine AW_seq ?_ | ((first | with_reducible refine AW_ret ?_ | with_reducible refine AW_region hTt ?_ | fail); conv => whnf) | fail
  rfl
end Go.Proofs.YtfpaonfddaeamaaGreatDoor
namespace Go.Proofs.YtfpaonfddaeamaaGreatDoor
open Go Go.QL
set_option maxHeartbeats 800000
attribute [local irreducible] ACall FnC
def gateAV (g : GateT) : AV := .a [.d (.v (.int .i64 g.kind)), .d (.v (.int .i64 g.a)), .d (.v (.int .i64 g.b))]
theorem mk_fn (k a b : Int) : FnC Tryz.prog 48 [iv .i64 k, iv .i64 a, iv .i64 b] (gateAV ⟨k, a, b⟩) := by
  refine FnC_of_AW hTt Tryz.func48 rfl (by kernel_rfl) (res := [.cell 6 38]) rfl Tryz.ntmps48 (by simp) fun w0 K0 => ?_
  dsimp only [entry]
  repeat' first | with_reducible refine AW_seq ?_ | ((first | with_reducible refine AW_ret ?_ | with_reducible refine AW_region hTt ?_ | fail); conv => whnf) | fail
  rfl
theorem padder_fn : FnC Tryz.prog 24 [] (netAV adder) := by
  refine FnC_of_AW hTt Tryz.func24 rfl (by kernel_rfl) (res := [.cell 0 25]) rfl Tryz.ntmps24 (by simp) fun w0 K0 => ?_
  dsimp only [entry]
  repeat' first | with_reducible refine AW_seq ?_ | ((first | with_reducible refine AW_ret ?_ | with_reducible refine AW_region hTt ?_ | ((refine ⟨_, (mk_fn _ _ _).call rfl rfl, ?_⟩); (rintro _ _ ⟨rfl, rfl⟩)) | fail); conv => whnf) | fail
  rfl
def lexS : List Int → List Int → Bool
  | x :: r, y :: s => if x = y then lexS r s else decide (x < y)
  | _, _ => false
def beforeS (a b : List Int) : Bool := if a.length = b.length then lexS a b else decide (a.length < b.length)
end Go.Proofs.YtfpaonfddaeamaaGreatDoor
namespace Go.Proofs.YtfpaonfddaeamaaGreatDoor
open Go Go.QL
set_option maxHeartbeats 800000
attribute [local irreducible] ACall FnC
def chosenS (x : Int) (m : Nat) : List Int := ((List.range m).filter fun i => x / 2 ^ i % 2 == 1).map fun (i : Nat) => (i : Int)
end Go.Proofs.YtfpaonfddaeamaaGreatDoor
namespace Go.Proofs.YtfpaonfddaeamaaGreatDoor
open Go Go.QL
set_option maxHeartbeats 800000
attribute [local irreducible] ACall FnC
def asc (l : List (Nat × Nat)) (i : Nat) : Nat := match lk i l with
  | some j => j
  | none => i
abbrev W16 := BitVec 16
def wi (b : W16) : Int := b.toNat
theorem wrap_u16 (n : Nat) (h : n < 65536) : IntKind.u16.wrap (n : Int) = n := by
  simp only [IntKind.wrap, IntKind.bits, IntKind.signed, Bool.false_and, Bool.false_eq_true, if_false]
  omega
theorem ofInt_wi (b : W16) : BitVec.ofInt 16 (wi b) = b := by
  unfold wi; simp
theorem wi_back (b : W16) : IntKind.u16.wrap ((b.toNat : Int)) = wi b := wrap_u16 _ b.isLt
theorem w_and (a b : W16) : bitsVal .and .u16 (wi a) (wi b) = wi (a &&& b) := by
  show IntKind.u16.wrap ((BitVec.ofInt 16 (wi a) &&& BitVec.ofInt 16 (wi b)).toNat : Int) = _
  rw [ofInt_wi, ofInt_wi, wi_back]
theorem w_or (a b : W16) : bitsVal .or .u16 (wi a) (wi b) = wi (a ||| b) := by
  show IntKind.u16.wrap ((BitVec.ofInt 16 (wi a) ||| BitVec.ofInt 16 (wi b)).toNat : Int) = _
  rw [ofInt_wi, ofInt_wi, wi_back]
theorem w_xor (a b : W16) : bitsVal .xor .u16 (wi a) (wi b) = wi (a ^^^ b) := by
  show IntKind.u16.wrap ((BitVec.ofInt 16 (wi a) ^^^ BitVec.ofInt 16 (wi b)).toNat : Int) = _
  rw [ofInt_wi, ofInt_wi, wi_back]
theorem w_andNot (a b : W16) : bitsVal .andNot .u16 (wi a) (wi b) = wi (a &&& ~~~b) := by
  show IntKind.u16.wrap ((BitVec.ofInt 16 (wi a) &&& ~~~BitVec.ofInt 16 (wi b)).toNat : Int) = _
  rw [ofInt_wi, ofInt_wi, wi_back]
theorem w_not (a : W16) : bitsVal .xor .u16 (IntKind.u16.max) (wi a) = wi (~~~a) := by
  show IntKind.u16.wrap ((BitVec.ofInt 16 IntKind.u16.max ^^^ BitVec.ofInt 16 (wi a)).toNat : Int) = _
  rw [ofInt_wi, show BitVec.ofInt 16 IntKind.u16.max = BitVec.allOnes 16 from by decide, BitVec.allOnes_xor, wi_back]
abbrev wv (b : W16) : AV := iv .u16 (wi b)
def wPV (b : W16) : List PV := [.v (.int .u16 (wi b))]
def sPV (p : W16 × W16) : List PV := [.v (.int .u16 (wi p.1)), .v (.int .u16 (wi p.2))]
def iPV (n : Int) : List PV := [.v (.int .i64 n)]
abbrev sB (n : NetT) (s1 : Nat) (sk : List (W16 × W16)) (s2 : Nat) (dl : List Int) (s3 k : Nat) (nw : List W16) : Sg :=
  [(900, .box [.d (.v (.int .i64 n.inn)), .d (gatesPV n.gates), .d (intsPV n.out), .o 901 s1 sk.length, .o 902 s2 dl.length, .o 903 s3 k]),
   (901, .chain 112 2 s1 (sk.map sPV)), (902, .chain 3 1 s2 (dl.map iPV)), (903, .chain 111 1 s3 (nw.map wPV))]
variable {n : NetT} {s1 : Nat} {sk : List (W16 × W16)} {s2 : Nat} {dl : List Int} {s3 k : Nat} {nw : List W16}
theorem getD_lt {nw : List W16} {i : Nat} (h : i < nw.length) : nw.getD i 0#16 = nw[i] := by
  rw [List.getD_eq_getElem?_getD, List.getElem?_eq_getElem h]; rfl
theorem and_fn (g : GateT) (was : W16) (hk : k ≤ nw.length) (ha : 0 ≤ g.a) (ha' : g.a.toNat < k) (hb : 0 ≤ g.b) (hb' : g.b.toNat < k) :
    ACall Tryz.prog 69 [.x (.b 900 0), gateAV g, wv was] (sB n s1 sk s2 dl s3 k nw)
      (fun r σ' => r = wv (nw.getD g.a.toNat 0#16 &&& nw.getD g.b.toNat 0#16) ∧ σ' = sB n s1 sk s2 dl s3 k nw) := by
  rw [getD_lt (nw := nw) (i := g.a.toNat) (by omega), getD_lt (nw := nw) (i := g.b.toNat) (by omega)]
  refine ACall_of_AWD hTt Tryz.func69 rfl (by kernel_rfl) (res := [.tmp 6]) rfl Tryz.ntmps69 (by simp) fun w0 K0 B => ?_
  dsimp only [entry]
  repeat' first | with_reducible refine AW_seq ?_ | ((first | with_reducible refine AW_ret ?_ | with_reducible refine AW_region hTt ?_ | refine AW_draw hTt hMix (id := 1) 16 false [0, 1, 3, 7, 0, 16, 63, 127, 0, 256, 768, 1792, 0, 4096, 16128, 32512, 65535, 131071] (by kernel_rfl) rfl rfl (by kernel_rfl) ?_ | refine ⟨_, w_and _ _, ?_⟩ | refine andA ?_ | with_reducible refine And.intro (gd_any (And.intro (by omega) (And.intro (by first | omega | (simp only [List.length_map]; omega)) (by first | omega | (simp only [List.length_map]; omega) | (simp only [List.length_set, List.length_map]; omega))))) ?_ | with_reducible refine Exists.intro _ (And.intro (gd_any (map_get' (by omega) (by omega))) (And.intro (And.intro (Nat.le_of_ble_eq_true rfl) rfl) ?_)) | fail); conv => whnf) | fail
  exact ⟨_, sB n s1 sk s2 dl s3 k nw, ⟨rfl, rfl, rfl, rfl, trivial⟩, rfl, rfl, rfl, rfl⟩
theorem or_fn (g : GateT) (was : W16) (hk : k ≤ nw.length) (ha : 0 ≤ g.a) (ha' : g.a.toNat < k) (hb : 0 ≤ g.b) (hb' : g.b.toNat < k) :
    ACall Tryz.prog 70 [.x (.b 900 0), gateAV g, wv was] (sB n s1 sk s2 dl s3 k nw)
      (fun r σ' => r = wv (nw.getD g.a.toNat 0#16 ||| nw.getD g.b.toNat 0#16) ∧ σ' = sB n s1 sk s2 dl s3 k nw) := by
  rw [getD_lt (nw := nw) (i := g.a.toNat) (by omega), getD_lt (nw := nw) (i := g.b.toNat) (by omega)]
  refine ACall_of_AWD hTt Tryz.func70 rfl (by kernel_rfl) (res := [.tmp 6]) rfl Tryz.ntmps70 (by simp) fun w0 K0 B => ?_
  dsimp only [entry]
  repeat' first | with_reducible refine AW_seq ?_ | ((first | with_reducible refine AW_ret ?_ | with_reducible refine AW_region hTt ?_ | refine AW_draw hTt hMix (id := 1) 16 false [0, 1, 3, 7, 0, 16, 63, 127, 0, 256, 768, 1792, 0, 4096, 16128, 32512, 65535, 131071] (by kernel_rfl) rfl rfl (by kernel_rfl) ?_ | refine ⟨_, w_or _ _, ?_⟩ | refine andA ?_ | with_reducible refine And.intro (gd_any (And.intro (by omega) (And.intro (by first | omega | (simp only [List.length_map]; omega)) (by first | omega | (simp only [List.length_map]; omega) | (simp only [List.length_set, List.length_map]; omega))))) ?_ | with_reducible refine Exists.intro _ (And.intro (gd_any (map_get' (by omega) (by omega))) (And.intro (And.intro (Nat.le_of_ble_eq_true rfl) rfl) ?_)) | fail); conv => whnf) | fail
  exact ⟨_, sB n s1 sk s2 dl s3 k nw, ⟨rfl, rfl, rfl, rfl, trivial⟩, rfl, rfl, rfl, rfl⟩
theorem xor_fn (g : GateT) (was : W16) (hk : k ≤ nw.length) (ha : 0 ≤ g.a) (ha' : g.a.toNat < k) (hb : 0 ≤ g.b) (hb' : g.b.toNat < k) :
    ACall Tryz.prog 71 [.x (.b 900 0), gateAV g, wv was] (sB n s1 sk s2 dl s3 k nw)
      (fun r σ' => r = wv (nw.getD g.a.toNat 0#16 ^^^ nw.getD g.b.toNat 0#16) ∧ σ' = sB n s1 sk s2 dl s3 k nw) := by
  rw [getD_lt (nw := nw) (i := g.a.toNat) (by omega), getD_lt (nw := nw) (i := g.b.toNat) (by omega)]
  refine ACall_of_AWD hTt Tryz.func71 rfl (by kernel_rfl) (res := [.tmp 6]) rfl Tryz.ntmps71 (by simp) fun w0 K0 B => ?_
  dsimp only [entry]
  repeat' first | with_reducible refine AW_seq ?_ | ((first | with_reducible refine AW_ret ?_ | with_reducible refine AW_region hTt ?_ | refine AW_draw hTt hMix (id := 1) 16 false [0, 1, 3, 7, 0, 16, 63, 127, 0, 256, 768, 1792, 0, 4096, 16128, 32512, 65535, 131071] (by kernel_rfl) rfl rfl (by kernel_rfl) ?_ | refine ⟨_, w_xor _ _, ?_⟩ | refine andA ?_ | with_reducible refine And.intro (gd_any (And.intro (by omega) (And.intro (by first | omega | (simp only [List.length_map]; omega)) (by first | omega | (simp only [List.length_map]; omega) | (simp only [List.length_set, List.length_map]; omega))))) ?_ | with_reducible refine Exists.intro _ (And.intro (gd_any (map_get' (by omega) (by omega))) (And.intro (And.intro (Nat.le_of_ble_eq_true rfl) rfl) ?_)) | fail); conv => whnf) | fail
  exact ⟨_, sB n s1 sk s2 dl s3 k nw, ⟨rfl, rfl, rfl, rfl, trivial⟩, rfl, rfl, rfl, rfl⟩
theorem not_fn (g : GateT) (was : W16) (hk : k ≤ nw.length) (ha : 0 ≤ g.a) (ha' : g.a.toNat < k) :
    ACall Tryz.prog 72 [.x (.b 900 0), gateAV g, wv was] (sB n s1 sk s2 dl s3 k nw)
      (fun r σ' => r = wv (~~~nw.getD g.a.toNat 0#16) ∧ σ' = sB n s1 sk s2 dl s3 k nw) := by
  rw [getD_lt (nw := nw) (i := g.a.toNat) (by omega)]
  refine ACall_of_AWD hTt Tryz.func72 rfl (by kernel_rfl) (res := [.tmp 6]) rfl Tryz.ntmps72 (by simp) fun w0 K0 B => ?_
  dsimp only [entry]
  repeat' first | with_reducible refine AW_seq ?_ | ((first | with_reducible refine AW_ret ?_ | with_reducible refine AW_region hTt ?_ | refine AW_draw hTt hMix (id := 1) 6 false [0, 1, 3, 7, 0, 16, 63, 127, 255, 511] (by kernel_rfl) rfl rfl (by kernel_rfl) ?_ | refine ⟨_, w_not _, ?_⟩ | refine andA ?_ | with_reducible refine And.intro (gd_any (And.intro (by omega) (And.intro (by first | omega | (simp only [List.length_map]; omega)) (by first | omega | (simp only [List.length_map]; omega) | (simp only [List.length_set, List.length_map]; omega))))) ?_ | with_reducible refine Exists.intro _ (And.intro (gd_any (map_get' (by omega) (by omega))) (And.intro (And.intro (Nat.le_of_ble_eq_true rfl) rfl) ?_)) | fail); conv => whnf) | fail
  exact ⟨_, sB n s1 sk s2 dl s3 k nw, ⟨rfl, rfl, rfl, rfl, trivial⟩, rfl, rfl, rfl, rfl⟩
theorem kept_fn (g : GateT) (was : W16) :
    ACall Tryz.prog 73 [.x (.b 900 0), gateAV g, wv was] (sB n s1 sk s2 dl s3 k nw)
      (fun r σ' => r = wv was ∧ σ' = sB n s1 sk s2 dl s3 k nw) := by
  refine ACall_of_AWD hTt Tryz.func73 rfl (by kernel_rfl) (res := [.tmp 6]) rfl Tryz.ntmps73 (by simp) fun w0 K0 B => ?_
  dsimp only [entry]
  repeat' first | with_reducible refine AW_seq ?_ | ((first | with_reducible refine AW_ret ?_ | with_reducible refine AW_region hTt ?_ | fail); conv => whnf) | fail
  exact ⟨_, sB n s1 sk s2 dl s3 k nw, ⟨rfl, rfl, rfl, rfl, trivial⟩, rfl, rfl, rfl, rfl⟩
def stuckW (p : W16 × W16) (s : W16) : W16 := s &&& ~~~p.1 ||| p.2
theorem add_fn (s : W16) (hk : k ≤ nw.length) (hs : k < sk.length) (hl : sk.length ≤ 100) :
    ACall Tryz.prog 74 [wv s, .x (.b 909 0)] ((909, .box [.b 900 0]) :: sB n s1 sk s2 dl s3 k nw)
      (fun r σ' => r = .t [] ∧ σ' = (909, .box [.b 900 0]) :: sB n s1 sk s2 dl (s3 + 1) (k + 1) (nw.take k ++ [stuckW sk[k] s])) := by
  refine ACall_of_AWD hTt Tryz.func74 rfl (by kernel_rfl) (res := []) rfl Tryz.ntmps74 (by simp) fun w0 K0 B => ?_
  dsimp only [entry]
  repeat' first | with_reducible refine AW_seq ?_ | ((first | refine AW_draw hTt hMix (id := 0) 12 true [0, 1, 3, 7, 0, 16, 48, 112, 240, 511, 1023, 0, 4095] (by kernel_rfl) rfl rfl (by kernel_rfl) ?_ | refine AW_drawM hTt hMix (id := 1) 13 [0] true [0, 0, 2, 6, 14, 0, 0, 64, 224, 0, 512, 2016, 4064, 8190, 16383, 32767, 65535] _ (by kernel_rfl) rfl rfl (by kernel_rfl) rfl (by kernel_rfl) (by kernel_rfl) ?_ | refine LateGo.mk ⟨_, rfl, ?_⟩ | refine ⟨_, w_andNot _ _, ?_⟩ | refine ⟨_, w_or _ _, ?_⟩ | refine andA ?_ | with_reducible refine And.intro (gd_any (And.intro (by omega) (And.intro (by first | omega | (simp only [List.length_map]; omega)) (by first | omega | (simp only [List.length_map]; omega) | (simp only [List.length_set, List.length_map]; omega))))) ?_ | with_reducible refine Exists.intro _ (And.intro (gd_any (map_get' (by omega) (by omega))) (And.intro (And.intro (Nat.le_of_ble_eq_true rfl) rfl) ?_)) | fail); conv => whnf) | ((refine And.intro (by refine ⟨?_, ?_, ?_⟩ <;> simp [chunk, maxLen] <;> omega) ?_); conv => whnf) | fail
  all_goals
    have e : (List.map wPV nw).take k ++ [wPV (stuckW sk[k] s)] = (nw.take k ++ [stuckW sk[k] s]).map wPV := by simp
    exact ⟨_, (909, .box [.b 900 0]) :: sB n s1 sk s2 dl (s3 + 1) (k + 1) (nw.take k ++ [stuckW sk[k] s]), ⟨rfl, rfl, rfl, rfl, congrArg (fun l => some (Ob.chain 111 1 (s3 + 1) l)) e, trivial⟩, rfl, rfl, rfl, rfl⟩
end Go.Proofs.YtfpaonfddaeamaaGreatDoor
namespace Go.Proofs.YtfpaonfddaeamaaGreatDoor
open Go Go.QL
set_option maxHeartbeats 800000
theorem keepO {σ σ' : Sg} {c e sz st n : Nat} {xs : List (List PV)} (h : lk c σ' = none) (h1 : lk c σ = some (.chain e sz st xs)) (hn : n = xs.length) : keepAV1 σ σ' (.x (.o c st n)) = some (.x (.d (.s sz xs))) := by
  subst hn
  simp [keepAV1, keepSV, h, viewSV, h1]
theorem outKeep1 {tt : TT} {res : List ResultVar} {fr : Fr} {σ σ' : Sg} {x x' : AV} (h : resAVs tt σ fr res = some [x]) (h1 : keepAV1 σ σ' x = some x') : outKeep tt res fr σ σ' = some x' := by
  unfold outKeep; rw [h]; exact h1
theorem outKeep2 {tt : TT} {res : List ResultVar} {fr : Fr} {σ σ' : Sg} {x x' y y' : AV} (h : resAVs tt σ fr res = some [x, y]) (h1 : keepAV1 σ σ' x = some x') (h2 : keepAV1 σ σ' y = some y') : outKeep tt res fr σ σ' = some (.t [x', y']) := by
  unfold outKeep; rw [h]
  simp [keepAVs, h1, h2]
theorem shr_i (x : Int) (i : Nat) (hi : i ≤ 64) : x.fdiv (2 ^ (min ((i : Int)).toNat IntKind.i64.bits)) = x / 2 ^ i := by
  rw [Int.toNat_natCast, show min i IntKind.i64.bits = i from Nat.min_eq_left hi, Int.fdiv_eq_ediv_of_nonneg _ (Int.le_of_lt (Int.pow_pos (by decide)))]
theorem and1 (v : Int) : bitsVal .and .i64 v 1 = v % 2 := by
  show IntKind.i64.wrap ((BitVec.ofInt 64 v &&& BitVec.ofInt 64 1).toNat : Int) = v % 2
  have h1 : (BitVec.ofInt 64 (1 : Int)) = 1#64 := by decide
  rw [h1]
  have h2 : (BitVec.ofInt 64 v &&& 1#64).toNat = (v % 2).toNat := by
    rw [BitVec.toNat_and, BitVec.toNat_ofInt, show (1#64).toNat = 1 from rfl, Nat.and_one_is_mod]
    omega
  rw [h2]
  have : 0 ≤ v % 2 ∧ v % 2 < 2 := by omega
  exact wrap_of (by omega) |>.trans (by omega)
theorem u16_bit (v : Int) : IntKind.u16.wrap (v % 2) = v % 2 := by
  have : ((v % 2).toNat : Int) = v % 2 := by omega
  rw [← this, wrap_u16 _ (by omega)]
def inW (v : Int) : W16 := if v % 2 = 1 then BitVec.allOnes 16 else 0#16
theorem neg_bit (v : Int) : IntKind.u16.wrap (0 - v % 2) = wi (inW v) := by
  unfold inW
  have : v % 2 = 0 ∨ v % 2 = 1 := by omega
  rcases this with h | h <;> rw [h] <;> decide
def shlW (v : Int) (l : Nat) : W16 := if v % 2 = 1 then BitVec.twoPow 16 l else 0#16
theorem shl_bit (v : Int) (l : Nat) (hl : l < 16) : IntKind.u16.wrap (v % 2 * 2 ^ (min ((l : Int)).toNat IntKind.u16.bits)) = wi (shlW v l) := by
  rw [Int.toNat_natCast, show min l IntKind.u16.bits = l from Nat.min_eq_left (by show l ≤ 16; omega)]
  unfold shlW
  have : v % 2 = 0 ∨ v % 2 = 1 := by omega
  rcases this with h | h <;> rw [h]
  · rw [Int.zero_mul, if_neg (by decide)]; decide
  · rw [Int.one_mul, if_pos rfl]
    unfold wi
    rw [BitVec.toNat_twoPow]
    have hlt : 2 ^ l < 2 ^ 16 := Nat.pow_lt_pow_right (by decide) hl
    rw [Nat.mod_eq_of_lt hlt]
    have := wrap_u16 (2 ^ l) hlt
    rw [← this]
    congr 1
def lb (w : W16) (l : Nat) : Int := if w.getLsbD l then 1 else 0
theorem lb_le (w : W16) (l : Nat) : 0 ≤ lb w l ∧ lb w l ≤ 1 := by unfold lb; split <;> omega
theorem shr_w (w : W16) (l : Nat) (hl : l ≤ 16) : (wi w).fdiv (2 ^ (min ((l : Int)).toNat IntKind.u16.bits)) = wi (w >>> l) := by
  rw [Int.toNat_natCast, show min l IntKind.u16.bits = l from Nat.min_eq_left hl, Int.fdiv_eq_ediv_of_nonneg _ (Int.le_of_lt (Int.pow_pos (by decide)))]
  unfold wi
  rw [BitVec.toNat_ushiftRight, Nat.shiftRight_eq_div_pow]
  exact (by rw [Int.natCast_ediv, Int.natCast_pow]; rfl)
theorem and1_w (w : W16) (l : Nat) : bitsVal .and .u16 (wi (w >>> l)) 1 = lb w l := by
  show IntKind.u16.wrap ((BitVec.ofInt 16 (wi (w >>> l)) &&& BitVec.ofInt 16 1).toNat : Int) = _
  rw [ofInt_wi, show (BitVec.ofInt 16 (1 : Int)) = 1#16 from by decide]
  have h2 : ((w >>> l) &&& 1#16).toNat = if w.getLsbD l then 1 else 0 := by
    rw [BitVec.toNat_and, show (1#16).toNat = 1 from rfl, Nat.and_one_is_mod, BitVec.toNat_ushiftRight, BitVec.getLsbD, Nat.shiftRight_eq_div_pow, Nat.testBit_eq_decide_div_mod_eq]
    by_cases h : w.toNat / 2 ^ l % 2 = 1
    · rw [h, if_pos (decide_eq_true rfl)]
    · have : w.toNat / 2 ^ l % 2 = 0 := by omega
      rw [this, if_neg (by decide)]
  rw [h2, wrap_u16 _ (by split <;> omega)]
  unfold lb
  split <;> rfl
theorem conv_lb (w : W16) (l : Nat) : IntKind.i64.wrap (lb w l) = lb w l := wrap_of (by have := lb_le w l; omega)
theorem pow64 {m : Nat} (hm : m ≤ 32) : (1 : Int) ≤ 2 ^ m ∧ (2 : Int) ^ m ≤ 4294967296 := by
  have h1 : 2 ^ m ≤ 2 ^ 32 := Nat.pow_le_pow_right (by decide) hm
  have h2 : 0 < 2 ^ m := Nat.pow_pos (by decide)
  have e : ((2 ^ m : Nat) : Int) = (2 : Int) ^ m := Int.natCast_pow 2 m
  rw [← e]
  exact ⟨Int.ofNat_le.2 h2, Int.ofNat_le.2 h1⟩
theorem shl_lb (w : W16) (l m : Nat) (hm : m ≤ 32) : IntKind.i64.wrap (lb w l * 2 ^ (min ((m : Int)).toNat IntKind.i64.bits)) = lb w l * 2 ^ m := by
  rw [Int.toNat_natCast, show min m IntKind.i64.bits = m from Nat.min_eq_left (by show m ≤ 64; omega)]
  have := pow64 hm
  apply wrap_of
  unfold lb
  split <;> omega
theorem or_lb (s : Int) (w : W16) (l m : Nat) (hm : m ≤ 32) (h0 : 0 ≤ s) (h1 : s < 2 ^ m) : bitsVal .or .i64 s (lb w l * 2 ^ m) = s + lb w l * 2 ^ m := by
  have hp := pow64 hm
  show IntKind.i64.wrap ((BitVec.ofInt 64 s ||| BitVec.ofInt 64 (lb w l * 2 ^ m)).toNat : Int) = _
  obtain ⟨k, rfl⟩ := Int.eq_ofNat_of_zero_le h0
  have hk : k < 2 ^ m := by exact_mod_cast h1
  have hn : (2 : Nat) ^ m ≤ 2 ^ 32 := Nat.pow_le_pow_right (by decide) hm
  unfold lb
  split
  · have e : (1 : Int) * 2 ^ m = ((2 ^ m * 1 : Nat) : Int) := by rw [Nat.mul_one, Int.one_mul]; exact (Int.natCast_pow 2 m).symm
    rw [e, BitVec.toNat_or, BitVec.ofInt_natCast, BitVec.ofInt_natCast, BitVec.toNat_ofNat, BitVec.toNat_ofNat, Nat.mod_eq_of_lt (a := k) (by omega), Nat.mod_eq_of_lt (a := 2 ^ m * 1) (by omega), Nat.or_comm, ← Nat.two_pow_add_eq_or_of_lt hk]
    rw [wrap_of (by omega)]; omega
  · rw [Int.zero_mul, show BitVec.ofInt 64 0 = 0#64 from by decide, BitVec.or_zero, BitVec.ofInt_natCast, BitVec.toNat_ofNat, Nat.mod_eq_of_lt (by omega), wrap_of (by omega)]
    omega
def addW (sk : List (W16 × W16)) (nw : List W16) (s : W16) : List W16 := nw ++ [stuckW (sk.getD nw.length (0#16, 0#16)) s]
def inpW (sk : List (W16 × W16)) (x : Int) : Nat → List W16
  | 0 => []
  | i + 1 => addW sk (inpW sk x i) (inW (x / 2 ^ i))
def laneW (states : List Int) (d : Nat) : Nat → W16
  | 0 => 0#16
  | m + 1 => laneW states d m ||| shlW (states.getD m 0 / 2 ^ d) m
def gateW (g : GateT) (nw : List W16) (was : W16) : W16 :=
  if g.kind = 1 then nw.getD g.a.toNat 0#16 &&& nw.getD g.b.toNat 0#16
  else if g.kind = 2 then nw.getD g.a.toNat 0#16 ||| nw.getD g.b.toNat 0#16
  else if g.kind = 3 then nw.getD g.a.toNat 0#16 ^^^ nw.getD g.b.toNat 0#16
  else if g.kind = 4 then ~~~nw.getD g.a.toNat 0#16
  else was
def gate0 : GateT := ⟨0, 0, 0⟩
def sigW (sk : List (W16 × W16)) (n : NetT) (states : List Int) (x : Int) : Nat → List W16
  | 0 => inpW sk x n.inn.toNat
  | i + 1 => addW sk (sigW sk n states x i) (gateW (n.gates.getD i gate0) (sigW sk n states x i) (if (n.gates.getD i gate0).kind = 5 then laneW states (delays (n.gates.take i)) states.length else 0#16))
def nextW (n : NetT) (dl : List Int) (nw : List W16) (l : Nat) : Nat → Int
  | 0 => 0
  | m + 1 => nextW n dl nw l m + lb (nw.getD (n.gates.getD (dl.getD m 0 - n.inn).toNat gate0).a.toNat 0#16) l * 2 ^ m
def outW (n : NetT) (nw : List W16) (l : Nat) : Nat → Int
  | 0 => 0
  | m + 1 => outW n nw l m + lb (nw.getD (n.out.getD m 0).toNat 0#16) l * 2 ^ m
theorem inpW_len (sk : List (W16 × W16)) (x : Int) (i : Nat) : (inpW sk x i).length = i := by
  induction i with
  | zero => rfl
  | succ i ih => simp [inpW, addW, ih]
theorem sigW_len (sk : List (W16 × W16)) (n : NetT) (states : List Int) (x : Int) (i : Nat) : (sigW sk n states x i).length = n.inn.toNat + i := by
  induction i with
  | zero => exact inpW_len _ _ _
  | succ i ih => simp [sigW, addW, ih]; omega
theorem nextW_lt (n : NetT) (dl : List Int) (nw : List W16) (l m : Nat) : 0 ≤ nextW n dl nw l m ∧ nextW n dl nw l m < 2 ^ m := by
  induction m with
  | zero => simp [nextW]
  | succ m ih =>
    have := lb_le (nw.getD (n.gates.getD (dl.getD m 0 - n.inn).toNat gate0).a.toNat 0#16) l
    have hp : (0 : Int) < 2 ^ m := Int.pow_pos (by decide)
    simp only [nextW, Int.pow_succ]
    generalize lb _ l = b at *
    have : b = 0 ∨ b = 1 := by omega
    rcases this with rfl | rfl <;> omega
theorem outW_lt (n : NetT) (nw : List W16) (l m : Nat) : 0 ≤ outW n nw l m ∧ outW n nw l m < 2 ^ m := by
  induction m with
  | zero => simp [outW]
  | succ m ih =>
    have := lb_le (nw.getD (n.out.getD m 0).toNat 0#16) l
    have hp : (0 : Int) < 2 ^ m := Int.pow_pos (by decide)
    simp only [outW, Int.pow_succ]
    generalize lb _ l = b at *
    have : b = 0 ∨ b = 1 := by omega
    rcases this with rfl | rfl <;> omega
structure NetOK (n : NetT) : Prop where
  h1 : 1 ≤ n.inn
  h6 : n.inn ≤ 6
  hl : n.gates.length ≤ 24
  o1 : 1 ≤ n.out.length
  o4 : n.out.length ≤ 4
  hd : delays n.gates ≤ 5
  hk : ∀ i (h : i < n.gates.length), 1 ≤ n.gates[i].kind ∧ n.gates[i].kind ≤ 5
  ha : ∀ i (h : i < n.gates.length), 0 ≤ n.gates[i].a ∧ n.gates[i].a < n.inn + n.gates.length ∧ (n.gates[i].kind ≠ 5 → n.gates[i].a < n.inn + i)
  hb : ∀ i (h : i < n.gates.length), 0 ≤ n.gates[i].b ∧ n.gates[i].b < n.inn + n.gates.length ∧ (n.gates[i].kind ≤ 3 → n.gates[i].b < n.inn + i)
  ho : ∀ i (h : i < n.out.length), 0 ≤ n.out[i] ∧ n.out[i] < n.inn + n.gates.length
end Go.Proofs.YtfpaonfddaeamaaGreatDoor
namespace Go.Proofs.YtfpaonfddaeamaaGreatDoor
open Go Go.QL
set_option maxHeartbeats 3200000
attribute [local irreducible] ACall FnC
theorem addFn' {n : NetT} {s1 : Nat} {sk : List (W16 × W16)} {s2 : Nat} {dl : List Int} {s3 k : Nat} {nw nw' : List W16} (s : W16) (hk : k ≤ nw.length) (hs : k < sk.length) (hl : sk.length ≤ 100) (e : nw.take k = nw') (he : nw'.length = k) :
    ACall Tryz.prog 74 [wv s, .x (.b 909 0)] ((909, .box [.b 900 0]) :: sB n s1 sk s2 dl s3 k nw)
      (fun r σ' => r = .t [] ∧ σ' = (909, .box [.b 900 0]) :: sB n s1 sk s2 dl (s3 + 1) (k + 1) (addW sk nw' s)) := by
  refine (add_fn s hk hs hl).mono fun r σ' h => ?_
  have : addW sk nw' s = nw.take k ++ [stuckW sk[k] s] := by
    unfold addW
    rw [← e]
    rw [← e] at he
    rw [he, List.getD_eq_getElem?_getD, List.getElem?_eq_getElem hs]; rfl
  rw [this]; exact h
abbrev fBox : List SV := [.d (.v .nilFunc), .f (.func 69) [.b 900 0] [], .f (.func 70) [.b 900 0] [], .f (.func 71) [.b 900 0] [], .f (.func 72) [.b 900 0] [], .f (.func 73) [.b 900 0] []]
def nexts (n : NetT) (dl : List Int) (sg : List W16) (m : Nat) : List Int := (List.range m).map fun l => nextW n dl sg l dl.length
def outs (n : NetT) (sg : List W16) (m : Nat) : List Int := (List.range m).map fun l => outW n sg l n.out.length
theorem nexts_len (n : NetT) (dl : List Int) (sg : List W16) (m : Nat) : (nexts n dl sg m).length = m := by simp [nexts]
theorem outs_len (n : NetT) (sg : List W16) (m : Nat) : (outs n sg m).length = m := by simp [outs]
theorem nexts_succ (n : NetT) (dl : List Int) (sg : List W16) (m : Nat) : nexts n dl sg (m + 1) = nexts n dl sg m ++ [nextW n dl sg m dl.length] := by simp [nexts, List.range_succ]
theorem outs_succ (n : NetT) (sg : List W16) (m : Nat) : outs n sg (m + 1) = outs n sg m ++ [outW n sg m n.out.length] := by simp [outs, List.range_succ]
theorem beat_fn {n : NetT} (ok : NetOK n) {s1 : Nat} {sk : List (W16 × W16)} (hsk : sk.length = n.inn.toNat + n.gates.length) {s2 : Nat} {dl : List Int} (hdl : dl.length ≤ 5) (hdr : ∀ m (h : m < dl.length), n.inn ≤ dl[m] ∧ dl[m] < n.inn + n.gates.length) {s3 k : Nat} {nw : List W16}
    (states : List Int) (hst : states.length ≤ 16) (x : Int) :
    ACall Tryz.prog 52 [.x (.b 900 0), sl states, iv .i64 x] (sB n s1 sk s2 dl s3 k nw)
      (fun r σ' => ∃ s3', r = .t [sl (nexts n dl (sigW sk n states x n.gates.length) states.length), sl (outs n (sigW sk n states x n.gates.length) states.length)] ∧
        σ' = sB n s1 sk s2 dl s3' (n.inn.toNat + n.gates.length) (sigW sk n states x n.gates.length)) := by
  have h1 := ok.h1; have h6 := ok.h6; have hl := ok.hl; have ho4 := ok.o4
  refine ACall_of_AWD hTt Tryz.func52 rfl (by kernel_rfl) (res := [.tmp 6, .tmp 7]) rfl Tryz.ntmps52 (by simp) fun w0 K0 B => ?_
  dsimp only [entry]
  repeat' first | with_reducible refine AW_seq ?_ | with_reducible refine AW_block ?_ | ((first | with_reducible refine AW_region hTt ?_ | refine AW_draw hTt hMix (id := 2) 6 false [0, 0, 2, 6, 14, 30, 63, 127, 255] (by kernel_rfl) rfl rfl (by kernel_rfl) ?_ | refine andA ?_ | fail); conv => whnf) | fail
  refine AW_loop (fun p : Nat × Nat × List W16 => [(49, iv .i64 p.1), (48, iv .i64 n.inn), (8, .x (.b 8 0)), (9, .x (.f (.func 74) [] [.b 3 0])), (3, .x (.b 3 0)), (1, sl states), (2, iv .i64 x), (6, .x (.d (.v (.slice none 0 0)))), (7, .x (.d (.v (.slice none 0 0))))])
    (fun p => (8, .box fBox) :: (3, .box [.b 900 0]) :: sB n s1 sk s2 dl p.2.1 p.1 p.2.2) (fun p => p.1 ≤ n.inn.toNat ∧ p.1 ≤ p.2.2.length ∧ p.2.2.take p.1 = inpW sk x p.1 ∧ (0 < p.1 → p.2.2.length = p.1)) (fun p => n.inn.toNat - p.1) (0, s3, nw) ⟨Nat.zero_le _, Nat.zero_le _, rfl, fun h => absurd h (Nat.lt_irrefl _)⟩
    (Imp.forget ⟨rfl, rfl, rfl, rfl, rfl, rfl, rfl, rfl, rfl, trivial⟩ ⟨rfl, rfl, rfl, rfl, rfl, rfl, trivial⟩ rfl) ?_
  rintro ⟨i, st, cur⟩ ⟨hi, hic, htk, hlen⟩
  dsimp only at hi hic htk hlen ⊢
  repeat' first | with_reducible refine AW_seq ?_ | with_reducible refine AW_block ?_ | ((first | with_reducible refine AW_skip ?_ | with_reducible refine AW_exit ?_ | with_reducible refine AW_region hTt ?_ | refine ⟨_, shr_i x i (by omega), ?_⟩ | refine ⟨_, and1 _, ?_⟩ | refine ⟨_, u16_bit _, ?_⟩ | refine ⟨_, neg_bit _, ?_⟩ | ((refine ⟨_, (addFn' (n := n) (s1 := s1) (sk := sk) (s2 := s2) (dl := dl) (s3 := st) (k := i) (nw := cur) _ hic (by omega) (by omega) htk (inpW_len _ _ _)).frame (asc [(909, 3)]) (by repeat (first | exact trivial | refine ⟨rfl, ?_⟩)) rfl (by rintro _ _ ⟨rfl, rfl⟩; rfl), ?_⟩); (rintro _ _ ⟨_, _, ⟨rfl, rfl⟩, rfl, rfl⟩)) | fail); conv => whnf) | (refine AW_cond rfl (fun hb => ?_) (fun hb => ?_) <;> first | (replace hb := of_decide_eq_true hb; try simp only [List.length_map] at hb) | (replace hb := of_decide_eq_false hb; try simp only [List.length_map] at hb)) | ((first | refine ⟨_, wrap_of (by first | omega | (simp only [List.length_map]; omega)), ?_⟩ | refine andA ?_ | fail); conv => whnf) | (refine fun hln => ?_; (try rw [List.length_map] at hln); unfold maxLen at hln; conv => whnf) | fail
  · exact ⟨(i + 1, st + 1, inpW sk x (i + 1)), ⟨by show i + 1 ≤ n.inn.toNat; omega, by show i + 1 ≤ (inpW sk x (i + 1)).length; rw [inpW_len]; exact Nat.le_refl _, List.take_of_length_le (by rw [inpW_len]; exact Nat.le_refl _), fun _ => inpW_len _ _ _⟩, by show n.inn.toNat - (i + 1) < n.inn.toNat - i; omega,
      Imp.forget ⟨rfl, rfl, rfl, rfl, rfl, rfl, rfl, rfl, rfl, trivial⟩ ⟨rfl, rfl, rfl, rfl, rfl, rfl, trivial⟩ rfl⟩
  have hie : i = n.inn.toNat := by omega
  subst hie
  have hcur : cur = inpW sk x n.inn.toNat := by rw [← htk, List.take_of_length_le (by rw [hlen (by omega)]; exact Nat.le_refl _)]
  subst hcur
  refine AW_loop (fun p : Nat × Nat => [(67, iv .i64 p.1), (66, iv .i64 n.gates.length), (65, .x (.d (gatesPV n.gates))), (11, iv .i64 (delays (n.gates.take p.1))), (8, .x (.b 8 0)), (9, .x (.f (.func 74) [] [.b 3 0])), (3, .x (.b 3 0)), (1, sl states), (6, .x (.d (.v (.slice none 0 0)))), (7, .x (.d (.v (.slice none 0 0))))])
    (fun p => (8, .box fBox) :: (3, .box [.b 900 0]) :: sB n s1 sk s2 dl p.2 (n.inn.toNat + p.1) (sigW sk n states x p.1)) (fun p => p.1 ≤ n.gates.length) (fun p => n.gates.length - p.1) (0, st) (Nat.zero_le _)
    (Imp.forget ⟨rfl, congrArg (fun k : Nat => some (iv .i64 k)) (List.length_map _), rfl, rfl, rfl, rfl, rfl, rfl, rfl, rfl, trivial⟩ ⟨rfl, rfl, rfl, rfl, rfl, rfl, trivial⟩ rfl) ?_
  rintro ⟨i, st⟩ hi
  dsimp only at hi ⊢
  clear htk hlen hic hb
  have hsl := sigW_len sk n states x i
  repeat' first | with_reducible refine AW_seq ?_ | with_reducible refine AW_block ?_ | ((first | with_reducible refine AW_skip ?_ | with_reducible refine AW_exit ?_ | with_reducible refine AW_region hTt ?_ | refine AW_drawM hTt hMix (id := 21) 7 [0] false [0, 0, 2, 6, 14, 0, 0, 126, 255] _ (by kernel_rfl) rfl rfl (by kernel_rfl) rfl (by kernel_rfl) (by kernel_rfl) ?_ | fail); conv => whnf) | (refine AW_cond rfl (fun hb => ?_) (fun hb => ?_) <;> first | (replace hb := of_decide_eq_true hb; try simp only [List.length_map] at hb) | (replace hb := of_decide_eq_false hb; try simp only [List.length_map] at hb)) | ((first | refine andA ?_ | with_reducible refine Exists.intro _ (And.intro (gd_any (And.intro (by omega) (map_get (by omega)))) ?_) | fail); conv => whnf) | (refine fun hln => ?_; (try rw [List.length_map] at hln); unfold maxLen at hln; conv => whnf) | fail
  · -- a delay
    have hb5 : n.gates[i].kind = 5 := hb
    obtain ⟨ha0, ha1, _⟩ := ok.ha i (by omega)
    have hdle := delays_le (n.gates.take i)
    rw [List.length_take] at hdle
    have hge : n.gates.getD i gate0 = n.gates[i] := by rw [List.getD_eq_getElem?_getD, List.getElem?_eq_getElem (by omega)]; rfl
    refine AW_loop (fun m : Nat => [(76, iv .i64 m), (75, iv .i64 states.length), (74, sl states), (14, wv (laneW states (delays (n.gates.take i)) m)), (13, .x (.b 13 0)), (67, iv .i64 i), (66, iv .i64 n.gates.length), (65, .x (.d (gatesPV n.gates))), (11, iv .i64 (delays (n.gates.take i))), (8, .x (.b 8 0)), (9, .x (.f (.func 74) [] [.b 3 0])), (3, .x (.b 3 0)), (1, sl states), (6, .x (.d (.v (.slice none 0 0)))), (7, .x (.d (.v (.slice none 0 0))))])
      (fun m => (13, .box [.d (.v (.int .i64 n.gates[i].kind)), .d (.v (.int .i64 n.gates[i].a)), .d (.v (.int .i64 n.gates[i].b))]) :: (8, .box fBox) :: (3, .box [.b 900 0]) :: sB n s1 sk s2 dl st (n.inn.toNat + i) (sigW sk n states x i)) (fun m => m ≤ states.length) (fun m => states.length - m) 0 (Nat.zero_le _)
      (Imp.forget ⟨rfl, congrArg (fun k : Nat => some (iv .i64 k)) (List.length_map _), rfl, rfl, rfl, rfl, rfl, rfl, rfl, rfl, rfl, rfl, rfl, rfl, rfl, trivial⟩ ⟨rfl, rfl, rfl, rfl, rfl, rfl, rfl, trivial⟩ rfl) ?_
    intro m hm
    repeat' first | with_reducible refine AW_seq ?_ | with_reducible refine AW_block ?_ | ((first | with_reducible refine AW_skip ?_ | with_reducible refine AW_exit ?_ | with_reducible refine AW_region hTt ?_ | refine AW_drawM hTt hMix (id := 21) 7 [0] false [0, 0, 2, 6, 14, 0, 0, 126, 255] _ (by kernel_rfl) rfl rfl (by kernel_rfl) rfl (by kernel_rfl) (by kernel_rfl) ?_ | refine ⟨_, shr_i _ (delays (n.gates.take i)) (by omega), ?_⟩ | refine ⟨_, and1 _, ?_⟩ | refine ⟨_, u16_bit _, ?_⟩ | refine ⟨_, shl_bit _ m (by omega), ?_⟩ | refine ⟨_, w_or _ _, ?_⟩ | fail); conv => whnf) | (refine AW_cond rfl (fun hb => ?_) (fun hb => ?_) <;> first | (replace hb := of_decide_eq_true hb; try simp only [List.length_map] at hb) | (replace hb := of_decide_eq_false hb; try simp only [List.length_map] at hb)) | ((first | refine ⟨_, wrap_of (by first | omega | (simp only [List.length_map]; omega)), ?_⟩ | refine andA ?_ | with_reducible refine Exists.intro _ (And.intro (gd_any (And.intro (by omega) (map_get (by omega)))) ?_) | fail); conv => whnf) | fail
    · have el : laneW states (delays (n.gates.take i)) m ||| shlW (states[m] / 2 ^ delays (n.gates.take i)) m = laneW states (delays (n.gates.take i)) (m + 1) := by
        simp only [laneW]
        rw [List.getD_eq_getElem?_getD, List.getElem?_eq_getElem (by omega)]; rfl
      exact ⟨m + 1, by omega, by omega, Imp.forget ⟨rfl, rfl, rfl, congrArg (fun w => some (wv w)) el, rfl, rfl, rfl, rfl, rfl, rfl, rfl, rfl, rfl, rfl, rfl, trivial⟩ ⟨rfl, rfl, rfl, rfl, rfl, rfl, rfl, trivial⟩ rfl⟩
    · have hme : m = states.length := by omega
      subst hme
      have hdt : (delays (n.gates.take i) : Int) + 1 = delays (n.gates.take (i + 1)) := by rw [delays_take _ _ (by omega), if_pos hb5]; omega
      rw [hb5]
      conv => whnf
      repeat' first | ((first | with_reducible refine AW_region hTt ?_ | refine LateGo.mk ⟨_, rfl, ?_⟩ | ((refine ⟨_, (kept_fn (n := n) (s1 := s1) (sk := sk) (s2 := s2) (dl := dl) (s3 := st) (k := n.inn.toNat + i) (nw := sigW sk n states x i) ⟨5, n.gates[i].a, n.gates[i].b⟩ (laneW states (delays (n.gates.take i)) states.length)).frame (asc []) (by repeat (first | exact trivial | refine ⟨rfl, ?_⟩)) rfl (by rintro _ _ ⟨rfl, rfl⟩; rfl), ?_⟩); (rintro _ _ ⟨_, _, ⟨rfl, rfl⟩, rfl, rfl⟩)) | ((refine ⟨_, (addFn' (n := n) (s1 := s1) (sk := sk) (s2 := s2) (dl := dl) (s3 := st) (k := n.inn.toNat + i) (nw := sigW sk n states x i) (laneW states (delays (n.gates.take i)) states.length) (Nat.le_of_eq hsl.symm) (by omega) (by omega) (List.take_of_length_le (Nat.le_of_eq hsl)) hsl).frame (asc [(909, 3)]) (by repeat (first | exact trivial | refine ⟨rfl, ?_⟩)) rfl (by rintro _ _ ⟨rfl, rfl⟩; rfl), ?_⟩); (rintro _ _ ⟨_, _, ⟨rfl, rfl⟩, rfl, rfl⟩)) | refine ⟨_, wrap_of (by first | omega | (simp only [List.length_map]; omega)), ?_⟩ | refine andA ?_ | fail); conv => whnf) | fail
      all_goals
        refine ⟨(i + 1, st + 1), by show i + 1 ≤ n.gates.length; omega, by show n.gates.length - (i + 1) < n.gates.length - i; omega,
          Imp.forget ⟨rfl, rfl, rfl, congrArg (fun k : Int => some (iv .i64 k)) hdt, rfl, rfl, rfl, rfl, rfl, rfl, trivial⟩ ⟨rfl, rfl, rfl, rfl, rfl, congrArg (fun l => some (Ob.chain 111 1 (st + 1) (List.map wPV l))) (?_ : addW sk (sigW sk n states x i) (laneW states (delays (n.gates.take i)) states.length) = sigW sk n states x (i + 1)), trivial⟩ rfl⟩
        show _ = addW sk (sigW sk n states x i) (gateW (n.gates.getD i gate0) _ (if (n.gates.getD i gate0).kind = 5 then _ else _))
        rw [hge]; unfold gateW
        rw [if_neg (by omega), if_neg (by omega), if_neg (by omega), if_neg (by omega), if_pos hb5]
  · -- the other gates
    obtain ⟨hk1, hk5⟩ := ok.hk i (by omega)
    obtain ⟨ha0, ha1, ha2⟩ := ok.ha i (by omega)
    obtain ⟨hb0, hb1, hb2⟩ := ok.hb i (by omega)
    have ha2 := ha2 hb
    have e : n.gates[i].kind = 1 ∨ n.gates[i].kind = 2 ∨ n.gates[i].kind = 3 ∨ n.gates[i].kind = 4 := by omega
    have hge : n.gates.getD i gate0 = n.gates[i] := by rw [List.getD_eq_getElem?_getD, List.getElem?_eq_getElem (by omega)]; rfl
    have hdt : (delays (n.gates.take i) : Int) = delays (n.gates.take (i + 1)) := by rw [delays_take _ _ (by omega), if_neg hb]; omega
    rcases e with e | e | e | e
    · rw [e]
      repeat' first | ((first | with_reducible refine AW_region hTt ?_ | refine LateGo.mk ⟨_, rfl, ?_⟩ | ((refine ⟨_, (and_fn (n := n) (s1 := s1) (sk := sk) (s2 := s2) (dl := dl) (s3 := st) (k := n.inn.toNat + i) (nw := sigW sk n states x i) n.gates[i] 0#16 (Nat.le_of_eq hsl.symm) ha0 (by omega) hb0 (by omega)).frame (asc []) (by repeat (first | exact trivial | refine ⟨rfl, ?_⟩)) rfl (by rintro _ _ ⟨rfl, rfl⟩; rfl), ?_⟩); (rintro _ _ ⟨_, _, ⟨rfl, rfl⟩, rfl, rfl⟩)) | ((refine ⟨_, (addFn' (n := n) (s1 := s1) (sk := sk) (s2 := s2) (dl := dl) (s3 := st) (k := n.inn.toNat + i) (nw := sigW sk n states x i) ((sigW sk n states x i).getD n.gates[i].a.toNat 0#16 &&& (sigW sk n states x i).getD n.gates[i].b.toNat 0#16) (Nat.le_of_eq hsl.symm) (by omega) (by omega) (List.take_of_length_le (Nat.le_of_eq hsl)) hsl).frame (asc [(909, 3)]) (by repeat (first | exact trivial | refine ⟨rfl, ?_⟩)) rfl (by rintro _ _ ⟨rfl, rfl⟩; rfl), ?_⟩); (rintro _ _ ⟨_, _, ⟨rfl, rfl⟩, rfl, rfl⟩)) | refine ⟨_, wrap_of (by first | omega | (simp only [List.length_map]; omega)), ?_⟩ | refine andA ?_ | fail); conv => whnf) | fail
      all_goals
        refine ⟨(i + 1, st + 1), by show i + 1 ≤ n.gates.length; omega, by show n.gates.length - (i + 1) < n.gates.length - i; omega,
          Imp.forget ⟨rfl, rfl, rfl, congrArg (fun k : Int => some (iv .i64 k)) hdt, rfl, rfl, rfl, rfl, rfl, rfl, trivial⟩ ⟨rfl, rfl, rfl, rfl, rfl, congrArg (fun l => some (Ob.chain 111 1 (st + 1) (List.map wPV l))) (?_ : addW sk (sigW sk n states x i) ((sigW sk n states x i).getD n.gates[i].a.toNat 0#16 &&& (sigW sk n states x i).getD n.gates[i].b.toNat 0#16) = sigW sk n states x (i + 1)), trivial⟩ rfl⟩
        show _ = addW sk (sigW sk n states x i) (gateW (n.gates.getD i gate0) _ _)
        rw [hge]; unfold gateW
        rw [if_pos e]
    · rw [e]
      repeat' first | ((first | with_reducible refine AW_region hTt ?_ | refine LateGo.mk ⟨_, rfl, ?_⟩ | ((refine ⟨_, (or_fn (n := n) (s1 := s1) (sk := sk) (s2 := s2) (dl := dl) (s3 := st) (k := n.inn.toNat + i) (nw := sigW sk n states x i) n.gates[i] 0#16 (Nat.le_of_eq hsl.symm) ha0 (by omega) hb0 (by omega)).frame (asc []) (by repeat (first | exact trivial | refine ⟨rfl, ?_⟩)) rfl (by rintro _ _ ⟨rfl, rfl⟩; rfl), ?_⟩); (rintro _ _ ⟨_, _, ⟨rfl, rfl⟩, rfl, rfl⟩)) | ((refine ⟨_, (addFn' (n := n) (s1 := s1) (sk := sk) (s2 := s2) (dl := dl) (s3 := st) (k := n.inn.toNat + i) (nw := sigW sk n states x i) ((sigW sk n states x i).getD n.gates[i].a.toNat 0#16 ||| (sigW sk n states x i).getD n.gates[i].b.toNat 0#16) (Nat.le_of_eq hsl.symm) (by omega) (by omega) (List.take_of_length_le (Nat.le_of_eq hsl)) hsl).frame (asc [(909, 3)]) (by repeat (first | exact trivial | refine ⟨rfl, ?_⟩)) rfl (by rintro _ _ ⟨rfl, rfl⟩; rfl), ?_⟩); (rintro _ _ ⟨_, _, ⟨rfl, rfl⟩, rfl, rfl⟩)) | refine ⟨_, wrap_of (by first | omega | (simp only [List.length_map]; omega)), ?_⟩ | refine andA ?_ | fail); conv => whnf) | fail
      all_goals
        refine ⟨(i + 1, st + 1), by show i + 1 ≤ n.gates.length; omega, by show n.gates.length - (i + 1) < n.gates.length - i; omega,
          Imp.forget ⟨rfl, rfl, rfl, congrArg (fun k : Int => some (iv .i64 k)) hdt, rfl, rfl, rfl, rfl, rfl, rfl, trivial⟩ ⟨rfl, rfl, rfl, rfl, rfl, congrArg (fun l => some (Ob.chain 111 1 (st + 1) (List.map wPV l))) (?_ : addW sk (sigW sk n states x i) ((sigW sk n states x i).getD n.gates[i].a.toNat 0#16 ||| (sigW sk n states x i).getD n.gates[i].b.toNat 0#16) = sigW sk n states x (i + 1)), trivial⟩ rfl⟩
        show _ = addW sk (sigW sk n states x i) (gateW (n.gates.getD i gate0) _ _)
        rw [hge]; unfold gateW
        rw [if_neg (by omega), if_pos e]
    · rw [e]
      repeat' first | ((first | with_reducible refine AW_region hTt ?_ | refine LateGo.mk ⟨_, rfl, ?_⟩ | ((refine ⟨_, (xor_fn (n := n) (s1 := s1) (sk := sk) (s2 := s2) (dl := dl) (s3 := st) (k := n.inn.toNat + i) (nw := sigW sk n states x i) n.gates[i] 0#16 (Nat.le_of_eq hsl.symm) ha0 (by omega) hb0 (by omega)).frame (asc []) (by repeat (first | exact trivial | refine ⟨rfl, ?_⟩)) rfl (by rintro _ _ ⟨rfl, rfl⟩; rfl), ?_⟩); (rintro _ _ ⟨_, _, ⟨rfl, rfl⟩, rfl, rfl⟩)) | ((refine ⟨_, (addFn' (n := n) (s1 := s1) (sk := sk) (s2 := s2) (dl := dl) (s3 := st) (k := n.inn.toNat + i) (nw := sigW sk n states x i) ((sigW sk n states x i).getD n.gates[i].a.toNat 0#16 ^^^ (sigW sk n states x i).getD n.gates[i].b.toNat 0#16) (Nat.le_of_eq hsl.symm) (by omega) (by omega) (List.take_of_length_le (Nat.le_of_eq hsl)) hsl).frame (asc [(909, 3)]) (by repeat (first | exact trivial | refine ⟨rfl, ?_⟩)) rfl (by rintro _ _ ⟨rfl, rfl⟩; rfl), ?_⟩); (rintro _ _ ⟨_, _, ⟨rfl, rfl⟩, rfl, rfl⟩)) | refine ⟨_, wrap_of (by first | omega | (simp only [List.length_map]; omega)), ?_⟩ | refine andA ?_ | fail); conv => whnf) | fail
      all_goals
        refine ⟨(i + 1, st + 1), by show i + 1 ≤ n.gates.length; omega, by show n.gates.length - (i + 1) < n.gates.length - i; omega,
          Imp.forget ⟨rfl, rfl, rfl, congrArg (fun k : Int => some (iv .i64 k)) hdt, rfl, rfl, rfl, rfl, rfl, rfl, trivial⟩ ⟨rfl, rfl, rfl, rfl, rfl, congrArg (fun l => some (Ob.chain 111 1 (st + 1) (List.map wPV l))) (?_ : addW sk (sigW sk n states x i) ((sigW sk n states x i).getD n.gates[i].a.toNat 0#16 ^^^ (sigW sk n states x i).getD n.gates[i].b.toNat 0#16) = sigW sk n states x (i + 1)), trivial⟩ rfl⟩
        show _ = addW sk (sigW sk n states x i) (gateW (n.gates.getD i gate0) _ _)
        rw [hge]; unfold gateW
        rw [if_neg (by omega), if_neg (by omega), if_pos e]
    · rw [e]
      repeat' first | ((first | with_reducible refine AW_region hTt ?_ | refine LateGo.mk ⟨_, rfl, ?_⟩ | ((refine ⟨_, (not_fn (n := n) (s1 := s1) (sk := sk) (s2 := s2) (dl := dl) (s3 := st) (k := n.inn.toNat + i) (nw := sigW sk n states x i) n.gates[i] 0#16 (Nat.le_of_eq hsl.symm) ha0 (by omega)).frame (asc []) (by repeat (first | exact trivial | refine ⟨rfl, ?_⟩)) rfl (by rintro _ _ ⟨rfl, rfl⟩; rfl), ?_⟩); (rintro _ _ ⟨_, _, ⟨rfl, rfl⟩, rfl, rfl⟩)) | ((refine ⟨_, (addFn' (n := n) (s1 := s1) (sk := sk) (s2 := s2) (dl := dl) (s3 := st) (k := n.inn.toNat + i) (nw := sigW sk n states x i) (~~~(sigW sk n states x i).getD n.gates[i].a.toNat 0#16) (Nat.le_of_eq hsl.symm) (by omega) (by omega) (List.take_of_length_le (Nat.le_of_eq hsl)) hsl).frame (asc [(909, 3)]) (by repeat (first | exact trivial | refine ⟨rfl, ?_⟩)) rfl (by rintro _ _ ⟨rfl, rfl⟩; rfl), ?_⟩); (rintro _ _ ⟨_, _, ⟨rfl, rfl⟩, rfl, rfl⟩)) | refine ⟨_, wrap_of (by first | omega | (simp only [List.length_map]; omega)), ?_⟩ | refine andA ?_ | fail); conv => whnf) | fail
      all_goals
        refine ⟨(i + 1, st + 1), by show i + 1 ≤ n.gates.length; omega, by show n.gates.length - (i + 1) < n.gates.length - i; omega,
          Imp.forget ⟨rfl, rfl, rfl, congrArg (fun k : Int => some (iv .i64 k)) hdt, rfl, rfl, rfl, rfl, rfl, rfl, trivial⟩ ⟨rfl, rfl, rfl, rfl, rfl, congrArg (fun l => some (Ob.chain 111 1 (st + 1) (List.map wPV l))) (?_ : addW sk (sigW sk n states x i) (~~~(sigW sk n states x i).getD n.gates[i].a.toNat 0#16) = sigW sk n states x (i + 1)), trivial⟩ rfl⟩
        show _ = addW sk (sigW sk n states x i) (gateW (n.gates.getD i gate0) _ _)
        rw [hge]; unfold gateW
        rw [if_neg (by omega), if_neg (by omega), if_neg (by omega), if_pos e]
  · -- the lanes
    have hie : i = n.gates.length := by omega
    subst hie
    have hlenA : (List.map gPV n.gates).length = n.gates.length := List.length_map _
    generalize hsg : sigW sk n states x n.gates.length = sg at *
    refine AW_imp (Imp.nil 6 3 1 (fr' := [(105, iv .i64 0), (104, iv .i64 states.length), (103, sl states), (3, .x (.b 3 0)), (6, .x (.o 6 0 0)), (7, .x (.d (.v (.slice none 0 0))))])
      (σ' := (3, .box [.b 900 0]) :: sB n s1 sk s2 dl st (n.inn.toNat + n.gates.length) sg) rfl ?_ ?_ rfl rfl) ?_
    · exact ⟨⟨_, rfl, .inl rfl⟩, ⟨_, congrArg (fun k : Nat => some (iv .i64 k)) (List.length_map _), .inl rfl⟩, ⟨_, rfl, .inl rfl⟩, ⟨_, rfl, .inl rfl⟩, ⟨_, rfl, .inr ⟨rfl, rfl⟩⟩, ⟨_, rfl, .inl rfl⟩, trivial⟩
    · exact ⟨⟨_, rfl, .inl rfl⟩, ⟨_, rfl, .inl rfl⟩, ⟨_, rfl, .inl rfl⟩, ⟨_, rfl, .inl rfl⟩, ⟨_, rfl, .inl rfl⟩, trivial⟩
    refine AW_imp (Imp.nil 7 3 1 (fr' := [(105, iv .i64 0), (104, iv .i64 states.length), (103, sl states), (3, .x (.b 3 0)), (6, .x (.o 6 0 0)), (7, .x (.o 7 0 0))])
      (σ' := (6, .chain 3 1 0 []) :: (3, .box [.b 900 0]) :: sB n s1 sk s2 dl st (n.inn.toNat + n.gates.length) sg) rfl ?_ ?_ rfl rfl) ?_
    · exact ⟨⟨_, rfl, .inl rfl⟩, ⟨_, rfl, .inl rfl⟩, ⟨_, rfl, .inl rfl⟩, ⟨_, rfl, .inl rfl⟩, ⟨_, rfl, .inl rfl⟩, ⟨_, rfl, .inr ⟨rfl, rfl⟩⟩, trivial⟩
    · exact ⟨⟨_, rfl, .inl rfl⟩, ⟨_, rfl, .inl rfl⟩, ⟨_, rfl, .inl rfl⟩, ⟨_, rfl, .inl rfl⟩, ⟨_, rfl, .inl rfl⟩, ⟨_, rfl, .inl rfl⟩, trivial⟩
    refine AW_loop (fun p : Nat × Nat × Nat => [(105, iv .i64 p.1), (104, iv .i64 states.length), (103, sl states), (3, .x (.b 3 0)), (6, .x (.o 6 p.2.1 (nexts n dl sg p.1).length)), (7, .x (.o 7 p.2.2 (outs n sg p.1).length))])
      (fun p => (7, .chain 3 1 p.2.2 ((outs n sg p.1).map iPV)) :: (6, .chain 3 1 p.2.1 ((nexts n dl sg p.1).map iPV)) :: (3, .box [.b 900 0]) :: sB n s1 sk s2 dl st (n.inn.toNat + n.gates.length) sg)
      (fun p => p.1 ≤ states.length) (fun p => states.length - p.1) (0, 0, 0) (Nat.zero_le _)
      (Imp.forget ⟨rfl, rfl, rfl, rfl, rfl, rfl, trivial⟩ ⟨rfl, rfl, rfl, rfl, rfl, rfl, rfl, trivial⟩ rfl) ?_
    rintro ⟨l, sa, sb⟩ hll
    dsimp only at hll ⊢
    have hsgl : sg.length = n.inn.toNat + n.gates.length := by rw [← hsg]; exact sigW_len _ _ _ _ _
    repeat' first | with_reducible refine AW_seq ?_ | with_reducible refine AW_block ?_ | ((first | with_reducible refine AW_skip ?_ | with_reducible refine AW_exit ?_ | with_reducible refine AW_ret ?_ | with_reducible refine AW_region hTt ?_ | fail); conv => whnf) | (refine AW_cond rfl (fun hb => ?_) (fun hb => ?_) <;> first | (replace hb := of_decide_eq_true hb; try simp only [List.length_map] at hb) | (replace hb := of_decide_eq_false hb; try simp only [List.length_map] at hb)) | ((refine andA ?_); conv => whnf) | (refine fun hln => ?_; (try rw [List.length_map] at hln); unfold maxLen at hln; conv => whnf) | fail
    · refine AW_loop (fun m : Nat => [(113, iv .i64 m), (112, iv .i64 dl.length), (111, .x (.o 902 s2 dl.length)), (17, iv .i64 l), (18, iv .i64 (nextW n dl sg l m)), (19, iv .i64 0), (105, iv .i64 l), (104, iv .i64 states.length), (103, sl states), (3, .x (.b 3 0)), (6, .x (.o 6 sa (nexts n dl sg l).length)), (7, .x (.o 7 sb (outs n sg l).length))])
        (fun _ => (7, .chain 3 1 sb ((outs n sg l).map iPV)) :: (6, .chain 3 1 sa ((nexts n dl sg l).map iPV)) :: (3, .box [.b 900 0]) :: sB n s1 sk s2 dl st (n.inn.toNat + n.gates.length) sg)
        (fun m => m ≤ dl.length) (fun m => dl.length - m) 0 (Nat.zero_le _)
        (Imp.forget ⟨rfl, rfl, rfl, rfl, rfl, rfl, rfl, rfl, rfl, rfl, rfl, rfl, trivial⟩ ⟨rfl, rfl, rfl, rfl, rfl, rfl, rfl, trivial⟩ rfl) ?_
      intro m hm
      rcases Nat.lt_or_ge m dl.length with hml | hml
      · have hdm := hdr ((m : Int)).toNat (by simpa using hml)
        have hga := ok.ha (dl[((m : Int)).toNat]'(by simpa using hml) - n.inn).toNat (by omega)
        obtain ⟨hga0, hga1, _⟩ := hga
        have hnl := nextW_lt n dl sg l m
        repeat' first | with_reducible refine AW_seq ?_ | with_reducible refine AW_block ?_ | ((first | with_reducible refine AW_skip ?_ | with_reducible refine AW_exit ?_ | with_reducible refine AW_region hTt ?_ | refine AW_draw hTt hMix (id := 30) 28 false [0, 0, 2, 6, 14, 0, 32, 96, 224, 480, 0, 0, 2048, 6144, 14336, 30720, 64512, 131040, 262112, 524256, 1048574, 2097150, 0, 8388606, 16777214, 33554430, 0, 134217726, 268435455, 536870911] (by kernel_rfl) rfl rfl (by kernel_rfl) ?_ | fail); conv => whnf) | (exact absurd hb (by omega)) | ((first | refine ⟨_, shr_w _ l (by omega), ?_⟩ | refine ⟨_, and1_w _ l, ?_⟩ | refine ⟨_, conv_lb _ _, ?_⟩ | refine ⟨_, shl_lb _ l m (by omega), ?_⟩ | refine ⟨_, or_lb _ _ l m (by omega) hnl.1 hnl.2, ?_⟩ | fail); conv => whnf) | (refine AW_cond rfl (fun hb => ?_) (fun hb => ?_) <;> first | (replace hb := of_decide_eq_true hb; try simp only [List.length_map] at hb) | (replace hb := of_decide_eq_false hb; try simp only [List.length_map] at hb)) | ((first | refine ⟨_, wrap_of (by first | omega | (simp only [List.length_map]; omega)), ?_⟩ | refine andA ?_ | with_reducible refine And.intro (gd_any (And.intro (by omega) (And.intro (by first | omega | (simp only [List.length_map]; omega)) (by first | omega | (simp only [List.length_map]; omega) | (simp only [List.length_set, List.length_map]; omega))))) ?_ | with_reducible refine Exists.intro _ (And.intro (gd_any (map_get' (by omega) (by omega))) (And.intro (And.intro (Nat.le_of_ble_eq_true rfl) rfl) ?_)) | with_reducible refine Exists.intro _ (And.intro (gd_any (And.intro (by omega) (map_get' (by omega) (by omega)))) ?_) | fail); conv => whnf) | fail
        have en : nextW n dl sg l m + lb (sg[n.gates[(dl[((m : Int)).toNat]'(by simpa using hml) - n.inn).toNat].a.toNat]'(by omega)) l * 2 ^ m = nextW n dl sg l (m + 1) := by
          simp only [nextW, Int.toNat_natCast]
          rw [List.getD_eq_getElem?_getD (l := dl), List.getElem?_eq_getElem hml, Option.getD_some, List.getD_eq_getElem?_getD (l := n.gates), List.getElem?_eq_getElem (by have := hdr m hml; omega), Option.getD_some, getD_lt]
        exact ⟨m + 1, by omega, by omega, Imp.forget ⟨rfl, rfl, rfl, rfl, congrArg (fun v : Int => some (iv .i64 v)) en, rfl, rfl, rfl, rfl, rfl, rfl, rfl, trivial⟩ ⟨rfl, rfl, rfl, rfl, rfl, rfl, rfl, trivial⟩ rfl⟩
      · have hme : m = dl.length := by omega
        subst hme
        repeat' first | with_reducible refine AW_seq ?_ | with_reducible refine AW_block ?_ | ((first | with_reducible refine AW_skip ?_ | with_reducible refine AW_exit ?_ | with_reducible refine AW_region hTt ?_ | fail); conv => whnf) | (exact absurd hb (by omega)) | (refine AW_cond rfl (fun hb => ?_) (fun hb => ?_) <;> first | (replace hb := of_decide_eq_true hb; try simp only [List.length_map] at hb) | (replace hb := of_decide_eq_false hb; try simp only [List.length_map] at hb)) | ((refine andA ?_); conv => whnf) | (refine fun hln => ?_; (try rw [List.length_map] at hln); unfold maxLen at hln; conv => whnf) | fail
        refine AW_loop (fun m : Nat => [(154, iv .i64 m), (153, iv .i64 n.out.length), (152, .x (.d (intsPV n.out))), (17, iv .i64 l), (18, iv .i64 (nextW n dl sg l dl.length)), (19, iv .i64 (outW n sg l m)), (105, iv .i64 l), (104, iv .i64 states.length), (103, sl states), (3, .x (.b 3 0)), (6, .x (.o 6 sa (nexts n dl sg l).length)), (7, .x (.o 7 sb (outs n sg l).length))])
          (fun _ => (7, .chain 3 1 sb ((outs n sg l).map iPV)) :: (6, .chain 3 1 sa ((nexts n dl sg l).map iPV)) :: (3, .box [.b 900 0]) :: sB n s1 sk s2 dl st (n.inn.toNat + n.gates.length) sg)
          (fun m => m ≤ n.out.length) (fun m => n.out.length - m) 0 (Nat.zero_le _)
          (Imp.forget ⟨rfl, congrArg (fun k : Nat => some (iv .i64 k)) (List.length_map _), rfl, rfl, rfl, rfl, rfl, rfl, rfl, rfl, rfl, rfl, trivial⟩ ⟨rfl, rfl, rfl, rfl, rfl, rfl, rfl, trivial⟩ rfl) ?_
        intro m hm
        rcases Nat.lt_or_ge m n.out.length with hml | hml
        · have hoo := ok.ho m hml
          have hnl := outW_lt n sg l m
          repeat' first | with_reducible refine AW_seq ?_ | with_reducible refine AW_block ?_ | ((first | with_reducible refine AW_skip ?_ | with_reducible refine AW_exit ?_ | with_reducible refine AW_region hTt ?_ | fail); conv => whnf) | (exact absurd hb (by omega)) | ((first | refine ⟨_, shr_w _ l (by omega), ?_⟩ | refine ⟨_, and1_w _ l, ?_⟩ | refine ⟨_, conv_lb _ _, ?_⟩ | refine ⟨_, shl_lb _ l m (by omega), ?_⟩ | refine ⟨_, or_lb _ _ l m (by omega) hnl.1 hnl.2, ?_⟩ | fail); conv => whnf) | (refine AW_cond rfl (fun hb => ?_) (fun hb => ?_) <;> first | (replace hb := of_decide_eq_true hb; try simp only [List.length_map] at hb) | (replace hb := of_decide_eq_false hb; try simp only [List.length_map] at hb)) | ((first | refine ⟨_, wrap_of (by first | omega | (simp only [List.length_map]; omega)), ?_⟩ | refine andA ?_ | with_reducible refine Exists.intro _ (And.intro (gd_any (And.intro (by omega) (map_get (by omega)))) ?_) | with_reducible refine And.intro (gd_any (And.intro (by omega) (And.intro (by first | omega | (simp only [List.length_map]; omega)) (by first | omega | (simp only [List.length_map]; omega) | (simp only [List.length_set, List.length_map]; omega))))) ?_ | with_reducible refine Exists.intro _ (And.intro (gd_any (map_get' (by omega) (by omega))) (And.intro (And.intro (Nat.le_of_ble_eq_true rfl) rfl) ?_)) | fail); conv => whnf) | fail
          have en : outW n sg l m + lb (sg[n.out[m].toNat]'(by omega)) l * 2 ^ m = outW n sg l (m + 1) := by
            simp only [outW]
            rw [List.getD_eq_getElem?_getD (l := n.out), List.getElem?_eq_getElem hml, Option.getD_some, getD_lt]
          exact ⟨m + 1, by omega, by omega, Imp.forget ⟨rfl, rfl, rfl, rfl, rfl, congrArg (fun v : Int => some (iv .i64 v)) en, rfl, rfl, rfl, rfl, rfl, rfl, trivial⟩ ⟨rfl, rfl, rfl, rfl, rfl, rfl, rfl, trivial⟩ rfl⟩
        · have hme : m = n.out.length := by omega
          subst hme
          have hnl := nexts_len n dl sg l
          have hol := outs_len n sg l
          repeat' first | with_reducible refine AW_seq ?_ | with_reducible refine AW_block ?_ | ((first | with_reducible refine AW_skip ?_ | with_reducible refine AW_exit ?_ | with_reducible refine AW_region hTt ?_ | fail); conv => whnf) | (exact absurd hb (by omega)) | (refine AW_cond rfl (fun hb => ?_) (fun hb => ?_) <;> first | (replace hb := of_decide_eq_true hb; try simp only [List.length_map] at hb) | (replace hb := of_decide_eq_false hb; try simp only [List.length_map] at hb)) | ((first | refine ⟨_, wrap_of (by first | omega | (simp only [List.length_map]; omega)), ?_⟩ | refine andA ?_ | fail); conv => whnf) | ((refine And.intro (by refine ⟨?_, ?_, ?_⟩ <;> simp [chunk, maxLen] <;> omega) ?_); conv => whnf) | fail
          have e1 : ((nexts n dl sg l).map iPV).take (nexts n dl sg l).length ++ [[PV.v (.int .i64 (nextW n dl sg l dl.length))]] = (nexts n dl sg (l + 1)).map iPV := by
            rw [nexts_succ, List.take_of_length_le (by simp), List.map_append]; rfl
          have e2 : ((outs n sg l).map iPV).take (outs n sg l).length ++ [[PV.v (.int .i64 (outW n sg l n.out.length))]] = (outs n sg (l + 1)).map iPV := by
            rw [outs_succ, List.take_of_length_le (by simp), List.map_append]; rfl
          have l1 : (nexts n dl sg l).length + 1 = (nexts n dl sg (l + 1)).length := by rw [nexts_len, nexts_len]
          have l2 : (outs n sg l).length + 1 = (outs n sg (l + 1)).length := by rw [outs_len, outs_len]
          exact ⟨(l + 1, sa + 1, sb + 1), by show l + 1 ≤ states.length; omega, by show states.length - (l + 1) < states.length - l; omega,
            Imp.forget ⟨rfl, rfl, rfl, rfl, congrArg (fun k => some (AV.x (.o 6 (sa + 1) k))) l1, congrArg (fun k => some (AV.x (.o 7 (sb + 1) k))) l2, trivial⟩
              ⟨congrArg (fun l => some (Ob.chain 3 1 (sb + 1) l)) e2, congrArg (fun l => some (Ob.chain 3 1 (sa + 1) l)) e1, rfl, rfl, rfl, rfl, rfl, trivial⟩ rfl⟩
    · have hle : l = states.length := by omega
      subst hle
      refine ⟨_, sB n s1 sk s2 dl st (n.inn.toNat + n.gates.length) sg, ⟨rfl, rfl, rfl, rfl, trivial⟩, rfl, (?_ : _ = some (AV.t [sl (nexts n dl sg states.length), sl (outs n sg states.length)])), st, rfl, rfl⟩
      exact outKeep2 (x := .x (.o 6 sa _)) (y := .x (.o 7 sb _)) rfl (keepO (xs := (nexts n dl sg states.length).map iPV) rfl rfl (by simp)) (keepO (xs := (outs n sg states.length).map iPV) rfl rfl (by simp))
end Go.Proofs.YtfpaonfddaeamaaGreatDoor
namespace Go.Proofs.YtfpaonfddaeamaaGreatDoor
open Go Go.QL
set_option maxHeartbeats 1600000
attribute [local irreducible] ACall FnC
def dlS (n : NetT) (i : Nat) : List Int := ((List.range i).filter fun j => (n.gates.getD j gate0).kind == 5).map fun (j : Nat) => n.inn + j
theorem dlS_succ (n : NetT) (i : Nat) : dlS n (i + 1) = if (n.gates.getD i gate0).kind = 5 then dlS n i ++ [n.inn + i] else dlS n i := by
  unfold dlS
  rw [List.range_succ, List.filter_append]
  simp only [List.getD_eq_getElem?_getD]
  by_cases h : (n.gates[i]?.getD gate0).kind = 5
  · simp [h]
  · simp [h]
theorem dlS_len (n : NetT) (i : Nat) (hi : i ≤ n.gates.length) : (dlS n i).length = delays (n.gates.take i) := by
  induction i with
  | zero => rfl
  | succ i ih =>
    have hge : n.gates.getD i gate0 = n.gates[i] := by rw [List.getD_eq_getElem?_getD, List.getElem?_eq_getElem (by omega)]; rfl
    rw [dlS_succ, delays_take _ _ (by omega), hge, ← ih (by omega)]
    by_cases h : n.gates[i].kind = 5
    · simp [h]
    · simp [h]
theorem dlS_mem (n : NetT) (i m : Nat) (h : m < (dlS n i).length) : n.inn ≤ (dlS n i)[m] ∧ (dlS n i)[m] < n.inn + i := by
  have : (dlS n i)[m] ∈ dlS n i := List.getElem_mem h
  unfold dlS at this
  rw [List.mem_map] at this
  obtain ⟨j, hj, e⟩ := this
  rw [List.mem_filter, List.mem_range] at hj
  unfold dlS
  rw [← e]
  omega
abbrev sB2 (n : NetT) (bx ch : Nat) (s1 : Nat) (sk : List (W16 × W16)) (s2 : Nat) (dl : List Int) : Sg :=
  [(bx, .box [.d (.v (.int .i64 n.inn)), .d (gatesPV n.gates), .d (intsPV n.out), .o ch s1 sk.length, .o 902 s2 dl.length, .o 903 0 0]),
   (ch, .chain 112 2 s1 (sk.map sPV)), (902, .chain 3 1 s2 (dl.map iPV)), (903, .chain 111 1 0 [])]
def sk0 (n : NetT) : List (W16 × W16) := List.replicate (n.inn.toNat + n.gates.length) (0#16, 0#16)
theorem build_nil (n : NetT) (h1 : 1 ≤ n.inn) (h6 : n.inn ≤ 6) (hl : n.gates.length ≤ 24) :
    ACall Tryz.prog 50 [netAV n, .x (.d (.v (.map none)))] []
      (fun r σ' => ∃ s2, r = .x (.b 19 0) ∧ σ' = sB2 n 19 17 0 (sk0 n) s2 (dlS n n.gates.length)) := by
  refine ACall_of_AWD hTt Tryz.func50 rfl (by kernel_rfl) (res := [.tmp 4]) rfl Tryz.ntmps50 (by simp) fun w0 K0 B => ?_
  dsimp only [entry]
  repeat' first | with_reducible refine AW_seq ?_ | with_reducible refine AW_block ?_ | ((first | with_reducible refine AW_region hTt ?_ | refine AW_draw hTt hMix (id := 1) 8 true [0, 0, 2, 0, 8, 24, 62, 126, 255, 511, 1023] (by kernel_rfl) rfl rfl (by kernel_rfl) ?_ | refine ⟨_, wrap_of (by first | omega | (simp only [List.length_map]; omega)), ?_⟩ | refine andA ?_ | with_reducible refine And.intro (And.intro (by omega) (And.intro (by first | omega | (simp only [List.length_map]; omega)) (by first | omega | (simp only [List.length_map, List.length_set]; omega)))) ?_ | fail); conv => whnf) | fail
  have eN : (n.inn + ((List.map gPV n.gates).length : Int)).toNat = (sk0 n).length := by
    unfold sk0; rw [List.length_map, List.length_replicate]; omega
  have eC : List.replicate (n.inn + ((List.map gPV n.gates).length : Int)).toNat [PV.v (.int .u16 0), PV.v (.int .u16 0)] = (sk0 n).map sPV := by
    rw [eN]; unfold sk0; rw [List.length_replicate, List.map_replicate]; rfl
  refine AW_loop (fun _ : Unit => [(21, .x (.h 21)), (2, .x (.b 2 0)), (5, .x (.b 19 0))])
    (fun _ => [(21, .x (.mapIter none 0 [] 0)), (2, .box [.d (.v (.int .i64 n.inn)), .d (gatesPV n.gates), .d (intsPV n.out)]), (19, .box [.d (.v (.int .i64 n.inn)), .d (gatesPV n.gates), .d (intsPV n.out), .o 17 0 (sk0 n).length, .d (.v (.slice none 0 0)), .d (.v (.slice none 0 0))]), (17, .chain 112 2 0 ((sk0 n).map sPV))])
    (fun _ => True) (fun _ => 0) () trivial
    (Imp.forget ⟨rfl, rfl, rfl, trivial⟩ ⟨rfl, rfl, congrArg (fun k => some (Ob.box [.d (.v (.int .i64 n.inn)), .d (gatesPV n.gates), .d (intsPV n.out), .o 17 0 k, .d (.v (.slice none 0 0)), .d (.v (.slice none 0 0))])) eN, congrArg (fun l => some (Ob.chain 112 2 0 l)) eC, trivial⟩ rfl) ?_
  rintro ⟨⟩ -
  repeat' first | with_reducible refine AW_seq ?_ | with_reducible refine AW_block ?_ | ((first | with_reducible refine AW_exit ?_ | with_reducible refine AW_region hTt ?_ | fail); conv => whnf) | (refine AW_cond rfl (fun hb => absurd hb (by decide)) (fun _ => ?_)) | ((refine andA ?_); conv => whnf) | (refine fun hln => ?_; (try rw [List.length_map] at hln); unfold maxLen at hln; conv => whnf) | fail
  refine AW_imp (Imp.nil 902 3 1 (fr' := [(46, iv .i64 0), (45, iv .i64 n.gates.length), (44, .x (.d (gatesPV n.gates))), (2, .x (.b 2 0)), (5, .x (.b 19 0))])
    (σ' := [(2, .box [.d (.v (.int .i64 n.inn)), .d (gatesPV n.gates), .d (intsPV n.out)]), (19, .box [.d (.v (.int .i64 n.inn)), .d (gatesPV n.gates), .d (intsPV n.out), .o 17 0 (sk0 n).length, .o 902 0 0, .d (.v (.slice none 0 0))]), (17, .chain 112 2 0 ((sk0 n).map sPV))]) rfl ?_ ?_ rfl rfl) ?_
  · exact ⟨⟨_, rfl, .inl rfl⟩, ⟨_, congrArg (fun k : Nat => some (iv .i64 k)) (List.length_map _), .inl rfl⟩, ⟨_, rfl, .inl rfl⟩, ⟨_, rfl, .inl rfl⟩, ⟨_, rfl, .inl rfl⟩, trivial⟩
  · exact ⟨⟨_, rfl, .inl rfl⟩, ⟨_, rfl, .inr ⟨_, _, rfl, rfl, .inl rfl, .inl rfl, .inl rfl, .inl rfl, .inr ⟨rfl, rfl⟩, .inl rfl, trivial⟩⟩, ⟨_, rfl, .inl rfl⟩, trivial⟩
  refine AW_imp (Imp.nil 903 111 1 (fr' := [(46, iv .i64 0), (45, iv .i64 n.gates.length), (44, .x (.d (gatesPV n.gates))), (2, .x (.b 2 0)), (5, .x (.b 19 0))])
    (σ' := [(902, .chain 3 1 0 []), (2, .box [.d (.v (.int .i64 n.inn)), .d (gatesPV n.gates), .d (intsPV n.out)]), (19, .box [.d (.v (.int .i64 n.inn)), .d (gatesPV n.gates), .d (intsPV n.out), .o 17 0 (sk0 n).length, .o 902 0 0, .o 903 0 0]), (17, .chain 112 2 0 ((sk0 n).map sPV))]) rfl ?_ ?_ rfl rfl) ?_
  · exact ⟨⟨_, rfl, .inl rfl⟩, ⟨_, rfl, .inl rfl⟩, ⟨_, rfl, .inl rfl⟩, ⟨_, rfl, .inl rfl⟩, ⟨_, rfl, .inl rfl⟩, trivial⟩
  · exact ⟨⟨_, rfl, .inl rfl⟩, ⟨_, rfl, .inl rfl⟩, ⟨_, rfl, .inr ⟨_, _, rfl, rfl, .inl rfl, .inl rfl, .inl rfl, .inl rfl, .inl rfl, .inr ⟨rfl, rfl⟩, trivial⟩⟩, ⟨_, rfl, .inl rfl⟩, trivial⟩
  refine AW_loop (fun p : Nat × Nat => [(46, iv .i64 p.1), (45, iv .i64 n.gates.length), (44, .x (.d (gatesPV n.gates))), (2, .x (.b 2 0)), (5, .x (.b 19 0))])
    (fun p => (2, .box [.d (.v (.int .i64 n.inn)), .d (gatesPV n.gates), .d (intsPV n.out)]) :: sB2 n 19 17 0 (sk0 n) p.2 (dlS n p.1)) (fun p => p.1 ≤ n.gates.length) (fun p => n.gates.length - p.1) (0, 0) (Nat.zero_le _)
    (Imp.forget ⟨rfl, rfl, rfl, rfl, rfl, trivial⟩ ⟨rfl, rfl, rfl, rfl, rfl, trivial⟩ rfl) ?_
  rintro ⟨i, st⟩ hi
  dsimp only at hi ⊢
  have hdl := dlS_len n i hi
  have hdle := delays_le (n.gates.take i)
  rw [List.length_take] at hdle
  rcases Nat.lt_or_ge i n.gates.length with hil | hil
  · have hge : n.gates.getD i gate0 = n.gates[i] := by rw [List.getD_eq_getElem?_getD, List.getElem?_eq_getElem (by omega)]; rfl
    repeat' first | with_reducible refine AW_seq ?_ | with_reducible refine AW_block ?_ | ((first | with_reducible refine AW_skip ?_ | with_reducible refine AW_exit ?_ | with_reducible refine AW_ret ?_ | with_reducible refine AW_region hTt ?_ | refine AW_drawM hTt hMix (id := 10) 10 [0] true [0, 0, 2, 6, 14, 0, 32, 0, 224, 480, 1022, 2047, 4095, 8191] _ (by kernel_rfl) rfl rfl (by kernel_rfl) rfl (by kernel_rfl) (by kernel_rfl) ?_ | refine LateGo.mk ⟨_, rfl, ?_⟩ | fail); conv => whnf) | (exact absurd hb (by omega)) | (refine AW_cond rfl (fun hb => ?_) (fun hb => ?_) <;> first | (replace hb := of_decide_eq_true hb; try simp only [List.length_map] at hb) | (replace hb := of_decide_eq_false hb; try simp only [List.length_map] at hb)) | ((first | refine ⟨_, wrap_of (by first | omega | (simp only [List.length_map]; omega)), ?_⟩ | refine andA ?_ | with_reducible refine Exists.intro _ (And.intro (gd_any (And.intro (by omega) (map_get (by omega)))) ?_) | fail); conv => whnf) | ((refine And.intro (by refine ⟨?_, ?_, ?_⟩ <;> simp [chunk, maxLen] <;> omega) ?_); conv => whnf) | fail
    iterate 1
      · have e := dlS_succ n i
        rw [hge, if_pos hb] at e
        have l1 : (dlS n i).length + 1 = (dlS n (i + 1)).length := by rw [e]; simp
        have e1 : ((dlS n i).map iPV).take (dlS n i).length ++ [[PV.v (.int .i64 (n.inn + i))]] = (dlS n (i + 1)).map iPV := by
          rw [e, List.take_of_length_le (by simp), List.map_append]; rfl
        exact ⟨(i + 1, st + 1), by show i + 1 ≤ n.gates.length; omega, by show n.gates.length - (i + 1) < n.gates.length - i; omega,
          Imp.forget ⟨rfl, rfl, rfl, rfl, rfl, trivial⟩ ⟨rfl, congrArg (fun k => some (Ob.box [.d (.v (.int .i64 n.inn)), .d (gatesPV n.gates), .d (intsPV n.out), .o 17 0 (sk0 n).length, .o 902 (st + 1) k, .o 903 0 0])) l1, rfl, congrArg (fun l => some (Ob.chain 3 1 (st + 1) l)) e1, rfl, trivial⟩ rfl⟩
    · have e := dlS_succ n i
      rw [hge, if_neg hb] at e
      refine ⟨(i + 1, st), by show i + 1 ≤ n.gates.length; omega, by show n.gates.length - (i + 1) < n.gates.length - i; omega, ?_⟩
      dsimp only
      rw [e]
      exact Imp.forget ⟨rfl, rfl, rfl, rfl, rfl, trivial⟩ ⟨rfl, rfl, rfl, rfl, rfl, trivial⟩ rfl
  · have hie : i = n.gates.length := by omega
    subst hie
    repeat' first | with_reducible refine AW_seq ?_ | with_reducible refine AW_block ?_ | ((first | with_reducible refine AW_skip ?_ | with_reducible refine AW_exit ?_ | with_reducible refine AW_ret ?_ | with_reducible refine AW_region hTt ?_ | fail); conv => whnf) | (exact absurd hb (by omega)) | (refine AW_cond rfl (fun hb => ?_) (fun hb => ?_) <;> first | (replace hb := of_decide_eq_true hb; try simp only [List.length_map] at hb) | (replace hb := of_decide_eq_false hb; try simp only [List.length_map] at hb)) | fail
    exact ⟨_, sB2 n 19 17 0 (sk0 n) st (dlS n n.gates.length), ⟨rfl, rfl, rfl, rfl, trivial⟩, rfl, rfl, st, rfl, rfl⟩
end Go.Proofs.YtfpaonfddaeamaaGreatDoor
namespace Go.Proofs.YtfpaonfddaeamaaGreatDoor
open Go Go.QL
set_option maxHeartbeats 1600000
attribute [local irreducible] ACall FnC
def mkW (p : Nat → Bool) : Nat → W16
  | 0 => 0#16
  | m + 1 => if p m then mkW p m ||| BitVec.twoPow 16 m else mkW p m
theorem mkW_bit (p : Nat → Bool) (m l : Nat) (hm : m ≤ 16) : (mkW p m).getLsbD l = (decide (l < m) && p l) := by
  induction m with
  | zero => simp [mkW]
  | succ m ih =>
    unfold mkW
    by_cases hp : p m = true
    · rw [if_pos hp, BitVec.getLsbD_or, ih (by omega), BitVec.getLsbD_twoPow]
      by_cases h : m = l
      · subst h; simp [hp]; omega
      · have e : decide (l < m + 1) = decide (l < m) := decide_eq_decide.2 (by omega)
        rw [e]; simp [h]
    · rw [if_neg hp, ih (by omega)]
      by_cases h : l = m
      · subst h; simp [hp]
      · have e : decide (l < m + 1) = decide (l < m) := decide_eq_decide.2 (by omega)
        rw [e]
theorem mkW_or (p q : Nat → Bool) (a : Nat) (ha : a < 16) (h : ∀ l, l < 16 → q l = (p l || l == a)) : mkW p 16 ||| BitVec.twoPow 16 a = mkW q 16 := by
  apply BitVec.eq_of_getLsbD_eq
  intro l hl
  rw [BitVec.getLsbD_or, mkW_bit _ _ _ (Nat.le_refl _), mkW_bit _ _ _ (Nat.le_refl _), BitVec.getLsbD_twoPow, h l hl]
  simp [hl]
  by_cases e : a = l
  · subst e; simp [hl]
  · have : ¬ l = a := fun h => e h.symm
    simp [e, this]
theorem mkW_congr (p q : Nat → Bool) (h : ∀ l, p l = q l) : mkW p 16 = mkW q 16 := by rw [show p = q from funext h]
def metF (fs : List (Nat × FaultT)) (S : List Nat) (i v : Int) (l : Nat) : Bool :=
  S.any fun j => match fs[j]? with
    | some (l', f) => l' == l && (f.sig == i && f.at_ == v)
    | none => false
def skF (n : NetT) (fs : List (Nat × FaultT)) (S : List Nat) : List (W16 × W16) :=
  (List.range (n.inn.toNat + n.gates.length)).map fun (i : Nat) => (mkW (metF fs S i 0) 16, mkW (metF fs S i 1) 16)
theorem skF_len (n : NetT) (fs : List (Nat × FaultT)) (S : List Nat) : (skF n fs S).length = n.inn.toNat + n.gates.length := by simp [skF]
theorem skF_nil (n : NetT) (fs : List (Nat × FaultT)) : skF n fs [] = sk0 n := by
  unfold skF sk0
  apply List.ext_getElem
  · simp
  · intro i h1 h2
    have e : ∀ m, mkW (fun _ => false) m = 0#16 := by
      intro m
      induction m with
      | zero => rfl
      | succ m ih => simp [mkW, ih]
    have e2 : ∀ v, metF fs [] (i : Int) v = fun _ => false := fun v => by funext l; rfl
    simp only [List.getElem_map, List.getElem_range, List.getElem_replicate, e2, e]
theorem skF_all (n : NetT) (fs : List (Nat × FaultT)) (S : List Nat) (hS : ∀ i, i < fs.length → i ∈ S) : skF n fs S = skF n fs (List.range fs.length) := by
  have key : ∀ i v l, metF fs S i v l = metF fs (List.range fs.length) i v l := by
    intro i v l
    unfold metF
    rw [Bool.eq_iff_iff, List.any_eq_true, List.any_eq_true]
    constructor
    · rintro ⟨j, hj, h⟩
      refine ⟨j, ?_, h⟩
      rw [List.mem_range]
      cases e : fs[j]? with
      | none => rw [e] at h; cases h
      | some p => exact (List.getElem?_eq_some_iff.1 e).1
    · rintro ⟨j, hj, h⟩
      exact ⟨j, hS j (List.mem_range.1 hj), h⟩
  unfold skF
  congr 1
  funext i
  rw [mkW_congr _ _ (key i 0), mkW_congr _ _ (key i 1)]
theorem metF_snoc (fs : List (Nat × FaultT)) (S : List Nat) (j l0 : Nat) (f : FaultT) (hj : fs[j]? = some (l0, f)) (i v : Int) (l : Nat) :
    metF fs (S ++ [j]) i v l = (metF fs S i v l || (l0 == l && (f.sig == i && f.at_ == v))) := by
  unfold metF
  rw [List.any_append]
  simp [hj]
theorem one_shl (l : Nat) (hl : l < 16) : IntKind.u16.wrap (1 * 2 ^ (min ((l : Int)).toNat IntKind.u16.bits)) = wi (BitVec.twoPow 16 l) := by
  have := shl_bit 1 l hl
  unfold shlW at this
  simpa using this
def left (S : List Nat) : Nat → Nat
  | 0 => 0
  | m + 1 => left S m + if m ∈ S then 0 else 1
theorem left_le (S : List Nat) (j m : Nat) : left (S ++ [j]) m ≤ left S m := by
  induction m with
  | zero => exact Nat.le_refl _
  | succ m ih =>
    unfold left
    by_cases h : m ∈ S
    · have : m ∈ S ++ [j] := List.mem_append_left _ h
      rw [if_pos h, if_pos this]; omega
    · rw [if_neg h]; split <;> omega
theorem left_lt (S : List Nat) (j m : Nat) (hj : j < m) (hn : j ∉ S) : left (S ++ [j]) m < left S m := by
  induction m with
  | zero => omega
  | succ m ih =>
    have hle := left_le S j m
    unfold left
    by_cases e : j = m
    · subst e
      rw [if_pos (List.mem_append_right _ (List.mem_singleton.2 rfl)), if_neg hn]; omega
    · have := ih (by omega)
      by_cases h : m ∈ S
      · have : m ∈ S ++ [j] := List.mem_append_left _ h
        rw [if_pos h, if_pos this]; omega
      · rw [if_neg h]; split <;> omega
theorem skF_set (n : NetT) (fs : List (Nat × FaultT)) (S : List Nat) (j l0 : Nat) (f : FaultT) (hj : fs[j]? = some (l0, f)) (hl : l0 < 16) (h0 : 0 ≤ f.sig) (hs : f.sig.toNat < (skF n fs S).length) (e : List PV)
    (he : (f.at_ = 0 ∧ e = [.v (.int .u16 (wi ((skF n fs S)[f.sig.toNat].1 ||| BitVec.twoPow 16 l0))), .v (.int .u16 (wi (skF n fs S)[f.sig.toNat].2))]) ∨
      (f.at_ = 1 ∧ e = [.v (.int .u16 (wi (skF n fs S)[f.sig.toNat].1)), .v (.int .u16 (wi ((skF n fs S)[f.sig.toNat].2 ||| BitVec.twoPow 16 l0)))])) :
    ((skF n fs S).map sPV).set f.sig.toNat e = (skF n fs (S ++ [j])).map sPV := by
  have hsig : ((f.sig.toNat : Nat) : Int) = f.sig := by omega
  apply List.ext_getElem
  · simp [skF]
  · intro i h1 h2
    rw [List.getElem_set]
    by_cases hi : f.sig.toNat = i
    · subst hi
      rw [if_pos rfl]
      simp only [skF, List.getElem_map, List.getElem_range, sPV] at he ⊢
      rcases he with ⟨ha, rfl⟩ | ⟨ha, rfl⟩
      · rw [mkW_or _ (metF fs (S ++ [j]) (f.sig.toNat : Int) 0) l0 hl (fun l _ => by rw [metF_snoc fs S j l0 f hj, hsig, ha]; simp [eq_comm]; rw [Bool.beq_comm]),
          mkW_congr (metF fs (S ++ [j]) (f.sig.toNat : Int) 1) (metF fs S (f.sig.toNat : Int) 1) (fun l => by rw [metF_snoc fs S j l0 f hj, ha]; simp)]
      · rw [mkW_or _ (metF fs (S ++ [j]) (f.sig.toNat : Int) 1) l0 hl (fun l _ => by rw [metF_snoc fs S j l0 f hj, hsig, ha]; simp [eq_comm]; rw [Bool.beq_comm]),
          mkW_congr (metF fs (S ++ [j]) (f.sig.toNat : Int) 0) (metF fs S (f.sig.toNat : Int) 0) (fun l => by rw [metF_snoc fs S j l0 f hj, ha]; simp)]
    · rw [if_neg hi]
      have hne : (f.sig == (i : Int)) = false := by
        simp; omega
      simp only [skF, List.getElem_map, List.getElem_range, sPV]
      rw [mkW_congr (metF fs (S ++ [j]) (i : Int) 0) (metF fs S (i : Int) 0) (fun l => by rw [metF_snoc fs S j l0 f hj, hne]; simp),
          mkW_congr (metF fs (S ++ [j]) (i : Int) 1) (metF fs S (i : Int) 1) (fun l => by rw [metF_snoc fs S j l0 f hj, hne]; simp)]
end Go.Proofs.YtfpaonfddaeamaaGreatDoor
namespace Go.Proofs.YtfpaonfddaeamaaGreatDoor
open Go Go.QL
set_option maxHeartbeats 1600000
attribute [local irreducible] ACall FnC
def kvF (fs : List (Nat × FaultT)) : List (Value × AV) := fs.map fun p => (.int .i64 p.1, faultAV p.2)
abbrev mapF (fs : List (Nat × FaultT)) : Ob := .x (.map (.one (.int .i64)) (kvF fs))
theorem build_map (n : NetT) (h1 : 1 ≤ n.inn) (h6 : n.inn ≤ 6) (hl : n.gates.length ≤ 24) (fs : List (Nat × FaultT)) (hfs : ∀ i (h : i < fs.length), fs[i].1 < 16 ∧ 0 ≤ fs[i].2.sig ∧ fs[i].2.sig < n.inn + n.gates.length ∧ (fs[i].2.at_ = 0 ∨ fs[i].2.at_ = 1)) :
    ACall Tryz.prog 50 [netAV n, .x (.h 700)] [(700, mapF fs)]
      (fun r σ' => ∃ s2, r = .x (.b 19 0) ∧ σ' = (700, mapF fs) :: sB2 n 19 17 0 (skF n fs (List.range fs.length)) s2 (dlS n n.gates.length)) := by
  refine ACall_of_AWD hTt Tryz.func50 rfl (by kernel_rfl) (res := [.tmp 4]) rfl Tryz.ntmps50 (by simp) fun w0 K0 B => ?_
  dsimp only [entry]
  repeat' first | with_reducible refine AW_seq ?_ | with_reducible refine AW_block ?_ | ((first | with_reducible refine AW_region hTt ?_ | refine AW_draw hTt hMix (id := 1) 8 true [0, 0, 2, 0, 8, 24, 62, 126, 255, 511, 1023] (by kernel_rfl) rfl rfl (by kernel_rfl) ?_ | refine ⟨_, wrap_of (by first | omega | (simp only [List.length_map]; omega)), ?_⟩ | refine andA ?_ | with_reducible refine And.intro (And.intro (by omega) (And.intro (by first | omega | (simp only [List.length_map]; omega)) (by first | omega | (simp only [List.length_map, List.length_set]; omega)))) ?_ | fail); conv => whnf) | fail
  have eN : (n.inn + ((List.map gPV n.gates).length : Int)).toNat = (skF n fs []).length := by
    rw [skF_nil]; unfold sk0; rw [List.length_map, List.length_replicate]; omega
  have eC : List.replicate (n.inn + ((List.map gPV n.gates).length : Int)).toNat [PV.v (.int .u16 0), PV.v (.int .u16 0)] = (skF n fs []).map sPV := by
    rw [eN, skF_nil]; unfold sk0; rw [List.length_replicate, List.map_replicate]; rfl
  refine AW_loop (fun S : List Nat => [(21, .x (.h 21)), (2, .x (.b 2 0)), (5, .x (.b 19 0))])
    (fun S => [(21, .x (.mapIter (some 700) (kvF fs).length S (kvF fs).length)), (2, .box [.d (.v (.int .i64 n.inn)), .d (gatesPV n.gates), .d (intsPV n.out)]), (19, .box [.d (.v (.int .i64 n.inn)), .d (gatesPV n.gates), .d (intsPV n.out), .o 17 0 (skF n fs S).length, .d (.v (.slice none 0 0)), .d (.v (.slice none 0 0))]), (17, .chain 112 2 0 ((skF n fs S).map sPV)), (700, mapF fs)])
    (fun S => ∀ j ∈ S, j < fs.length) (fun S => left S fs.length) [] (fun j hj => by cases hj)
    (Imp.forget ⟨rfl, rfl, rfl, trivial⟩ ⟨rfl, rfl, congrArg (fun k => some (Ob.box [.d (.v (.int .i64 n.inn)), .d (gatesPV n.gates), .d (intsPV n.out), .o 17 0 k, .d (.v (.slice none 0 0)), .d (.v (.slice none 0 0))])) eN, congrArg (fun l => some (Ob.chain 112 2 0 l)) eC, rfl, trivial⟩ rfl) ?_
  intro S hS
  have hskl := skF_len n fs S
  repeat' first | with_reducible refine AW_seq ?_ | ((first | with_reducible refine AW_region hTt ?_ | refine andA ?_ | fail); conv => whnf) | fail
  refine ⟨fun j key v hj hn => ?_, fun hall => ?_⟩
  · have hjl : j < fs.length := by have := (List.getElem?_eq_some_iff.1 hj).1; simpa [kvF] using this
    obtain ⟨⟨l0, f⟩, hfj⟩ : ∃ p, fs[j] = p := ⟨_, rfl⟩
    have hfj' : fs[j]? = some (l0, f) := by rw [List.getElem?_eq_getElem hjl, hfj]
    have hkv : (kvF fs)[j]? = some (.int .i64 l0, faultAV f) := by unfold kvF; rw [List.getElem?_map, hfj']; rfl
    rw [hkv] at hj
    cases hj
    obtain ⟨hl16, hs0, hs1, hat⟩ := hfs j hjl
    rw [hfj] at hl16 hs0 hs1 hat
    dsimp only at hl16 hs0 hs1 hat
    obtain ⟨sg, av⟩ := f
    dsimp only at hs0 hs1 hat
    have hsl : sg.toNat < (skF n fs S).length := by rw [hskl]; omega
    rcases hat with rfl | rfl
    · have eS := skF_set n fs S j l0 ⟨sg, 0⟩ hfj' hl16 hs0 hsl _ (.inl ⟨rfl, rfl⟩)
      have eL : (skF n fs S).length = (skF n fs (S ++ [j])).length := by rw [skF_len, skF_len]
      conv => whnf
      repeat' first | with_reducible refine AW_seq ?_ | with_reducible refine AW_block ?_ | ((first | with_reducible refine AW_skip ?_ | with_reducible refine AW_region hTt ?_ | refine AW_draw hTt hMix (id := 5) 15 false [0, 1, 3, 7, 0, 16, 0, 64, 63, 511, 1023, 0, 2048, 8191, 63, 32767, 65535] (by kernel_rfl) rfl rfl (by kernel_rfl) ?_ | refine ⟨_, gd_any (map_get' (n := sg) hs0 hsl), ⟨Nat.le_of_ble_eq_true rfl, rfl⟩, ?_⟩ | refine ⟨_, map_get' (n := sg) hs0 hsl, Nat.le_of_ble_eq_true rfl, ?_⟩ | refine ⟨rfl, j, _, _, List.getLast?_concat, hkv, ?_⟩ | refine ⟨_, one_shl l0 hl16, ?_⟩ | refine ⟨_, w_or _ _, ?_⟩ | fail); conv => whnf) | (refine AW_cond rfl (fun _ => ?_) (fun hb => absurd hb (by decide))) | ((first | refine andA ?_ | with_reducible refine And.intro (gd_any (And.intro (by omega) (And.intro (by first | omega | (simp only [List.length_map]; omega)) (by first | omega | (simp only [List.length_map]; omega) | (simp only [List.length_set, List.length_map]; omega))))) ?_ | fail); conv => whnf) | fail
      exact ⟨S ++ [j], by
          intro x hx
          rcases List.mem_append.1 hx with hx | hx
          · exact hS x hx
          · rw [List.mem_singleton] at hx; omega,
        left_lt S j fs.length hjl hn,
        Imp.forget ⟨rfl, rfl, rfl, trivial⟩ ⟨rfl, rfl, congrArg (fun k => some (Ob.box [.d (.v (.int .i64 n.inn)), .d (gatesPV n.gates), .d (intsPV n.out), .o 17 0 k, .d (.v (.slice none 0 0)), .d (.v (.slice none 0 0))])) eL, congrArg (fun l => some (Ob.chain 112 2 0 l)) eS, rfl, trivial⟩ rfl⟩
    · have eS := skF_set n fs S j l0 ⟨sg, 1⟩ hfj' hl16 hs0 hsl _ (.inr ⟨rfl, rfl⟩)
      have eL : (skF n fs S).length = (skF n fs (S ++ [j])).length := by rw [skF_len, skF_len]
      conv => whnf
      repeat' first | with_reducible refine AW_seq ?_ | with_reducible refine AW_block ?_ | ((first | with_reducible refine AW_skip ?_ | with_reducible refine AW_region hTt ?_ | refine AW_draw hTt hMix (id := 5) 15 false [0, 1, 3, 7, 0, 16, 0, 64, 63, 511, 1023, 0, 2048, 8191, 63, 32767, 65535] (by kernel_rfl) rfl rfl (by kernel_rfl) ?_ | refine ⟨_, gd_any (map_get' (n := sg) hs0 hsl), ⟨Nat.le_of_ble_eq_true rfl, rfl⟩, ?_⟩ | refine ⟨_, map_get' (n := sg) hs0 hsl, Nat.le_of_ble_eq_true rfl, ?_⟩ | refine ⟨rfl, j, _, _, List.getLast?_concat, hkv, ?_⟩ | refine ⟨_, one_shl l0 hl16, ?_⟩ | refine ⟨_, w_or _ _, ?_⟩ | fail); conv => whnf) | (refine AW_cond rfl (fun _ => ?_) (fun hb => absurd hb (by decide))) | ((first | refine andA ?_ | with_reducible refine And.intro (gd_any (And.intro (by omega) (And.intro (by first | omega | (simp only [List.length_map]; omega)) (by first | omega | (simp only [List.length_map]; omega) | (simp only [List.length_set, List.length_map]; omega))))) ?_ | fail); conv => whnf) | fail
      exact ⟨S ++ [j], by
          intro x hx
          rcases List.mem_append.1 hx with hx | hx
          · exact hS x hx
          · rw [List.mem_singleton] at hx; omega,
        left_lt S j fs.length hjl hn,
        Imp.forget ⟨rfl, rfl, rfl, trivial⟩ ⟨rfl, rfl, congrArg (fun k => some (Ob.box [.d (.v (.int .i64 n.inn)), .d (gatesPV n.gates), .d (intsPV n.out), .o 17 0 k, .d (.v (.slice none 0 0)), .d (.v (.slice none 0 0))])) eL, congrArg (fun l => some (Ob.chain 112 2 0 l)) eS, rfl, trivial⟩ rfl⟩
  · have hall' : ∀ i, i < fs.length → i ∈ S := fun i hi => hall i (by unfold kvF; rw [List.length_map]; exact hi)
    clear hall
    conv => whnf
    repeat' first | with_reducible refine AW_seq ?_ | with_reducible refine AW_block ?_ | ((first | with_reducible refine AW_exit ?_ | with_reducible refine AW_region hTt ?_ | fail); conv => whnf) | (refine AW_cond rfl (fun hb => absurd hb (by decide)) (fun _ => ?_)) | ((refine andA ?_); conv => whnf) | (refine fun hln => ?_; (try rw [List.length_map] at hln); unfold maxLen at hln; conv => whnf) | fail
    refine AW_imp (Imp.nil 902 3 1 (fr' := [(46, iv .i64 0), (45, iv .i64 n.gates.length), (44, .x (.d (gatesPV n.gates))), (2, .x (.b 2 0)), (5, .x (.b 19 0))])
      (σ' := [(700, mapF fs), (2, .box [.d (.v (.int .i64 n.inn)), .d (gatesPV n.gates), .d (intsPV n.out)]), (19, .box [.d (.v (.int .i64 n.inn)), .d (gatesPV n.gates), .d (intsPV n.out), .o 17 0 (skF n fs S).length, .o 902 0 0, .d (.v (.slice none 0 0))]), (17, .chain 112 2 0 ((skF n fs S).map sPV))]) rfl ?_ ?_ rfl rfl) ?_
    · exact ⟨⟨_, rfl, .inl rfl⟩, ⟨_, congrArg (fun k : Nat => some (iv .i64 k)) (List.length_map _), .inl rfl⟩, ⟨_, rfl, .inl rfl⟩, ⟨_, rfl, .inl rfl⟩, ⟨_, rfl, .inl rfl⟩, trivial⟩
    · exact ⟨⟨_, rfl, .inl rfl⟩, ⟨_, rfl, .inl rfl⟩, ⟨_, rfl, .inr ⟨_, _, rfl, rfl, .inl rfl, .inl rfl, .inl rfl, .inl rfl, .inr ⟨rfl, rfl⟩, .inl rfl, trivial⟩⟩, ⟨_, rfl, .inl rfl⟩, trivial⟩
    refine AW_imp (Imp.nil 903 111 1 (fr' := [(46, iv .i64 0), (45, iv .i64 n.gates.length), (44, .x (.d (gatesPV n.gates))), (2, .x (.b 2 0)), (5, .x (.b 19 0))])
      (σ' := [(902, .chain 3 1 0 []), (700, mapF fs), (2, .box [.d (.v (.int .i64 n.inn)), .d (gatesPV n.gates), .d (intsPV n.out)]), (19, .box [.d (.v (.int .i64 n.inn)), .d (gatesPV n.gates), .d (intsPV n.out), .o 17 0 (skF n fs S).length, .o 902 0 0, .o 903 0 0]), (17, .chain 112 2 0 ((skF n fs S).map sPV))]) rfl ?_ ?_ rfl rfl) ?_
    · exact ⟨⟨_, rfl, .inl rfl⟩, ⟨_, rfl, .inl rfl⟩, ⟨_, rfl, .inl rfl⟩, ⟨_, rfl, .inl rfl⟩, ⟨_, rfl, .inl rfl⟩, trivial⟩
    · exact ⟨⟨_, rfl, .inl rfl⟩, ⟨_, rfl, .inl rfl⟩, ⟨_, rfl, .inl rfl⟩, ⟨_, rfl, .inr ⟨_, _, rfl, rfl, .inl rfl, .inl rfl, .inl rfl, .inl rfl, .inl rfl, .inr ⟨rfl, rfl⟩, trivial⟩⟩, ⟨_, rfl, .inl rfl⟩, trivial⟩
    refine AW_loop (fun p : Nat × Nat => [(46, iv .i64 p.1), (45, iv .i64 n.gates.length), (44, .x (.d (gatesPV n.gates))), (2, .x (.b 2 0)), (5, .x (.b 19 0))])
      (fun p => (700, mapF fs) :: (2, .box [.d (.v (.int .i64 n.inn)), .d (gatesPV n.gates), .d (intsPV n.out)]) :: sB2 n 19 17 0 (skF n fs S) p.2 (dlS n p.1)) (fun p => p.1 ≤ n.gates.length) (fun p => n.gates.length - p.1) (0, 0) (Nat.zero_le _)
      (Imp.forget ⟨rfl, rfl, rfl, rfl, rfl, trivial⟩ ⟨rfl, rfl, rfl, rfl, rfl, rfl, trivial⟩ rfl) ?_
    rintro ⟨i, st⟩ hi
    dsimp only at hi ⊢
    have hdl := dlS_len n i hi
    have hdle := delays_le (n.gates.take i)
    rw [List.length_take] at hdle
    rcases Nat.lt_or_ge i n.gates.length with hil | hil
    · have hge : n.gates.getD i gate0 = n.gates[i] := by rw [List.getD_eq_getElem?_getD, List.getElem?_eq_getElem (by omega)]; rfl
      repeat' first | with_reducible refine AW_seq ?_ | with_reducible refine AW_block ?_ | ((first | with_reducible refine AW_skip ?_ | with_reducible refine AW_exit ?_ | with_reducible refine AW_ret ?_ | with_reducible refine AW_region hTt ?_ | refine AW_drawM hTt hMix (id := 10) 10 [0] true [0, 0, 2, 6, 14, 0, 32, 0, 224, 480, 1022, 2047, 4095, 8191] _ (by kernel_rfl) rfl rfl (by kernel_rfl) rfl (by kernel_rfl) (by kernel_rfl) ?_ | refine LateGo.mk ⟨_, rfl, ?_⟩ | fail); conv => whnf) | (exact absurd hb (by omega)) | (refine AW_cond rfl (fun hb => ?_) (fun hb => ?_) <;> first | (replace hb := of_decide_eq_true hb; try simp only [List.length_map] at hb) | (replace hb := of_decide_eq_false hb; try simp only [List.length_map] at hb)) | ((first | refine ⟨_, wrap_of (by first | omega | (simp only [List.length_map]; omega)), ?_⟩ | refine andA ?_ | with_reducible refine Exists.intro _ (And.intro (gd_any (And.intro (by omega) (map_get (by omega)))) ?_) | fail); conv => whnf) | ((refine And.intro (by refine ⟨?_, ?_, ?_⟩ <;> simp [chunk, maxLen] <;> omega) ?_); conv => whnf) | fail
      iterate 1
        · have e := dlS_succ n i
          rw [hge, if_pos hb] at e
          have l1 : (dlS n i).length + 1 = (dlS n (i + 1)).length := by rw [e]; simp
          have e1 : ((dlS n i).map iPV).take (dlS n i).length ++ [[PV.v (.int .i64 (n.inn + i))]] = (dlS n (i + 1)).map iPV := by
            rw [e, List.take_of_length_le (by simp), List.map_append]; rfl
          exact ⟨(i + 1, st + 1), by show i + 1 ≤ n.gates.length; omega, by show n.gates.length - (i + 1) < n.gates.length - i; omega,
            Imp.forget ⟨rfl, rfl, rfl, rfl, rfl, trivial⟩ ⟨rfl, rfl, congrArg (fun k => some (Ob.box [.d (.v (.int .i64 n.inn)), .d (gatesPV n.gates), .d (intsPV n.out), .o 17 0 (skF n fs S).length, .o 902 (st + 1) k, .o 903 0 0])) l1, rfl, congrArg (fun l => some (Ob.chain 3 1 (st + 1) l)) e1, rfl, trivial⟩ rfl⟩
      · have e := dlS_succ n i
        rw [hge, if_neg hb] at e
        refine ⟨(i + 1, st), by show i + 1 ≤ n.gates.length; omega, by show n.gates.length - (i + 1) < n.gates.length - i; omega, ?_⟩
        dsimp only
        rw [e]
        exact Imp.forget ⟨rfl, rfl, rfl, rfl, rfl, trivial⟩ ⟨rfl, rfl, rfl, rfl, rfl, rfl, trivial⟩ rfl
    · have hie : i = n.gates.length := by omega
      subst hie
      repeat' first | with_reducible refine AW_seq ?_ | with_reducible refine AW_block ?_ | ((first | with_reducible refine AW_skip ?_ | with_reducible refine AW_exit ?_ | with_reducible refine AW_ret ?_ | with_reducible refine AW_region hTt ?_ | fail); conv => whnf) | (exact absurd hb (by omega)) | (refine AW_cond rfl (fun hb => ?_) (fun hb => ?_) <;> first | (replace hb := of_decide_eq_true hb; try simp only [List.length_map] at hb) | (replace hb := of_decide_eq_false hb; try simp only [List.length_map] at hb)) | fail
      exact ⟨_, (700, mapF fs) :: sB2 n 19 17 0 (skF n fs S) st (dlS n n.gates.length), ⟨rfl, rfl, rfl, rfl, rfl, trivial⟩, rfl, rfl, st, rfl, by rw [skF_all n fs S hall']⟩
end Go.Proofs.YtfpaonfddaeamaaGreatDoor
namespace Go.Proofs.YtfpaonfddaeamaaGreatDoor
open Go Go.QL
set_option maxHeartbeats 1600000
attribute [local irreducible] ACall FnC
theorem shl_one (k : Int) (h0 : 0 ≤ k) (h1 : k ≤ 32) : IntKind.i64.wrap (1 * 2 ^ (min k.toNat IntKind.i64.bits)) = 2 ^ k.toNat := by
  rw [show min k.toNat IntKind.i64.bits = k.toNat from Nat.min_eq_left (by show k.toNat ≤ 64; omega), Int.one_mul]
  have := pow64 (m := k.toNat) (by omega)
  exact wrap_of (by omega)
def topIn (n : NetT) : Int := 2 ^ n.inn.toNat - 1
abbrev netBox (n : NetT) : Ob := .box [.d (.v (.int .i64 n.inn)), .d (gatesPV n.gates), .d (intsPV n.out)]
theorem inchk_fn (n : NetT) (h1 : 1 ≤ n.inn) (h6 : n.inn ≤ 6) (x : Int) (rest : Sg) : ACall Tryz.prog 68 [iv .i64 x, .x (.b 2 0)] ((2, netBox n) :: rest)
    (fun r σ' => r = bv (outB x (topIn n)) ∧ σ' = (2, netBox n) :: rest) := by
  refine ACall_of_AW hTt Tryz.func68 rfl (by kernel_rfl) (res := [.tmp 3]) rfl Tryz.ntmps68 (by simp) fun w0 K0 B => ?_
  dsimp only [entry]
  have hp := pow64 (m := n.inn.toNat) (by omega)
  repeat' first | with_reducible refine AW_seq ?_ | ((first | with_reducible refine AW_ret ?_ | with_reducible refine AW_region hTt ?_ | ((refine ⟨_, (out_fn _ _).call rfl rfl, ?_⟩); (rintro _ _ ⟨rfl, rfl⟩)) | refine ⟨_, shl_one n.inn (by omega) (by omega), ?_⟩ | refine ⟨_, wrap_of (by first | omega | (simp only [List.length_map]; omega)), ?_⟩ | refine andA ?_ | fail); conv => whnf) | fail
  exact ⟨_, rfl, rfl, rfl⟩
theorem idxin_fn (n : NetT) (h1 : 1 ≤ n.inn) (h6 : n.inn ≤ 6) (l : List Int) (rest : Sg) : ACall Tryz.prog 35 [sl l, .x (.f (.func 68) [] [.b 2 0])] ((2, netBox n) :: rest)
    (fun r σ' => r = iv .i64 (firstBad (topIn n) l) ∧ σ' = (2, netBox n) :: rest) := by
  refine ACall_of_AW hTt Tryz.func35 rfl (by kernel_rfl) (res := [.tmp 4]) rfl Tryz.ntmps35 (by simp) fun w0 K0 B => ?_
  dsimp only [entry]
  repeat' first | with_reducible refine AW_seq ?_ | with_reducible refine AW_block ?_ | ((with_reducible refine AW_region hTt ?_); conv => whnf) | (refine fun hln => ?_; (try rw [List.length_map] at hln); unfold maxLen at hln; conv => whnf) | fail
  refine AW_loop (fun i : Nat => [(8, iv .i64 i), (7, iv .i64 l.length), (0, sl l), (1, .x (.f (.func 68) [] [.b 2 0]))]) (fun _ => (2, netBox n) :: rest)
    (fun i => i ≤ l.length ∧ firstOut (topIn n) l 0 = firstOut (topIn n) (l.drop i) i) (fun i => l.length - i) 0 (by simp) (Imp.slots ⟨rfl, congrArg (fun k : Nat => some (iv .i64 k)) (List.length_map _), rfl, rfl, trivial⟩) ?_
  rintro i ⟨hi, hfo⟩
  repeat' first | with_reducible refine AW_seq ?_ | with_reducible refine AW_block ?_ | ((first | with_reducible refine AW_skip ?_ | with_reducible refine AW_exit ?_ | with_reducible refine AW_ret ?_ | with_reducible refine AW_region hTt ?_ | ((refine ⟨_, inchk_fn n h1 h6 _ _, ?_⟩); (rintro _ _ ⟨rfl, rfl⟩)) | fail); conv => whnf) | (refine AW_cond rfl (fun hb => ?_) (fun hb => ?_) <;> first | (replace hb := of_decide_eq_true hb; try simp only [List.length_map] at hb) | (replace hb := of_decide_eq_false hb; try simp only [List.length_map] at hb) | skip) | ((first | refine ⟨_, wrap_of (by first | omega | (simp only [List.length_map]; omega)), ?_⟩ | refine andA ?_ | with_reducible refine Exists.intro _ (And.intro (gd_any (And.intro (by omega) (map_get (by omega)))) ?_) | fail); conv => whnf) | fail
  · have e : firstBad (topIn n) l = i := by
      unfold firstBad
      rw [hfo, List.drop_eq_getElem_cons (by omega)]
      simp only [firstOut]
      rw [outB_eq] at hb
      rw [if_neg (by simpa using hb)]
    exact ⟨_, rfl, by rw [e], rfl⟩
  · refine ⟨i + 1, ⟨by omega, ?_⟩, by omega, Imp.slots ⟨rfl, rfl, rfl, rfl, trivial⟩⟩
    rw [hfo, List.drop_eq_getElem_cons (by omega)]
    simp only [firstOut]
    rw [outB_eq] at hb
    rw [if_pos (by simpa using hb)]
  · have e : firstBad (topIn n) l = -1 := by
      unfold firstBad
      rw [hfo, List.drop_eq_nil_of_le (by omega)]; rfl
    exact ⟨_, rfl, by rw [e], rfl⟩
theorem contin_fn (n : NetT) (h1 : 1 ≤ n.inn) (h6 : n.inn ≤ 6) (l : List Int) (rest : Sg) : ACall Tryz.prog 67 [sl l, .x (.f (.func 68) [] [.b 2 0])] ((2, netBox n) :: rest)
    (fun r σ' => r = bv (decide (0 ≤ firstBad (topIn n) l)) ∧ σ' = (2, netBox n) :: rest) := by
  refine ACall_of_AW hTt Tryz.func67 rfl (by kernel_rfl) (res := [.tmp 4]) rfl Tryz.ntmps67 (by simp) fun w0 K0 B => ?_
  dsimp only [entry]
  repeat' first | with_reducible refine AW_seq ?_ | ((first | with_reducible refine AW_ret ?_ | with_reducible refine AW_region hTt ?_ | ((refine ⟨_, idxin_fn n h1 h6 _ _, ?_⟩); (rintro _ _ ⟨rfl, rfl⟩)) | fail); conv => whnf) | fail
  exact ⟨_, rfl, rfl, rfl⟩
def insErr (n : NetT) (l : List Int) : Int := if 32 < l.length then 3 else if 0 ≤ firstBad (topIn n) l then 7 else 0
theorem pins_fn (n : NetT) (h1 : 1 ≤ n.inn) (h6 : n.inn ≤ 6) (l : List Int) : FnC Tryz.prog 49 [netAV n, sl l] (iv .i64 (insErr n l)) := by
  refine FnC_of_AW hTt Tryz.func49 rfl (by kernel_rfl) (res := [.tmp 4]) rfl Tryz.ntmps49 (by simp) fun w0 K0 => ?_
  dsimp only [entry]
  repeat' first | with_reducible refine AW_seq ?_ | with_reducible refine AW_block ?_ | ((first | with_reducible refine AW_skip ?_ | with_reducible refine AW_ret ?_ | with_reducible refine AW_region hTt ?_ | ((refine ⟨_, contin_fn n h1 h6 _ _, ?_⟩); (rintro _ _ ⟨rfl, rfl⟩)) | fail); conv => whnf) | (refine AW_cond rfl (fun hb => ?_) (fun hb => ?_) <;> first | (replace hb := of_decide_eq_true hb; try simp only [List.length_map] at hb) | (replace hb := of_decide_eq_false hb; try simp only [List.length_map] at hb)) | (refine fun hln => ?_; (try rw [List.length_map] at hln); unfold maxLen at hln; conv => whnf) | fail
  · rw [show insErr n l = 3 from if_pos (by omega)]; rfl
  · rename_i hb1
    rw [show insErr n l = 7 from by unfold insErr; rw [if_neg (by omega), if_pos hb]]; rfl
  · rename_i hb1
    rw [show insErr n l = 0 from by unfold insErr; rw [if_neg (by omega), if_neg hb]]; rfl
theorem firstGate_none (inn : Int) (len : Nat) : ∀ (l : List GateT) (k : Nat), firstGate inn len l k = none → ∀ i (h : i < l.length), gateErr inn len (k + i) l[i] = 0
  | [], k, _, i, h => by simp at h
  | g :: r, k, hn, i, h => by
    unfold firstGate at hn
    by_cases hg : gateErr inn len k g = 0
    · rw [if_pos hg] at hn
      cases i with
      | zero => exact hg
      | succ i =>
        have := firstGate_none inn len r (k + 1) hn i (by simpa using h)
        rw [show k + 1 + i = k + (i + 1) by omega] at this
        exact this
    · rw [if_neg hg] at hn; cases hn
theorem firstOut_none (last : Int) : ∀ (l : List Int) (k : Nat), firstOut last l k = none → ∀ i (h : i < l.length), inB l[i] 0 last = true
  | [], k, _, i, h => by simp at h
  | x :: r, k, hn, i, h => by
    unfold firstOut at hn
    by_cases hg : inB x 0 last = true
    · rw [if_pos hg] at hn
      cases i with
      | zero => exact hg
      | succ i => exact firstOut_none last r (k + 1) hn i (by simpa using h)
    · rw [if_neg hg] at hn; cases hn
theorem gateErr_ok {inn : Int} {len i : Nat} {g : GateT} (h : gateErr inn len i g = 0) (hi : i < len) (h1 : 1 ≤ inn) :
    (1 ≤ g.kind ∧ g.kind ≤ 5) ∧ (0 ≤ g.a ∧ g.a < inn + len ∧ (g.kind ≠ 5 → g.a < inn + i)) ∧ (0 ≤ g.b ∧ g.b < inn + len ∧ (g.kind ≤ 3 → g.b < inn + i)) := by
  unfold gateErr at h
  by_cases hk : inB g.kind 1 5 = false
  · rw [if_pos hk] at h; cases h
  · rw [if_neg hk] at h
    have hk := inB_iff.1 (by simpa using hk : inB g.kind 1 5 = true)
    have hn : ¬ (inB g.a 0 (if g.kind = 5 then inn + len - 1 else inn + i - 1) = false ∨ inB g.b 0 (if g.kind = 4 ∨ g.kind = 5 then 0 else if g.kind = 5 then inn + len - 1 else inn + i - 1) = false) := fun hc => by
      dsimp only at h
      rw [if_pos hc] at h; cases h
    have hn := not_or.1 hn
    have ha := inB_iff.1 (by simpa using hn.1 : inB g.a 0 (if g.kind = 5 then inn + len - 1 else inn + i - 1) = true)
    have hb := inB_iff.1 (by simpa using hn.2 : inB g.b 0 (if g.kind = 4 ∨ g.kind = 5 then 0 else if g.kind = 5 then inn + len - 1 else inn + i - 1) = true)
    refine ⟨hk, ?_, ?_⟩
    · split at ha <;> refine ⟨by omega, by omega, fun _ => by omega⟩
    · split at hb
      · refine ⟨by omega, by omega, fun _ => by omega⟩
      · split at hb <;> refine ⟨by omega, by omega, fun _ => by omega⟩
theorem NetOK.of {n : NetT} (h : (checkR n).2.2 = 0) : NetOK n := by
  unfold checkR at h
  by_cases c1 : inB n.inn 1 6 = false
  · rw [if_pos c1] at h; cases h
  rw [if_neg c1] at h
  by_cases c2 : 24 < n.gates.length ∨ inB n.out.length 1 4 = false
  · rw [if_pos c2] at h; cases h
  rw [if_neg c2] at h
  have b1 := inB_iff.1 (by simpa using c1 : inB n.inn 1 6 = true)
  have c2 := not_or.1 c2
  have b2 := inB_iff.1 (by simpa using c2.2 : inB n.out.length 1 4 = true)
  cases c3 : firstGate n.inn n.gates.length n.gates 0 with
  | some p =>
    rw [c3] at h
    obtain ⟨i, e⟩ := p
    have h : e = 0 := h
    exfalso
    have key : ∀ (l : List GateT) (k : Nat) (p : Nat × Int), firstGate n.inn n.gates.length l k = some p → p.2 ≠ 0 := by
      intro l
      induction l with
      | nil => intro k p hp; cases hp
      | cons g r ih =>
        intro k p hp
        unfold firstGate at hp
        split at hp
        · exact ih _ _ hp
        · rename_i hg; cases hp; exact hg
    exact key _ _ _ c3 h
  | none =>
    rw [c3] at h
    dsimp only at h
    by_cases c4 : 5 < delays n.gates
    · rw [if_pos c4] at h; cases h
    rw [if_neg c4] at h
    cases c5 : firstOut (n.inn + n.gates.length - 1) n.out 0 with
    | some j => rw [c5] at h; cases h
    | none =>
      have g := fun i hi => gateErr_ok (by simpa using firstGate_none _ _ _ _ c3 i hi) hi b1.1
      have o := fun i hi => inB_iff.1 (firstOut_none _ _ _ c5 i hi)
      exact ⟨b1.1, b1.2, by omega, by omega, by omega, by omega, fun i hi => (g i hi).1, fun i hi => (g i hi).2.1, fun i hi => (g i hi).2.2, fun i hi => by have := o i hi; omega⟩
end Go.Proofs.YtfpaonfddaeamaaGreatDoor
namespace Go.Proofs.YtfpaonfddaeamaaGreatDoor
open Go Go.QL
set_option maxHeartbeats 1600000
attribute [local irreducible] ACall FnC
def sig0 (n : NetT) (states : List Int) (x : Int) : List W16 := sigW (sk0 n) n states x n.gates.length
def dl0 (n : NetT) : List Int := dlS n n.gates.length
def stepP (n : NetT) (state input : Int) : Int × Int × Int :=
  if (checkR n).2.2 ≠ 0 then (0, 0, (checkR n).2.2)
  else if outB state (2 ^ delays n.gates - 1) = true ∨ outB input (topIn n) = true then (0, 0, 7)
  else (nextW n (dl0 n) (sig0 n [state] input) 0 (dl0 n).length, outW n (sig0 n [state] input) 0 n.out.length, 0)
theorem pstep_fn (n : NetT) (hi : i64 n.inn) (state input : Int) : FnC Tryz.prog 27 [netAV n, iv .i64 state, iv .i64 input] (three (stepP n state input)) := by
  refine FnC_of_AW hTt Tryz.func27 rfl (by kernel_rfl) (res := [.tmp 6, .tmp 7, .tmp 8]) rfl Tryz.ntmps27 (by simp) fun w0 K0 => ?_
  dsimp only [entry]
  repeat' first | with_reducible refine AW_seq ?_ | ((first | with_reducible refine AW_skip ?_ | with_reducible refine AW_ret ?_ | with_reducible refine AW_region hTt ?_ | ((refine ⟨_, (pcheck_fn n hi).call rfl rfl, ?_⟩); (rintro _ _ ⟨rfl, rfl⟩)) | fail); conv => whnf) | (refine AW_cond rfl (fun hb => ?_) (fun hb => ?_) <;> first | (replace hb := of_decide_eq_true hb; try simp only [List.length_map] at hb) | (replace hb := of_decide_eq_false hb; try simp only [List.length_map] at hb) | (simp only [List.length_map, bne_iff_ne, ne_eq, beq_iff_eq, bne_eq_false_iff_eq, beq_eq_false_iff_ne, decide_eq_true_eq, decide_eq_false_iff_not, Bool.not_eq_true', Bool.not_eq_false', Int.natCast_inj] at hb)) | fail
  · rw [show stepP n state input = (0, 0, (checkR n).2.2) from if_pos hb]; rfl
  · have hz : (checkR n).2.2 = 0 := by simpa using hb
    have ok := NetOK.of hz
    have h1 := ok.h1; have h6 := ok.h6; have hl := ok.hl; have hd := ok.hd
    have hdl : (dlS n n.gates.length).length = delays n.gates := by rw [dlS_len n _ (Nat.le_refl _), List.take_of_length_le (Nat.le_refl _)]
    have hnl : (nexts n (dlS n n.gates.length) (sigW (sk0 n) n [state] input n.gates.length) [state].length).length = 1 := by simp [nexts_len]
    have hol : (outs n (sigW (sk0 n) n [state] input n.gates.length) [state].length).length = 1 := by simp [outs_len]
    have hp1 := pow64 (m := n.inn.toNat) (by omega)
    have hp2 := pow64 (m := delays n.gates) (by omega)
    have es1 : IntKind.i64.wrap (1 * 2 ^ (min (((dlS n n.gates.length).length : Int)).toNat IntKind.i64.bits)) = 2 ^ delays n.gates := by
      rw [shl_one _ (by omega) (by omega), Int.toNat_natCast, hdl]
    have hsk : (sk0 n).length = n.inn.toNat + n.gates.length := by simp [sk0]
    have hdr := fun m h => dlS_mem n n.gates.length m h
    have st0 : ¬ (checkR n).2.2 ≠ 0 := by simpa using hz
    repeat' first | with_reducible refine AW_seq ?_ | ((first | with_reducible refine AW_skip ?_ | with_reducible refine AW_ret ?_ | with_reducible refine AW_region hTt ?_ | refine AW_draw hTt hMix (id := 8) 7 false [0, 1, 3, 0, 8, 24, 7, 127, 255] (by kernel_rfl) rfl rfl (by kernel_rfl) ?_ | ((refine ⟨_, (build_nil n h1 h6 hl).frame (asc [(19, 900), (17, 901)]) (by repeat (first | exact trivial | refine ⟨rfl, ?_⟩)) rfl (by rintro _ _ ⟨_, rfl, rfl⟩; rfl), ?_⟩); (rintro _ _ ⟨_, _, ⟨_, rfl, rfl⟩, rfl, rfl⟩)) | refine ⟨_, es1, ?_⟩ | refine ⟨_, shl_one n.inn (by omega) (by omega), ?_⟩ | ((refine ⟨_, (out_fn _ _).call rfl rfl, ?_⟩); (rintro _ _ ⟨rfl, rfl⟩)) | refine ⟨_, fun _ => (out_fn _ _).call rfl rfl, ?_⟩ | ((refine ⟨_, (beat_fn ok (s1 := 0) (sk := sk0 n) (s2 := _) (dl := dlS n n.gates.length) (s3 := 0) (k := 0) (nw := []) hsk (by omega) hdr [state] (by simp) input).frame (asc []) (by repeat (first | exact trivial | refine ⟨rfl, ?_⟩)) rfl (by rintro _ _ ⟨_, rfl, rfl⟩; rfl), ?_⟩); (rintro _ _ ⟨_, _, ⟨_, rfl, rfl⟩, rfl, rfl⟩)) | fail); conv => whnf) | (refine AW_cond rfl (fun hb => ?_) (fun hb => ?_) <;> first | (replace hb := of_decide_eq_true hb; try simp only [List.length_map] at hb) | (replace hb := of_decide_eq_false hb; try simp only [List.length_map] at hb) | skip) | ((first | refine ⟨_, wrap_of (by first | omega | (simp only [List.length_map]; omega)), ?_⟩ | refine andA ?_ | with_reducible refine Exists.intro _ (And.intro (gd_any (And.intro (by omega) (map_get' (by omega) (by omega)))) ?_) | fail); conv => whnf) | (refine fun hln => ?_; (try rw [List.length_map] at hln); unfold maxLen at hln; conv => whnf) | fail
    · rw [show stepP n state input = (0, 0, 7) from by
        unfold stepP
        rw [if_neg st0, if_pos]
        revert hb
        cases outB state (2 ^ delays n.gates - 1) with
        | true => intro _; exact .inl rfl
        | false => intro hb; exact .inr hb]
      rfl
    · have e1 : (nexts n (dlS n n.gates.length) (sigW (sk0 n) n [state] input n.gates.length) [state].length)[Int.toNat 0] = nextW n (dl0 n) (sig0 n [state] input) 0 (dl0 n).length := by simp [nexts, dl0, sig0]
      have e2 : (outs n (sigW (sk0 n) n [state] input n.gates.length) [state].length)[Int.toNat 0] = outW n (sig0 n [state] input) 0 n.out.length := by simp [outs, sig0]
      rw [show stepP n state input = ((nexts n (dlS n n.gates.length) (sigW (sk0 n) n [state] input n.gates.length) [state].length)[Int.toNat 0], (outs n (sigW (sk0 n) n [state] input n.gates.length) [state].length)[Int.toNat 0], 0) from by
        unfold stepP
        rw [if_neg st0, if_neg, e1, e2]
        revert hb
        show (bif outB state (2 ^ delays n.gates - 1) then true else outB input (topIn n)) = false → _
        cases outB state (2 ^ delays n.gates - 1) with
        | true => intro h; cases h
        | false =>
          intro hb h
          rcases h with h | h
          · cases h
          · exact absurd (hb.symm.trans h) Bool.noConfusion]
      rfl
end Go.Proofs.YtfpaonfddaeamaaGreatDoor
namespace Go.Proofs.YtfpaonfddaeamaaGreatDoor
open Go Go.QL
set_option maxHeartbeats 1600000
attribute [local irreducible] ACall FnC
theorem pwrong_fn (n : NetT) (f : FaultT) (h1 : 1 ≤ n.inn) (h6 : n.inn ≤ 6) (hl : n.gates.length ≤ 24) : FnC Tryz.prog 53 [netAV n, faultAV f] (iv .i64 (faultErr n f)) := by
  refine FnC_of_AW hTt Tryz.func53 rfl (by kernel_rfl) (res := [.tmp 4]) rfl Tryz.ntmps53 (by simp) fun w0 K0 => ?_
  dsimp only [entry]
  repeat' first | with_reducible refine AW_seq ?_ | with_reducible refine AW_block ?_ | ((first | with_reducible refine AW_skip ?_ | with_reducible refine AW_ret ?_ | with_reducible refine AW_region hTt ?_ | ((refine ⟨_, (out_fn _ _).call rfl rfl, ?_⟩); (rintro _ _ ⟨rfl, rfl⟩)) | fail); conv => whnf) | (refine AW_cond rfl (fun hb => ?_) (fun hb => ?_) <;> first | (replace hb := of_decide_eq_true hb; try simp only [List.length_map] at hb) | (replace hb := of_decide_eq_false hb; try simp only [List.length_map] at hb) | (simp only [List.length_map, bne_iff_ne, ne_eq, beq_iff_eq, bne_eq_false_iff_eq, beq_eq_false_iff_ne, decide_eq_true_eq, decide_eq_false_iff_not, Bool.not_eq_true', Bool.not_eq_false', Int.natCast_inj] at hb) | skip) | ((first | refine ⟨_, wrap_of (by first | omega | (simp only [List.length_map]; omega)), ?_⟩ | refine andA ?_ | fail); conv => whnf) | (refine fun hln => ?_; (try rw [List.length_map] at hln); unfold maxLen at hln; conv => whnf) | fail
  · rw [show faultErr n f = 4 from by
      rw [outB_eq] at hb
      unfold faultErr; rw [if_pos (by simpa using hb)]]
    rfl
  · rename_i hb1
    rw [show faultErr n f = 7 from by
      rw [outB_eq] at hb1
      rw [outB_eq] at hb
      unfold faultErr; rw [if_neg (by simpa using hb1), if_pos (by simpa using hb)]]
    rfl
  · rename_i hb1
    rw [show faultErr n f = 0 from by
      rw [outB_eq] at hb1
      rw [outB_eq] at hb
      unfold faultErr; rw [if_neg (by simpa using hb1), if_neg (by simpa using hb)]]
    rfl
theorem kinds_fn : FnC Tryz.prog 13 [] (.x (.d (.s 1 ([[], [97, 110, 100], [111, 114], [120, 111, 114], [110, 111, 116], [100, 101, 108, 97, 121]].map fun (b : List UInt8) => [.v (.string ⟨b.toArray⟩)])))) := by
  refine FnC_of_AW hTt Tryz.func13 rfl (by kernel_rfl) (res := [.tmp 0]) rfl Tryz.ntmps13 (by simp) fun w0 K0 => ?_
  dsimp only [entry]
  repeat' first | with_reducible refine AW_seq ?_ | ((first | with_reducible refine AW_ret ?_ | with_reducible refine AW_region hTt ?_ | fail); conv => whnf) | fail
  rfl
end Go.Proofs.YtfpaonfddaeamaaGreatDoor
namespace Go.Proofs.YtfpaonfddaeamaaGreatDoor
open Go Go.QL
set_option maxHeartbeats 1600000
attribute [local irreducible] ACall FnC
def pairAV (p : Int × Int) : AV := .a [.d (.v (.int .i64 p.1)), .d (.v (.int .i64 p.2))]
def sigS (n : NetT) (sk : List (W16 × W16)) (states : List Int) (x : Int) : List W16 := sigW sk n states x n.gates.length
def showS (n : NetT) (sk : List (W16 × W16)) (p : Int × Int) (x : Int) : (Int × Int) × Bool :=
  ((nextW n (dl0 n) (sigS n sk [p.1, p.2] x) 0 (dl0 n).length, nextW n (dl0 n) (sigS n sk [p.1, p.2] x) 1 (dl0 n).length),
    outW n (sigS n sk [p.1, p.2] x) 0 n.out.length != outW n (sigS n sk [p.1, p.2] x) 1 n.out.length)
theorem showc_fn {n : NetT} (ok : NetOK n) {s1 : Nat} {sk : List (W16 × W16)} (hsk : sk.length = n.inn.toNat + n.gates.length) {s2 s3 k : Nat} {nw : List W16} (p : Int × Int) (x : Int) :
    ACall Tryz.prog 55 [pairAV p, iv .i64 x, .x (.b 910 0)] ((910, .box [.b 900 0]) :: sB n s1 sk s2 (dl0 n) s3 k nw)
      (fun r σ' => ∃ s3', r = .t [pairAV (showS n sk p x).1, bv (showS n sk p x).2] ∧ σ' = (910, .box [.b 900 0]) :: sB n s1 sk s2 (dl0 n) s3' (n.inn.toNat + n.gates.length) (sigS n sk [p.1, p.2] x)) := by
  have hd := ok.hd
  have hdl : (dl0 n).length = delays n.gates := by unfold dl0; rw [dlS_len n _ (Nat.le_refl _), List.take_of_length_le (Nat.le_refl _)]
  have hnl : (nexts n (dl0 n) (sigW sk n [p.1, p.2] x n.gates.length) [p.1, p.2].length).length = 2 := by simp [nexts_len]
  have hol : (outs n (sigW sk n [p.1, p.2] x n.gates.length) [p.1, p.2].length).length = 2 := by simp [outs_len]
  have hdr := fun m h => dlS_mem n n.gates.length m h
  refine ACall_of_AWD hTt Tryz.func55 rfl (by kernel_rfl) (res := [.cell 5 97, .tmp 6]) rfl Tryz.ntmps55 (by simp) fun w0 K0 B => ?_
  dsimp only [entry]
  repeat' first | with_reducible refine AW_seq ?_ | ((first | with_reducible refine AW_ret ?_ | with_reducible refine AW_region hTt ?_ | refine AW_drawM hTt hMix (id := 2) 14 [7, 8, 9, 10, 11, 12, 13] false [0, 1, 3, 0, 8, 24, 63, 0, 128, 384, 0, 1024, 3072, 8064, 127, 32767] _ (by kernel_rfl) rfl rfl (by kernel_rfl) rfl (by kernel_rfl) (by kernel_rfl) ?_ | refine LateGo.mk ⟨.x .j, rfl, ?_⟩ | ((refine ⟨_, (beat_fn ok (s1 := s1) (sk := sk) (s2 := s2) (dl := dl0 n) (s3 := s3) (k := k) (nw := nw) hsk (by omega) hdr [p.1, p.2] (by simp) x).frame (asc []) (by repeat (first | exact trivial | refine ⟨rfl, ?_⟩)) rfl (by rintro _ _ ⟨_, rfl, rfl⟩; rfl), ?_⟩); (rintro _ _ ⟨_, _, ⟨_, rfl, rfl⟩, rfl, rfl⟩)) | refine andA ?_ | with_reducible refine Exists.intro _ (And.intro (gd_any (And.intro (by omega) (map_get' (by omega) (by omega)))) ?_) | fail); conv => whnf) | fail
  have e1 : (nexts n (dl0 n) (sigW sk n [p.1, p.2] x n.gates.length) [p.1, p.2].length)[Int.toNat 0] = nextW n (dl0 n) (sigS n sk [p.1, p.2] x) 0 (dl0 n).length := by simp [nexts, sigS]
  have e2 : (nexts n (dl0 n) (sigW sk n [p.1, p.2] x n.gates.length) [p.1, p.2].length)[Int.toNat 1] = nextW n (dl0 n) (sigS n sk [p.1, p.2] x) 1 (dl0 n).length := by simp [nexts, sigS]
  have e3 : (outs n (sigW sk n [p.1, p.2] x n.gates.length) [p.1, p.2].length)[Int.toNat 0] = outW n (sigS n sk [p.1, p.2] x) 0 n.out.length := by simp [outs, sigS]
  have e4 : (outs n (sigW sk n [p.1, p.2] x n.gates.length) [p.1, p.2].length)[Int.toNat 1] = outW n (sigS n sk [p.1, p.2] x) 1 n.out.length := by simp [outs, sigS]
  have er : AV.t [pairAV (showS n sk p x).1, bv (showS n sk p x).2] = AV.t [pairAV ((nexts n (dl0 n) (sigW sk n [p.1, p.2] x n.gates.length) [p.1, p.2].length)[Int.toNat 0], (nexts n (dl0 n) (sigW sk n [p.1, p.2] x n.gates.length) [p.1, p.2].length)[Int.toNat 1]), bv ((outs n (sigW sk n [p.1, p.2] x n.gates.length) [p.1, p.2].length)[Int.toNat 0] != (outs n (sigW sk n [p.1, p.2] x n.gates.length) [p.1, p.2].length)[Int.toNat 1])] := by
    unfold showS; rw [e1, e2, e3, e4]
  exact ⟨_, (910, .box [.b 900 0]) :: sB n s1 sk s2 (dl0 n) _ (n.inn.toNat + n.gates.length) (sigS n sk [p.1, p.2] x), ⟨rfl, rfl, rfl, rfl, rfl, trivial⟩, rfl, rfl, _, er.symm, rfl⟩
end Go.Proofs.YtfpaonfddaeamaaGreatDoor
namespace Go.Proofs.YtfpaonfddaeamaaGreatDoor
open Go Go.QL
set_option maxHeartbeats 1600000
attribute [local irreducible] ACall FnC
def swS (l : List Int) (i : Nat) : List Int := (List.range l.length).map fun k => if k < i ∨ l.length - i ≤ k then l.getD (l.length - 1 - k) 0 else l.getD k 0
theorem swS_len (l : List Int) (i : Nat) : (swS l i).length = l.length := by simp [swS]
theorem swS_zero (l : List Int) : swS l 0 = l := by
  apply List.ext_getElem
  · simp [swS]
  · intro k h1 h2
    simp only [swS, List.getElem_map, List.getElem_range]
    rw [if_neg (by omega), List.getD_eq_getElem?_getD, List.getElem?_eq_getElem h2]; rfl
theorem swS_all (l : List Int) (i : Nat) (h : l.length ≤ 2 * i + 1) : swS l i = l.reverse := by
  apply List.ext_getElem
  · simp [swS]
  · intro k h1 h2
    simp only [List.length_reverse] at h2
    simp only [swS, List.getElem_map, List.getElem_range, List.getElem_reverse]
    by_cases c : k < i ∨ l.length - i ≤ k
    · rw [if_pos c, List.getD_eq_getElem?_getD, List.getElem?_eq_getElem (by omega)]; rfl
    · rw [if_neg c, List.getD_eq_getElem?_getD, List.getElem?_eq_getElem (by omega)]
      have : k = l.length - 1 - k := by omega
      simp only [Option.getD_some]
      congr 1
theorem swS_succ (l : List Int) (i : Nat) (h : 2 * i + 1 < l.length) :
    (((swS l i).map iPV).set i [.v (.int .i64 ((swS l i)[l.length - 1 - i]'(by rw [swS_len]; omega)))]).set (l.length - 1 - i) [.v (.int .i64 ((swS l i)[i]'(by rw [swS_len]; omega)))] = (swS l (i + 1)).map iPV := by
  apply List.ext_getElem
  · simp [swS]
  · intro k h1 h2
    simp only [List.length_set, List.length_map, swS_len] at h1
    rw [List.getElem_set, List.getElem_set]
    simp only [swS, List.getElem_map, List.getElem_range, iPV]
    by_cases c1 : l.length - 1 - i = k
    · rw [if_pos c1, if_neg (by omega), if_pos (by omega)]
      congr 3
      rw [show l.length - 1 - k = i by omega]
    · rw [if_neg c1]
      by_cases c2 : i = k
      · rw [if_pos c2, if_neg (by omega), if_pos (by omega)]
        subst c2; rfl
      · rw [if_neg c2]
        by_cases c3 : k < i ∨ l.length - i ≤ k
        · rw [if_pos c3, if_pos (by omega)]
        · rw [if_neg c3, if_neg (by omega)]
theorem reverse_fn (l : List Int) (st : Nat) (hl : l.length ≤ 4294967296) : ACall Tryz.prog 75 [.x (.o 700 st l.length)] [(700, .chain 3 1 st (l.map iPV))]
    (fun r σ' => r = .t [] ∧ σ' = [(700, .chain 3 1 st (l.reverse.map iPV))]) := by
  refine ACall_of_AWD hTt Tryz.func75 rfl (by kernel_rfl) (res := []) rfl Tryz.ntmps75 (by simp) fun w0 K0 B => ?_
  dsimp only [entry]
  repeat' first | with_reducible refine AW_seq ?_ | with_reducible refine AW_block ?_ | ((first | with_reducible refine AW_region hTt ?_ | refine ⟨_, wrap_of (by first | omega | (simp only [List.length_map]; omega)), ?_⟩ | refine andA ?_ | fail); conv => whnf) | (refine fun hln => ?_; (try rw [List.length_map] at hln); unfold maxLen at hln; conv => whnf) | fail
  refine AW_loop (fun i : Nat => [(2, iv .i64 i), (3, iv .i64 ((l.length : Int) - 1 - i)), (0, .x (.o 700 st l.length))]) (fun i => [(700, .chain 3 1 st ((swS l i).map iPV))]) (fun i => 2 * i ≤ l.length) (fun i => l.length - i) 0 (by simp)
    (Imp.forget ⟨rfl, congrArg (fun k : Int => some (iv .i64 k)) (by omega), rfl, trivial⟩ ⟨congrArg (fun l => some (Ob.chain 3 1 st (List.map iPV l))) (swS_zero l).symm, trivial⟩ rfl) ?_
  intro i hi
  have hsl := swS_len l i
  rcases Nat.lt_or_ge (2 * i + 1) l.length with hil | hil
  · have ej : ((l.length : Int) - 1 - i).toNat = l.length - 1 - i := by omega
    have e2 : (((swS l i).map iPV).set i [PV.v (.int .i64 ((swS l i)[((l.length : Int) - 1 - i).toNat]'(by omega)))])[((l.length : Int) - 1 - i).toNat]? = some (iPV ((swS l i)[((l.length : Int) - 1 - i).toNat]'(by omega))) := by
      rw [List.getElem?_set_ne (by omega)]
      exact map_get' (by omega) (by omega)
    repeat' first | with_reducible refine AW_seq ?_ | with_reducible refine AW_block ?_ | ((first | with_reducible refine AW_skip ?_ | with_reducible refine AW_exit ?_ | with_reducible refine AW_region hTt ?_ | refine AW_drawM hTt hMix (id := 3) 13 [2, 3] false [0, 0, 0, 0, 0, 0, 48, 112, 0, 0, 768, 1792, 4083, 8179, 16383, 32767] _ (by kernel_rfl) rfl rfl (by kernel_rfl) rfl (by kernel_rfl) (by kernel_rfl) ?_ | refine LateGo.mk ⟨.x .j, rfl, ?_⟩ | fail); conv => whnf) | (exact absurd hb (by omega)) | ((refine ⟨_, e2, Nat.le_of_ble_eq_true rfl, ?_⟩); conv => whnf) | (refine AW_cond rfl (fun hb => ?_) (fun hb => ?_) <;> first | (replace hb := of_decide_eq_true hb; try simp only [List.length_map] at hb) | (replace hb := of_decide_eq_false hb; try simp only [List.length_map] at hb)) | ((first | refine ⟨_, wrap_of (by first | omega | (simp only [List.length_map]; omega)), ?_⟩ | refine andA ?_ | with_reducible refine And.intro (gd_any (And.intro (by omega) (And.intro (by first | omega | (simp only [List.length_map]; omega)) (by first | omega | (simp only [List.length_map]; omega) | (simp only [List.length_set, List.length_map]; omega))))) ?_ | with_reducible refine Exists.intro _ (And.intro (gd_any (map_get' (by omega) (by omega))) (And.intro (And.intro (Nat.le_of_ble_eq_true rfl) rfl) ?_)) | with_reducible refine Exists.intro _ (And.intro (map_get' (by omega) (by omega)) (And.intro (Nat.le_of_ble_eq_true rfl) ?_)) | fail); conv => whnf) | fail
    have eS := swS_succ l i hil
    refine ⟨i + 1, by omega, by omega, Imp.forget ⟨rfl, congrArg (fun k : Int => some (iv .i64 k)) (by omega), rfl, trivial⟩ ⟨congrArg (fun l => some (Ob.chain 3 1 st l)) (Eq.trans ?_ eS), trivial⟩ rfl⟩
    simp only [← ej]; rfl
  · repeat' first | with_reducible refine AW_seq ?_ | with_reducible refine AW_block ?_ | ((first | with_reducible refine AW_skip ?_ | with_reducible refine AW_exit ?_ | with_reducible refine AW_region hTt ?_ | refine AW_drawM hTt hMix (id := 3) 13 [2, 3] false [0, 0, 0, 0, 0, 0, 48, 112, 0, 0, 768, 1792, 4083, 8179, 16383, 32767] _ (by kernel_rfl) rfl rfl (by kernel_rfl) rfl (by kernel_rfl) (by kernel_rfl) ?_ | fail); conv => whnf) | (exact absurd hb (by omega)) | (refine AW_cond rfl (fun hb => ?_) (fun hb => ?_) <;> first | (replace hb := of_decide_eq_true hb; try simp only [List.length_map] at hb) | (replace hb := of_decide_eq_false hb; try simp only [List.length_map] at hb)) | fail
    refine ⟨_, [(700, .chain 3 1 st ((swS l i).map iPV))], ⟨rfl, trivial⟩, rfl, rfl, rfl, ?_⟩
    rw [swS_all l i hil]
end Go.Proofs.YtfpaonfddaeamaaGreatDoor
namespace Go.Proofs.YtfpaonfddaeamaaGreatDoor
open Go Go.QL
set_option maxHeartbeats 1600000
attribute [local irreducible] ACall FnC
abbrev sB8 (n : NetT) (s1 : Nat) (sk : List (W16 × W16)) (s2 : Nat) (dl : List Int) (s3 k : Nat) (nw : List W16) : Sg :=
  [(800, .box [.d (.v (.int .i64 n.inn)), .d (gatesPV n.gates), .d (intsPV n.out), .o 801 s1 sk.length, .o 802 s2 dl.length, .o 803 s3 k]),
   (801, .chain 112 2 s1 (sk.map sPV)), (802, .chain 3 1 s2 (dl.map iPV)), (803, .chain 111 1 s3 (nw.map wPV))]
abbrev sAB (a b : NetT) (s2 s3 k : Nat) (nw : List W16) (t2 t3 l : Nat) (mw : List W16) : Sg :=
  (910, .box [.b 900 0]) :: (911, .box [.b 800 0]) ::
   (900, .box [.d (.v (.int .i64 a.inn)), .d (gatesPV a.gates), .d (intsPV a.out), .o 901 0 (sk0 a).length, .o 902 s2 (dl0 a).length, .o 903 s3 k]) ::
   (901, .chain 112 2 0 ((sk0 a).map sPV)) :: (902, .chain 3 1 s2 ((dl0 a).map iPV)) :: (903, .chain 111 1 s3 (nw.map wPV)) :: sB8 b 0 (sk0 b) t2 (dl0 b) t3 l mw
def diffS (a b : NetT) (p : Int × Int) (x : Int) : (Int × Int) × Bool :=
  ((nextW a (dl0 a) (sig0 a [p.1] x) 0 (dl0 a).length, nextW b (dl0 b) (sig0 b [p.2] x) 0 (dl0 b).length),
    outW a (sig0 a [p.1] x) 0 a.out.length != outW b (sig0 b [p.2] x) 0 b.out.length)
theorem diffc_fn {a b : NetT} (oka : NetOK a) (okb : NetOK b) {s2 s3 k t2 t3 l : Nat} {nw mw : List W16} (p : Int × Int) (x : Int) :
    ACall Tryz.prog 59 [pairAV p, iv .i64 x, .x (.b 910 0), .x (.b 911 0)] (sAB a b s2 s3 k nw t2 t3 l mw)
      (fun r σ' => ∃ s3' t3', r = .t [pairAV (diffS a b p x).1, bv (diffS a b p x).2] ∧ σ' = sAB a b s2 s3' (a.inn.toNat + a.gates.length) (sig0 a [p.1] x) t2 t3' (b.inn.toNat + b.gates.length) (sig0 b [p.2] x)) := by
  have hda := oka.hd; have hdb := okb.hd
  have hdla : (dl0 a).length = delays a.gates := by unfold dl0; rw [dlS_len a _ (Nat.le_refl _), List.take_of_length_le (Nat.le_refl _)]
  have hdlb : (dl0 b).length = delays b.gates := by unfold dl0; rw [dlS_len b _ (Nat.le_refl _), List.take_of_length_le (Nat.le_refl _)]
  have hska : (sk0 a).length = a.inn.toNat + a.gates.length := by simp [sk0]
  have hskb : (sk0 b).length = b.inn.toNat + b.gates.length := by simp [sk0]
  have hn1 : (nexts a (dl0 a) (sigW (sk0 a) a [p.1] x a.gates.length) [p.1].length).length = 1 := by simp [nexts_len]
  have ho1 : (outs a (sigW (sk0 a) a [p.1] x a.gates.length) [p.1].length).length = 1 := by simp [outs_len]
  have hn2 : (nexts b (dl0 b) (sigW (sk0 b) b [p.2] x b.gates.length) [p.2].length).length = 1 := by simp [nexts_len]
  have ho2 : (outs b (sigW (sk0 b) b [p.2] x b.gates.length) [p.2].length).length = 1 := by simp [outs_len]
  have hdra := fun m h => dlS_mem a a.gates.length m h
  have hdrb := fun m h => dlS_mem b b.gates.length m h
  refine ACall_of_AWD hTt Tryz.func59 rfl (by kernel_rfl) (res := [.cell 6 97, .tmp 7]) rfl Tryz.ntmps59 (by simp) fun w0 K0 B => ?_
  dsimp only [entry]
  repeat' first | with_reducible refine AW_seq ?_ | ((first | with_reducible refine AW_ret ?_ | with_reducible refine AW_region hTt ?_ | refine AW_drawM hTt hMix (id := 3) 14 [7, 8, 9, 10, 11, 12, 13] false [0, 1, 3, 0, 8, 24, 63, 0, 128, 384, 0, 1024, 3072, 8064, 127, 32767] _ (by kernel_rfl) rfl rfl (by kernel_rfl) rfl (by kernel_rfl) (by kernel_rfl) ?_ | refine LateGo.mk ⟨.x .j, rfl, ?_⟩ | ((refine ⟨_, (beat_fn oka (s1 := 0) (sk := sk0 a) (s2 := s2) (dl := dl0 a) (s3 := s3) (k := k) (nw := nw) hska (by omega) hdra [p.1] (by simp) x).frame (asc []) (by repeat (first | exact trivial | refine ⟨rfl, ?_⟩)) rfl (by rintro _ _ ⟨_, rfl, rfl⟩; rfl), ?_⟩); (rintro _ _ ⟨_, _, ⟨_, rfl, rfl⟩, rfl, rfl⟩)) | ((refine ⟨_, (beat_fn okb (s1 := 0) (sk := sk0 b) (s2 := t2) (dl := dl0 b) (s3 := t3) (k := l) (nw := mw) hskb (by omega) hdrb [p.2] (by simp) x).frame (asc [(900, 800), (901, 801), (902, 802), (903, 803)]) (by repeat (first | exact trivial | refine ⟨rfl, ?_⟩)) rfl (by rintro _ _ ⟨_, rfl, rfl⟩; rfl), ?_⟩); (rintro _ _ ⟨_, _, ⟨_, rfl, rfl⟩, rfl, rfl⟩)) | refine andA ?_ | with_reducible refine Exists.intro _ (And.intro (gd_any (And.intro (by omega) (map_get' (by omega) (by omega)))) ?_) | fail); conv => whnf) | fail
  have e1 : (nexts a (dl0 a) (sigW (sk0 a) a [p.1] x a.gates.length) [p.1].length)[Int.toNat 0] = nextW a (dl0 a) (sig0 a [p.1] x) 0 (dl0 a).length := by simp [nexts, sig0]
  have e2 : (nexts b (dl0 b) (sigW (sk0 b) b [p.2] x b.gates.length) [p.2].length)[Int.toNat 0] = nextW b (dl0 b) (sig0 b [p.2] x) 0 (dl0 b).length := by simp [nexts, sig0]
  have e3 : (outs a (sigW (sk0 a) a [p.1] x a.gates.length) [p.1].length)[Int.toNat 0] = outW a (sig0 a [p.1] x) 0 a.out.length := by simp [outs, sig0]
  have e4 : (outs b (sigW (sk0 b) b [p.2] x b.gates.length) [p.2].length)[Int.toNat 0] = outW b (sig0 b [p.2] x) 0 b.out.length := by simp [outs, sig0]
  have er : AV.t [pairAV (diffS a b p x).1, bv (diffS a b p x).2] = AV.t [pairAV ((nexts a (dl0 a) (sigW (sk0 a) a [p.1] x a.gates.length) [p.1].length)[Int.toNat 0], (nexts b (dl0 b) (sigW (sk0 b) b [p.2] x b.gates.length) [p.2].length)[Int.toNat 0]), bv ((outs a (sigW (sk0 a) a [p.1] x a.gates.length) [p.1].length)[Int.toNat 0] != (outs b (sigW (sk0 b) b [p.2] x b.gates.length) [p.2].length)[Int.toNat 0])] := by
    unfold diffS; rw [e1, e2, e3, e4]
  exact ⟨_, sAB a b s2 _ (a.inn.toNat + a.gates.length) (sig0 a [p.1] x) t2 _ (b.inn.toNat + b.gates.length) (sig0 b [p.2] x), ⟨rfl, rfl, rfl, rfl, rfl, rfl, rfl, rfl, rfl, rfl, trivial⟩, rfl, rfl, _, _, er.symm, rfl⟩
end Go.Proofs.YtfpaonfddaeamaaGreatDoor
namespace Go.Proofs.YtfpaonfddaeamaaGreatDoor
open Go Go.QL
set_option maxHeartbeats 1600000
attribute [local irreducible] ACall FnC
theorem ivE {k : IntKind} {a b : Int} (h : a = b) : some (iv k a) = some (iv k b) := by rw [h]
theorem oE {c st n m : Nat} (h : n = m) : some (AV.x (.o c st n)) = some (AV.x (.o c st m)) := by rw [h]
theorem chE {e : TypeId} {sz st : Nat} {l m : List (List PV)} (h : l = m) : some (Ob.chain e sz st l) = some (Ob.chain e sz st m) := by rw [h]
theorem impA {Γ : Cx} {fr fr' : Fr} {σ σ' : Sg}
    (hf : SubF fr fr' := by repeat' (first | exact trivial | refine And.intro ?_ ?_ | exact chE (by assumption) | rfl | exact ivE (by first | omega | (simp only [List.length_map, List.length_append, List.length_singleton] <;> omega)) | exact oE (by first | omega | (simp only [List.length_map, List.length_append, List.length_singleton] <;> omega))))
    (hs : SubS σ σ' := by repeat' (first | exact trivial | refine And.intro ?_ ?_ | exact chE (by assumption) | rfl | exact ivE (by first | omega | (simp only [List.length_map, List.length_append, List.length_singleton] <;> omega)) | exact oE (by first | omega | (simp only [List.length_map, List.length_append, List.length_singleton] <;> omega))))
    (hr : (rsFr σ' fr' && rsSg σ' σ') = true := by kernel_rfl) (hB : idsIn Γ.ids σ' = true := by kernel_rfl) (hD : dfsIn Γ.dfs σ σ' = true := by kernel_rfl) : Imp Γ fr σ fr' σ' := Imp.forget hf hs hr hB hD
theorem map_some {α β : Type} {f : α → β} {l : List α} {i : Nat} {x : α} (h : l[i]? = some x) : (l.map f)[((i : Int)).toNat]? = some (f x) := by simp [h]
theorem gate_some {l : List GateT} {i : Nat} {k a b : Int} (h : l[i]? = some ⟨k, a, b⟩) : (l.map gPV)[((i : Int)).toNat]? = some [.v (.int .i64 k), .v (.int .i64 a), .v (.int .i64 b)] := by simp [h, gPV]
def sgn (f : FaultT) (i v : Int) : Int := if f.sig = i then f.at_ else v
def insR (f : FaultT) (x : Int) (i : Nat) : List Int := (List.range i).map fun (j : Nat) => sgn f j ((x / 2 ^ j) % 2)
def gateR (g : GateT) (s : List Int) (was : Int) : Int :=
  if g.kind = 1 then s.getD g.a.toNat 0 * s.getD g.b.toNat 0
  else if g.kind = 2 then (if s.getD g.b.toNat 0 > s.getD g.a.toNat 0 then s.getD g.b.toNat 0 else s.getD g.a.toNat 0)
  else if g.kind = 3 then (s.getD g.a.toNat 0 + s.getD g.b.toNat 0) % 2
  else if g.kind = 4 then 1 - s.getD g.a.toNat 0
  else if g.kind = 5 then was
  else 0
def sigR (n : NetT) (f : FaultT) (st x : Int) : Nat → List Int
  | 0 => insR f x n.inn.toNat
  | i + 1 => sigR n f st x i ++ [sgn f (n.inn + i) (gateR (n.gates.getD i gate0) (sigR n f st x i) (st / 2 ^ delays (n.gates.take i) % 2))]
def nextR (n : NetT) (s : List Int) : Nat → Int
  | 0 => 0
  | i + 1 => nextR n s i + if (n.gates.getD i gate0).kind = 5 then s.getD (n.gates.getD i gate0).a.toNat 0 * 2 ^ delays (n.gates.take i) else 0
def outR (n : NetT) (s : List Int) : Nat → Int
  | 0 => 0
  | i + 1 => outR n s i + s.getD (n.out.getD i 0).toNat 0 * 2 ^ i
def beatR (n : NetT) (f : FaultT) (st x : Int) : Int × Int :=
  (nextR n (sigR n f st x n.gates.length) n.gates.length, outR n (sigR n f st x n.gates.length) n.out.length)
def FltOK (f : FaultT) : Prop := f.sig < 0 ∨ f.at_ = 0 ∨ f.at_ = 1
theorem fine_ok : FltOK fine := .inl (by decide)
theorem sgn_bit {f : FaultT} (hf : FltOK f) {i v : Int} (hi : 0 ≤ i) (hv : v = 0 ∨ v = 1) : sgn f i v = 0 ∨ sgn f i v = 1 := by
  unfold sgn
  split
  · rcases hf with h | h
    · omega
    · exact h
  · exact hv
theorem getD_app {α : Type} (l : List α) (y d : α) (k : Nat) : (l ++ [y]).getD k d = if k < l.length then l.getD k d else if k = l.length then y else d := by
  rw [List.getD_eq_getElem?_getD, List.getD_eq_getElem?_getD]
  by_cases h1 : k < l.length
  · rw [if_pos h1, List.getElem?_append_left h1]
  · rw [if_neg h1, List.getElem?_append_right (by omega)]
    by_cases h2 : k = l.length
    · rw [if_pos h2, h2, Nat.sub_self]; rfl
    · rw [if_neg h2, List.getElem?_eq_none (by simp; omega)]; rfl
def Bits (s : List Int) : Prop := ∀ k, s.getD k 0 = 0 ∨ s.getD k 0 = 1
theorem Bits.snoc {s : List Int} (h : Bits s) {v : Int} (hv : v = 0 ∨ v = 1) : Bits (s ++ [v]) := by
  intro k
  rw [List.getD_eq_getElem?_getD]
  by_cases h1 : k < s.length
  · rw [List.getElem?_append_left h1, ← List.getD_eq_getElem?_getD]; exact h k
  · rw [List.getElem?_append_right (by omega)]
    by_cases h2 : k - s.length = 0
    · rw [h2]; exact hv
    · rw [List.getElem?_eq_none (by simp; omega)]; exact .inl rfl
theorem insR_len (f : FaultT) (x : Int) (i : Nat) : (insR f x i).length = i := by simp [insR]
theorem sigR_len (n : NetT) (f : FaultT) (st x : Int) (i : Nat) : (sigR n f st x i).length = n.inn.toNat + i := by
  induction i with
  | zero => exact insR_len _ _ _
  | succ i ih => simp [sigR, ih]; omega
theorem insR_bits {f : FaultT} (hf : FltOK f) (x : Int) (i : Nat) : Bits (insR f x i) := by
  intro k
  unfold insR
  rw [List.getD_eq_getElem?_getD, List.getElem?_map]
  by_cases h : k < i
  · rw [List.getElem?_range h]
    exact sgn_bit hf (by omega) (by omega)
  · rw [List.getElem?_eq_none (by simp; omega)]; exact .inl rfl
theorem gateR_bits {s : List Int} (h : Bits s) (g : GateT) (v : Int) : gateR g s (v % 2) = 0 ∨ gateR g s (v % 2) = 1 := by
  unfold gateR
  have ha := h g.a.toNat
  have hb := h g.b.toNat
  generalize s.getD g.a.toNat 0 = a at *
  generalize s.getD g.b.toNat 0 = b at *
  split
  · rcases ha with rfl | rfl <;> rcases hb with rfl | rfl <;> decide
  · split
    · split
      · exact hb
      · exact ha
    · split
      · omega
      · split
        · omega
        · split
          · omega
          · exact .inl rfl
theorem sigR_bits {n : NetT} (h1 : 0 ≤ n.inn) {f : FaultT} (hf : FltOK f) (st x : Int) (i : Nat) : Bits (sigR n f st x i) := by
  induction i with
  | zero => exact insR_bits hf x _
  | succ i ih => exact ih.snoc (sgn_bit hf (by omega) (gateR_bits ih _ _))
theorem nextR_lt {n : NetT} {s : List Int} (h : Bits s) (i : Nat) (hi : i ≤ n.gates.length) : 0 ≤ nextR n s i ∧ nextR n s i < 2 ^ delays (n.gates.take i) := by
  induction i with
  | zero => exact ⟨Int.le_refl _, by simp [nextR, delays]⟩
  | succ i ih =>
    obtain ⟨a, b⟩ := ih (by omega)
    have hge : n.gates.getD i gate0 = n.gates[i] := by rw [List.getD_eq_getElem?_getD, List.getElem?_eq_getElem (by omega)]; rfl
    rw [nextR, delays_take _ _ (by omega), hge]
    have hb := h n.gates[i].a.toNat
    have hp : (0 : Int) < 2 ^ delays (n.gates.take i) := Int.pow_pos (by decide)
    split
    · rw [Int.pow_succ]
      rcases hb with e | e <;> rw [e] <;> omega
    · rw [Nat.add_zero]; omega
def SkLane (sk : List (W16 × W16)) (l : Nat) (f : FaultT) : Prop :=
  ∀ i (h : i < sk.length), sk[i].1.getLsbD l = decide (f.sig = i ∧ f.at_ = 0) ∧ sk[i].2.getLsbD l = decide (f.sig = i ∧ f.at_ = 1)
theorem lb_stuck {sk : List (W16 × W16)} {l : Nat} {f : FaultT} (h : SkLane sk l f) (hf : FltOK f) {i : Nat} (hi : i < sk.length) (s : W16) : lb (stuckW (sk.getD i (0#16, 0#16)) s) l = sgn f i (lb s l) := by
  rw [List.getD_eq_getElem?_getD, List.getElem?_eq_getElem hi, Option.getD_some]
  obtain ⟨h1, h2⟩ := h i hi
  unfold lb stuckW sgn
  rw [BitVec.getLsbD_or, BitVec.getLsbD_and, BitVec.getLsbD_not, h1, h2]
  by_cases e : f.sig = i
  · rcases hf with hf | hf | hf
    · omega
    · simp [e, hf]
    · by_cases hl : l < 16
      · simp [e, hf]
      · simp [e, hf]
  · by_cases hl : l < 16
    · simp [e, hl]
    · have hg : s.getLsbD l = false := BitVec.getLsbD_of_ge s l (Nat.le_of_not_lt hl)
      simp [e, hg]
theorem lb_in (v : Int) {l : Nat} (hl : l < 16) : lb (inW v) l = v % 2 := by
  unfold lb inW
  have : v % 2 = 0 ∨ v % 2 = 1 := by omega
  rcases this with h | h
  · have e : (if v % 2 = 1 then BitVec.allOnes 16 else 0#16) = 0#16 := if_neg (by omega)
    rw [e, h]; simp
  · have e : (if v % 2 = 1 then BitVec.allOnes 16 else 0#16) = BitVec.allOnes 16 := if_pos h
    rw [e, h, BitVec.getLsbD_allOnes]; simp [hl]
theorem lane_bit (states : List Int) (d m l : Nat) (hl : l < 16) (hm : m ≤ 16) : (laneW states d m).getLsbD l = (decide (l < m) && decide (states.getD l 0 / 2 ^ d % 2 = 1)) := by
  induction m with
  | zero => simp [laneW]
  | succ m ih =>
    unfold laneW
    rw [BitVec.getLsbD_or, ih (by omega)]
    unfold shlW
    by_cases e : l = m
    · subst e
      by_cases h : states.getD l 0 / 2 ^ d % 2 = 1
      · rw [if_pos h, BitVec.getLsbD_twoPow, decide_eq_true h]; simp [hl]
      · rw [if_neg h, decide_eq_false h]; simp
    · have e1 : decide (l < m + 1) = decide (l < m) := decide_eq_decide.2 (by omega)
      rw [e1]
      split
      · rw [BitVec.getLsbD_twoPow]
        have : decide (m = l) = false := decide_eq_false fun h => e h.symm
        rw [this, Bool.and_false, Bool.or_false]
      · simp
theorem lb_lane (states : List Int) (d l : Nat) (hl : l < 16) (hs : l < states.length) (h16 : states.length ≤ 16) : lb (laneW states d states.length) l = states.getD l 0 / 2 ^ d % 2 := by
  unfold lb
  rw [lane_bit _ _ _ _ hl h16]
  have : states.getD l 0 / 2 ^ d % 2 = 0 ∨ states.getD l 0 / 2 ^ d % 2 = 1 := by omega
  rcases this with h | h <;> rw [h] <;> simp [hs]
theorem addW_lane {sk : List (W16 × W16)} {l : Nat} {f : FaultT} (h : SkLane sk l f) (hf : FltOK f) {nw : List W16} {s : List Int} (hlen : nw.length = s.length) (hlt : nw.length < sk.length)
    (heq : ∀ k, lb (nw.getD k 0#16) l = s.getD k 0) (w : W16) : ∀ k, lb ((addW sk nw w).getD k 0#16) l = (s ++ [sgn f nw.length (lb w l)]).getD k 0 := by
  intro k
  unfold addW
  rw [getD_app, getD_app, hlen]
  by_cases h1 : k < s.length
  · rw [if_pos h1, if_pos h1]; exact heq k
  · rw [if_neg h1, if_neg h1]
    by_cases h2 : k = s.length
    · rw [if_pos h2, if_pos h2, ← hlen]
      exact lb_stuck h hf hlt w
    · rw [if_neg h2, if_neg h2]; simp [lb]
theorem inpW_lane {sk : List (W16 × W16)} {l : Nat} {f : FaultT} (h : SkLane sk l f) (hf : FltOK f) (hl : l < 16) (x : Int) (i : Nat) (hi : i ≤ sk.length) : ∀ k, lb ((inpW sk x i).getD k 0#16) l = (insR f x i).getD k 0 := by
  induction i with
  | zero => intro k; simp [inpW, insR, lb]
  | succ i ih =>
    have := addW_lane h hf (nw := inpW sk x i) (s := insR f x i) (by rw [inpW_len, insR_len]) (by rw [inpW_len]; omega) (ih (by omega)) (inW (x / 2 ^ i))
    rw [inpW_len, lb_in _ hl] at this
    have e : insR f x (i + 1) = insR f x i ++ [sgn f i (x / 2 ^ i % 2)] := by unfold insR; rw [List.range_succ, List.map_append]; rfl
    rw [e]; exact this
theorem lb_and (a b : W16) (l : Nat) : lb (a &&& b) l = lb a l * lb b l := by
  unfold lb; rw [BitVec.getLsbD_and]
  cases a.getLsbD l <;> cases b.getLsbD l <;> rfl
theorem lb_or (a b : W16) (l : Nat) : lb (a ||| b) l = if lb b l > lb a l then lb b l else lb a l := by
  unfold lb; rw [BitVec.getLsbD_or]
  cases a.getLsbD l <;> cases b.getLsbD l <;> rfl
theorem lb_xor (a b : W16) (l : Nat) : lb (a ^^^ b) l = (lb a l + lb b l) % 2 := by
  unfold lb; rw [BitVec.getLsbD_xor]
  cases a.getLsbD l <;> cases b.getLsbD l <;> rfl
theorem lb_not (a : W16) (l : Nat) (hl : l < 16) : lb (~~~a) l = 1 - lb a l := by
  unfold lb; rw [BitVec.getLsbD_not]
  cases a.getLsbD l <;> simp [hl]
theorem sigW_lane {n : NetT} (ok : NetOK n) {sk : List (W16 × W16)} (hsk : sk.length = n.inn.toNat + n.gates.length) {l : Nat} {f : FaultT} (h : SkLane sk l f) (hf : FltOK f) (hl : l < 16) (states : List Int) (hs : l < states.length) (h16 : states.length ≤ 16) (x : Int)
    (i : Nat) (hi : i ≤ n.gates.length) : ∀ k, lb ((sigW sk n states x i).getD k 0#16) l = (sigR n f (states.getD l 0) x i).getD k 0 := by
  have h1 := ok.h1
  induction i with
  | zero => exact inpW_lane h hf hl x _ (by omega)
  | succ i ih =>
    have ih := ih (by omega)
    have hge : n.gates.getD i gate0 = n.gates[i] := by rw [List.getD_eq_getElem?_getD, List.getElem?_eq_getElem (by omega)]; rfl
    have hk := ok.hk i (by omega)
    have := addW_lane h hf (nw := sigW sk n states x i) (s := sigR n f (states.getD l 0) x i) (by rw [sigW_len, sigR_len]) (by rw [sigW_len]; omega) ih
      (gateW (n.gates.getD i gate0) (sigW sk n states x i) (if (n.gates.getD i gate0).kind = 5 then laneW states (delays (n.gates.take i)) states.length else 0#16))
    have e : lb (gateW (n.gates.getD i gate0) (sigW sk n states x i) (if (n.gates.getD i gate0).kind = 5 then laneW states (delays (n.gates.take i)) states.length else 0#16)) l =
        gateR (n.gates.getD i gate0) (sigR n f (states.getD l 0) x i) (states.getD l 0 / 2 ^ delays (n.gates.take i) % 2) := by
      rw [hge]
      unfold gateW gateR
      split
      · rw [lb_and, ih, ih]
      · split
        · rw [lb_or, ih, ih]
        · split
          · rw [lb_xor, ih, ih]
          · split
            · rw [lb_not _ _ hl, ih]
            · have h5 : n.gates[i].kind = 5 := by omega
              rw [if_pos h5, if_pos h5, lb_lane _ _ _ hl hs h16]
    rw [e, sigW_len] at this
    rw [show ((n.inn.toNat + i : Nat) : Int) = n.inn + i by omega] at this
    exact this
theorem nextW_app (n : NetT) (dl : List Int) (y : Int) (nw : List W16) (l m : Nat) (hm : m ≤ dl.length) : nextW n (dl ++ [y]) nw l m = nextW n dl nw l m := by
  induction m with
  | zero => rfl
  | succ m ih =>
    unfold nextW
    rw [ih (by omega), getD_app dl y 0 m, if_pos (by omega)]
theorem nextW_lane {n : NetT} (ok : NetOK n) {nw : List W16} {s : List Int} {l : Nat} (heq : ∀ k, lb (nw.getD k 0#16) l = s.getD k 0) (i : Nat) (hi : i ≤ n.gates.length) :
    nextW n (dlS n i) nw l (dlS n i).length = nextR n s i := by
  induction i with
  | zero => rfl
  | succ i ih =>
    have ih := ih (by omega)
    have hge : n.gates.getD i gate0 = n.gates[i] := by rw [List.getD_eq_getElem?_getD, List.getElem?_eq_getElem (by omega)]; rfl
    have hlen := dlS_len n i (by omega)
    have h1 := ok.h1
    rw [dlS_succ, nextR]
    split
    · rw [List.length_append, List.length_singleton, nextW, nextW_app _ _ _ _ _ _ (Nat.le_refl _), ih, List.getD_eq_getElem?_getD (l := dlS n i ++ _), List.getElem?_append_right (Nat.le_refl _), Nat.sub_self]
      simp only [List.getElem?_cons_zero, Option.getD_some]
      rw [show (n.inn + (i : Int) - n.inn).toNat = i by omega, heq, hlen]
    · rw [ih]; omega
theorem outW_lane {n : NetT} {nw : List W16} {s : List Int} {l : Nat} (heq : ∀ k, lb (nw.getD k 0#16) l = s.getD k 0) (i : Nat) : outW n nw l i = outR n s i := by
  induction i with
  | zero => rfl
  | succ i ih => rw [outW, outR, ih, heq]
theorem lane_beat {n : NetT} (ok : NetOK n) {sk : List (W16 × W16)} (hsk : sk.length = n.inn.toNat + n.gates.length) {l : Nat} {f : FaultT} (h : SkLane sk l f) (hf : FltOK f) (hl : l < 16) (states : List Int) (hs : l < states.length) (h16 : states.length ≤ 16) (x : Int) :
    nextW n (dl0 n) (sigW sk n states x n.gates.length) l (dl0 n).length = (beatR n f (states.getD l 0) x).1 ∧ outW n (sigW sk n states x n.gates.length) l n.out.length = (beatR n f (states.getD l 0) x).2 := by
  have heq := sigW_lane ok hsk h hf hl states hs h16 x n.gates.length (Nat.le_refl _)
  exact ⟨nextW_lane ok heq _ (Nat.le_refl _), outW_lane heq _⟩
theorem sk0_lane (n : NetT) (l : Nat) : SkLane (sk0 n) l fine := by
  intro i h
  have e : (sk0 n)[i] = (0#16, 0#16) := List.eq_of_mem_replicate (List.getElem_mem h)
  rw [e]
  have : ¬ (fine.sig = (i : Int)) := by show ¬ ((-1 : Int) = i); omega
  simp [this]
theorem skF_lane (n : NetT) (fs : List (Nat × FaultT)) (l : Nat) (hl : l < 16) (f : FaultT) (h : ∀ (j l' : Nat) (f' : FaultT), fs[j]? = some (l', f') → l' = l → f' = f) (h2 : (∃ j : Nat, fs[j]? = some (l, f)) ∨ (f = fine ∧ ∀ (j : Nat) (f' : FaultT), fs[j]? ≠ some (l, f'))) : SkLane (skF n fs (List.range fs.length)) l f := by
  intro i hi
  simp only [skF, List.getElem_map, List.getElem_range]
  have key : ∀ v : Int, metF fs (List.range fs.length) i v l = decide (f.sig = i ∧ f.at_ = v) := by
    intro v
    unfold metF
    rw [Bool.eq_iff_iff, List.any_eq_true, decide_eq_true_iff]
    constructor
    · rintro ⟨j, hj, hm⟩
      cases e : fs[j]? with
      | none => rw [e] at hm; cases hm
      | some p =>
        obtain ⟨l', f'⟩ := p
        rw [e] at hm
        simp only [Bool.and_eq_true, beq_iff_eq] at hm
        obtain ⟨e1, e2, e3⟩ := hm
        have := h j l' f' e e1
        subst this
        exact ⟨e2, e3⟩
    · rintro ⟨e1, e2⟩
      rcases h2 with ⟨j, hj⟩ | ⟨rfl, _⟩
      · refine ⟨j, List.mem_range.2 (List.getElem?_eq_some_iff.1 hj).1, ?_⟩
        rw [hj]; simp [e1, e2]
      · exact absurd e1 (by show ¬ ((-1 : Int) = i); omega)
  rw [mkW_bit _ _ _ (Nat.le_refl _), mkW_bit _ _ _ (Nat.le_refl _), key, key]
  simp [hl]
end Go.Proofs.YtfpaonfddaeamaaGreatDoor
namespace Go.QL
open Go Go.RowKit
def FnP (P : Program) (f : FuncId) (args : List AV) (r : Option AV) (pv : Value) : Prop :=
  Good P f ∧ ∀ (K : Nat → Nat → Prop) (w : World) (vs : Array Value), Laid P K w → (∀ b o, K b o → b < w.heap.size) → vs.size = args.length →
    (∀ (i : Nat) (x : AV) (v : Value), args[i]? = some x → vs[i]? = some v → VR2 [] ⟨K, fun _ => undef⟩ w x v) →
    Calls P f vs w (fun e w' => ∃ K', Below w.heap.size w w' ∧ Ext K w K' w' ∧ (∀ b o, b < w.heap.size → K' b o → K b o) ∧ (∀ b o, K' b o → b < w'.heap.size) ∧
      ((∃ v x, r = some x ∧ e = .returned v ∧ VR2 [] ⟨K', fun _ => undef⟩ w' x v) ∨ (r = none ∧ e = .panicked [{ v := pv, recovered := false }])))
def pureO : Option AV → Bool
  | some x => pureAV x
  | none => true
theorem FnP.call {P : Program} {f : FuncId} {args : List AV} {r : Option AV} {pv : Value} (h : FnP P f args r pv) {σ : Sg} (hp : args.all pureAV = true) (hr : pureO r = true) :
    PCall P f args σ (fun r' σ' => r = some r' ∧ σ' = σ) fun v σ' => r = none ∧ v = pv ∧ σ' = σ := by
  refine ⟨h.1, fun w0 K0 g w vs hL hhp hs hv => ?_⟩
  rw [List.all_eq_true] at hp
  refine (h.2 g.K w vs (hL.mono hhp.ext) hhp.val hs fun i x v hi hu => pureAV_ok (g := g) (g' := ⟨g.K, fun _ => undef⟩) (hp x (List.mem_of_getElem? hi)) (Ext.refl _ _) (hv i x v hi hu)).mono ?_
  intro e w' ⟨K', hb, hext, hold, hval, hvr⟩
  rcases hvr with ⟨v, x, rfl, rfl, hvr⟩ | ⟨rfl, rfl⟩
  · exact .inl ⟨v, ⟨K', g.μ⟩, σ, x, rfl, hhp.grow hb hext hold hval, pureAV_ok hr (Ext.refl K' w') hvr, rfl, rfl⟩
  · exact .inr ⟨pv, ⟨K', g.μ⟩, σ, rfl, hhp.grow hb hext hold hval, rfl, rfl, rfl⟩
def PostFP (tt : TT) (res : List ResultVar) (r : Option AV) (pv : Value) : Exit → Fr → Sg → Prop
  | .normal, fr, σ | .ret, fr, σ => ∃ x, r = some x ∧ outcome tt res fr σ = some x
  | .panic ch, _, _ => r = none ∧ ch = [{ v := pv, recovered := false }]
  | _, _, _ => False
theorem FnP_of_AW {P : Program} {tt : TT} (htt : tt.ok P) {f : FuncId} {fn : Func} {c : Code} {args : List AV} {r : Option AV} {pv : Value} {res : List ResultVar} (hf : P.funcs[f]? = some fn) (hb : fn.body = some c)
    (hname : (fn.name == "runtime.NumGoroutine") = false) (hres : fn.results = res.toArray) {nt : Nat} (hnt : fn.ntmps = nt) (hle : args.length ≤ nt)
    (h : ∀ w0 K0, AW P (Cx.lone w0 K0 nt) c (PostFP tt res r pv) (entry 0 args) []) : FnP P f args r pv := by
  refine ⟨⟨fn, hf, by rw [hb]; rfl, hname⟩, fun K w vs hL hK hs hv => ?_⟩
  refine calls_of_wp hf hb ((wpIn_wide (n := 0)).1 ?_)
  have hrel : Rel (Cx.lone w ⟨K, (· < w.heap.size)⟩ nt) (entry 0 args) [] ⟨K, fun _ => undef⟩ ⟨vs ++ Array.replicate (fn.ntmps - vs.size) undef, []⟩ w := by
    refine ⟨⟨.refl _ _, fun _ h => h, .refl _ _, fun _ _ _ h => h, hK, (fun id ob hid => by cases hid), (fun id b hi => by cases hi), (fun i j b hi => by cases hi)⟩, fun t x ht => ?_, by simp; omega, DRb.empty, fun s v hb => hb.elim⟩
    obtain ⟨_, hx⟩ := lk_entry args 0 t x ht
    rw [Nat.sub_zero] at hx
    have hlt : t < args.length := (List.getElem?_eq_some_iff.1 hx).1
    refine ⟨by show t < nt; omega, ?_⟩
    have hvt : vs[t]? = some (vs[t]'(by omega)) := Array.getElem?_eq_getElem (by omega)
    have e : (vs ++ Array.replicate (fn.ntmps - vs.size) undef).getD t undef = vs[t]'(by omega) := by
      rw [Array.getD_eq_getD_getElem?, Array.getElem?_append_left (by omega), hvt]; rfl
    show VR _ _ _ _ ((vs ++ Array.replicate (fn.ntmps - vs.size) undef).getD t undef)
    rw [e]
    exact VR_of_VR2 (hv t x _ hx hvt)
  refine wpIn_mono ((h w ⟨K, (· < w.heap.size)⟩).use hL hrel) ?_
  intro e a' w' ⟨fr, σ, g, hr, hq⟩
  have fin : (∃ x, r = some x ∧ outcome tt res fr σ = some x) → a'.defers = [] ∧ ∃ v, (results fn a'.tmps).run P w' = .ok v w' ∧ ∃ K', Below w.heap.size w w' ∧ Ext K w K' w' ∧
      (∀ b o, b < w.heap.size → K' b o → K b o) ∧ (∀ b o, K' b o → b < w'.heap.size) ∧ ((∃ v_1 x, r = some x ∧ Ending.returned v = .returned v_1 ∧ VR2 [] ⟨K', fun _ => undef⟩ w' x v_1) ∨ (r = none ∧ Ending.returned v = .panicked [{ v := pv, recovered := false }])) := by
    rintro ⟨x, hx, ho⟩
    obtain ⟨v, hrun, hvr⟩ := outcome_ok htt hr hres ho (μ := fun _ => undef)
    exact ⟨hr.defers.nil, v, hrun, Kall σ g w', hr.hp.kept.below, hr.hp.ext.trans Kall_ext, Kall_old hr.hp, Kall_val hr.hp, .inl ⟨v, x, hx, rfl, hvr⟩⟩
  cases e with
  | normal => exact fin hq
  | ret => exact fin hq
  | panic ch =>
    obtain ⟨hr0, rfl⟩ := hq
    exact ⟨hr.defers.nil, Kall σ g w', hr.hp.kept.below, hr.hp.ext.trans Kall_ext, Kall_old hr.hp, Kall_val hr.hp, .inr ⟨hr0, rfl⟩⟩
  | exit id => exact hq.elim
  | goto l => exact hq.elim
  | outgrown => exact hq.elim
end Go.QL
namespace Go.Proofs.YtfpaonfddaeamaaGreatDoor
open Go Go.QL Go.RowKit
set_option maxHeartbeats 1600000
attribute [local irreducible] ACall FnC YC FnP PCall
theorem tup_sb {σ : Sg} {g : Gh} {w : World} {a b : Value} (ha : a.oneCell' = true) (hb : b.oneCell' = true) : VR2 σ g w (.t [.x (.d (.v a)), .x (.d (.v b))]) (.tuple #[a, b]) := tup2 ha hb
theorem cut_fn (s p : ByteArray) (hs : s.size ≤ 9223372036854775807) : FnC Tryz.prog 17 [sv s, sv p] (.t [sv ⟨(Lib.trimSuffix s.data.toList p.data.toList).toArray⟩, bv (Lib.hasSuffix s.data.toList p.data.toList)]) := by
  unfold FnC
  refine ⟨⟨_, Tryz.func17, rfl, rfl⟩, fun K w vs hL hK hs' hv => ?_⟩
  obtain ⟨u, v, rfl⟩ : ∃ u v, vs = #[u, v] := by
    match vs, hs' with
    | ⟨[u, v]⟩, _ => exact ⟨u, v, rfl⟩
  have h2 := vr_plain_inv (hv 0 (sv s) u rfl rfl)
  have h3 := vr_plain_inv (hv 1 (sv p) v rfl rfl)
  subst h2; subst h3
  refine Calls.mono (show Calls Tryz.prog 17 #[.string s, .string p] w _ from Any.strings_CutSuffix Tryz.lays104 s p w hs) ?_
  rintro e w' ⟨rfl, rfl⟩
  exact ⟨_, K, rfl, Below.refl _ _, Ext.refl _ _, fun _ _ _ h => h, hK, tup_sb rfl rfl⟩
abbrev errV : Value := .iface 26 (.int .i64 6)
theorem conc_errno : concrete Tryz.prog 26 := ⟨_, Tryz.underlying26, rfl⟩
theorem must_fnP (b : Bool) : FnP Tryz.prog 18 [bv b] (bif b then some (.t []) else none) errV := by
  cases b with
  | true =>
    refine FnP_of_AW hTt Tryz.func18 rfl (by kernel_rfl) (res := []) rfl Tryz.ntmps18 (by simp) fun w0 K0 => ?_
    dsimp only [entry]
    repeat' first | with_reducible refine AW_seq ?_ | ((first | with_reducible refine AW_skip ?_ | with_reducible refine AW_region hTt ?_ | fail); conv => whnf) | (refine AW_cond rfl (fun hb => absurd hb (by decide)) (fun _ => ?_)) | fail
    exact ⟨_, rfl, rfl⟩
  | false =>
    refine FnP_of_AW hTt Tryz.func18 rfl (by kernel_rfl) (res := []) rfl Tryz.ntmps18 (by simp) fun w0 K0 => ?_
    dsimp only [entry]
    repeat' first | ((with_reducible refine AW_regionP hTt (id := 1) ?_); conv => whnf) | with_reducible refine AW_seq ?_ | ((with_reducible refine AW_region hTt ?_); conv => whnf) | (refine And.intro conc_errno ?_; conv => whnf) | (refine AW_cond rfl (fun _ => ?_) (fun hb => absurd hb (by decide))) | ((refine andA ?_); conv => whnf) | fail
theorem must_fn (b : Bool) {σ : Sg} : PCall Tryz.prog 18 [bv b] σ (fun r σ' => r = .t [] ∧ σ' = σ ∧ b = true) (fun v σ' => v = errV ∧ σ' = σ ∧ b = false) := by
  refine ((must_fnP b).call rfl (by cases b <;> rfl)).mono ?_ ?_
  · rintro r σ' ⟨h, rfl⟩
    cases b with
    | true => cases h; exact ⟨rfl, rfl, rfl⟩
    | false => cases h
  · rintro v σ' ⟨h, rfl, rfl⟩
    cases b with
    | true => cases h
    | false => exact ⟨rfl, rfl, rfl⟩
abbrev strs (l : List ByteArray) : AV := .x (.d (.s 1 (strsPV l)))
theorem idxs_fn (l : List ByteArray) (x : ByteArray) (hl : l.length ≤ 4096) : FnC Tryz.prog 21 [strs l, sv x] (iv .i64 (Lib.idxOfS l x)) := by
  refine FnC_of_AW hTt Tryz.func21 rfl (by kernel_rfl) (res := [.tmp 4]) rfl Tryz.ntmps21 (by simp) fun w0 K0 => ?_
  dsimp only [entry]
  repeat' first | with_reducible refine AW_seq ?_ | with_reducible refine AW_block ?_ | ((with_reducible refine AW_region hTt ?_); conv => whnf) | (refine fun hln => ?_; (try rw [List.length_map] at hln); unfold maxLen at hln; conv => whnf) | fail
  have hz : Lib.idxOfS l x = Lib.idxFromS l x 0 := rfl
  refine AW_loop (fun i : Nat => [(8, iv .i64 i), (7, iv .i64 l.length), (0, strs l), (1, sv x)]) (fun _ => []) (fun i => i ≤ l.length ∧ Lib.idxOfS l x = Lib.idxFromS (l.drop i) x i) (fun i => l.length - i) 0 (by exact ⟨Nat.zero_le _, rfl⟩)
    (Imp.slots ⟨rfl, congrArg (fun k : Nat => some (iv .i64 k)) (List.length_map _), rfl, rfl, trivial⟩) ?_
  rintro i ⟨hi, hfo⟩
  rcases Nat.lt_or_ge i l.length with hil | hil
  · rw [List.drop_eq_getElem_cons hil] at hfo
    simp only [Lib.idxFromS] at hfo
    repeat' first | with_reducible refine AW_seq ?_ | with_reducible refine AW_block ?_ | ((first | with_reducible refine AW_skip ?_ | with_reducible refine AW_exit ?_ | with_reducible refine AW_ret ?_ | with_reducible refine AW_region hTt ?_ | fail); conv => whnf) | (exact absurd hb (by omega)) | (refine AW_cond rfl (fun hb => ?_) (fun hb => ?_) <;> first | (replace hb := of_decide_eq_true hb; try simp only [List.length_map] at hb) | (replace hb := of_decide_eq_false hb; try simp only [List.length_map] at hb) | (simp only [List.length_map, bne_iff_ne, ne_eq, beq_iff_eq, bne_eq_false_iff_eq, beq_eq_false_iff_ne, decide_eq_true_eq, decide_eq_false_iff_not, Bool.not_eq_true', Bool.not_eq_false', Int.natCast_inj] at hb) | skip) | ((first | refine ⟨_, wrap_of (by first | omega | (simp only [List.length_map]; omega)), ?_⟩ | refine andA ?_ | with_reducible refine Exists.intro _ (And.intro (gd_any (And.intro (by omega) (map_get (by omega)))) ?_) | fail); conv => whnf) | fail
    · have e : l[i] = x := ((Lib.bytes_beq_iff _ _).1 (by simpa using hb)).symm
      rw [if_pos e] at hfo
      exact congrArg some (congrArg (iv .i64) hfo.symm)
    · have e : ¬ l[i] = x := fun e => hb (by rw [e])
      rw [if_neg e] at hfo
      exact ⟨i + 1, ⟨by omega, hfo⟩, by omega, impA⟩
  · rw [List.drop_eq_nil_of_le hil] at hfo
    simp only [Lib.idxFromS] at hfo
    repeat' first | with_reducible refine AW_seq ?_ | with_reducible refine AW_block ?_ | ((first | with_reducible refine AW_skip ?_ | with_reducible refine AW_exit ?_ | with_reducible refine AW_ret ?_ | with_reducible refine AW_region hTt ?_ | fail); conv => whnf) | (exact absurd hb (by omega)) | (refine AW_cond rfl (fun hb => ?_) (fun hb => ?_) <;> first | (replace hb := of_decide_eq_true hb; try simp only [List.length_map] at hb) | (replace hb := of_decide_eq_false hb; try simp only [List.length_map] at hb) | (simp only [List.length_map, bne_iff_ne, ne_eq, beq_iff_eq, bne_eq_false_iff_eq, beq_eq_false_iff_ne, decide_eq_true_eq, decide_eq_false_iff_not, Bool.not_eq_true', Bool.not_eq_false', Int.natCast_inj] at hb) | skip) | fail
    exact congrArg some (congrArg (iv .i64) hfo.symm)
def canon (w : ByteArray) : Option Int :=
  match Lib.atoiAll w.data.toList with
  | .ok v => bif ((⟨(Lib.itoa v).toArray⟩ : ByteArray).toList == w.toList) then some v else none
  | _ => none
def numsP : List ByteArray → Option (List Int)
  | [] => some []
  | w :: r => match canon w, numsP r with
    | some v, some l => some (v :: l)
    | _, _ => none
def numsTo : List ByteArray → List Int
  | [] => []
  | w :: r => (canon w).getD 0 :: numsTo r
theorem numsP_none {ws : List ByteArray} {i : Nat} (h : i < ws.length) (hc : canon ws[i] = none) : numsP ws = none := by
  induction ws generalizing i with
  | nil => simp at h
  | cons w r ih =>
    cases i with
    | zero => simp only [List.getElem_cons_zero] at hc; simp [numsP, hc]
    | succ i =>
      simp only [List.getElem_cons_succ] at hc
      simp only [numsP, ih (by simpa using h) hc]
      cases canon w <;> rfl
theorem numsP_some {ws : List ByteArray} (h : ∀ w ∈ ws, (canon w).isSome = true) : numsP ws = some (numsTo ws) := by
  induction ws with
  | nil => rfl
  | cons w r ih =>
    obtain ⟨v, hv⟩ := Option.isSome_iff_exists.1 (h w (by simp))
    simp [numsP, numsTo, hv, ih (fun x hx => h x (by simp [hx]))]
theorem numsTo_len (ws : List ByteArray) : (numsTo ws).length = ws.length := by
  induction ws with
  | nil => rfl
  | cons w r ih => simp [numsTo, ih]
theorem numsTo_take (ws : List ByteArray) (i : Nat) (h : i < ws.length) : numsTo (ws.take (i + 1)) = numsTo (ws.take i) ++ [(canon ws[i]).getD 0] := by
  induction ws generalizing i with
  | nil => simp at h
  | cons w r ih =>
    cases i with
    | zero => simp [numsTo]
    | succ i => simp [numsTo, ih i (by simpa using h)]
theorem atoi_ok {s : ByteArray} (hs : s.size ≤ 281474976710656) {v : Int} (h : Lib.atoiAll s.data.toList = .ok v) {σ : Sg} : ACall Tryz.prog 45 [sv s] σ (fun r σ' => r = .t [iv .i64 v, .x (.d (.v .nilIface))] ∧ σ' = σ) :=
  (atoi_call s hs).mono fun r σ' ⟨e, hr⟩ => ⟨by unfold atoiR at hr; rw [h] at hr; exact hr, e⟩
theorem atoi_bad {s : ByteArray} (hs : s.size ≤ 281474976710656) (h : ∀ v, Lib.atoiAll s.data.toList ≠ .ok v) {σ : Sg} : ACall Tryz.prog 45 [sv s] σ (fun r σ' => (∃ u t p, r = .t [iv .i64 u, .x (.d (.v (.iface t p)))]) ∧ σ' = σ) :=
  (atoi_call s hs).mono fun r σ' ⟨e, hr⟩ => ⟨by
    unfold atoiR at hr
    cases hc : Lib.atoiAll s.data.toList with
    | ok v => exact absurd hc (h v)
    | range => rw [hc] at hr; exact hr
    | _ => rw [hc] at hr; exact hr, e⟩
theorem ifc_error : ∃ ms, Tryz.prog.underlying 77 = some (.interface ms) := ⟨_, Tryz.underlying77⟩
theorem numbers_fn (wd : ByteArray) (ws : List ByteArray) (hl : ws.length ≤ 4096) (hsz : ∀ w ∈ ws, w.size ≤ 1000000) : FnP Tryz.prog 20 [strs (wd :: ws)] ((numsP ws).map sl) errV := by
  refine FnP_of_AW hTt Tryz.func20 rfl (by kernel_rfl) (res := [.tmp 2]) rfl Tryz.ntmps20 (by simp) fun w0 K0 => ?_
  dsimp only [entry]
  repeat' first | with_reducible refine AW_seq ?_ | with_reducible refine AW_block ?_ | ((first | with_reducible refine AW_region hTt ?_ | refine andA ?_ | fail); conv => whnf) | ((refine And.intro (by refine ⟨?_, ?_, ?_⟩ <;> simp [chunk, maxLen] <;> omega) ?_); conv => whnf) | (refine fun hln => ?_; (try rw [List.length_map] at hln); unfold maxLen at hln; conv => whnf) | fail
  have e1 : List.drop (Int.toNat 1) (List.take (((strsPV (wd :: ws)).length : Nat) : Int).toNat (strsPV (wd :: ws))) = strsPV ws := by
    show List.take (List.length (ws.map _)) (ws.map _) = ws.map _
    exact List.take_of_length_le (Nat.le_refl _)
  refine AW_imp (Imp.slots (fr' := [(2, .x (.d (.v (.slice none 0 0)))), (10, iv .i64 0), (9, iv .i64 ws.length), (8, strs ws)])
    ⟨rfl, rfl, by (show some (iv .i64 ((List.length _ : Nat) : Int)) = _); rw [e1, List.length_map], congrArg (fun l => some (AV.x (.d (.s 1 l)))) e1, trivial⟩) ?_
  refine AW_imp (Imp.nil 2 3 1 (fr' := [(2, .x (.o 2 0 0)), (10, iv .i64 0), (9, iv .i64 ws.length), (8, strs ws)]) (σ' := []) rfl ?_ ?_ rfl rfl) ?_
  · exact ⟨⟨_, rfl, .inr ⟨rfl, rfl⟩⟩, ⟨_, rfl, .inl rfl⟩, ⟨_, rfl, .inl rfl⟩, ⟨_, rfl, .inl rfl⟩, trivial⟩
  · exact trivial
  refine AW_loop (fun i : Nat => [(2, .x (.o 2 i i)), (10, iv .i64 i), (9, iv .i64 ws.length), (8, strs ws)])
    (fun i => [(2, .chain 3 1 i ((numsTo (ws.take i)).map iPV))]) (fun i => i ≤ ws.length ∧ ∀ w ∈ ws.take i, (canon w).isSome = true) (fun i => ws.length - i) 0 (by simp) impA ?_
  rintro i ⟨hi, hok⟩
  have hnl : (numsTo (ws.take i)).length = i := by rw [numsTo_len, List.length_take, Nat.min_eq_left hi]
  rcases Nat.lt_or_ge i ws.length with hil | hil
  · have hz := hsz ws[i] (List.getElem_mem hil)
    cases hA : Lib.atoiAll ws[i].data.toList with
    | ok v =>
      have hb := Lib.atoiAll_bounds hA
      have c1 := atoi_ok (σ := [(2, .chain 3 1 i ((numsTo (ws.take i)).map iPV))]) (by omega) hA
      have c2 := itoa_all v hb.1 hb.2
      have hcan : canon ws[i] = bif ((⟨(Lib.itoa v).toArray⟩ : ByteArray).toList == ws[i].toList) then some v else none := by unfold canon; rw [hA]
      repeat' first | ((with_reducible refine AW_regionP hTt (id := 5) ?_); conv => whnf) | with_reducible refine AW_seq ?_ | with_reducible refine AW_block ?_ | ((first | with_reducible refine AW_skip ?_ | with_reducible refine AW_exit ?_ | with_reducible refine AW_ret ?_ | with_reducible refine AW_region hTt ?_ | fail); conv => whnf) | (exact absurd hb (by omega)) | ((refine ⟨_, c1, ?_⟩); (rintro _ _ ⟨rfl, rfl⟩); conv => whnf) | (refine And.intro ifc_error ?_; conv => whnf) | ((refine ⟨_, fun _ => (c2).call rfl rfl, ?_⟩); conv => whnf) | (refine ⟨_, _, must_fn _, ?_, ?_⟩ <;> (rintro _ _ ⟨rfl, rfl, hmu⟩; conv => whnf)) | (refine AW_cond rfl (fun hb => ?_) (fun hb => ?_) <;> first | (replace hb := of_decide_eq_true hb; try simp only [List.length_map] at hb) | (replace hb := of_decide_eq_false hb; try simp only [List.length_map] at hb) | (simp only [List.length_map, bne_iff_ne, ne_eq, beq_iff_eq, bne_eq_false_iff_eq, beq_eq_false_iff_ne, decide_eq_true_eq, decide_eq_false_iff_not, Bool.not_eq_true', Bool.not_eq_false', Int.natCast_inj] at hb) | skip) | ((first | refine ⟨_, wrap_of (by first | omega | (simp only [List.length_map]; omega)), ?_⟩ | refine andA ?_ | with_reducible refine Exists.intro _ (And.intro (gd_any (And.intro (by omega) (map_get (by omega)))) ?_) | fail); conv => whnf) | ((refine And.intro (by refine ⟨?_, ?_, ?_⟩ <;> simp [chunk, maxLen] <;> omega) ?_); conv => whnf) | fail
      · have hc : canon ws[i] = some v := by rw [hcan]; simp only [cond_true] at hmu; rw [hmu]; rfl
        have e : ((numsTo (ws.take i)).map iPV).take i ++ [[PV.v (.int .i64 v)]] = (numsTo (ws.take (i + 1))).map iPV := by
          rw [List.take_of_length_le (by simp [hnl]), numsTo_take ws i hil, List.map_append, hc]; rfl
        refine ⟨i + 1, ⟨by omega, fun w hw => ?_⟩, by omega, impA⟩
        rw [List.take_add_one, List.getElem?_eq_getElem hil] at hw
        rcases List.mem_append.1 hw with hw | hw
        · exact hok w hw
        · simp at hw; rw [hw, hc]; rfl
      · have hc : canon ws[i] = none := by rw [hcan]; simp only [cond_true] at hmu; rw [hmu]; rfl
        rw [numsP_none hil hc]
        exact ⟨rfl, rfl⟩
    | range =>
      have c1 := atoi_bad (s := ws[i]) (σ := [(2, .chain 3 1 i ((numsTo (ws.take i)).map iPV))]) (by omega) (fun v hv => by rw [hA] at hv; cases hv)
      have hc : canon ws[i] = none := by unfold canon; rw [hA]
      repeat' first | ((with_reducible refine AW_regionP hTt (id := 5) ?_); conv => whnf) | with_reducible refine AW_seq ?_ | with_reducible refine AW_block ?_ | ((first | with_reducible refine AW_skip ?_ | with_reducible refine AW_exit ?_ | with_reducible refine AW_ret ?_ | with_reducible refine AW_region hTt ?_ | fail); conv => whnf) | (exact absurd hb (by omega)) | ((refine ⟨_, c1, ?_⟩); (rintro _ _ ⟨⟨_, _, _, rfl⟩, rfl⟩); conv => whnf) | (refine And.intro ifc_error ?_; conv => whnf) | (refine ⟨sv ByteArray.empty, (fun h => absurd h (by decide) : _ = true → ACall Tryz.prog 37 _ _ _), ?_⟩; conv => whnf) | (refine ⟨_, _, must_fn _, ?_, ?_⟩ <;> (rintro _ _ ⟨rfl, rfl, hmu⟩; first | (exact absurd (show false = true from hmu) (by decide)) | conv => whnf)) | (refine AW_cond rfl (fun hb => ?_) (fun hb => ?_) <;> first | (replace hb := of_decide_eq_true hb; try simp only [List.length_map] at hb) | (replace hb := of_decide_eq_false hb; try simp only [List.length_map] at hb) | (simp only [List.length_map, bne_iff_ne, ne_eq, beq_iff_eq, bne_eq_false_iff_eq, beq_eq_false_iff_ne, decide_eq_true_eq, decide_eq_false_iff_not, Bool.not_eq_true', Bool.not_eq_false', Int.natCast_inj] at hb) | skip) | ((first | refine andA ?_ | with_reducible refine Exists.intro _ (And.intro (gd_any (And.intro (by omega) (map_get (by omega)))) ?_) | fail); conv => whnf) | fail
      · rw [numsP_none hil hc]
        exact ⟨rfl, rfl⟩
    | _ =>
      have c1 := atoi_bad (s := ws[i]) (σ := [(2, .chain 3 1 i ((numsTo (ws.take i)).map iPV))]) (by omega) (fun v hv => by rw [hA] at hv; cases hv)
      have hc : canon ws[i] = none := by unfold canon; rw [hA]
      repeat' first | ((with_reducible refine AW_regionP hTt (id := 5) ?_); conv => whnf) | with_reducible refine AW_seq ?_ | with_reducible refine AW_block ?_ | ((first | with_reducible refine AW_skip ?_ | with_reducible refine AW_exit ?_ | with_reducible refine AW_ret ?_ | with_reducible refine AW_region hTt ?_ | fail); conv => whnf) | (exact absurd hb (by omega)) | ((refine ⟨_, c1, ?_⟩); (rintro _ _ ⟨⟨_, _, _, rfl⟩, rfl⟩); conv => whnf) | (refine And.intro ifc_error ?_; conv => whnf) | (refine ⟨sv ByteArray.empty, (fun h => absurd h (by decide) : _ = true → ACall Tryz.prog 37 _ _ _), ?_⟩; conv => whnf) | (refine ⟨_, _, must_fn _, ?_, ?_⟩ <;> (rintro _ _ ⟨rfl, rfl, hmu⟩; first | (exact absurd (show false = true from hmu) (by decide)) | conv => whnf)) | (refine AW_cond rfl (fun hb => ?_) (fun hb => ?_) <;> first | (replace hb := of_decide_eq_true hb; try simp only [List.length_map] at hb) | (replace hb := of_decide_eq_false hb; try simp only [List.length_map] at hb) | (simp only [List.length_map, bne_iff_ne, ne_eq, beq_iff_eq, bne_eq_false_iff_eq, beq_eq_false_iff_ne, decide_eq_true_eq, decide_eq_false_iff_not, Bool.not_eq_true', Bool.not_eq_false', Int.natCast_inj] at hb) | skip) | ((first | refine andA ?_ | with_reducible refine Exists.intro _ (And.intro (gd_any (And.intro (by omega) (map_get (by omega)))) ?_) | fail); conv => whnf) | fail
      · rw [numsP_none hil hc]
        exact ⟨rfl, rfl⟩
  · have hie : i = ws.length := by omega
    subst hie
    rw [List.take_length] at hok
    repeat' first | with_reducible refine AW_seq ?_ | with_reducible refine AW_block ?_ | ((first | with_reducible refine AW_skip ?_ | with_reducible refine AW_exit ?_ | with_reducible refine AW_ret ?_ | with_reducible refine AW_region hTt ?_ | fail); conv => whnf) | (exact absurd hb (by omega)) | (refine AW_cond rfl (fun hb => ?_) (fun hb => ?_) <;> first | (replace hb := of_decide_eq_true hb; try simp only [List.length_map] at hb) | (replace hb := of_decide_eq_false hb; try simp only [List.length_map] at hb) | (simp only [List.length_map, bne_iff_ne, ne_eq, beq_iff_eq, bne_eq_false_iff_eq, beq_eq_false_iff_ne, decide_eq_true_eq, decide_eq_false_iff_not, Bool.not_eq_true', Bool.not_eq_false', Int.natCast_inj] at hb) | skip) | fail
    rw [numsP_some hok]
    refine ⟨_, rfl, ?_⟩
    show viewAV [(2, Ob.chain 3 1 ws.length ((numsTo (ws.take ws.length)).map iPV))] (.x (.o 2 ws.length ws.length)) = _
    simp [viewAV, viewAV1, viewSV, lk, sl, numsTo_len]
    exact List.take_of_length_le (by simp [numsTo_len])
end Go.Proofs.YtfpaonfddaeamaaGreatDoor
namespace Go.QL
open Go Go.RowKit
def LeC : List SV → List SV → Prop
  | [], [] => True
  | s :: r, t :: q => LeSV s t ∧ LeC r q
  | _, _ => False
def LeW1 : AV → AV → Prop
  | .x s, .x t => LeSV s t
  | .a cs, .a ds => LeC cs ds
  | _, _ => False
def LeW2 : List AV → List AV → Prop
  | [], [] => True
  | x :: r, y :: q => LeW1 x y ∧ LeW2 r q
  | _, _ => False
def LeW : AV → AV → Prop
  | .t xs, .t ys => LeW2 xs ys
  | x, y => LeW1 x y
section
variable {P : Program} {σ : Sg} {g : Gh} {w : World}
theorem LeC.get : ∀ {cs ds : List SV}, LeC cs ds → cs.length = ds.length ∧ ∀ (i : Nat) (t : SV), ds[i]? = some t → ∃ s, cs[i]? = some s ∧ LeSV s t
  | [], [], _ => ⟨rfl, fun i t h => by simp at h⟩
  | s :: r, t :: q, h => by
    obtain ⟨e, ih⟩ := LeC.get h.2
    refine ⟨by simp [e], fun i z hi => ?_⟩
    cases i with
    | zero => cases hi; exact ⟨s, rfl, h.1⟩
    | succ i => exact ih i z hi
  | [], _ :: _, h => h.elim
  | _ :: _, [], h => h.elim
theorem LeW2.get : ∀ {cs ds : List AV}, LeW2 cs ds → cs.length = ds.length ∧ ∀ (i : Nat) (t : AV), ds[i]? = some t → ∃ s, cs[i]? = some s ∧ LeW1 s t
  | [], [], _ => ⟨rfl, fun i t h => by simp at h⟩
  | s :: r, t :: q, h => by
    obtain ⟨e, ih⟩ := LeW2.get h.2
    refine ⟨by simp [e], fun i z hi => ?_⟩
    cases i with
    | zero => cases hi; exact ⟨s, rfl, h.1⟩
    | succ i => exact ih i z hi
  | [], _ :: _, h => h.elim
  | _ :: _, [], h => h.elim
theorem LeW1.ok {x y : AV} (h : LeW1 x y) {v : Value} (hv : VR1 σ g w x v) : VR1 σ g w y v := by
  cases x with
  | x s =>
    cases y with
    | x t => exact LeSV.ok h hv
    | _ => exact h.elim
  | a cs =>
    cases y with
    | a ds =>
      obtain ⟨vs, rfl, hs, hr⟩ := hv
      obtain ⟨e, hg⟩ := LeC.get h
      exact ⟨vs, rfl, by omega, fun i t u hi hu => let ⟨s, h1, h2⟩ := hg i t hi; h2.ok (hr i s u h1 hu)⟩
    | _ => exact h.elim
  | t _ => exact h.elim
  | g _ _ => exact h.elim
theorem LeW.ok {x y : AV} (h : LeW x y) {v : Value} (hv : VR2 σ g w x v) : VR2 σ g w y v := by
  cases x with
  | x s =>
    cases y with
    | x t => exact LeW1.ok (x := .x s) (y := .x t) h hv
    | _ => exact h.elim
  | a cs =>
    cases y with
    | a ds => exact LeW1.ok (x := .a cs) (y := .a ds) h hv
    | _ => exact h.elim
  | t xs =>
    cases y with
    | t ys =>
      obtain ⟨vs, rfl, hs, hr⟩ := hv
      obtain ⟨e, hg⟩ := LeW2.get h
      exact ⟨vs, rfl, by omega, fun i t u hi hu => let ⟨s, h1, h2⟩ := hg i t hi; h2.ok (hr i s u h1 hu)⟩
    | _ => exact h.elim
  | g _ _ =>
    cases y with
    | g _ _ => exact h.elim
    | _ => exact h.elim
theorem ACall.leW {f : FuncId} {args : List AV} {R R' : AV → Sg → Prop} (h : ACall P f args σ R) (hr : ∀ r σ', R r σ' → ∃ r', LeW r r' ∧ R' r' σ') : ACall P f args σ R' :=
  ⟨h.1, fun w0 K0 g w vs hL hp hs hv => (h.2 w0 K0 g w vs hL hp hs hv).mono fun e w' ⟨v, g', σ', r, a, b, c, d⟩ => let ⟨r', l, d'⟩ := hr r σ' d; ⟨v, g', σ', r', a, b, l.ok c, d'⟩⟩
theorem FnC_of_ACall {f : FuncId} {args : List AV} {r : AV} (h : ACall P f args [] fun r' σ' => r' = r ∧ σ' = []) : FnC P f args r := by
  refine ⟨h.1, fun K w vs hL hK hs hv => ?_⟩
  have hp : Hp w ⟨K, (· < w.heap.size)⟩ [] ⟨K, fun _ => undef⟩ w := ⟨.refl _ _, fun _ h => h, .refl _ _, fun _ _ _ h => h, hK, (fun id ob hid => by cases hid), (fun id b hi => by cases hi), (fun i j b hi => by cases hi)⟩
  refine (h.2 w ⟨K, (· < w.heap.size)⟩ ⟨K, fun _ => undef⟩ w vs hL hp hs hv).mono ?_
  rintro e w' ⟨v, g', σ', r', rfl, hd, hv, rfl, rfl⟩
  refine ⟨v, g'.K, rfl, hd.hp.kept.below, hd.hp.ext, fun b o hb hk => hd.hp.old b o hb hk, hd.hp.val, ?_⟩
  exact VR2.keep (fun s u hs => SR.keep (σ := []) (σ' := []) (g := g') (g' := ⟨g'.K, fun _ => undef⟩) ⟨fun _ cs h => (by cases h), fun _ _ _ _ xs h => (by cases h), fun _ o h => (by cases h)⟩ (Ext.refl _ _) hs) hv
end
end Go.QL
namespace Go.Proofs.YtfpaonfddaeamaaGreatDoor
open Go Go.QL Go.RowKit
set_option maxHeartbeats 800000
attribute [local irreducible] FnC
theorem itoa_nat (i : Nat) : Lib.itoa (i : Int) = Lib.decDigits i := by
  unfold Lib.itoa
  simp
theorem itoa_fn (i : Nat) (hi : i < 100) : FnC Tryz.prog 37 [iv .i64 i] (sv ⟨(Lib.decDigits i).toArray⟩) := by
  rw [← itoa_nat]
  exact itoa_all i (by omega) (by omega)
end Go.Proofs.YtfpaonfddaeamaaGreatDoor
namespace Go.Proofs.YtfpaonfddaeamaaGreatDoor
open Go Go.QL
set_option maxHeartbeats 3200000
attribute [local irreducible] ACall FnC
abbrev netCells (n : NetT) : Ob := .box [.d (.v (.int .i64 n.inn)), .d (gatesPV n.gates), .d (intsPV n.out)]
end Go.Proofs.YtfpaonfddaeamaaGreatDoor
namespace Go.Proofs.YtfpaonfddaeamaaGreatDoor
open Go Go.QL
set_option maxHeartbeats 3200000
attribute [local irreducible] ACall FnC
def numB (n : Int) : ByteArray := ⟨(Lib.decDigits n.toNat).toArray⟩
theorem itoa_in {n : Int} (h : 0 ≤ n ∧ n < 100) : FnC Tryz.prog 37 [iv .i64 n] (sv (numB n)) := by
  have := itoa_fn n.toNat (by omega)
  rw [show ((n.toNat : Nat) : Int) = n by omega] at this
  exact this
def lineTo (word : ByteArray) (l : List Int) : ByteArray := l.foldl (fun a n => a ++ (⟨#[32]⟩ ++ numB n)) word
def lineB (word : ByteArray) (l : List Int) : ByteArray := lineTo word l ++ ⟨#[10]⟩
theorem lineTo_succ (word : ByteArray) (l : List Int) (i : Nat) (h : i < l.length) : lineTo word (l.take (i + 1)) = lineTo word (l.take i) ++ (⟨#[32]⟩ ++ numB l[i]) := by
  unfold lineTo
  rw [List.take_add_one, List.getElem?_eq_getElem h, List.foldl_append]; rfl
theorem dd_len (i : Nat) (h : i < 100) : (Lib.decDigits i).length ≤ 3 := by
  by_cases h1 : i < 10
  · rw [Lib.decDigits_one h1]; show 1 ≤ 3; omega
  · rw [Lib.decDigits_two h1 h]; show 2 ≤ 3; omega
theorem numB_size {n : Int} (h : 0 ≤ n ∧ n < 100) : (numB n).size ≤ 3 := by
  show ((Lib.decDigits n.toNat).toArray).size ≤ 3
  rw [List.size_toArray]
  exact dd_len n.toNat (by omega)
theorem lineTo_size (word : ByteArray) (l : List Int) (hl : ∀ n ∈ l, 0 ≤ n ∧ n < 100) : ∀ i, i ≤ l.length → (lineTo word (l.take i)).size ≤ word.size + 4 * i
  | 0, _ => Nat.le_refl _
  | i + 1, h => by
    rw [lineTo_succ word l i h, ByteArray.size_append, ByteArray.size_append]
    have h1 := lineTo_size word l hl i (by omega)
    have h2 := numB_size (hl l[i] (List.getElem_mem h))
    have h3 : (⟨#[32]⟩ : ByteArray).size = 1 := rfl
    omega
theorem svE {a b : ByteArray} (h : a = b) : some (sv a) = some (sv b) := by rw [h]
theorem line_fn (word : ByteArray) (l : List Int) (hl : ∀ n ∈ l, 0 ≤ n ∧ n < 100) (hwd : word.size ≤ 100) (hll : l.length ≤ 4096) : FnC Tryz.prog 12 [sv word, sl l] (sv (lineB word l)) := by
  refine FnC_of_AW hTt Tryz.func12 rfl (by kernel_rfl) (res := [.tmp 4]) rfl Tryz.ntmps12 (by simp) fun w0 K0 => ?_
  dsimp only [entry]
  repeat' first | with_reducible refine AW_seq ?_ | with_reducible refine AW_block ?_ | ((with_reducible refine AW_region hTt ?_); conv => whnf) | (refine fun hln => ?_; (try rw [List.length_map] at hln); unfold maxLen at hln; conv => whnf) | fail
  refine AW_loop (fun i : Nat => [(9, iv .i64 i), (8, iv .i64 l.length), (7, sl l), (0, sv (lineTo word (l.take i)))]) (fun _ => []) (fun i => i ≤ l.length) (fun i => l.length - i) 0 (Nat.zero_le _) impA ?_
  intro i hi
  rcases Nat.lt_or_ge i l.length with hil | hil
  · have o1 := itoa_in (hl l[i] (List.getElem_mem hil))
    have hst := lineTo_succ word l i hil
    have hz := lineTo_size word l hl i hi
    have hnz := numB_size (hl l[i] (List.getElem_mem hil))
    have g1 : (⟨#[32]⟩ : ByteArray).size + (numB l[i]).size ≤ maxLen := by
      show 1 + _ ≤ _
      unfold maxLen; omega
    have g2 : (lineTo word (l.take i)).size + ((⟨#[32]⟩ : ByteArray) ++ numB l[i]).size ≤ maxLen := by
      rw [ByteArray.size_append]
      show _ + (1 + _) ≤ _
      unfold maxLen; omega
    repeat' first | with_reducible refine AW_seq ?_ | with_reducible refine AW_block ?_ | ((first | with_reducible refine AW_skip ?_ | with_reducible refine AW_exit ?_ | with_reducible refine AW_region hTt ?_ | fail); conv => whnf) | (exact absurd hb (by omega)) | ((first | ((refine ⟨_, (o1).call rfl rfl, ?_⟩); (rintro _ _ ⟨rfl, rfl⟩)) | refine And.intro (gd_none g1) ?_ | refine And.intro (gd_none g2) ?_ | fail); conv => whnf) | (refine AW_cond rfl (fun hb => ?_) (fun hb => ?_) <;> first | (replace hb := of_decide_eq_true hb; try simp only [List.length_map] at hb) | (replace hb := of_decide_eq_false hb; try simp only [List.length_map] at hb)) | ((first | refine ⟨_, wrap_of (by first | omega | (simp only [List.length_map]; omega)), ?_⟩ | refine andA ?_ | with_reducible refine Exists.intro _ (And.intro (gd_any (And.intro (by omega) (map_get (by omega)))) ?_) | fail); conv => whnf) | fail
    exact ⟨i + 1, hil, by omega, (Imp.forget (by repeat' (first | exact trivial | refine And.intro ?_ ?_ | exact svE hst.symm | rfl | exact ivE (by first | omega | (simp only [List.length_map, List.length_append, List.length_singleton] <;> omega)) | exact oE (by first | omega | (simp only [List.length_map, List.length_append, List.length_singleton] <;> omega)))) (by repeat' (first | exact trivial | refine And.intro ?_ ?_ | exact svE hst.symm | rfl | exact ivE (by first | omega | (simp only [List.length_map, List.length_append, List.length_singleton] <;> omega)) | exact oE (by first | omega | (simp only [List.length_map, List.length_append, List.length_singleton] <;> omega)))) (by kernel_rfl) (by kernel_rfl) (by kernel_rfl))⟩
  · rw [show lineB word l = lineTo word (l.take i) ++ ⟨#[10]⟩ from by rw [List.take_of_length_le (by omega)]; rfl]
    have hz := lineTo_size word l hl i hi
    have g3 : (lineTo word (l.take i)).size + (⟨#[10]⟩ : ByteArray).size ≤ maxLen := by
      show _ + 1 ≤ _
      unfold maxLen; omega
    repeat' first | with_reducible refine AW_seq ?_ | with_reducible refine AW_block ?_ | ((first | with_reducible refine AW_skip ?_ | with_reducible refine AW_exit ?_ | with_reducible refine AW_ret ?_ | with_reducible refine AW_region hTt ?_ | fail); conv => whnf) | (exact absurd hb (by omega)) | ((refine And.intro (gd_none g3) ?_); conv => whnf) | (refine AW_cond rfl (fun hb => ?_) (fun hb => ?_) <;> first | (replace hb := of_decide_eq_true hb; try simp only [List.length_map] at hb) | (replace hb := of_decide_eq_false hb; try simp only [List.length_map] at hb)) | fail
    rfl
end Go.Proofs.YtfpaonfddaeamaaGreatDoor
