/- What the functions that this law reaches return: part 0. No condition. -/
import Derived.Test.YtnpleednkmhhhabDoorB04
set_option linter.all false
namespace Go.Proofs.YtnpleednkmhhhabDoor
open Go Go.QL
set_option maxHeartbeats 1600000
theorem tdiv_mono {a b n : Int} (hn : 0 < n) (ha : 0 ≤ a) (h : a ≤ b) : a.tdiv n ≤ b.tdiv n := by
  rw [Int.tdiv_eq_ediv_of_nonneg ha, Int.tdiv_eq_ediv_of_nonneg (by omega)]
  exact Int.ediv_le_ediv hn h
theorem gross_rng {r : RuleT} (hr : ruleOK r) {w : WorkerT} (hw : workerOK w) : 0 ≤ (w.minutes * 1000 + mx 0 (w.minutes - r.normal) * r.extra) * w.rate ∧ 0 ≤ w.minutes * 1000 + mx 0 (w.minutes - r.normal) * r.extra := by
  have h0 : 0 ≤ mx 0 (w.minutes - r.normal) := by unfold mx; split <;> omega
  have h1 := Int.mul_nonneg h0 hr.2.1.1
  have h2 := hw.1.1
  have h3 : 0 ≤ w.minutes * 1000 + mx 0 (w.minutes - r.normal) * r.extra := by omega
  exact ⟨Int.mul_nonneg h3 hw.2.1, h3⟩
theorem gross_mono {r : RuleT} (hr : ruleOK r) {w v : WorkerT} (hw : workerOK w) (hv : workerOK v) (h1 : w.minutes ≤ v.minutes) (h2 : w.rate ≤ v.rate) : grossP r w ≤ grossP r v := by
  have a := gross_rng hr hw
  have b := gross_rng hr hv
  unfold grossP
  refine tdiv_mono (by decide) a.1 ?_
  have hm : mx 0 (w.minutes - r.normal) ≤ mx 0 (v.minutes - r.normal) := by unfold mx; split <;> split <;> omega
  have h3 := Int.mul_le_mul_of_nonneg_right hm hr.2.1.1
  have h4 : w.minutes * 1000 + mx 0 (w.minutes - r.normal) * r.extra ≤ v.minutes * 1000 + mx 0 (v.minutes - r.normal) * r.extra := by omega
  exact Int.le_trans (Int.mul_le_mul_of_nonneg_right h4 hw.2.1) (Int.mul_le_mul_of_nonneg_left h2 b.2)
theorem tax_rng {r : RuleT} (hr : ruleOK r) {g : Int} (hg : 0 ≤ g) : 0 ≤ taxP r g ∧ taxP r g ≤ g := by
  have h0 : 0 ≤ mx 0 (g - r.free) ∧ mx 0 (g - r.free) ≤ g := by have := hr.2.2.1.1; unfold mx; split <;> omega
  have h1 := Int.mul_nonneg h0.1 hr.2.2.2.1.1
  have h2 := Int.mul_le_mul_of_nonneg_left hr.2.2.2.1.2 h0.1
  unfold taxP
  rw [Int.tdiv_eq_ediv_of_nonneg h1]
  omega
theorem tax_slow {r : RuleT} (hr : ruleOK r) {g g' : Int} (hg : 0 ≤ g) (h : g ≤ g') : g - taxP r g ≤ g' - taxP r g' := by
  have h0 : 0 ≤ mx 0 (g - r.free) ∧ mx 0 (g - r.free) ≤ mx 0 (g' - r.free) ∧ mx 0 (g' - r.free) - mx 0 (g - r.free) ≤ g' - g := by unfold mx; split <;> split <;> omega
  unfold taxP
  generalize mx 0 (g - r.free) = x at *
  generalize mx 0 (g' - r.free) = y at *
  have h1 := Int.mul_nonneg h0.1 hr.2.2.2.1.1
  have h1' := Int.mul_nonneg (show 0 ≤ y by omega) hr.2.2.2.1.1
  have h2 := Int.mul_le_mul_of_nonneg_left hr.2.2.2.1.2 (show 0 ≤ y - x by omega)
  rw [Int.sub_mul] at h2
  rw [Int.tdiv_eq_ediv_of_nonneg h1, Int.tdiv_eq_ediv_of_nonneg h1']
  omega
theorem pay_law {r : RuleT} (hr : ruleOK r) {w v : WorkerT} (hw : workerOK w) (hv : workerOK v) (h1 : w.minutes ≤ v.minutes) (h2 : w.rate ≤ v.rate) :
    (payP r w).gross = (payP r w).tax + (payP r w).stamp + (payP r w).net ∧ (0 ≤ (payP r w).gross ∧ (payP r w).gross ≤ 1000000000) ∧ (0 ≤ (payP r w).tax ∧ (payP r w).tax ≤ 1000000000) ∧ (0 ≤ (payP r w).stamp ∧ (payP r w).stamp ≤ 1000000000) ∧ (0 ≤ (payP r w).net ∧ (payP r w).net ≤ 1000000000) ∧ (payP r w).net ≤ (payP r v).net := by
  have hg := gross_mono hr hw hv h1 h2
  have hg0 : 0 ≤ grossP r w ∧ grossP r w ≤ 1000000000 := by
    have a := gross_rng hr hw
    unfold grossP
    rw [Int.tdiv_eq_ediv_of_nonneg a.1]
    have m1 := mx_rng (a := 0) (b := w.minutes - r.normal) (N := 10080) (by decide) (by have := hw.1; have := hr.1; omega)
    have m2 := mul_bd (a := mx 0 (w.minutes - r.normal)) (b := r.extra) (A := 10080) (B := 1000) (by omega) (by have := hr.2.1; omega)
    have m4 := mul_bd (a := w.minutes * 1000 + mx 0 (w.minutes - r.normal) * r.extra) (b := w.rate) (A := 20160000) (B := 1000) (by have := hw.1; omega) (by have := hw.2; omega)
    omega
  have ht := tax_rng hr hg0.1
  have hs := tax_slow hr hg0.1 hg
  have h5 := hr.2.2.2.2
  unfold payP
  dsimp only
  generalize grossP r w = g at *
  generalize grossP r v = g' at *
  generalize taxP r g = t at *
  generalize taxP r g' = t' at *
  unfold mn
  refine ⟨by omega, by omega, by omega, ?_, ?_, ?_⟩ <;> (try split) <;> (try split) <;> omega
theorem wages_v (r : RuleT) (l : List WorkerT) : (wagesP r l).2 = 0 ∨ (wagesP r l).1 = [] ∧ (wagesP r l).2 ≠ 0 := by
  unfold wagesP
  split
  · exact .inr ⟨rfl, by decide⟩
  · split
    · exact .inr ⟨rfl, by decide⟩
    · split
      · exact .inr ⟨rfl, by decide⟩
      · exact .inl rfl
theorem workerBad_no {w : WorkerT} (h : workerOK w) : workerBad w = false := by
  unfold workerBad
  rw [outL_false.2 (fun x hx => by rw [List.mem_singleton] at hx; subst hx; exact h.1), outL_false.2 (fun x hx => by rw [List.mem_singleton] at hx; subst hx; exact h.2)]; rfl
theorem wages_ok {r : RuleT} {l : List WorkerT} (h : (wagesP r l).2 = 0) : ruleBad r = false ∧ l.length ≤ 40 ∧ (∀ w ∈ l, workerOK w) ∧ wagesP r l = (l.map (payP r), 0) := by
  unfold wagesP at *
  by_cases h1 : ruleBad r = true
  · rw [if_pos h1] at h; cases h
  · rw [if_neg h1] at h ⊢
    by_cases h2 : 40 < l.length
    · rw [if_pos h2] at h; cases h
    · rw [if_neg h2] at h ⊢
      by_cases h3 : l.any workerBad = true
      · rw [if_pos h3] at h; cases h
      · rw [if_neg h3]
        exact ⟨by simpa using h1, by omega, fun w hw => workerBad_ok (by
          have := List.any_eq_false.1 (by simpa using h3 : l.any workerBad = false) w hw
          simpa using this), rfl⟩
def moreW (a b : Int) (w : WorkerT) : WorkerT := ⟨mn 10080 (w.minutes + a), mn 1000 (w.rate + b)⟩
theorem more_ok {a b : Int} (ha : 0 ≤ a) (hb : 0 ≤ b) {w : WorkerT} (hw : workerOK w) : workerOK (moreW a b w) ∧ w.minutes ≤ (moreW a b w).minutes ∧ w.rate ≤ (moreW a b w).rate := by
  obtain ⟨h1, h2⟩ := hw
  unfold moreW mn
  refine ⟨⟨?_, ?_⟩, ?_, ?_⟩ <;> dsimp only <;> split <;> omega
theorem wages_more {r : RuleT} {l : List WorkerT} {a b : Int} (ha : 0 ≤ a) (hb : 0 ≤ b) (h1 : ruleBad r = false) (h2 : l.length ≤ 40) (h3 : ∀ w ∈ l, workerOK w) : wagesP r (l.map (moreW a b)) = ((l.map (moreW a b)).map (payP r), 0) := by
  unfold wagesP
  rw [if_neg (by rw [h1]; decide), if_neg (by rw [List.length_map]; omega), if_neg]
  intro h
  obtain ⟨x, hx, hb'⟩ := List.any_eq_true.1 h
  obtain ⟨w, hw, rfl⟩ := List.mem_map.1 hx
  rw [workerBad_no (more_ok ha hb (h3 w hw)).1] at hb'
  cases hb'
end Go.Proofs.YtnpleednkmhhhabDoor
namespace Go.Proofs.YtnpleednkmhhhabDoor
open Go Go.QL
set_option maxHeartbeats 40000000
attribute [local irreducible] ACall FnC YC
theorem nt_f2 {c : Bool} (h : c = false) : (!c) = true := by subst h; rfl
theorem and_tt2 {a b : Bool} (h1 : a = true) (h2 : b = true) : (a && b) = true := by rw [h1, h2]; rfl
theorem lnet_fn (r : RuleT) (l : List WorkerT) (a b : Int) (ha : 0 ≤ a ∧ a < 65536) (hb : 0 ≤ b ∧ b < 65536) : FnC Tryd.prog 5 [ruleAV r, workersAV l, a2AV .u16 a b] (bv true) := by
  have s1 := wages_fn r l
  have haw := awake_fn
  rcases wages_v r l with he | ⟨hl, he⟩
  · obtain ⟨hr, hl40, hw, hq⟩ := wages_ok he
    have hq2 := wages_more (a := a) (b := b) ha.1 hb.1 hr hl40 hw
    have s2 := wages_fn r (l.map (moreW a b))
    rw [hq2] at s2
    rw [hq] at s1
    have hro := ruleBad_ok hr
    dsimp only at s1 s2
    have hlaw := fun (i : Nat) (h : i < l.length) => pay_law hro (hw l[i] (List.getElem_mem h)) (more_ok ha.1 hb.1 (hw l[i] (List.getElem_mem h))).1 (more_ok ha.1 hb.1 (hw l[i] (List.getElem_mem h))).2.1 (more_ok ha.1 hb.1 (hw l[i] (List.getElem_mem h))).2.2
    clear hq hq2 he hr hro
    have hll : (l.map workerPV).length = l.length := List.length_map _
    refine FnC_of_AW hTt Tryd.func5 rfl (by kernel_rfl) (res := [.tmp 6]) rfl Tryd.ntmps5 (by simp) fun w0 K0 => ?_
    dsimp only [entry]
    repeat' first | with_reducible refine AW_seq ?_ | with_reducible refine AW_block ?_ | ((first | with_reducible refine AW_skip ?_ | with_reducible refine AW_region hTt ?_ | ((refine ⟨_, (s1).call rfl rfl, ?_⟩); (rintro _ _ ⟨rfl, rfl⟩)) | fail); conv => whnf) | (refine AW_cond rfl (fun hb => absurd (show false = true from hb) (by decide)) (fun _ => ?_)) | fail
    refine AW_imp (Imp.nil 900 45 2 (fr' := [(10, iv .i64 0), (9, .x (.o 900 0 0)), (7, paysAV (l.map (payP r))), (5, .x (.b 5 0)), (3, .x (.b 3 0)), (1, workersAV l)]) (σ' := [(5, .box [.d (.v (.int .u16 a)), .d (.v (.int .u16 b))]), (3, .box [.d (.v (.int .i64 r.normal)), .d (.v (.int .i64 r.extra)), .d (.v (.int .i64 r.free)), .d (.v (.int .i64 r.tax)), .d (.v (.int .i64 r.stamp))])]) rfl ?_ ?_ rfl rfl) ?_
    · exact ⟨⟨_, rfl, .inl rfl⟩, ⟨_, rfl, .inr ⟨rfl, rfl⟩⟩, ⟨_, rfl, .inl rfl⟩, ⟨_, rfl, .inl rfl⟩, ⟨_, rfl, .inl rfl⟩, ⟨_, rfl, .inl rfl⟩, trivial⟩
    · exact ⟨⟨_, rfl, .inl rfl⟩, ⟨_, rfl, .inl rfl⟩, trivial⟩
    clear s1
    have hct : ∀ i, i ≤ l.length → (((l.take i).map (moreW a b)).map workerPV).length = i := fun i hi => by rw [List.length_map, List.length_map, List.length_take]; omega
    refine AW_loop (fun i : Nat => [(10, iv .i64 i), (9, .x (.o 900 i i)), (7, paysAV (l.map (payP r))), (5, .x (.b 5 0)), (3, .x (.b 3 0)), (1, workersAV l)])
      (fun i => [(900, .chain 45 2 i (((l.take i).map (moreW a b)).map workerPV)), (5, .box [.d (.v (.int .u16 a)), .d (.v (.int .u16 b))]), (3, .box [.d (.v (.int .i64 r.normal)), .d (.v (.int .i64 r.extra)), .d (.v (.int .i64 r.free)), .d (.v (.int .i64 r.tax)), .d (.v (.int .i64 r.stamp))])])
      (fun i => i ≤ l.length) (fun i => l.length - i) 0 (Nat.zero_le _) impA ?_
    intro i hi
    have hcl := hct i hi
    rcases Nat.lt_or_ge i l.length with hil | hil
    · have hwi := hw l[i] (List.getElem_mem hil)
      have e1 : (l.map workerPV)[i]? = some (workerPV l[i]) := by rw [List.getElem?_map, List.getElem?_eq_getElem hil]; rfl
      have hnx : (((l.take i).map (moreW a b)).map workerPV).take i ++ [workerPV (moreW a b l[i])] = ((l.take (i + 1)).map (moreW a b)).map workerPV := by
        rw [List.take_of_length_le (by omega), List.take_add_one, List.getElem?_eq_getElem hil, List.map_append, List.map_append]; rfl
      clear hlaw hct s2 hw
      generalize l[i] = v at *
      obtain ⟨m, k⟩ := v
      obtain ⟨hm, hk⟩ := hwi
      dsimp only at hm hk
      have w1 : IntKind.i64.wrap (m + a) = m + a := wrap_of (by omega)
      have w2 : IntKind.i64.wrap (k + b) = k + b := wrap_of (by omega)
      repeat' first | with_reducible refine AW_seq ?_ | with_reducible refine AW_block ?_ | ((first | with_reducible refine AW_skip ?_ | with_reducible refine AW_exit ?_ | with_reducible refine AW_region hTt ?_ | refine AW_draw hTt hMix (id := 8) 23 true [0, 0, 0, 6, 14, 30, 0, 64, 192, 510, 1022, 0, 0, 6144, 14336, 30720, 0, 65536, 196608, 522240, 1046528, 2097150, 4194302, 8388607, 16777215] (by kernel_rfl) rfl rfl (by kernel_rfl) ?_ | fail); conv => whnf) | (exact absurd hb (by omega)) | ((first | refine Exists.intro _ (And.intro (gd_any (And.intro (by omega) e1)) ?_) | refine ⟨_, w1, ?_⟩ | refine ⟨_, w2, ?_⟩ | fail); conv => whnf) | ((refine And.intro (by rw [hcl]; refine ⟨?_, ?_, ?_⟩ <;> simp [chunk, maxLen] <;> omega) ?_); conv => whnf) | (refine AW_cond rfl (fun hb => ?_) (fun hb => ?_) <;> first | (replace hb := of_decide_eq_true hb; try simp only [List.length_map] at hb) | (replace hb := of_decide_eq_false hb; try simp only [List.length_map] at hb) | (simp only [List.length_map, bne_iff_ne, ne_eq, beq_iff_eq, bne_eq_false_iff_eq, beq_eq_false_iff_ne, decide_eq_true_eq, decide_eq_false_iff_not, Bool.not_eq_true', Bool.not_eq_false', Int.natCast_inj] at hb) | skip) | ((first | refine ⟨_, wrap_of (by first | omega | (simp only [List.length_map]; omega)), ?_⟩ | refine andA ?_ | fail); conv => whnf) | (refine fun hln => ?_; (try rw [List.length_map] at hln); unfold maxLen at hln; conv => whnf) | fail
      exact ⟨i + 1, by omega, by omega, (Imp.forget (by repeat' (first | exact trivial | refine And.intro ?_ ?_ | exact congrArg (fun xs : List (List PV) => some (Ob.chain 45 2 (i + 1) xs)) hnx | rfl | exact ivE (by first | omega | (simp only [List.length_map, List.length_append, List.length_singleton] <;> omega)) | exact oE (by first | omega | (simp only [List.length_map, List.length_append, List.length_singleton] <;> omega)))) (by repeat' (first | exact trivial | refine And.intro ?_ ?_ | exact congrArg (fun xs : List (List PV) => some (Ob.chain 45 2 (i + 1) xs)) hnx | rfl | exact ivE (by first | omega | (simp only [List.length_map, List.length_append, List.length_singleton] <;> omega)) | exact oE (by first | omega | (simp only [List.length_map, List.length_append, List.length_singleton] <;> omega)))) (by kernel_rfl) (by kernel_rfl) (by kernel_rfl))⟩
    · obtain rfl : i = l.length := by omega
      have hle : l.length ≤ (((l.take l.length).map (moreW a b)).map workerPV).length := by rw [hcl]; exact Nat.le_refl _
      have hfz : workersAV (l.map (moreW a b)) = .x (.d (.s 2 ((((l.take l.length).map (moreW a b)).map workerPV).take l.length))) := by
        rw [List.take_of_length_le (by rw [hcl]; exact Nat.le_refl _), List.take_length]; rfl
      have ft : ¬ (false = true) := by decide
      have hp1 : ((l.map (payP r)).map payPV).length = l.length := by rw [List.length_map, List.length_map]
      have hq1 : (((l.map (moreW a b)).map (payP r)).map payPV).length = l.length := by rw [List.length_map, List.length_map, List.length_map]
      have hpi : ∀ i (h : i < l.length), ((l.map (payP r)).map payPV)[i]? = some (payPV (payP r l[i])) := fun i h => by rw [List.getElem?_map, List.getElem?_map, List.getElem?_eq_getElem h]; rfl
      have hqi : ∀ i (h : i < l.length), (((l.map (moreW a b)).map (payP r)).map payPV)[i]? = some (payPV (payP r (moreW a b l[i]))) := fun i h => by rw [List.getElem?_map, List.getElem?_map, List.getElem?_map, List.getElem?_eq_getElem h]; rfl
      clear hct hw
      generalize l.map (payP r) = P at *
      generalize hQ : (l.map (moreW a b)).map (payP r) = Q at *
      have hcn : (bif bif (0 : Int) != 0 then true else (P.length : Int) != (l.length : Int) then true else (Q.length : Int) != (l.length : Int)) = false := by
        rw [List.length_map] at hp1 hq1
        rw [hp1, hq1]; simp
      have tf : ¬ (true = false) := by decide
      have hP1 : P.length = l.length := by rw [List.length_map] at hp1; exact hp1
      repeat' first | ((refine AW_imp (Imp.freeze 900 (fr' := [(9, workersAV (l.map (moreW a b))), (7, paysAV P), (3, .x (.b 3 0)), (1, workersAV l)]) (σ' := [(3, .box [.d (.v (.int .i64 r.normal)), .d (.v (.int .i64 r.extra)), .d (.v (.int .i64 r.free)), .d (.v (.int .i64 r.tax)), .d (.v (.int .i64 r.stamp))])]) rfl ⟨⟨_, rfl, .inr ⟨_, rfl, hle, hfz⟩⟩, ⟨_, rfl, .inl rfl⟩, ⟨_, rfl, .inl rfl⟩, ⟨_, rfl, .inl rfl⟩, trivial⟩ ⟨rfl, trivial⟩ rfl rfl) (AW_region (id := 9) hTt ?_)); conv => whnf) | with_reducible refine AW_seq ?_ | with_reducible refine AW_block ?_ | ((first | with_reducible refine AW_skip ?_ | with_reducible refine AW_exit ?_ | with_reducible refine AW_ret ?_ | with_reducible refine AW_region hTt ?_ | refine AW_draw hTt hMix (id := 8) 23 true [0, 0, 0, 6, 14, 30, 0, 64, 192, 510, 1022, 0, 0, 6144, 14336, 30720, 0, 65536, 196608, 522240, 1046528, 2097150, 4194302, 8388607, 16777215] (by kernel_rfl) rfl rfl (by kernel_rfl) ?_ | fail); conv => whnf) | (exact absurd (hb.symm.trans hcn) tf) | (exact absurd hb (by omega)) | ((refine ⟨_, (s2).call rfl rfl, ?_⟩); (rintro _ _ ⟨rfl, rfl⟩); conv => whnf) | (refine AW_cond rfl (fun hb => ?_) (fun hb => ?_) <;> first | (replace hb := of_decide_eq_true hb; try simp only [List.length_map] at hb) | (replace hb := of_decide_eq_false hb; try simp only [List.length_map] at hb) | (simp only [List.length_map, bne_iff_ne, ne_eq, beq_iff_eq, bne_eq_false_iff_eq, beq_eq_false_iff_ne, decide_eq_true_eq, decide_eq_false_iff_not, Bool.not_eq_true', Bool.not_eq_false', Int.natCast_inj] at hb) | skip) | ((refine andA ?_); conv => whnf) | (refine fun hln => ?_; (try rw [List.length_map] at hln); unfold maxLen at hln; conv => whnf) | fail
      clear s2 hfz hle hcl hcn
      refine AW_loop (fun i : Nat => [(12, iv .i64 i), (11, paysAV Q), (7, paysAV P)]) (fun _ => []) (fun i => i ≤ l.length) (fun i => l.length - i) 0 (Nat.zero_le _) impA ?_
      intro i hi
      rcases Nat.lt_or_ge i l.length with hil | hil
      · have e1 := hpi i hil
        have e2 := hqi i hil
        have hL := hlaw i hil
        clear hlaw hpi hqi
        generalize payP r l[i] = x at *
        generalize payP r (moreW a b l[i]) = y at *
        obtain ⟨g, t, s, n⟩ := x
        obtain ⟨g', t', s', n'⟩ := y
        dsimp only at hL
        obtain ⟨l1, l2, l3, l4, l5, l6⟩ := hL
        have w3 : IntKind.i64.wrap (t + s) = t + s := wrap_of (by omega)
        have w4 : IntKind.i64.wrap (t + s + n) = t + s + n := wrap_of (by omega)
        have hm0 : 0 ≤ mn (mn (mn g t) s) n := by unfold mn; repeat' split
                                                  all_goals omega
        have hcL : (bif bif g != t + s + n then true else decide (mn (mn (mn g t) s) n < 0) then true else decide (n' < n)) = false := by
          rw [show (g != t + s + n) = false by simpa using l1, decide_eq_false (show ¬ mn (mn (mn g t) s) n < 0 by omega), decide_eq_false (show ¬ n' < n by omega)]; rfl
        repeat' first | with_reducible refine AW_seq ?_ | with_reducible refine AW_block ?_ | ((first | with_reducible refine AW_skip ?_ | with_reducible refine AW_exit ?_ | with_reducible refine AW_ret ?_ | with_reducible refine AW_region hTt ?_ | refine AW_draw hTt hMix (id := 15) 58 false [0, 0, 3, 7, 15, 0, 0, 96, 224, 480, 0, 0, 3072, 7168, 15360, 32736, 0, 0, 196608, 458752, 983040, 2097120, 4194303, 8388607, 16777215, 16777215, 67108863, 134217727, 268435455, 16777215, 16777215, 1627389951, 3774873599, 8069840895, 16777215, 16777215, 51556384767, 120275861503, 257714814975, 16777215, 16777215, 1649284218879, 3848307474431, 8246353985535, 17592186044415, 35184372088831, 70368744177663, 140737488355327, 281474976710655, 281474976710655, 1125899906842623, 2251799813685247, 4503599627370495, 281474976710655, 281474976710655, 27303072740933631, 63331869759897599, 135389463797825535, 288230376151711743, 576460752303423487] (by kernel_rfl) rfl rfl (by kernel_rfl) ?_ | fail); conv => whnf) | (exact absurd hb (by omega)) | (exact absurd (hb.symm.trans hcL) tf) | ((first | refine Exists.intro _ (And.intro (gd_any (And.intro (by omega) e1)) ?_) | refine Exists.intro _ (And.intro (gd_any (And.intro (by omega) e2)) ?_) | refine ⟨_, w3, ?_⟩ | refine ⟨_, w4, ?_⟩ | refine And.intro (fun h => nt_f2 h) ?_ | fail); conv => whnf) | (refine AW_cond rfl (fun hb => ?_) (fun hb => ?_) <;> first | (replace hb := of_decide_eq_true hb; try simp only [List.length_map] at hb) | (replace hb := of_decide_eq_false hb; try simp only [List.length_map] at hb) | (simp only [List.length_map, bne_iff_ne, ne_eq, beq_iff_eq, bne_eq_false_iff_eq, beq_eq_false_iff_ne, decide_eq_true_eq, decide_eq_false_iff_not, Bool.not_eq_true', Bool.not_eq_false', Int.natCast_inj] at hb) | skip) | ((first | refine ⟨_, wrap_of (by first | omega | (simp only [List.length_map]; omega)), ?_⟩ | refine andA ?_ | fail); conv => whnf) | (refine fun hln => ?_; (try rw [List.length_map] at hln); unfold maxLen at hln; conv => whnf) | fail
        · exact ⟨i + 1, by omega, by omega, impA⟩
      · obtain rfl : i = l.length := by omega
        repeat' first | with_reducible refine AW_seq ?_ | with_reducible refine AW_block ?_ | ((first | with_reducible refine AW_skip ?_ | with_reducible refine AW_exit ?_ | with_reducible refine AW_ret ?_ | with_reducible refine AW_region hTt ?_ | refine AW_draw hTt hMix (id := 15) 58 false [0, 0, 3, 7, 15, 0, 0, 96, 224, 480, 0, 0, 3072, 7168, 15360, 32736, 0, 0, 196608, 458752, 983040, 2097120, 4194303, 8388607, 16777215, 16777215, 67108863, 134217727, 268435455, 16777215, 16777215, 1627389951, 3774873599, 8069840895, 16777215, 16777215, 51556384767, 120275861503, 257714814975, 16777215, 16777215, 1649284218879, 3848307474431, 8246353985535, 17592186044415, 35184372088831, 70368744177663, 140737488355327, 281474976710655, 281474976710655, 1125899906842623, 2251799813685247, 4503599627370495, 281474976710655, 281474976710655, 27303072740933631, 63331869759897599, 135389463797825535, 288230376151711743, 576460752303423487] (by kernel_rfl) rfl rfl (by kernel_rfl) ?_ | fail); conv => whnf) | (exact absurd hb (by omega)) | ((refine ⟨_, (haw).call rfl rfl, ?_⟩); (rintro _ _ ⟨rfl, rfl⟩); conv => whnf) | (refine AW_cond rfl (fun hb => ?_) (fun hb => ?_) <;> first | (replace hb := of_decide_eq_true hb; try simp only [List.length_map] at hb) | (replace hb := of_decide_eq_false hb; try simp only [List.length_map] at hb) | (simp only [List.length_map, bne_iff_ne, ne_eq, beq_iff_eq, bne_eq_false_iff_eq, beq_eq_false_iff_ne, decide_eq_true_eq, decide_eq_false_iff_not, Bool.not_eq_true', Bool.not_eq_false', Int.natCast_inj] at hb) | skip) | (refine fun hln => ?_; (try rw [List.length_map] at hln); unfold maxLen at hln; conv => whnf) | fail
        rfl
  · generalize wagesP r l = R at *
    obtain ⟨p, e⟩ := R
    dsimp only at s1 hl he
    subst hl
    have hcn : (e != 0) = true := by simpa using he
    have tf : ¬ (true = false) := by decide
    refine FnC_of_AW hTt Tryd.func5 rfl (by kernel_rfl) (res := [.tmp 6]) rfl Tryd.ntmps5 (by simp) fun w0 K0 => ?_
    dsimp only [entry]
    repeat' first | with_reducible refine AW_seq ?_ | with_reducible refine AW_block ?_ | ((first | with_reducible refine AW_skip ?_ | with_reducible refine AW_ret ?_ | with_reducible refine AW_region hTt ?_ | ((refine ⟨_, (s1).call rfl rfl, ?_⟩); (rintro _ _ ⟨rfl, rfl⟩)) | fail); conv => whnf) | (exact absurd hb he) | ((refine ⟨_, fun _ => (haw).call rfl rfl, ?_⟩); conv => whnf) | (refine AW_cond rfl (fun hb => ?_) (fun hb => ?_) <;> first | (replace hb := of_decide_eq_true hb; try simp only [List.length_map] at hb) | (replace hb := of_decide_eq_false hb; try simp only [List.length_map] at hb) | (simp only [List.length_map, bne_iff_ne, ne_eq, beq_iff_eq, bne_eq_false_iff_eq, beq_eq_false_iff_ne, decide_eq_true_eq, decide_eq_false_iff_not, Bool.not_eq_true', Bool.not_eq_false', Int.natCast_inj] at hb) | skip) | ((refine andA ?_); conv => whnf) | (refine fun hln => ?_; (try rw [List.length_map] at hln); unfold maxLen at hln; conv => whnf) | fail
    rfl
end Go.Proofs.YtnpleednkmhhhabDoor
