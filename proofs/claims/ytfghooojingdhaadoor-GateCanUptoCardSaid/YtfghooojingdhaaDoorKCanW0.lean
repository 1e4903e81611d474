/- What the functions that this law reaches return: part 0. No condition. -/
import Derived.Test.YtfghooojingdhaaDoorK05
set_option linter.all false
namespace Go.Proofs.YtfghooojingdhaaDoor
open Go Go.QL
def bytesAV (l : List Int) : AV := .x (.d (.s 1 (l.map fun n => [.v (.int .u8 n)])))
end Go.Proofs.YtfghooojingdhaaDoor
namespace Go.Proofs.YtfghooojingdhaaDoor
open Go Go.QL
def choiceAV (ts : List (List Int)) (b : Int) : AV := .a [.d (.s 1 (ts.map fun r => [intsPV r])), .d (.v (.int .u16 b))]
end Go.Proofs.YtfghooojingdhaaDoor
namespace Go.Proofs.YtfghooojingdhaaDoor
open Go Go.QL
set_option maxHeartbeats 3200000
attribute [local irreducible] ACall FnC
def givesR (n : NetT) (f : FaultT) (ts rs : List (List Int)) : Bool := (List.range ts.length).all fun i => sameInts (oR n f (ts.getD i [])) (rs.getD i [])
def cansR (n : NetT) (fs : List FaultT) (ts rs : List (List Int)) (k : Nat) : List Int := ((List.range k).filter fun l => givesR n (fAt fs l) ts rs).map fun (l : Nat) => (l : Int) - 1
theorem cansR_succ (n : NetT) (fs : List FaultT) (ts rs : List (List Int)) (k : Nat) : cansR n fs ts rs (k + 1) = if givesR n (fAt fs k) ts rs = true then cansR n fs ts rs k ++ [(k : Int) - 1] else cansR n fs ts rs k := by
  unfold cansR
  rw [List.range_succ, List.filter_append]
  by_cases h : givesR n (fAt fs k) ts rs = true
  · simp [h]
  · simp [h]
theorem cansR_len (n : NetT) (fs : List FaultT) (ts rs : List (List Int)) (k : Nat) : (cansR n fs ts rs k).length ≤ k := by
  unfold cansR
  rw [List.length_map]
  exact Nat.le_trans (List.length_filter_le _ _) (by simp)
def sameLens (ts rs : List (List Int)) : Bool := (List.range ts.length).all fun i => decide ((rs.getD i []).length = (ts.getD i []).length)
def canR (n : NetT) (fs : List FaultT) (ts rs : List (List Int)) : List Int × Int :=
  if askedR n fs ts = 0 then (if rs.length = ts.length ∧ sameLens ts rs = true then (cansR n fs ts rs (fs.length + 1), 0) else ([], 2)) else ([], askedR n fs ts)
end Go.Proofs.YtfghooojingdhaaDoor
namespace Go.Proofs.YtfghooojingdhaaDoor
open Go Go.QL
theorem ask_run {n : NetT} {fs : List FaultT} {ts : List (List Int)} (h : AskOK n fs ts) {t : List Int} (ht : t ∈ ts) : runR n t = (oR n fine t, 0) := by
  unfold runR
  rw [if_pos h.chk, if_pos (h.t t ht)]; rfl
theorem ask_stuck {n : NetT} {fs : List FaultT} {ts : List (List Int)} (h : AskOK n fs ts) {f : FaultT} (hf : f ∈ fs) {t : List Int} (ht : t ∈ ts) : stuckR n f t = (oR n f t, 0) := by
  unfold stuckR
  rw [if_pos h.chk, if_pos (h.f f hf), if_pos (h.t t ht)]; rfl
end Go.Proofs.YtfghooojingdhaaDoor
namespace Go.Proofs.YtfghooojingdhaaDoor
open Go Go.QL
set_option maxHeartbeats 3200000
attribute [local irreducible] ACall FnC YC
def okT (n : NetT) (fs : List FaultT) (t : List Int) : Bool := decide ((runR n t).2 = 0) && fs.all fun f => decide ((stuckR n f t).2 = 0)
def rowT (n : NetT) (fs : List FaultT) (t : List Int) : List (List Int) := (runR n t).1 :: fs.map fun f => (stuckR n f t).1
def outsT (n : NetT) (fs : List FaultT) (ts : List (List Int)) : List (List (List Int)) × Bool := if ts.all (okT n fs) = true then (ts.map (rowT n fs), true) else ([], false)
def okJ (n : NetT) (fs : List FaultT) (t : List Int) (j : Nat) : Bool := decide ((runR n t).2 = 0) && (fs.take j).all fun f => decide ((stuckR n f t).2 = 0)
def rwT (r : List Int) : List PV := [intsPV r]
theorem okJ_succ {n : NetT} {fs : List FaultT} {t : List Int} {j : Nat} {f : FaultT} (hf : fs[j]? = some f) : okJ n fs t (j + 1) = (okJ n fs t j && decide ((stuckR n f t).2 = 0)) := by
  unfold okJ
  rw [List.take_add_one, hf, List.all_append]
  simp [Bool.and_assoc]
theorem okJ_all {n : NetT} {fs : List FaultT} {t : List Int} {j : Nat} (h : fs.length ≤ j) : okJ n fs t j = okT n fs t := by
  unfold okJ okT
  rw [List.take_of_length_le h]
theorem okJ_no {n : NetT} {fs : List FaultT} {t : List Int} {j : Nat} (h : okJ n fs t j = false) : okT n fs t = false := by
  cases hT : okT n fs t with
  | false => rfl
  | true =>
    exfalso
    unfold okT at hT
    unfold okJ at h
    rw [Bool.and_eq_true, List.all_eq_true] at hT
    rw [hT.1, Bool.true_and, List.all_eq_false] at h
    obtain ⟨f, hf, h2⟩ := h
    exact h2 (hT.2 f (List.mem_of_mem_take hf))
theorem outsT_no {n : NetT} {fs : List FaultT} {ts : List (List Int)} {t : List Int} (ht : t ∈ ts) (h : okT n fs t = false) : outsT n fs ts = ([], false) := by
  unfold outsT
  rw [if_neg]
  intro ha
  rw [List.all_eq_true] at ha
  rw [ha t ht] at h
  cases h
theorem outsT_fn (n : NetT) (hi : i64 n.inn) (fs : List FaultT) (ts : List (List Int)) (hfl : fs.length ≤ 1048576) (htl : ts.length ≤ 1048576) :
    FnC Tryd.prog 47 [netAV n, faultsAV fs, rowsAV ts] (.t [cubeAV (outsT n fs ts).1, bv (outsT n fs ts).2]) := by
  refine FnC_of_AWL hTt Tryd.func47 rfl (by kernel_rfl) (res := [.tmp 6, .tmp 7]) rfl Tryd.ntmps47 (by simp) fun w0 K0 => ?_
  dsimp only [entry]
  repeat' first | with_reducible refine AW_seq ?_ | with_reducible refine AW_block ?_ | ((with_reducible refine AW_region hTt ?_); conv => whnf) | fail
  refine AW_imp (Imp.nil 8 54 1 (fr' := [(9, iv .i64 0), (3, .x (.b 3 0)), (1, faultsAV fs), (2, rowsAV ts), (8, .x (.o 8 0 0))]) (σ' := [(3, netCells n)]) rfl ?_ ⟨⟨_, rfl, .inl rfl⟩, trivial⟩ rfl rfl) ?_
  · exact ⟨⟨_, rfl, .inl rfl⟩, ⟨_, rfl, .inl rfl⟩, ⟨_, rfl, .inl rfl⟩, ⟨_, rfl, .inl rfl⟩, ⟨_, rfl, .inr ⟨rfl, rfl⟩⟩, trivial⟩
  refine AW_loop (fun i : Nat => [(9, iv .i64 i), (3, .x (.b 3 0)), (1, faultsAV fs), (2, rowsAV ts), (8, .x (.o 8 i i))]) (fun i => [(8, .chain 54 1 i (cubePV ((ts.take i).map (rowT n fs)))), (3, netCells n)])
    (fun i => i ≤ ts.length ∧ (ts.take i).all (okT n fs) = true) (fun i => ts.length - i) 0 ⟨Nat.zero_le _, rfl⟩ impA ?_
  rintro i ⟨hil', hall⟩
  have hlen : (cubePV ((ts.take i).map (rowT n fs))).length = i := by unfold cubePV; rw [List.length_map, List.length_map, List.length_take]; omega
  rcases Nat.lt_or_ge i ts.length with hil | hil
  · obtain ⟨t, ht⟩ : ∃ t, ts[i]? = some t := ⟨_, List.getElem?_eq_getElem hil⟩
    have htm : t ∈ ts := List.mem_of_getElem? ht
    have hrun := prun_fn n hi t
    have hll : (rowT n fs t).length = fs.length + 1 := by simp [rowT]
    have h0 : [[intsPV (runR n t).1]] = ((rowT n fs t).take (0 + 1)).map rwT := rfl
    have hst : (cubePV ((ts.take i).map (rowT n fs))).take i ++ [[rowsPV (rowT n fs t)]] = cubePV ((ts.take (i + 1)).map (rowT n fs)) := by
      rw [List.take_of_length_le (Nat.le_of_eq hlen), List.take_add_one, ht]
      unfold cubePV
      rw [List.map_append, List.map_append]; rfl
    have hfz : AV.x (.d (rowsPV (rowT n fs t))) = .x (.d (.s 1 ((((rowT n fs t).take (fs.length + 1)).map rwT).take (fs.length + 1)))) := by
      rw [List.take_of_length_le (by rw [List.length_map, List.length_take]; omega), List.take_of_length_le (by omega)]; rfl
    have hno := fun h => outsT_no (n := n) (fs := fs) htm h
    have hnx : okT n fs t = true → (ts.take (i + 1)).all (okT n fs) = true := by
      intro h
      rw [List.take_add_one, ht, List.all_append, hall]
      simp [h]
    have hj0 : decide ((runR n t).2 = 0) = okJ n fs t 0 := by simp [okJ]
    have hrT : ∀ j f, fs[j]? = some f → (rowT n fs t)[j + 1]? = some (stuckR n f t).1 := by
      intro j f hf
      unfold rowT
      rw [List.getElem?_cons_succ, List.getElem?_map, hf]; rfl
    generalize cubePV ((ts.take i).map (rowT n fs)) = C at hlen hst
    generalize hC' : cubePV ((ts.take (i + 1)).map (rowT n fs)) = C' at hst
    generalize runR n t = p at hrun h0 hj0
    obtain ⟨pl, pe⟩ := p
    dsimp only at h0 hj0
    repeat' first | with_reducible refine AW_seq ?_ | with_reducible refine AW_block ?_ | ((first | with_reducible refine AW_skip ?_ | with_reducible refine AW_exit ?_ | with_reducible refine AW_ret ?_ | with_reducible refine AW_region hTt ?_ | refine AW_draw hTt hMix (id := 5) 10 false [0, 0, 0, 6, 14, 31, 63, 127, 127, 255, 1023] (by kernel_rfl) rfl rfl (by kernel_rfl) ?_ | fail); conv => whnf) | (exact absurd hb (by omega)) | ((first | with_reducible refine Exists.intro _ (And.intro (gd_any (And.intro (by omega) (row_some ht))) ?_) | refine ⟨_, fun _ => (hrun).call rfl rfl, ?_⟩ | fail); conv => whnf) | (refine AW_cond rfl (fun hb => ?_) (fun hb => ?_) <;> first | (replace hb := of_decide_eq_true hb; try simp only [List.length_map] at hb) | (replace hb := of_decide_eq_false hb; try simp only [List.length_map] at hb) | (simp only [List.length_map, bne_iff_ne, ne_eq, beq_iff_eq, bne_eq_false_iff_eq, beq_eq_false_iff_ne, decide_eq_true_eq, decide_eq_false_iff_not, Bool.not_eq_true', Bool.not_eq_false', Int.natCast_inj] at hb) | skip) | ((refine andA ?_); conv => whnf) | (refine fun hln => ?_; (try rw [List.length_map] at hln); unfold maxLen at hln; conv => whnf) | fail
    refine AW_loop (fun q : Nat × Int => [(13, iv .i64 q.1), (12, .x (.o 32 q.1 (q.1 + 1))), (11, iv .i64 q.2), (9, iv .i64 i), (3, .x (.b 3 0)), (1, faultsAV fs), (2, rowsAV ts), (8, .x (.o 8 i i))])
      (fun q => [(32, .chain 23 1 q.1 (((rowT n fs t).take (q.1 + 1)).map rwT)), (8, .chain 54 1 i C), (3, netCells n)]) (fun q => q.1 ≤ fs.length ∧ decide (q.2 = 0) = okJ n fs t q.1) (fun q => fs.length - q.1) (0, pe) ⟨Nat.zero_le _, hj0⟩ impA ?_
    rintro ⟨j, e⟩ ⟨hjl', hje⟩
    dsimp only at hjl' hje ⊢
    have hlj : (((rowT n fs t).take (j + 1)).map rwT).length = j + 1 := by rw [List.length_map, List.length_take]; omega
    by_cases hgo : j < fs.length ∧ e = 0
    · obtain ⟨hjl, he0⟩ := hgo
      subst he0
      obtain ⟨f, hf⟩ : ∃ f, fs[j]? = some f := ⟨_, List.getElem?_eq_getElem hjl⟩
      have hstk := pstuck_fn n hi f t
      have hs := okJ_succ (n := n) (t := t) hf
      rw [← hje, decide_eq_true rfl, Bool.true_and] at hs
      have e1 : (((rowT n fs t).take (j + 1)).map rwT).take (j + 1) ++ [[intsPV (stuckR n f t).1]] = ((rowT n fs t).take (j + 1 + 1)).map rwT := by
        rw [List.take_of_length_le (Nat.le_of_eq hlj), List.take_add_one (i := j + 1), hrT j f hf, List.map_append]; rfl
      generalize ((rowT n fs t).take (j + 1)).map rwT = R at hlj e1
      generalize stuckR n f t = s at hstk hs e1
      obtain ⟨sl', se⟩ := s
      dsimp only at hs e1
      obtain ⟨fa, fb⟩ := f
      clear hrun hst hfz hrT hno hnx hj0 h0 hje
      repeat' first | with_reducible refine AW_seq ?_ | with_reducible refine AW_block ?_ | ((first | with_reducible refine AW_skip ?_ | with_reducible refine AW_exit ?_ | with_reducible refine AW_region hTt ?_ | refine AW_draw hTt hMix (id := 10) 14 false [0, 0, 0, 6, 14, 0, 0, 96, 224, 511, 1023, 2047, 2047, 4095, 16383] (by kernel_rfl) rfl rfl (by kernel_rfl) ?_ | fail); conv => whnf) | (exfalso; simp at hb; omega) | ((first | with_reducible refine Exists.intro _ (And.intro (gd_any (And.intro (by omega) (fault_some hf))) ?_) | with_reducible refine Exists.intro _ (And.intro (gd_any (And.intro (by omega) (row_some ht))) ?_) | refine ⟨_, fun _ => (hstk).call rfl rfl, ?_⟩ | refine And.intro ⟨Nat.le_of_eq hlj.symm, by show j + 1 + 1 ≤ maxLen; unfold maxLen; omega, by show (j + 1 + 1) * 24 ≤ 140737488355328; omega⟩ ?_ | fail); conv => whnf) | (refine AW_cond rfl (fun hb => ?_) (fun hb => ?_) <;> first | (replace hb := of_decide_eq_true hb; try simp only [List.length_map] at hb) | (replace hb := of_decide_eq_false hb; try simp only [List.length_map] at hb) | (simp only [List.length_map, bne_iff_ne, ne_eq, beq_iff_eq, bne_eq_false_iff_eq, beq_eq_false_iff_ne, decide_eq_true_eq, decide_eq_false_iff_not, Bool.not_eq_true', Bool.not_eq_false', Int.natCast_inj] at hb) | skip) | ((first | refine ⟨_, wrap_of (by first | omega | (simp only [List.length_map]; omega)), ?_⟩ | refine andA ?_ | fail); conv => whnf) | (refine fun hln => ?_; (try rw [List.length_map] at hln); unfold maxLen at hln; conv => whnf) | fail
      exact ⟨(j + 1, se), ⟨hjl, hs.symm⟩, by show fs.length - (j + 1) < fs.length - j; omega, impA⟩
    by_cases he : e = 0
    · subst he
      have hjeq : j = fs.length := by omega
      subst hjeq
      have hok : okT n fs t = true := by rw [← okJ_all (Nat.le_refl _), ← hje]; rfl
      have hnx := hnx hok
      clear hno hrT hj0 hje h0 hrun hok
      repeat' first | ((refine AW_imp (Imp.freeze 32 (fr' := [(12, .x (.d (rowsPV (rowT n fs t)))), (9, iv .i64 i), (3, .x (.b 3 0)), (1, faultsAV fs), (2, rowsAV ts), (8, .x (.o 8 i i))]) (σ' := [(8, .chain 54 1 i C), (3, netCells n)]) rfl ⟨⟨_, rfl, .inr ⟨fs.length + 1, rfl, Nat.le_of_eq hlj.symm, hfz⟩⟩, ⟨_, rfl, .inl rfl⟩, ⟨_, rfl, .inl rfl⟩, ⟨_, rfl, .inl rfl⟩, ⟨_, rfl, .inl rfl⟩, ⟨_, rfl, .inl rfl⟩, trivial⟩ ⟨rfl, rfl, trivial⟩ rfl rfl) (AW_region (id := 14) hTt ?_)); conv => whnf) | with_reducible refine AW_seq ?_ | with_reducible refine AW_block ?_ | ((first | with_reducible refine AW_skip ?_ | with_reducible refine AW_exit ?_ | with_reducible refine AW_region hTt ?_ | refine AW_draw hTt hMix (id := 10) 14 false [0, 0, 0, 6, 14, 0, 0, 96, 224, 511, 1023, 2047, 2047, 4095, 16383] (by kernel_rfl) rfl rfl (by kernel_rfl) ?_ | fail); conv => whnf) | (exfalso; simp at hb; done) | ((refine And.intro ⟨Nat.le_of_eq hlen.symm, by show i + 1 ≤ maxLen; unfold maxLen; omega, by show (i + 1) * 24 ≤ 140737488355328; omega⟩ ?_); conv => whnf) | (refine AW_cond rfl (fun hb => absurd hb (by decide)) (fun _ => ?_)) | (refine AW_cond rfl (fun hb => ?_) (fun hb => ?_) <;> first | (replace hb := of_decide_eq_true hb; try simp only [List.length_map] at hb) | (replace hb := of_decide_eq_false hb; try simp only [List.length_map] at hb) | (simp only [List.length_map, bne_iff_ne, ne_eq, beq_iff_eq, bne_eq_false_iff_eq, beq_eq_false_iff_ne, decide_eq_true_eq, decide_eq_false_iff_not, Bool.not_eq_true', Bool.not_eq_false', Int.natCast_inj] at hb) | skip) | ((first | refine ⟨_, wrap_of (by first | omega | (simp only [List.length_map]; omega)), ?_⟩ | refine andA ?_ | fail); conv => whnf) | (refine fun hln => ?_; (try rw [List.length_map] at hln); unfold maxLen at hln; conv => whnf) | fail
      exact ⟨i + 1, ⟨hil, hnx⟩, by omega, (Imp.forget (by repeat' (first | exact trivial | refine And.intro ?_ ?_ | exact chE (hst.trans hC'.symm) | rfl | exact ivE (by first | omega | (simp only [List.length_map, List.length_append, List.length_singleton] <;> omega)) | exact oE (by first | omega | (simp only [List.length_map, List.length_append, List.length_singleton] <;> omega)))) (by repeat' (first | exact trivial | refine And.intro ?_ ?_ | exact chE (hst.trans hC'.symm) | rfl | exact ivE (by first | omega | (simp only [List.length_map, List.length_append, List.length_singleton] <;> omega)) | exact oE (by first | omega | (simp only [List.length_map, List.length_append, List.length_singleton] <;> omega)))) (by kernel_rfl) (by kernel_rfl) (by kernel_rfl))⟩
    have hokf : okT n fs t = false := okJ_no (j := j) (by rw [← hje]; exact decide_eq_false he)
    rw [hno hokf]
    clear hno hrT hj0 hje h0 hrun hst hfz hnx hokf
    repeat' first | with_reducible refine AW_seq ?_ | with_reducible refine AW_block ?_ | ((first | with_reducible refine AW_skip ?_ | with_reducible refine AW_exit ?_ | with_reducible refine AW_ret ?_ | with_reducible refine AW_region hTt ?_ | refine AW_draw hTt hMix (id := 10) 14 false [0, 0, 0, 6, 14, 0, 0, 96, 224, 511, 1023, 2047, 2047, 4095, 16383] (by kernel_rfl) rfl rfl (by kernel_rfl) ?_ | fail); conv => whnf) | (exact absurd hb he) | (exfalso; simp [he] at hb; done) | (refine AW_cond rfl (fun hb => ?_) (fun hb => ?_) <;> first | (replace hb := of_decide_eq_true hb; try simp only [List.length_map] at hb) | (replace hb := of_decide_eq_false hb; try simp only [List.length_map] at hb) | (simp only [List.length_map, bne_iff_ne, ne_eq, beq_iff_eq, bne_eq_false_iff_eq, beq_eq_false_iff_ne, decide_eq_true_eq, decide_eq_false_iff_not, Bool.not_eq_true', Bool.not_eq_false', Int.natCast_inj] at hb) | skip) | ((refine andA ?_); conv => whnf) | (refine fun hln => ?_; (try rw [List.length_map] at hln); unfold maxLen at hln; conv => whnf) | fail
    exact ⟨_, rfl, _, rfl, LeAV1.nil 1, LeAV1.refl _, trivial⟩
  have hie : i = ts.length := by omega
  subst hie
  rw [List.take_of_length_le (Nat.le_refl _)] at hall
  have hE : outsT n fs ts = (ts.map (rowT n fs), true) := by unfold outsT; rw [if_pos hall]
  rw [hE]
  repeat' first | with_reducible refine AW_seq ?_ | with_reducible refine AW_block ?_ | ((first | with_reducible refine AW_skip ?_ | with_reducible refine AW_exit ?_ | with_reducible refine AW_ret ?_ | with_reducible refine AW_region hTt ?_ | refine AW_draw hTt hMix (id := 5) 10 false [0, 0, 0, 6, 14, 31, 63, 127, 127, 255, 1023] (by kernel_rfl) rfl rfl (by kernel_rfl) ?_ | fail); conv => whnf) | (exact absurd hb (by omega)) | (refine AW_cond rfl (fun hb => ?_) (fun hb => ?_) <;> first | (replace hb := of_decide_eq_true hb; try simp only [List.length_map] at hb) | (replace hb := of_decide_eq_false hb; try simp only [List.length_map] at hb) | (simp only [List.length_map, bne_iff_ne, ne_eq, beq_iff_eq, bne_eq_false_iff_eq, beq_eq_false_iff_ne, decide_eq_true_eq, decide_eq_false_iff_not, Bool.not_eq_true', Bool.not_eq_false', Int.natCast_inj] at hb) | skip) | (refine fun hln => ?_; (try rw [List.length_map] at hln); unfold maxLen at hln; conv => whnf) | fail
  rw [List.take_of_length_le (Nat.le_refl _)] at hlen ⊢
  refine ⟨.t [cubeAV (ts.map (rowT n fs)), bv true], ?_, LeAV.refl _⟩
  show viewAV [(8, Ob.chain 54 1 ts.length (cubePV (ts.map (rowT n fs)))), (3, netCells n)] (.t [.x (.o 8 ts.length ts.length), bv true]) = _
  simp only [viewAV, viewAVs, viewAV1]
  rw [viewO' (σ := [(8, Ob.chain 54 1 ts.length (cubePV (ts.map (rowT n fs)))), (3, netCells n)]) rfl hlen.symm]
  rfl
end Go.Proofs.YtfghooojingdhaaDoor
namespace Go.Proofs.YtfghooojingdhaaDoor
open Go Go.QL
set_option maxHeartbeats 1600000
theorem firstErr_zero : ∀ {l : List Int}, (∀ e ∈ l, e = 0) → firstErr l = 0
  | [], _ => rfl
  | e :: r, h => by
    rw [firstErr_cons, if_pos (h e List.mem_cons_self)]
    exact firstErr_zero fun x hx => h x (List.mem_cons_of_mem _ hx)
theorem AskOK.asked {n : NetT} {fs : List FaultT} {ts : List (List Int)} (h : AskOK n fs ts) : askedR n fs ts = 0 := by
  have hfl := h.fl
  have htl := h.tl
  unfold askedR
  rw [if_pos h.chk, if_neg (by omega)]
  refine firstErr_zero fun e he => ?_
  rw [List.mem_append, List.mem_map, List.mem_map] at he
  rcases he with ⟨f, hf, rfl⟩ | ⟨t, ht, rfl⟩
  · exact h.f f hf
  · exact h.t t ht
theorem AskOK.drop {n : NetT} {fs : List FaultT} {ts : List (List Int)} (h : AskOK n fs ts) (k : Nat) : AskOK n fs (ts.drop k) :=
  ⟨h.ok, h.chk, h.fl, by have := h.tl; rw [List.length_drop]; omega, h.f, fun t ht => h.t t (List.mem_of_mem_drop ht)⟩
def resK (n : NetT) (fs : List FaultT) (k : Nat) (ts : List (List Int)) : List (List Int) := ts.map fun t => oR n (fAt fs k) t
theorem resK_get (n : NetT) (fs : List FaultT) (k : Nat) {ts : List (List Int)} {i : Nat} {t : List Int} (h : ts[i]? = some t) : (resK n fs k ts).getD i [] = oR n (fAt fs k) t := by
  unfold resK
  rw [List.getD_eq_getElem?_getD, List.getElem?_map, h]; rfl
theorem gives_all (n : NetT) (fs : List FaultT) (k : Nat) (f : FaultT) (ts : List (List Int)) : givesR n f ts (resK n fs k ts) = true ↔ ∀ t ∈ ts, oR n f t = oR n (fAt fs k) t := by
  unfold givesR
  rw [List.all_eq_true]
  constructor
  · intro h t ht
    obtain ⟨i, hi, rfl⟩ := List.getElem_of_mem ht
    have := h i (List.mem_range.2 hi)
    rw [resK_get n fs k (List.getElem?_eq_getElem hi), List.getD_eq_getElem?_getD, List.getElem?_eq_getElem hi] at this
    exact of_decide_eq_true this
  · intro h i hi
    have hi := List.mem_range.1 hi
    rw [resK_get n fs k (List.getElem?_eq_getElem hi), List.getD_eq_getElem?_getD, List.getElem?_eq_getElem hi]
    exact decide_eq_true (h _ (List.getElem_mem hi))
theorem can_says {n : NetT} {fs : List FaultT} {ts : List (List Int)} (h : AskOK n fs ts) (k : Nat) : canR n fs ts (resK n fs k ts) = (cansR n fs ts (resK n fs k ts) (fs.length + 1), 0) := by
  unfold canR
  rw [if_pos h.asked, if_pos]
  refine ⟨by simp [resK], ?_⟩
  unfold sameLens
  rw [List.all_eq_true]
  intro i hi
  have hi := List.mem_range.1 hi
  rw [resK_get n fs k (List.getElem?_eq_getElem hi), List.getD_eq_getElem?_getD, List.getElem?_eq_getElem hi]
  exact decide_eq_true (outsR_len _ _ _ _)
theorem cans_mem {n : NetT} {fs : List FaultT} {ts rs : List (List Int)} {m : Nat} {x : Int} : x ∈ cansR n fs ts rs m ↔ ∃ l : Nat, l < m ∧ givesR n (fAt fs l) ts rs = true ∧ x = (l : Int) - 1 := by
  unfold cansR
  simp only [List.mem_map, List.mem_filter, List.mem_range]
  constructor
  · rintro ⟨l, ⟨h1, h2⟩, h3⟩; exact ⟨l, h1, h2, h3.symm⟩
  · rintro ⟨l, h1, h2, h3⟩; exact ⟨l, ⟨h1, h2⟩, h3.symm⟩
theorem cans_has (n : NetT) (fs : List FaultT) (ts : List (List Int)) {k : Nat} (hk : k < fs.length + 1) : (k : Int) - 1 ∈ cansR n fs ts (resK n fs k ts) (fs.length + 1) :=
  cans_mem.2 ⟨k, hk, (gives_all n fs k _ ts).2 fun _ _ => rfl, rfl⟩
theorem cans_sub (n : NetT) (fs : List FaultT) (ts : List (List Int)) (k : Nat) {x : Int} (h : x ∈ cansR n fs ts (resK n fs k ts) (fs.length + 1)) : x ∈ cansR n fs (ts.drop 1) (resK n fs k (ts.drop 1)) (fs.length + 1) := by
  obtain ⟨l, h1, h2, h3⟩ := cans_mem.1 h
  refine cans_mem.2 ⟨l, h1, (gives_all n fs k _ _).2 fun t ht => (gives_all n fs k _ _).1 h2 t (List.mem_of_mem_drop ht), h3⟩
theorem cans_none (n : NetT) (fs : List FaultT) (k : Nat) : (cansR n fs [] (resK n fs k []) (fs.length + 1)).length = fs.length + 1 := by
  unfold cansR
  rw [List.length_map, List.filter_eq_self.2, List.length_range]
  intro l _
  rfl
theorem outsT_ask {n : NetT} {fs : List FaultT} {ts : List (List Int)} (h : AskOK n fs ts) : outsT n fs ts = (ts.map fun t => lanesR n fs t, true) := by
  have h1 : ∀ t ∈ ts, okT n fs t = true := by
    intro t ht
    unfold okT
    rw [ask_run h ht, Bool.and_eq_true, List.all_eq_true]
    exact ⟨rfl, fun f hf => by rw [ask_stuck h hf ht]; rfl⟩
  unfold outsT
  rw [if_pos (List.all_eq_true.2 h1)]
  congr 1
  apply List.map_congr_left
  intro t ht
  rw [lanes_cons]
  unfold rowT
  rw [ask_run h ht]
  congr 1
  apply List.map_congr_left
  intro f hf
  rw [ask_stuck h hf ht]
end Go.Proofs.YtfghooojingdhaaDoor
namespace Go.Proofs.YtfghooojingdhaaDoor
open Go Go.QL
set_option maxHeartbeats 3200000
attribute [local irreducible] ACall FnC
theorem run_2 {n : NetT} (ok : NetOK n) {s1 : Nat} {sk : List (W16 × W16)} (hsk : sk.length = n.inn.toNat + n.gates.length) {s2 s3 k' : Nat} {nw : List W16}
    {flt : Nat → FaultT} (hl : LanesOK sk flt 2) (xs : List Int) (hxl : xs.length ≤ 4096) :
    ACall Tryd.prog 71 [.x (.b 900 0), iv .i64 2, sl xs] (sB n s1 sk s2 (dl0 n) s3 k' nw)
      (fun r σ' => ∃ p : Nat × Nat × List W16, r = rowsAV ((List.range 2).map fun l => outsR n (flt l) xs xs.length) ∧ σ' = sB n s1 sk s2 (dl0 n) p.1 p.2.1 p.2.2) := by
  refine ACall_of_AWD hTt Tryd.func71 rfl (by kernel_rfl) (res := [.tmp 6]) rfl Tryd.ntmps71 (by simp) fun w0 K0 B => ?_
  dsimp only [entry]
  repeat' first | with_reducible refine AW_seq ?_ | with_reducible refine AW_block ?_ | ((first | with_reducible refine AW_region hTt ?_ | refine AW_draw hTt hMix (id := 1) 5 true [0, 1, 0, 4, 3, 31] (by kernel_rfl) rfl rfl (by kernel_rfl) ?_ | refine Or.inr ?_ | refine andA ?_ | fail); conv => whnf) | (refine fun hln => ?_; (try rw [List.length_map] at hln); unfold maxLen at hln; conv => whnf) | fail
  refine AW_imp (Imp.freeze 17 (fr' := frR n flt xs 2) (σ' := (15, .box (cellsN 2 0 0)) :: sB n s1 sk s2 (dl0 n) s3 k' nw) rfl ?_ ?_ rfl rfl) ?_
  · exact ⟨⟨_, rfl, .inl rfl⟩, ⟨_, congrArg (fun k : Nat => some (iv .i64 k)) (List.length_map _), .inl rfl⟩, ⟨_, rfl, .inl rfl⟩, ⟨_, rfl, .inl rfl⟩, ⟨_, rfl, .inr ⟨2, rfl, Nat.le_of_ble_eq_true rfl, rfl⟩⟩, ⟨_, rfl, .inl rfl⟩, trivial⟩
  · exact ⟨rfl, rfl, rfl, rfl, rfl, trivial⟩
  refine AW_imp (Imp.nil 600 3 1 (fr' := frR n flt xs 2) (σ' := chN 0 ((15, .box (cellsN 2 0 1)) :: sB n s1 sk s2 (dl0 n) s3 k' nw)) rfl ⟨⟨_, rfl, .inl rfl⟩, ⟨_, rfl, .inl rfl⟩, ⟨_, rfl, .inl rfl⟩, ⟨_, rfl, .inl rfl⟩, ⟨_, rfl, .inl rfl⟩, ⟨_, rfl, .inl rfl⟩, trivial⟩ ?_ rfl rfl) ?_
  · exact ⟨⟨_, rfl, .inr ⟨_, _, rfl, rfl, .inr ⟨rfl, rfl⟩, .inl rfl, trivial⟩⟩, ⟨_, rfl, .inl rfl⟩, ⟨_, rfl, .inl rfl⟩, ⟨_, rfl, .inl rfl⟩, ⟨_, rfl, .inl rfl⟩, trivial⟩
  refine AW_imp (Imp.nil 601 3 1 (fr' := frR n flt xs 2) (σ' := chN 1 ((15, .box (cellsN 2 0 2)) :: sB n s1 sk s2 (dl0 n) s3 k' nw)) rfl ⟨⟨_, rfl, .inl rfl⟩, ⟨_, rfl, .inl rfl⟩, ⟨_, rfl, .inl rfl⟩, ⟨_, rfl, .inl rfl⟩, ⟨_, rfl, .inl rfl⟩, ⟨_, rfl, .inl rfl⟩, trivial⟩ ?_ rfl rfl) ?_
  · exact ⟨⟨_, rfl, .inl rfl⟩, ⟨_, rfl, .inr ⟨_, _, rfl, rfl, .inl rfl, .inr ⟨rfl, rfl⟩, trivial⟩⟩, ⟨_, rfl, .inl rfl⟩, ⟨_, rfl, .inl rfl⟩, ⟨_, rfl, .inl rfl⟩, ⟨_, rfl, .inl rfl⟩, trivial⟩
  refine AW_loop (fun p : Nat × Nat × Nat × List W16 => [(20, iv .i64 p.1), (19, iv .i64 xs.length), (18, sl xs), (7, .x (.sb 15 0 2 2)), (8, sl (stsL n flt xs 2 p.1)), (0, .x (.b 900 0))])
    (fun p => (15, .box [.o 600 (p.1) (p.1), .o 601 (p.1) (p.1)]) :: (600, rwOb n (flt 0) xs (p.1)) :: (601, rwOb n (flt 1) xs (p.1)) :: sB n s1 sk s2 (dl0 n) p.2.1 p.2.2.1 p.2.2.2)
    (fun p => p.1 ≤ xs.length) (fun p => xs.length - p.1) (0, s3, k', nw) (Nat.zero_le _) impA ?_
  rintro ⟨t, a, b, c⟩ ht
  dsimp only at ht ⊢
  rcases Nat.lt_or_ge t xs.length with htl | htl
  · have hbeat := fun s3 k' nw => beat_lanes ok (s1 := s1) hsk (s2 := s2) (s3 := s3) (k' := k') (nw := nw) (k := 2) (by decide) hl xs t xs[t] (getDI htl)
    have hol := otsL_len n flt xs 2 t
    repeat' first | with_reducible refine AW_seq ?_ | with_reducible refine AW_block ?_ | ((first | with_reducible refine AW_skip ?_ | with_reducible refine AW_exit ?_ | with_reducible refine AW_ret ?_ | with_reducible refine AW_region hTt ?_ | fail); conv => whnf) | (exact absurd hb (by omega)) | ((refine ⟨_, (hbeat a b c).frame (asc []) (by repeat (first | exact trivial | refine ⟨rfl, ?_⟩)) rfl (by rintro _ _ ⟨_, rfl, rfl⟩; rfl), ?_⟩); (rintro _ _ ⟨_, _, ⟨_, rfl, rfl⟩, rfl, rfl⟩); conv => whnf) | (refine AW_cond rfl (fun hb => ?_) (fun hb => ?_) <;> first | (replace hb := of_decide_eq_true hb; try simp only [List.length_map] at hb) | (replace hb := of_decide_eq_false hb; try simp only [List.length_map] at hb) | (simp only [List.length_map, bne_iff_ne, ne_eq, beq_iff_eq, bne_eq_false_iff_eq, beq_eq_false_iff_ne, decide_eq_true_eq, decide_eq_false_iff_not, Bool.not_eq_true', Bool.not_eq_false', Int.natCast_inj] at hb) | skip) | ((first | refine andA ?_ | with_reducible refine Exists.intro _ (And.intro (gd_any (And.intro (by omega) (map_get (by omega)))) ?_) | fail); conv => whnf) | (refine fun hln => ?_; (try rw [List.length_map] at hln); unfold maxLen at hln; conv => whnf) | fail
    rename_i pp
    refine AW_loop (fun l : Nat => [(33, iv .i64 l), (32, iv .i64 2), (31, sl (otsL n flt xs 2 t)), (20, iv .i64 t), (19, iv .i64 xs.length), (18, sl xs), (7, .x (.sb 15 0 2 2)), (8, sl (stsL n flt xs 2 (t + 1))), (0, .x (.b 900 0))])
      (fun l => (15, .box [.o 600 (t + bt 0 l) (t + bt 0 l), .o 601 (t + bt 1 l) (t + bt 1 l)]) :: (600, rwOb n (flt 0) xs (t + bt 0 l)) :: (601, rwOb n (flt 1) xs (t + bt 1 l)) :: sB n s1 sk s2 (dl0 n) pp.1 pp.2.1 pp.2.2) (fun l => l ≤ 2) (fun l => 2 - l) 0 (Nat.zero_le _) impA ?_
    intro l hlk
    rcases Nat.lt_or_ge l 2 with hll | hll
    · have hg := ots_at n flt xs t hll
      have e := row_app n (flt l) xs t l
      have hq := bt_self l
      have hz := outsR_len n (flt l) xs (t + bt l l)
      obtain ⟨j, hj⟩ : ∃ j, j = l + 1 := ⟨_, rfl⟩
      have hl' : l = 0 ∨ l = 1 := by omega
      clear hol hbeat ht hlk hll
      rcases hl' with rfl | rfl
      all_goals
        repeat' first | with_reducible refine AW_seq ?_ | with_reducible refine AW_block ?_ | ((first | with_reducible refine AW_skip ?_ | with_reducible refine AW_region hTt ?_ | with_reducible refine Exists.intro _ (And.intro (gd_any (And.intro (by omega) hg)) ?_) | refine And.intro (gd_any (And.intro (by decide) (by decide))) ?_ | fail); conv => whnf) | ((refine And.intro ?_ ?_; focus (refine ⟨?_, ?_, ?_⟩ <;> simp [chunk, maxLen] <;> omega)); conv => whnf) | (refine AW_cond rfl (fun _ => ?_) (fun hb => absurd hb (by decide))) | ((first | refine ⟨_, wrap_of (by first | omega | (simp only [List.length_map]; omega)), ?_⟩ | refine andA ?_ | fail); conv => whnf) | fail
        exact ⟨j, by omega, by omega, by subst hj; exact impA⟩
    have hle : l = 2 := by omega
    subst hle
    repeat' first | with_reducible refine AW_seq ?_ | ((first | with_reducible refine AW_exit ?_ | with_reducible refine AW_region hTt ?_ | fail); conv => whnf) | (refine AW_cond rfl (fun hb => absurd hb (by decide)) (fun _ => ?_)) | ((refine ⟨_, wrap_of (by first | omega | (simp only [List.length_map]; omega)), ?_⟩); conv => whnf) | fail
    exact ⟨(t + 1, pp.1, pp.2.1, pp.2.2), by show t + 1 ≤ xs.length; omega, by show xs.length - (t + 1) < xs.length - t; omega, impA⟩
  · have hte : t = xs.length := by omega
    subst hte
    repeat' first | with_reducible refine AW_seq ?_ | with_reducible refine AW_block ?_ | ((first | with_reducible refine AW_skip ?_ | with_reducible refine AW_exit ?_ | with_reducible refine AW_ret ?_ | with_reducible refine AW_region hTt ?_ | fail); conv => whnf) | (exact absurd hb (by omega)) | (refine AW_cond rfl (fun hb => ?_) (fun hb => ?_) <;> first | (replace hb := of_decide_eq_true hb; try simp only [List.length_map] at hb) | (replace hb := of_decide_eq_false hb; try simp only [List.length_map] at hb) | (simp only [List.length_map, bne_iff_ne, ne_eq, beq_iff_eq, bne_eq_false_iff_eq, beq_eq_false_iff_ne, decide_eq_true_eq, decide_eq_false_iff_not, Bool.not_eq_true', Bool.not_eq_false', Int.natCast_inj] at hb) | skip) | fail
    refine ⟨_, sB n s1 sk s2 (dl0 n) a b c, ⟨rfl, rfl, rfl, rfl, trivial⟩, rfl, (?_ : _ = some (rowsAV ((List.range 2).map fun l => outsR n (flt l) xs xs.length))), (a, b, c), rfl, rfl⟩
    have hk := keepRows (σ := (15, .box [.o 600 xs.length xs.length, .o 601 xs.length xs.length]) :: (600, rwOb n (flt 0) xs xs.length) :: (601, rwOb n (flt 1) xs xs.length) :: sB n s1 sk s2 (dl0 n) a b c) (σ' := sB n s1 sk s2 (dl0 n) a b c) (id := 15) (n := 2) (cap := 2) (ps := [PV.s 1 ((outsR n (flt 0) xs xs.length).map iPV), PV.s 1 ((outsR n (flt 1) xs xs.length).map iPV)]) rfl rfl
      (by repeat' first | exact rfl | refine rowPVs_cons (rowPV_o rfl rfl (by rw [List.length_map, outsR_len])) ?_) rfl
    exact outKeep1 (x := .x (.sb 15 0 2 2)) rfl hk
end Go.Proofs.YtfghooojingdhaaDoor
namespace Go.Proofs.YtfghooojingdhaaDoor
open Go Go.QL
set_option maxHeartbeats 3200000
attribute [local irreducible] ACall FnC
theorem run_3 {n : NetT} (ok : NetOK n) {s1 : Nat} {sk : List (W16 × W16)} (hsk : sk.length = n.inn.toNat + n.gates.length) {s2 s3 k' : Nat} {nw : List W16}
    {flt : Nat → FaultT} (hl : LanesOK sk flt 3) (xs : List Int) (hxl : xs.length ≤ 4096) :
    ACall Tryd.prog 71 [.x (.b 900 0), iv .i64 3, sl xs] (sB n s1 sk s2 (dl0 n) s3 k' nw)
      (fun r σ' => ∃ p : Nat × Nat × List W16, r = rowsAV ((List.range 3).map fun l => outsR n (flt l) xs xs.length) ∧ σ' = sB n s1 sk s2 (dl0 n) p.1 p.2.1 p.2.2) := by
  refine ACall_of_AWD hTt Tryd.func71 rfl (by kernel_rfl) (res := [.tmp 6]) rfl Tryd.ntmps71 (by simp) fun w0 K0 B => ?_
  dsimp only [entry]
  repeat' first | with_reducible refine AW_seq ?_ | with_reducible refine AW_block ?_ | ((first | with_reducible refine AW_region hTt ?_ | refine AW_draw hTt hMix (id := 1) 5 true [0, 1, 0, 4, 3, 31] (by kernel_rfl) rfl rfl (by kernel_rfl) ?_ | refine Or.inr ?_ | refine andA ?_ | fail); conv => whnf) | (refine fun hln => ?_; (try rw [List.length_map] at hln); unfold maxLen at hln; conv => whnf) | fail
  refine AW_imp (Imp.freeze 17 (fr' := frR n flt xs 3) (σ' := (15, .box (cellsN 3 0 0)) :: sB n s1 sk s2 (dl0 n) s3 k' nw) rfl ?_ ?_ rfl rfl) ?_
  · exact ⟨⟨_, rfl, .inl rfl⟩, ⟨_, congrArg (fun k : Nat => some (iv .i64 k)) (List.length_map _), .inl rfl⟩, ⟨_, rfl, .inl rfl⟩, ⟨_, rfl, .inl rfl⟩, ⟨_, rfl, .inr ⟨3, rfl, Nat.le_of_ble_eq_true rfl, rfl⟩⟩, ⟨_, rfl, .inl rfl⟩, trivial⟩
  · exact ⟨rfl, rfl, rfl, rfl, rfl, trivial⟩
  refine AW_imp (Imp.nil 600 3 1 (fr' := frR n flt xs 3) (σ' := chN 0 ((15, .box (cellsN 3 0 1)) :: sB n s1 sk s2 (dl0 n) s3 k' nw)) rfl ⟨⟨_, rfl, .inl rfl⟩, ⟨_, rfl, .inl rfl⟩, ⟨_, rfl, .inl rfl⟩, ⟨_, rfl, .inl rfl⟩, ⟨_, rfl, .inl rfl⟩, ⟨_, rfl, .inl rfl⟩, trivial⟩ ?_ rfl rfl) ?_
  · exact ⟨⟨_, rfl, .inr ⟨_, _, rfl, rfl, .inr ⟨rfl, rfl⟩, .inl rfl, .inl rfl, trivial⟩⟩, ⟨_, rfl, .inl rfl⟩, ⟨_, rfl, .inl rfl⟩, ⟨_, rfl, .inl rfl⟩, ⟨_, rfl, .inl rfl⟩, trivial⟩
  refine AW_imp (Imp.nil 601 3 1 (fr' := frR n flt xs 3) (σ' := chN 1 ((15, .box (cellsN 3 0 2)) :: sB n s1 sk s2 (dl0 n) s3 k' nw)) rfl ⟨⟨_, rfl, .inl rfl⟩, ⟨_, rfl, .inl rfl⟩, ⟨_, rfl, .inl rfl⟩, ⟨_, rfl, .inl rfl⟩, ⟨_, rfl, .inl rfl⟩, ⟨_, rfl, .inl rfl⟩, trivial⟩ ?_ rfl rfl) ?_
  · exact ⟨⟨_, rfl, .inl rfl⟩, ⟨_, rfl, .inr ⟨_, _, rfl, rfl, .inl rfl, .inr ⟨rfl, rfl⟩, .inl rfl, trivial⟩⟩, ⟨_, rfl, .inl rfl⟩, ⟨_, rfl, .inl rfl⟩, ⟨_, rfl, .inl rfl⟩, ⟨_, rfl, .inl rfl⟩, trivial⟩
  refine AW_imp (Imp.nil 602 3 1 (fr' := frR n flt xs 3) (σ' := chN 2 ((15, .box (cellsN 3 0 3)) :: sB n s1 sk s2 (dl0 n) s3 k' nw)) rfl ⟨⟨_, rfl, .inl rfl⟩, ⟨_, rfl, .inl rfl⟩, ⟨_, rfl, .inl rfl⟩, ⟨_, rfl, .inl rfl⟩, ⟨_, rfl, .inl rfl⟩, ⟨_, rfl, .inl rfl⟩, trivial⟩ ?_ rfl rfl) ?_
  · exact ⟨⟨_, rfl, .inl rfl⟩, ⟨_, rfl, .inl rfl⟩, ⟨_, rfl, .inr ⟨_, _, rfl, rfl, .inl rfl, .inl rfl, .inr ⟨rfl, rfl⟩, trivial⟩⟩, ⟨_, rfl, .inl rfl⟩, ⟨_, rfl, .inl rfl⟩, ⟨_, rfl, .inl rfl⟩, ⟨_, rfl, .inl rfl⟩, trivial⟩
  refine AW_loop (fun p : Nat × Nat × Nat × List W16 => [(20, iv .i64 p.1), (19, iv .i64 xs.length), (18, sl xs), (7, .x (.sb 15 0 3 3)), (8, sl (stsL n flt xs 3 p.1)), (0, .x (.b 900 0))])
    (fun p => (15, .box [.o 600 (p.1) (p.1), .o 601 (p.1) (p.1), .o 602 (p.1) (p.1)]) :: (600, rwOb n (flt 0) xs (p.1)) :: (601, rwOb n (flt 1) xs (p.1)) :: (602, rwOb n (flt 2) xs (p.1)) :: sB n s1 sk s2 (dl0 n) p.2.1 p.2.2.1 p.2.2.2)
    (fun p => p.1 ≤ xs.length) (fun p => xs.length - p.1) (0, s3, k', nw) (Nat.zero_le _) impA ?_
  rintro ⟨t, a, b, c⟩ ht
  dsimp only at ht ⊢
  rcases Nat.lt_or_ge t xs.length with htl | htl
  · have hbeat := fun s3 k' nw => beat_lanes ok (s1 := s1) hsk (s2 := s2) (s3 := s3) (k' := k') (nw := nw) (k := 3) (by decide) hl xs t xs[t] (getDI htl)
    have hol := otsL_len n flt xs 3 t
    repeat' first | with_reducible refine AW_seq ?_ | with_reducible refine AW_block ?_ | ((first | with_reducible refine AW_skip ?_ | with_reducible refine AW_exit ?_ | with_reducible refine AW_ret ?_ | with_reducible refine AW_region hTt ?_ | fail); conv => whnf) | (exact absurd hb (by omega)) | ((refine ⟨_, (hbeat a b c).frame (asc []) (by repeat (first | exact trivial | refine ⟨rfl, ?_⟩)) rfl (by rintro _ _ ⟨_, rfl, rfl⟩; rfl), ?_⟩); (rintro _ _ ⟨_, _, ⟨_, rfl, rfl⟩, rfl, rfl⟩); conv => whnf) | (refine AW_cond rfl (fun hb => ?_) (fun hb => ?_) <;> first | (replace hb := of_decide_eq_true hb; try simp only [List.length_map] at hb) | (replace hb := of_decide_eq_false hb; try simp only [List.length_map] at hb) | (simp only [List.length_map, bne_iff_ne, ne_eq, beq_iff_eq, bne_eq_false_iff_eq, beq_eq_false_iff_ne, decide_eq_true_eq, decide_eq_false_iff_not, Bool.not_eq_true', Bool.not_eq_false', Int.natCast_inj] at hb) | skip) | ((first | refine andA ?_ | with_reducible refine Exists.intro _ (And.intro (gd_any (And.intro (by omega) (map_get (by omega)))) ?_) | fail); conv => whnf) | (refine fun hln => ?_; (try rw [List.length_map] at hln); unfold maxLen at hln; conv => whnf) | fail
    rename_i pp
    refine AW_loop (fun l : Nat => [(33, iv .i64 l), (32, iv .i64 3), (31, sl (otsL n flt xs 3 t)), (20, iv .i64 t), (19, iv .i64 xs.length), (18, sl xs), (7, .x (.sb 15 0 3 3)), (8, sl (stsL n flt xs 3 (t + 1))), (0, .x (.b 900 0))])
      (fun l => (15, .box [.o 600 (t + bt 0 l) (t + bt 0 l), .o 601 (t + bt 1 l) (t + bt 1 l), .o 602 (t + bt 2 l) (t + bt 2 l)]) :: (600, rwOb n (flt 0) xs (t + bt 0 l)) :: (601, rwOb n (flt 1) xs (t + bt 1 l)) :: (602, rwOb n (flt 2) xs (t + bt 2 l)) :: sB n s1 sk s2 (dl0 n) pp.1 pp.2.1 pp.2.2) (fun l => l ≤ 3) (fun l => 3 - l) 0 (Nat.zero_le _) impA ?_
    intro l hlk
    rcases Nat.lt_or_ge l 3 with hll | hll
    · have hg := ots_at n flt xs t hll
      have e := row_app n (flt l) xs t l
      have hq := bt_self l
      have hz := outsR_len n (flt l) xs (t + bt l l)
      obtain ⟨j, hj⟩ : ∃ j, j = l + 1 := ⟨_, rfl⟩
      have hl' : l = 0 ∨ l = 1 ∨ l = 2 := by omega
      clear hol hbeat ht hlk hll
      rcases hl' with rfl | rfl | rfl
      all_goals
        repeat' first | with_reducible refine AW_seq ?_ | with_reducible refine AW_block ?_ | ((first | with_reducible refine AW_skip ?_ | with_reducible refine AW_region hTt ?_ | with_reducible refine Exists.intro _ (And.intro (gd_any (And.intro (by omega) hg)) ?_) | refine And.intro (gd_any (And.intro (by decide) (by decide))) ?_ | fail); conv => whnf) | ((refine And.intro ?_ ?_; focus (refine ⟨?_, ?_, ?_⟩ <;> simp [chunk, maxLen] <;> omega)); conv => whnf) | (refine AW_cond rfl (fun _ => ?_) (fun hb => absurd hb (by decide))) | ((first | refine ⟨_, wrap_of (by first | omega | (simp only [List.length_map]; omega)), ?_⟩ | refine andA ?_ | fail); conv => whnf) | fail
        exact ⟨j, by omega, by omega, by subst hj; exact impA⟩
    have hle : l = 3 := by omega
    subst hle
    repeat' first | with_reducible refine AW_seq ?_ | ((first | with_reducible refine AW_exit ?_ | with_reducible refine AW_region hTt ?_ | fail); conv => whnf) | (refine AW_cond rfl (fun hb => absurd hb (by decide)) (fun _ => ?_)) | ((refine ⟨_, wrap_of (by first | omega | (simp only [List.length_map]; omega)), ?_⟩); conv => whnf) | fail
    exact ⟨(t + 1, pp.1, pp.2.1, pp.2.2), by show t + 1 ≤ xs.length; omega, by show xs.length - (t + 1) < xs.length - t; omega, impA⟩
  · have hte : t = xs.length := by omega
    subst hte
    repeat' first | with_reducible refine AW_seq ?_ | with_reducible refine AW_block ?_ | ((first | with_reducible refine AW_skip ?_ | with_reducible refine AW_exit ?_ | with_reducible refine AW_ret ?_ | with_reducible refine AW_region hTt ?_ | fail); conv => whnf) | (exact absurd hb (by omega)) | (refine AW_cond rfl (fun hb => ?_) (fun hb => ?_) <;> first | (replace hb := of_decide_eq_true hb; try simp only [List.length_map] at hb) | (replace hb := of_decide_eq_false hb; try simp only [List.length_map] at hb) | (simp only [List.length_map, bne_iff_ne, ne_eq, beq_iff_eq, bne_eq_false_iff_eq, beq_eq_false_iff_ne, decide_eq_true_eq, decide_eq_false_iff_not, Bool.not_eq_true', Bool.not_eq_false', Int.natCast_inj] at hb) | skip) | fail
    refine ⟨_, sB n s1 sk s2 (dl0 n) a b c, ⟨rfl, rfl, rfl, rfl, trivial⟩, rfl, (?_ : _ = some (rowsAV ((List.range 3).map fun l => outsR n (flt l) xs xs.length))), (a, b, c), rfl, rfl⟩
    have hk := keepRows (σ := (15, .box [.o 600 xs.length xs.length, .o 601 xs.length xs.length, .o 602 xs.length xs.length]) :: (600, rwOb n (flt 0) xs xs.length) :: (601, rwOb n (flt 1) xs xs.length) :: (602, rwOb n (flt 2) xs xs.length) :: sB n s1 sk s2 (dl0 n) a b c) (σ' := sB n s1 sk s2 (dl0 n) a b c) (id := 15) (n := 3) (cap := 3) (ps := [PV.s 1 ((outsR n (flt 0) xs xs.length).map iPV), PV.s 1 ((outsR n (flt 1) xs xs.length).map iPV), PV.s 1 ((outsR n (flt 2) xs xs.length).map iPV)]) rfl rfl
      (by repeat' first | exact rfl | refine rowPVs_cons (rowPV_o rfl rfl (by rw [List.length_map, outsR_len])) ?_) rfl
    exact outKeep1 (x := .x (.sb 15 0 3 3)) rfl hk
end Go.Proofs.YtfghooojingdhaaDoor
namespace Go.Proofs.YtfghooojingdhaaDoor
open Go Go.QL
set_option maxHeartbeats 3200000
attribute [local irreducible] ACall FnC
theorem run_4 {n : NetT} (ok : NetOK n) {s1 : Nat} {sk : List (W16 × W16)} (hsk : sk.length = n.inn.toNat + n.gates.length) {s2 s3 k' : Nat} {nw : List W16}
    {flt : Nat → FaultT} (hl : LanesOK sk flt 4) (xs : List Int) (hxl : xs.length ≤ 4096) :
    ACall Tryd.prog 71 [.x (.b 900 0), iv .i64 4, sl xs] (sB n s1 sk s2 (dl0 n) s3 k' nw)
      (fun r σ' => ∃ p : Nat × Nat × List W16, r = rowsAV ((List.range 4).map fun l => outsR n (flt l) xs xs.length) ∧ σ' = sB n s1 sk s2 (dl0 n) p.1 p.2.1 p.2.2) := by
  refine ACall_of_AWD hTt Tryd.func71 rfl (by kernel_rfl) (res := [.tmp 6]) rfl Tryd.ntmps71 (by simp) fun w0 K0 B => ?_
  dsimp only [entry]
  repeat' first | with_reducible refine AW_seq ?_ | with_reducible refine AW_block ?_ | ((first | with_reducible refine AW_region hTt ?_ | refine AW_draw hTt hMix (id := 1) 5 true [0, 1, 0, 4, 3, 31] (by kernel_rfl) rfl rfl (by kernel_rfl) ?_ | refine Or.inr ?_ | refine andA ?_ | fail); conv => whnf) | (refine fun hln => ?_; (try rw [List.length_map] at hln); unfold maxLen at hln; conv => whnf) | fail
  refine AW_imp (Imp.freeze 17 (fr' := frR n flt xs 4) (σ' := (15, .box (cellsN 4 0 0)) :: sB n s1 sk s2 (dl0 n) s3 k' nw) rfl ?_ ?_ rfl rfl) ?_
  · exact ⟨⟨_, rfl, .inl rfl⟩, ⟨_, congrArg (fun k : Nat => some (iv .i64 k)) (List.length_map _), .inl rfl⟩, ⟨_, rfl, .inl rfl⟩, ⟨_, rfl, .inl rfl⟩, ⟨_, rfl, .inr ⟨4, rfl, Nat.le_of_ble_eq_true rfl, rfl⟩⟩, ⟨_, rfl, .inl rfl⟩, trivial⟩
  · exact ⟨rfl, rfl, rfl, rfl, rfl, trivial⟩
  refine AW_imp (Imp.nil 600 3 1 (fr' := frR n flt xs 4) (σ' := chN 0 ((15, .box (cellsN 4 0 1)) :: sB n s1 sk s2 (dl0 n) s3 k' nw)) rfl ⟨⟨_, rfl, .inl rfl⟩, ⟨_, rfl, .inl rfl⟩, ⟨_, rfl, .inl rfl⟩, ⟨_, rfl, .inl rfl⟩, ⟨_, rfl, .inl rfl⟩, ⟨_, rfl, .inl rfl⟩, trivial⟩ ?_ rfl rfl) ?_
  · exact ⟨⟨_, rfl, .inr ⟨_, _, rfl, rfl, .inr ⟨rfl, rfl⟩, .inl rfl, .inl rfl, .inl rfl, trivial⟩⟩, ⟨_, rfl, .inl rfl⟩, ⟨_, rfl, .inl rfl⟩, ⟨_, rfl, .inl rfl⟩, ⟨_, rfl, .inl rfl⟩, trivial⟩
  refine AW_imp (Imp.nil 601 3 1 (fr' := frR n flt xs 4) (σ' := chN 1 ((15, .box (cellsN 4 0 2)) :: sB n s1 sk s2 (dl0 n) s3 k' nw)) rfl ⟨⟨_, rfl, .inl rfl⟩, ⟨_, rfl, .inl rfl⟩, ⟨_, rfl, .inl rfl⟩, ⟨_, rfl, .inl rfl⟩, ⟨_, rfl, .inl rfl⟩, ⟨_, rfl, .inl rfl⟩, trivial⟩ ?_ rfl rfl) ?_
  · exact ⟨⟨_, rfl, .inl rfl⟩, ⟨_, rfl, .inr ⟨_, _, rfl, rfl, .inl rfl, .inr ⟨rfl, rfl⟩, .inl rfl, .inl rfl, trivial⟩⟩, ⟨_, rfl, .inl rfl⟩, ⟨_, rfl, .inl rfl⟩, ⟨_, rfl, .inl rfl⟩, ⟨_, rfl, .inl rfl⟩, trivial⟩
  refine AW_imp (Imp.nil 602 3 1 (fr' := frR n flt xs 4) (σ' := chN 2 ((15, .box (cellsN 4 0 3)) :: sB n s1 sk s2 (dl0 n) s3 k' nw)) rfl ⟨⟨_, rfl, .inl rfl⟩, ⟨_, rfl, .inl rfl⟩, ⟨_, rfl, .inl rfl⟩, ⟨_, rfl, .inl rfl⟩, ⟨_, rfl, .inl rfl⟩, ⟨_, rfl, .inl rfl⟩, trivial⟩ ?_ rfl rfl) ?_
  · exact ⟨⟨_, rfl, .inl rfl⟩, ⟨_, rfl, .inl rfl⟩, ⟨_, rfl, .inr ⟨_, _, rfl, rfl, .inl rfl, .inl rfl, .inr ⟨rfl, rfl⟩, .inl rfl, trivial⟩⟩, ⟨_, rfl, .inl rfl⟩, ⟨_, rfl, .inl rfl⟩, ⟨_, rfl, .inl rfl⟩, ⟨_, rfl, .inl rfl⟩, trivial⟩
  refine AW_imp (Imp.nil 603 3 1 (fr' := frR n flt xs 4) (σ' := chN 3 ((15, .box (cellsN 4 0 4)) :: sB n s1 sk s2 (dl0 n) s3 k' nw)) rfl ⟨⟨_, rfl, .inl rfl⟩, ⟨_, rfl, .inl rfl⟩, ⟨_, rfl, .inl rfl⟩, ⟨_, rfl, .inl rfl⟩, ⟨_, rfl, .inl rfl⟩, ⟨_, rfl, .inl rfl⟩, trivial⟩ ?_ rfl rfl) ?_
  · exact ⟨⟨_, rfl, .inl rfl⟩, ⟨_, rfl, .inl rfl⟩, ⟨_, rfl, .inl rfl⟩, ⟨_, rfl, .inr ⟨_, _, rfl, rfl, .inl rfl, .inl rfl, .inl rfl, .inr ⟨rfl, rfl⟩, trivial⟩⟩, ⟨_, rfl, .inl rfl⟩, ⟨_, rfl, .inl rfl⟩, ⟨_, rfl, .inl rfl⟩, ⟨_, rfl, .inl rfl⟩, trivial⟩
  refine AW_loop (fun p : Nat × Nat × Nat × List W16 => [(20, iv .i64 p.1), (19, iv .i64 xs.length), (18, sl xs), (7, .x (.sb 15 0 4 4)), (8, sl (stsL n flt xs 4 p.1)), (0, .x (.b 900 0))])
    (fun p => (15, .box [.o 600 (p.1) (p.1), .o 601 (p.1) (p.1), .o 602 (p.1) (p.1), .o 603 (p.1) (p.1)]) :: (600, rwOb n (flt 0) xs (p.1)) :: (601, rwOb n (flt 1) xs (p.1)) :: (602, rwOb n (flt 2) xs (p.1)) :: (603, rwOb n (flt 3) xs (p.1)) :: sB n s1 sk s2 (dl0 n) p.2.1 p.2.2.1 p.2.2.2)
    (fun p => p.1 ≤ xs.length) (fun p => xs.length - p.1) (0, s3, k', nw) (Nat.zero_le _) impA ?_
  rintro ⟨t, a, b, c⟩ ht
  dsimp only at ht ⊢
  rcases Nat.lt_or_ge t xs.length with htl | htl
  · have hbeat := fun s3 k' nw => beat_lanes ok (s1 := s1) hsk (s2 := s2) (s3 := s3) (k' := k') (nw := nw) (k := 4) (by decide) hl xs t xs[t] (getDI htl)
    have hol := otsL_len n flt xs 4 t
    repeat' first | with_reducible refine AW_seq ?_ | with_reducible refine AW_block ?_ | ((first | with_reducible refine AW_skip ?_ | with_reducible refine AW_exit ?_ | with_reducible refine AW_ret ?_ | with_reducible refine AW_region hTt ?_ | fail); conv => whnf) | (exact absurd hb (by omega)) | ((refine ⟨_, (hbeat a b c).frame (asc []) (by repeat (first | exact trivial | refine ⟨rfl, ?_⟩)) rfl (by rintro _ _ ⟨_, rfl, rfl⟩; rfl), ?_⟩); (rintro _ _ ⟨_, _, ⟨_, rfl, rfl⟩, rfl, rfl⟩); conv => whnf) | (refine AW_cond rfl (fun hb => ?_) (fun hb => ?_) <;> first | (replace hb := of_decide_eq_true hb; try simp only [List.length_map] at hb) | (replace hb := of_decide_eq_false hb; try simp only [List.length_map] at hb) | (simp only [List.length_map, bne_iff_ne, ne_eq, beq_iff_eq, bne_eq_false_iff_eq, beq_eq_false_iff_ne, decide_eq_true_eq, decide_eq_false_iff_not, Bool.not_eq_true', Bool.not_eq_false', Int.natCast_inj] at hb) | skip) | ((first | refine andA ?_ | with_reducible refine Exists.intro _ (And.intro (gd_any (And.intro (by omega) (map_get (by omega)))) ?_) | fail); conv => whnf) | (refine fun hln => ?_; (try rw [List.length_map] at hln); unfold maxLen at hln; conv => whnf) | fail
    rename_i pp
    refine AW_loop (fun l : Nat => [(33, iv .i64 l), (32, iv .i64 4), (31, sl (otsL n flt xs 4 t)), (20, iv .i64 t), (19, iv .i64 xs.length), (18, sl xs), (7, .x (.sb 15 0 4 4)), (8, sl (stsL n flt xs 4 (t + 1))), (0, .x (.b 900 0))])
      (fun l => (15, .box [.o 600 (t + bt 0 l) (t + bt 0 l), .o 601 (t + bt 1 l) (t + bt 1 l), .o 602 (t + bt 2 l) (t + bt 2 l), .o 603 (t + bt 3 l) (t + bt 3 l)]) :: (600, rwOb n (flt 0) xs (t + bt 0 l)) :: (601, rwOb n (flt 1) xs (t + bt 1 l)) :: (602, rwOb n (flt 2) xs (t + bt 2 l)) :: (603, rwOb n (flt 3) xs (t + bt 3 l)) :: sB n s1 sk s2 (dl0 n) pp.1 pp.2.1 pp.2.2) (fun l => l ≤ 4) (fun l => 4 - l) 0 (Nat.zero_le _) impA ?_
    intro l hlk
    rcases Nat.lt_or_ge l 4 with hll | hll
    · have hg := ots_at n flt xs t hll
      have e := row_app n (flt l) xs t l
      have hq := bt_self l
      have hz := outsR_len n (flt l) xs (t + bt l l)
      obtain ⟨j, hj⟩ : ∃ j, j = l + 1 := ⟨_, rfl⟩
      have hl' : l = 0 ∨ l = 1 ∨ l = 2 ∨ l = 3 := by omega
      clear hol hbeat ht hlk hll
      rcases hl' with rfl | rfl | rfl | rfl
      all_goals
        repeat' first | with_reducible refine AW_seq ?_ | with_reducible refine AW_block ?_ | ((first | with_reducible refine AW_skip ?_ | with_reducible refine AW_region hTt ?_ | with_reducible refine Exists.intro _ (And.intro (gd_any (And.intro (by omega) hg)) ?_) | refine And.intro (gd_any (And.intro (by decide) (by decide))) ?_ | fail); conv => whnf) | ((refine And.intro ?_ ?_; focus (refine ⟨?_, ?_, ?_⟩ <;> simp [chunk, maxLen] <;> omega)); conv => whnf) | (refine AW_cond rfl (fun _ => ?_) (fun hb => absurd hb (by decide))) | ((first | refine ⟨_, wrap_of (by first | omega | (simp only [List.length_map]; omega)), ?_⟩ | refine andA ?_ | fail); conv => whnf) | fail
        exact ⟨j, by omega, by omega, by subst hj; exact impA⟩
    have hle : l = 4 := by omega
    subst hle
    repeat' first | with_reducible refine AW_seq ?_ | ((first | with_reducible refine AW_exit ?_ | with_reducible refine AW_region hTt ?_ | fail); conv => whnf) | (refine AW_cond rfl (fun hb => absurd hb (by decide)) (fun _ => ?_)) | ((refine ⟨_, wrap_of (by first | omega | (simp only [List.length_map]; omega)), ?_⟩); conv => whnf) | fail
    exact ⟨(t + 1, pp.1, pp.2.1, pp.2.2), by show t + 1 ≤ xs.length; omega, by show xs.length - (t + 1) < xs.length - t; omega, impA⟩
  · have hte : t = xs.length := by omega
    subst hte
    repeat' first | with_reducible refine AW_seq ?_ | with_reducible refine AW_block ?_ | ((first | with_reducible refine AW_skip ?_ | with_reducible refine AW_exit ?_ | with_reducible refine AW_ret ?_ | with_reducible refine AW_region hTt ?_ | fail); conv => whnf) | (exact absurd hb (by omega)) | (refine AW_cond rfl (fun hb => ?_) (fun hb => ?_) <;> first | (replace hb := of_decide_eq_true hb; try simp only [List.length_map] at hb) | (replace hb := of_decide_eq_false hb; try simp only [List.length_map] at hb) | (simp only [List.length_map, bne_iff_ne, ne_eq, beq_iff_eq, bne_eq_false_iff_eq, beq_eq_false_iff_ne, decide_eq_true_eq, decide_eq_false_iff_not, Bool.not_eq_true', Bool.not_eq_false', Int.natCast_inj] at hb) | skip) | fail
    refine ⟨_, sB n s1 sk s2 (dl0 n) a b c, ⟨rfl, rfl, rfl, rfl, trivial⟩, rfl, (?_ : _ = some (rowsAV ((List.range 4).map fun l => outsR n (flt l) xs xs.length))), (a, b, c), rfl, rfl⟩
    have hk := keepRows (σ := (15, .box [.o 600 xs.length xs.length, .o 601 xs.length xs.length, .o 602 xs.length xs.length, .o 603 xs.length xs.length]) :: (600, rwOb n (flt 0) xs xs.length) :: (601, rwOb n (flt 1) xs xs.length) :: (602, rwOb n (flt 2) xs xs.length) :: (603, rwOb n (flt 3) xs xs.length) :: sB n s1 sk s2 (dl0 n) a b c) (σ' := sB n s1 sk s2 (dl0 n) a b c) (id := 15) (n := 4) (cap := 4) (ps := [PV.s 1 ((outsR n (flt 0) xs xs.length).map iPV), PV.s 1 ((outsR n (flt 1) xs xs.length).map iPV), PV.s 1 ((outsR n (flt 2) xs xs.length).map iPV), PV.s 1 ((outsR n (flt 3) xs xs.length).map iPV)]) rfl rfl
      (by repeat' first | exact rfl | refine rowPVs_cons (rowPV_o rfl rfl (by rw [List.length_map, outsR_len])) ?_) rfl
    exact outKeep1 (x := .x (.sb 15 0 4 4)) rfl hk
end Go.Proofs.YtfghooojingdhaaDoor
namespace Go.Proofs.YtfghooojingdhaaDoor
open Go Go.QL
set_option maxHeartbeats 3200000
attribute [local irreducible] ACall FnC
theorem run_6 {n : NetT} (ok : NetOK n) {s1 : Nat} {sk : List (W16 × W16)} (hsk : sk.length = n.inn.toNat + n.gates.length) {s2 s3 k' : Nat} {nw : List W16}
    {flt : Nat → FaultT} (hl : LanesOK sk flt 6) (xs : List Int) (hxl : xs.length ≤ 4096) :
    ACall Tryd.prog 71 [.x (.b 900 0), iv .i64 6, sl xs] (sB n s1 sk s2 (dl0 n) s3 k' nw)
      (fun r σ' => ∃ p : Nat × Nat × List W16, r = rowsAV ((List.range 6).map fun l => outsR n (flt l) xs xs.length) ∧ σ' = sB n s1 sk s2 (dl0 n) p.1 p.2.1 p.2.2) := by
  refine ACall_of_AWD hTt Tryd.func71 rfl (by kernel_rfl) (res := [.tmp 6]) rfl Tryd.ntmps71 (by simp) fun w0 K0 B => ?_
  dsimp only [entry]
  repeat' first | with_reducible refine AW_seq ?_ | with_reducible refine AW_block ?_ | ((first | with_reducible refine AW_region hTt ?_ | refine AW_draw hTt hMix (id := 1) 5 true [0, 1, 0, 4, 3, 31] (by kernel_rfl) rfl rfl (by kernel_rfl) ?_ | refine Or.inr ?_ | refine andA ?_ | fail); conv => whnf) | (refine fun hln => ?_; (try rw [List.length_map] at hln); unfold maxLen at hln; conv => whnf) | fail
  refine AW_imp (Imp.freeze 17 (fr' := frR n flt xs 6) (σ' := (15, .box (cellsN 6 0 0)) :: sB n s1 sk s2 (dl0 n) s3 k' nw) rfl ?_ ?_ rfl rfl) ?_
  · exact ⟨⟨_, rfl, .inl rfl⟩, ⟨_, congrArg (fun k : Nat => some (iv .i64 k)) (List.length_map _), .inl rfl⟩, ⟨_, rfl, .inl rfl⟩, ⟨_, rfl, .inl rfl⟩, ⟨_, rfl, .inr ⟨6, rfl, Nat.le_of_ble_eq_true rfl, rfl⟩⟩, ⟨_, rfl, .inl rfl⟩, trivial⟩
  · exact ⟨rfl, rfl, rfl, rfl, rfl, trivial⟩
  refine AW_imp (Imp.nil 600 3 1 (fr' := frR n flt xs 6) (σ' := chN 0 ((15, .box (cellsN 6 0 1)) :: sB n s1 sk s2 (dl0 n) s3 k' nw)) rfl ⟨⟨_, rfl, .inl rfl⟩, ⟨_, rfl, .inl rfl⟩, ⟨_, rfl, .inl rfl⟩, ⟨_, rfl, .inl rfl⟩, ⟨_, rfl, .inl rfl⟩, ⟨_, rfl, .inl rfl⟩, trivial⟩ ?_ rfl rfl) ?_
  · exact ⟨⟨_, rfl, .inr ⟨_, _, rfl, rfl, .inr ⟨rfl, rfl⟩, .inl rfl, .inl rfl, .inl rfl, .inl rfl, .inl rfl, trivial⟩⟩, ⟨_, rfl, .inl rfl⟩, ⟨_, rfl, .inl rfl⟩, ⟨_, rfl, .inl rfl⟩, ⟨_, rfl, .inl rfl⟩, trivial⟩
  refine AW_imp (Imp.nil 601 3 1 (fr' := frR n flt xs 6) (σ' := chN 1 ((15, .box (cellsN 6 0 2)) :: sB n s1 sk s2 (dl0 n) s3 k' nw)) rfl ⟨⟨_, rfl, .inl rfl⟩, ⟨_, rfl, .inl rfl⟩, ⟨_, rfl, .inl rfl⟩, ⟨_, rfl, .inl rfl⟩, ⟨_, rfl, .inl rfl⟩, ⟨_, rfl, .inl rfl⟩, trivial⟩ ?_ rfl rfl) ?_
  · exact ⟨⟨_, rfl, .inl rfl⟩, ⟨_, rfl, .inr ⟨_, _, rfl, rfl, .inl rfl, .inr ⟨rfl, rfl⟩, .inl rfl, .inl rfl, .inl rfl, .inl rfl, trivial⟩⟩, ⟨_, rfl, .inl rfl⟩, ⟨_, rfl, .inl rfl⟩, ⟨_, rfl, .inl rfl⟩, ⟨_, rfl, .inl rfl⟩, trivial⟩
  refine AW_imp (Imp.nil 602 3 1 (fr' := frR n flt xs 6) (σ' := chN 2 ((15, .box (cellsN 6 0 3)) :: sB n s1 sk s2 (dl0 n) s3 k' nw)) rfl ⟨⟨_, rfl, .inl rfl⟩, ⟨_, rfl, .inl rfl⟩, ⟨_, rfl, .inl rfl⟩, ⟨_, rfl, .inl rfl⟩, ⟨_, rfl, .inl rfl⟩, ⟨_, rfl, .inl rfl⟩, trivial⟩ ?_ rfl rfl) ?_
  · exact ⟨⟨_, rfl, .inl rfl⟩, ⟨_, rfl, .inl rfl⟩, ⟨_, rfl, .inr ⟨_, _, rfl, rfl, .inl rfl, .inl rfl, .inr ⟨rfl, rfl⟩, .inl rfl, .inl rfl, .inl rfl, trivial⟩⟩, ⟨_, rfl, .inl rfl⟩, ⟨_, rfl, .inl rfl⟩, ⟨_, rfl, .inl rfl⟩, ⟨_, rfl, .inl rfl⟩, trivial⟩
  refine AW_imp (Imp.nil 603 3 1 (fr' := frR n flt xs 6) (σ' := chN 3 ((15, .box (cellsN 6 0 4)) :: sB n s1 sk s2 (dl0 n) s3 k' nw)) rfl ⟨⟨_, rfl, .inl rfl⟩, ⟨_, rfl, .inl rfl⟩, ⟨_, rfl, .inl rfl⟩, ⟨_, rfl, .inl rfl⟩, ⟨_, rfl, .inl rfl⟩, ⟨_, rfl, .inl rfl⟩, trivial⟩ ?_ rfl rfl) ?_
  · exact ⟨⟨_, rfl, .inl rfl⟩, ⟨_, rfl, .inl rfl⟩, ⟨_, rfl, .inl rfl⟩, ⟨_, rfl, .inr ⟨_, _, rfl, rfl, .inl rfl, .inl rfl, .inl rfl, .inr ⟨rfl, rfl⟩, .inl rfl, .inl rfl, trivial⟩⟩, ⟨_, rfl, .inl rfl⟩, ⟨_, rfl, .inl rfl⟩, ⟨_, rfl, .inl rfl⟩, ⟨_, rfl, .inl rfl⟩, trivial⟩
  refine AW_imp (Imp.nil 604 3 1 (fr' := frR n flt xs 6) (σ' := chN 4 ((15, .box (cellsN 6 0 5)) :: sB n s1 sk s2 (dl0 n) s3 k' nw)) rfl ⟨⟨_, rfl, .inl rfl⟩, ⟨_, rfl, .inl rfl⟩, ⟨_, rfl, .inl rfl⟩, ⟨_, rfl, .inl rfl⟩, ⟨_, rfl, .inl rfl⟩, ⟨_, rfl, .inl rfl⟩, trivial⟩ ?_ rfl rfl) ?_
  · exact ⟨⟨_, rfl, .inl rfl⟩, ⟨_, rfl, .inl rfl⟩, ⟨_, rfl, .inl rfl⟩, ⟨_, rfl, .inl rfl⟩, ⟨_, rfl, .inr ⟨_, _, rfl, rfl, .inl rfl, .inl rfl, .inl rfl, .inl rfl, .inr ⟨rfl, rfl⟩, .inl rfl, trivial⟩⟩, ⟨_, rfl, .inl rfl⟩, ⟨_, rfl, .inl rfl⟩, ⟨_, rfl, .inl rfl⟩, ⟨_, rfl, .inl rfl⟩, trivial⟩
  refine AW_imp (Imp.nil 605 3 1 (fr' := frR n flt xs 6) (σ' := chN 5 ((15, .box (cellsN 6 0 6)) :: sB n s1 sk s2 (dl0 n) s3 k' nw)) rfl ⟨⟨_, rfl, .inl rfl⟩, ⟨_, rfl, .inl rfl⟩, ⟨_, rfl, .inl rfl⟩, ⟨_, rfl, .inl rfl⟩, ⟨_, rfl, .inl rfl⟩, ⟨_, rfl, .inl rfl⟩, trivial⟩ ?_ rfl rfl) ?_
  · exact ⟨⟨_, rfl, .inl rfl⟩, ⟨_, rfl, .inl rfl⟩, ⟨_, rfl, .inl rfl⟩, ⟨_, rfl, .inl rfl⟩, ⟨_, rfl, .inl rfl⟩, ⟨_, rfl, .inr ⟨_, _, rfl, rfl, .inl rfl, .inl rfl, .inl rfl, .inl rfl, .inl rfl, .inr ⟨rfl, rfl⟩, trivial⟩⟩, ⟨_, rfl, .inl rfl⟩, ⟨_, rfl, .inl rfl⟩, ⟨_, rfl, .inl rfl⟩, ⟨_, rfl, .inl rfl⟩, trivial⟩
  refine AW_loop (fun p : Nat × Nat × Nat × List W16 => [(20, iv .i64 p.1), (19, iv .i64 xs.length), (18, sl xs), (7, .x (.sb 15 0 6 6)), (8, sl (stsL n flt xs 6 p.1)), (0, .x (.b 900 0))])
    (fun p => (15, .box [.o 600 (p.1) (p.1), .o 601 (p.1) (p.1), .o 602 (p.1) (p.1), .o 603 (p.1) (p.1), .o 604 (p.1) (p.1), .o 605 (p.1) (p.1)]) :: (600, rwOb n (flt 0) xs (p.1)) :: (601, rwOb n (flt 1) xs (p.1)) :: (602, rwOb n (flt 2) xs (p.1)) :: (603, rwOb n (flt 3) xs (p.1)) :: (604, rwOb n (flt 4) xs (p.1)) :: (605, rwOb n (flt 5) xs (p.1)) :: sB n s1 sk s2 (dl0 n) p.2.1 p.2.2.1 p.2.2.2)
    (fun p => p.1 ≤ xs.length) (fun p => xs.length - p.1) (0, s3, k', nw) (Nat.zero_le _) impA ?_
  rintro ⟨t, a, b, c⟩ ht
  dsimp only at ht ⊢
  rcases Nat.lt_or_ge t xs.length with htl | htl
  · have hbeat := fun s3 k' nw => beat_lanes ok (s1 := s1) hsk (s2 := s2) (s3 := s3) (k' := k') (nw := nw) (k := 6) (by decide) hl xs t xs[t] (getDI htl)
    have hol := otsL_len n flt xs 6 t
    repeat' first | with_reducible refine AW_seq ?_ | with_reducible refine AW_block ?_ | ((first | with_reducible refine AW_skip ?_ | with_reducible refine AW_exit ?_ | with_reducible refine AW_ret ?_ | with_reducible refine AW_region hTt ?_ | fail); conv => whnf) | (exact absurd hb (by omega)) | ((refine ⟨_, (hbeat a b c).frame (asc []) (by repeat (first | exact trivial | refine ⟨rfl, ?_⟩)) rfl (by rintro _ _ ⟨_, rfl, rfl⟩; rfl), ?_⟩); (rintro _ _ ⟨_, _, ⟨_, rfl, rfl⟩, rfl, rfl⟩); conv => whnf) | (refine AW_cond rfl (fun hb => ?_) (fun hb => ?_) <;> first | (replace hb := of_decide_eq_true hb; try simp only [List.length_map] at hb) | (replace hb := of_decide_eq_false hb; try simp only [List.length_map] at hb) | (simp only [List.length_map, bne_iff_ne, ne_eq, beq_iff_eq, bne_eq_false_iff_eq, beq_eq_false_iff_ne, decide_eq_true_eq, decide_eq_false_iff_not, Bool.not_eq_true', Bool.not_eq_false', Int.natCast_inj] at hb) | skip) | ((first | refine andA ?_ | with_reducible refine Exists.intro _ (And.intro (gd_any (And.intro (by omega) (map_get (by omega)))) ?_) | fail); conv => whnf) | (refine fun hln => ?_; (try rw [List.length_map] at hln); unfold maxLen at hln; conv => whnf) | fail
    rename_i pp
    refine AW_loop (fun l : Nat => [(33, iv .i64 l), (32, iv .i64 6), (31, sl (otsL n flt xs 6 t)), (20, iv .i64 t), (19, iv .i64 xs.length), (18, sl xs), (7, .x (.sb 15 0 6 6)), (8, sl (stsL n flt xs 6 (t + 1))), (0, .x (.b 900 0))])
      (fun l => (15, .box [.o 600 (t + bt 0 l) (t + bt 0 l), .o 601 (t + bt 1 l) (t + bt 1 l), .o 602 (t + bt 2 l) (t + bt 2 l), .o 603 (t + bt 3 l) (t + bt 3 l), .o 604 (t + bt 4 l) (t + bt 4 l), .o 605 (t + bt 5 l) (t + bt 5 l)]) :: (600, rwOb n (flt 0) xs (t + bt 0 l)) :: (601, rwOb n (flt 1) xs (t + bt 1 l)) :: (602, rwOb n (flt 2) xs (t + bt 2 l)) :: (603, rwOb n (flt 3) xs (t + bt 3 l)) :: (604, rwOb n (flt 4) xs (t + bt 4 l)) :: (605, rwOb n (flt 5) xs (t + bt 5 l)) :: sB n s1 sk s2 (dl0 n) pp.1 pp.2.1 pp.2.2) (fun l => l ≤ 6) (fun l => 6 - l) 0 (Nat.zero_le _) impA ?_
    intro l hlk
    rcases Nat.lt_or_ge l 6 with hll | hll
    · have hg := ots_at n flt xs t hll
      have e := row_app n (flt l) xs t l
      have hq := bt_self l
      have hz := outsR_len n (flt l) xs (t + bt l l)
      obtain ⟨j, hj⟩ : ∃ j, j = l + 1 := ⟨_, rfl⟩
      have hl' : l = 0 ∨ l = 1 ∨ l = 2 ∨ l = 3 ∨ l = 4 ∨ l = 5 := by omega
      clear hol hbeat ht hlk hll
      rcases hl' with rfl | rfl | rfl | rfl | rfl | rfl
      all_goals
        repeat' first | with_reducible refine AW_seq ?_ | with_reducible refine AW_block ?_ | ((first | with_reducible refine AW_skip ?_ | with_reducible refine AW_region hTt ?_ | with_reducible refine Exists.intro _ (And.intro (gd_any (And.intro (by omega) hg)) ?_) | refine And.intro (gd_any (And.intro (by decide) (by decide))) ?_ | fail); conv => whnf) | ((refine And.intro ?_ ?_; focus (refine ⟨?_, ?_, ?_⟩ <;> simp [chunk, maxLen] <;> omega)); conv => whnf) | (refine AW_cond rfl (fun _ => ?_) (fun hb => absurd hb (by decide))) | ((first | refine ⟨_, wrap_of (by first | omega | (simp only [List.length_map]; omega)), ?_⟩ | refine andA ?_ | fail); conv => whnf) | fail
        exact ⟨j, by omega, by omega, by subst hj; exact impA⟩
    have hle : l = 6 := by omega
    subst hle
    repeat' first | with_reducible refine AW_seq ?_ | ((first | with_reducible refine AW_exit ?_ | with_reducible refine AW_region hTt ?_ | fail); conv => whnf) | (refine AW_cond rfl (fun hb => absurd hb (by decide)) (fun _ => ?_)) | ((refine ⟨_, wrap_of (by first | omega | (simp only [List.length_map]; omega)), ?_⟩); conv => whnf) | fail
    exact ⟨(t + 1, pp.1, pp.2.1, pp.2.2), by show t + 1 ≤ xs.length; omega, by show xs.length - (t + 1) < xs.length - t; omega, impA⟩
  · have hte : t = xs.length := by omega
    subst hte
    repeat' first | with_reducible refine AW_seq ?_ | with_reducible refine AW_block ?_ | ((first | with_reducible refine AW_skip ?_ | with_reducible refine AW_exit ?_ | with_reducible refine AW_ret ?_ | with_reducible refine AW_region hTt ?_ | fail); conv => whnf) | (exact absurd hb (by omega)) | (refine AW_cond rfl (fun hb => ?_) (fun hb => ?_) <;> first | (replace hb := of_decide_eq_true hb; try simp only [List.length_map] at hb) | (replace hb := of_decide_eq_false hb; try simp only [List.length_map] at hb) | (simp only [List.length_map, bne_iff_ne, ne_eq, beq_iff_eq, bne_eq_false_iff_eq, beq_eq_false_iff_ne, decide_eq_true_eq, decide_eq_false_iff_not, Bool.not_eq_true', Bool.not_eq_false', Int.natCast_inj] at hb) | skip) | fail
    refine ⟨_, sB n s1 sk s2 (dl0 n) a b c, ⟨rfl, rfl, rfl, rfl, trivial⟩, rfl, (?_ : _ = some (rowsAV ((List.range 6).map fun l => outsR n (flt l) xs xs.length))), (a, b, c), rfl, rfl⟩
    have hk := keepRows (σ := (15, .box [.o 600 xs.length xs.length, .o 601 xs.length xs.length, .o 602 xs.length xs.length, .o 603 xs.length xs.length, .o 604 xs.length xs.length, .o 605 xs.length xs.length]) :: (600, rwOb n (flt 0) xs xs.length) :: (601, rwOb n (flt 1) xs xs.length) :: (602, rwOb n (flt 2) xs xs.length) :: (603, rwOb n (flt 3) xs xs.length) :: (604, rwOb n (flt 4) xs xs.length) :: (605, rwOb n (flt 5) xs xs.length) :: sB n s1 sk s2 (dl0 n) a b c) (σ' := sB n s1 sk s2 (dl0 n) a b c) (id := 15) (n := 6) (cap := 6) (ps := [PV.s 1 ((outsR n (flt 0) xs xs.length).map iPV), PV.s 1 ((outsR n (flt 1) xs xs.length).map iPV), PV.s 1 ((outsR n (flt 2) xs xs.length).map iPV), PV.s 1 ((outsR n (flt 3) xs xs.length).map iPV), PV.s 1 ((outsR n (flt 4) xs xs.length).map iPV), PV.s 1 ((outsR n (flt 5) xs xs.length).map iPV)]) rfl rfl
      (by repeat' first | exact rfl | refine rowPVs_cons (rowPV_o rfl rfl (by rw [List.length_map, outsR_len])) ?_) rfl
    exact outKeep1 (x := .x (.sb 15 0 6 6)) rfl hk
end Go.Proofs.YtfghooojingdhaaDoor
namespace Go.Proofs.YtfghooojingdhaaDoor
open Go Go.QL
set_option maxHeartbeats 3200000
attribute [local irreducible] ACall FnC
theorem run_7 {n : NetT} (ok : NetOK n) {s1 : Nat} {sk : List (W16 × W16)} (hsk : sk.length = n.inn.toNat + n.gates.length) {s2 s3 k' : Nat} {nw : List W16}
    {flt : Nat → FaultT} (hl : LanesOK sk flt 7) (xs : List Int) (hxl : xs.length ≤ 4096) :
    ACall Tryd.prog 71 [.x (.b 900 0), iv .i64 7, sl xs] (sB n s1 sk s2 (dl0 n) s3 k' nw)
      (fun r σ' => ∃ p : Nat × Nat × List W16, r = rowsAV ((List.range 7).map fun l => outsR n (flt l) xs xs.length) ∧ σ' = sB n s1 sk s2 (dl0 n) p.1 p.2.1 p.2.2) := by
  refine ACall_of_AWD hTt Tryd.func71 rfl (by kernel_rfl) (res := [.tmp 6]) rfl Tryd.ntmps71 (by simp) fun w0 K0 B => ?_
  dsimp only [entry]
  repeat' first | with_reducible refine AW_seq ?_ | with_reducible refine AW_block ?_ | ((first | with_reducible refine AW_region hTt ?_ | refine AW_draw hTt hMix (id := 1) 5 true [0, 1, 0, 4, 3, 31] (by kernel_rfl) rfl rfl (by kernel_rfl) ?_ | refine Or.inr ?_ | refine andA ?_ | fail); conv => whnf) | (refine fun hln => ?_; (try rw [List.length_map] at hln); unfold maxLen at hln; conv => whnf) | fail
  refine AW_imp (Imp.freeze 17 (fr' := frR n flt xs 7) (σ' := (15, .box (cellsN 7 0 0)) :: sB n s1 sk s2 (dl0 n) s3 k' nw) rfl ?_ ?_ rfl rfl) ?_
  · exact ⟨⟨_, rfl, .inl rfl⟩, ⟨_, congrArg (fun k : Nat => some (iv .i64 k)) (List.length_map _), .inl rfl⟩, ⟨_, rfl, .inl rfl⟩, ⟨_, rfl, .inl rfl⟩, ⟨_, rfl, .inr ⟨7, rfl, Nat.le_of_ble_eq_true rfl, rfl⟩⟩, ⟨_, rfl, .inl rfl⟩, trivial⟩
  · exact ⟨rfl, rfl, rfl, rfl, rfl, trivial⟩
  refine AW_imp (Imp.nil 600 3 1 (fr' := frR n flt xs 7) (σ' := chN 0 ((15, .box (cellsN 7 0 1)) :: sB n s1 sk s2 (dl0 n) s3 k' nw)) rfl ⟨⟨_, rfl, .inl rfl⟩, ⟨_, rfl, .inl rfl⟩, ⟨_, rfl, .inl rfl⟩, ⟨_, rfl, .inl rfl⟩, ⟨_, rfl, .inl rfl⟩, ⟨_, rfl, .inl rfl⟩, trivial⟩ ?_ rfl rfl) ?_
  · exact ⟨⟨_, rfl, .inr ⟨_, _, rfl, rfl, .inr ⟨rfl, rfl⟩, .inl rfl, .inl rfl, .inl rfl, .inl rfl, .inl rfl, .inl rfl, trivial⟩⟩, ⟨_, rfl, .inl rfl⟩, ⟨_, rfl, .inl rfl⟩, ⟨_, rfl, .inl rfl⟩, ⟨_, rfl, .inl rfl⟩, trivial⟩
  refine AW_imp (Imp.nil 601 3 1 (fr' := frR n flt xs 7) (σ' := chN 1 ((15, .box (cellsN 7 0 2)) :: sB n s1 sk s2 (dl0 n) s3 k' nw)) rfl ⟨⟨_, rfl, .inl rfl⟩, ⟨_, rfl, .inl rfl⟩, ⟨_, rfl, .inl rfl⟩, ⟨_, rfl, .inl rfl⟩, ⟨_, rfl, .inl rfl⟩, ⟨_, rfl, .inl rfl⟩, trivial⟩ ?_ rfl rfl) ?_
  · exact ⟨⟨_, rfl, .inl rfl⟩, ⟨_, rfl, .inr ⟨_, _, rfl, rfl, .inl rfl, .inr ⟨rfl, rfl⟩, .inl rfl, .inl rfl, .inl rfl, .inl rfl, .inl rfl, trivial⟩⟩, ⟨_, rfl, .inl rfl⟩, ⟨_, rfl, .inl rfl⟩, ⟨_, rfl, .inl rfl⟩, ⟨_, rfl, .inl rfl⟩, trivial⟩
  refine AW_imp (Imp.nil 602 3 1 (fr' := frR n flt xs 7) (σ' := chN 2 ((15, .box (cellsN 7 0 3)) :: sB n s1 sk s2 (dl0 n) s3 k' nw)) rfl ⟨⟨_, rfl, .inl rfl⟩, ⟨_, rfl, .inl rfl⟩, ⟨_, rfl, .inl rfl⟩, ⟨_, rfl, .inl rfl⟩, ⟨_, rfl, .inl rfl⟩, ⟨_, rfl, .inl rfl⟩, trivial⟩ ?_ rfl rfl) ?_
  · exact ⟨⟨_, rfl, .inl rfl⟩, ⟨_, rfl, .inl rfl⟩, ⟨_, rfl, .inr ⟨_, _, rfl, rfl, .inl rfl, .inl rfl, .inr ⟨rfl, rfl⟩, .inl rfl, .inl rfl, .inl rfl, .inl rfl, trivial⟩⟩, ⟨_, rfl, .inl rfl⟩, ⟨_, rfl, .inl rfl⟩, ⟨_, rfl, .inl rfl⟩, ⟨_, rfl, .inl rfl⟩, trivial⟩
  refine AW_imp (Imp.nil 603 3 1 (fr' := frR n flt xs 7) (σ' := chN 3 ((15, .box (cellsN 7 0 4)) :: sB n s1 sk s2 (dl0 n) s3 k' nw)) rfl ⟨⟨_, rfl, .inl rfl⟩, ⟨_, rfl, .inl rfl⟩, ⟨_, rfl, .inl rfl⟩, ⟨_, rfl, .inl rfl⟩, ⟨_, rfl, .inl rfl⟩, ⟨_, rfl, .inl rfl⟩, trivial⟩ ?_ rfl rfl) ?_
  · exact ⟨⟨_, rfl, .inl rfl⟩, ⟨_, rfl, .inl rfl⟩, ⟨_, rfl, .inl rfl⟩, ⟨_, rfl, .inr ⟨_, _, rfl, rfl, .inl rfl, .inl rfl, .inl rfl, .inr ⟨rfl, rfl⟩, .inl rfl, .inl rfl, .inl rfl, trivial⟩⟩, ⟨_, rfl, .inl rfl⟩, ⟨_, rfl, .inl rfl⟩, ⟨_, rfl, .inl rfl⟩, ⟨_, rfl, .inl rfl⟩, trivial⟩
  refine AW_imp (Imp.nil 604 3 1 (fr' := frR n flt xs 7) (σ' := chN 4 ((15, .box (cellsN 7 0 5)) :: sB n s1 sk s2 (dl0 n) s3 k' nw)) rfl ⟨⟨_, rfl, .inl rfl⟩, ⟨_, rfl, .inl rfl⟩, ⟨_, rfl, .inl rfl⟩, ⟨_, rfl, .inl rfl⟩, ⟨_, rfl, .inl rfl⟩, ⟨_, rfl, .inl rfl⟩, trivial⟩ ?_ rfl rfl) ?_
  · exact ⟨⟨_, rfl, .inl rfl⟩, ⟨_, rfl, .inl rfl⟩, ⟨_, rfl, .inl rfl⟩, ⟨_, rfl, .inl rfl⟩, ⟨_, rfl, .inr ⟨_, _, rfl, rfl, .inl rfl, .inl rfl, .inl rfl, .inl rfl, .inr ⟨rfl, rfl⟩, .inl rfl, .inl rfl, trivial⟩⟩, ⟨_, rfl, .inl rfl⟩, ⟨_, rfl, .inl rfl⟩, ⟨_, rfl, .inl rfl⟩, ⟨_, rfl, .inl rfl⟩, trivial⟩
  refine AW_imp (Imp.nil 605 3 1 (fr' := frR n flt xs 7) (σ' := chN 5 ((15, .box (cellsN 7 0 6)) :: sB n s1 sk s2 (dl0 n) s3 k' nw)) rfl ⟨⟨_, rfl, .inl rfl⟩, ⟨_, rfl, .inl rfl⟩, ⟨_, rfl, .inl rfl⟩, ⟨_, rfl, .inl rfl⟩, ⟨_, rfl, .inl rfl⟩, ⟨_, rfl, .inl rfl⟩, trivial⟩ ?_ rfl rfl) ?_
  · exact ⟨⟨_, rfl, .inl rfl⟩, ⟨_, rfl, .inl rfl⟩, ⟨_, rfl, .inl rfl⟩, ⟨_, rfl, .inl rfl⟩, ⟨_, rfl, .inl rfl⟩, ⟨_, rfl, .inr ⟨_, _, rfl, rfl, .inl rfl, .inl rfl, .inl rfl, .inl rfl, .inl rfl, .inr ⟨rfl, rfl⟩, .inl rfl, trivial⟩⟩, ⟨_, rfl, .inl rfl⟩, ⟨_, rfl, .inl rfl⟩, ⟨_, rfl, .inl rfl⟩, ⟨_, rfl, .inl rfl⟩, trivial⟩
  refine AW_imp (Imp.nil 606 3 1 (fr' := frR n flt xs 7) (σ' := chN 6 ((15, .box (cellsN 7 0 7)) :: sB n s1 sk s2 (dl0 n) s3 k' nw)) rfl ⟨⟨_, rfl, .inl rfl⟩, ⟨_, rfl, .inl rfl⟩, ⟨_, rfl, .inl rfl⟩, ⟨_, rfl, .inl rfl⟩, ⟨_, rfl, .inl rfl⟩, ⟨_, rfl, .inl rfl⟩, trivial⟩ ?_ rfl rfl) ?_
  · exact ⟨⟨_, rfl, .inl rfl⟩, ⟨_, rfl, .inl rfl⟩, ⟨_, rfl, .inl rfl⟩, ⟨_, rfl, .inl rfl⟩, ⟨_, rfl, .inl rfl⟩, ⟨_, rfl, .inl rfl⟩, ⟨_, rfl, .inr ⟨_, _, rfl, rfl, .inl rfl, .inl rfl, .inl rfl, .inl rfl, .inl rfl, .inl rfl, .inr ⟨rfl, rfl⟩, trivial⟩⟩, ⟨_, rfl, .inl rfl⟩, ⟨_, rfl, .inl rfl⟩, ⟨_, rfl, .inl rfl⟩, ⟨_, rfl, .inl rfl⟩, trivial⟩
  refine AW_loop (fun p : Nat × Nat × Nat × List W16 => [(20, iv .i64 p.1), (19, iv .i64 xs.length), (18, sl xs), (7, .x (.sb 15 0 7 7)), (8, sl (stsL n flt xs 7 p.1)), (0, .x (.b 900 0))])
    (fun p => (15, .box [.o 600 (p.1) (p.1), .o 601 (p.1) (p.1), .o 602 (p.1) (p.1), .o 603 (p.1) (p.1), .o 604 (p.1) (p.1), .o 605 (p.1) (p.1), .o 606 (p.1) (p.1)]) :: (600, rwOb n (flt 0) xs (p.1)) :: (601, rwOb n (flt 1) xs (p.1)) :: (602, rwOb n (flt 2) xs (p.1)) :: (603, rwOb n (flt 3) xs (p.1)) :: (604, rwOb n (flt 4) xs (p.1)) :: (605, rwOb n (flt 5) xs (p.1)) :: (606, rwOb n (flt 6) xs (p.1)) :: sB n s1 sk s2 (dl0 n) p.2.1 p.2.2.1 p.2.2.2)
    (fun p => p.1 ≤ xs.length) (fun p => xs.length - p.1) (0, s3, k', nw) (Nat.zero_le _) impA ?_
  rintro ⟨t, a, b, c⟩ ht
  dsimp only at ht ⊢
  rcases Nat.lt_or_ge t xs.length with htl | htl
  · have hbeat := fun s3 k' nw => beat_lanes ok (s1 := s1) hsk (s2 := s2) (s3 := s3) (k' := k') (nw := nw) (k := 7) (by decide) hl xs t xs[t] (getDI htl)
    have hol := otsL_len n flt xs 7 t
    repeat' first | with_reducible refine AW_seq ?_ | with_reducible refine AW_block ?_ | ((first | with_reducible refine AW_skip ?_ | with_reducible refine AW_exit ?_ | with_reducible refine AW_ret ?_ | with_reducible refine AW_region hTt ?_ | fail); conv => whnf) | (exact absurd hb (by omega)) | ((refine ⟨_, (hbeat a b c).frame (asc []) (by repeat (first | exact trivial | refine ⟨rfl, ?_⟩)) rfl (by rintro _ _ ⟨_, rfl, rfl⟩; rfl), ?_⟩); (rintro _ _ ⟨_, _, ⟨_, rfl, rfl⟩, rfl, rfl⟩); conv => whnf) | (refine AW_cond rfl (fun hb => ?_) (fun hb => ?_) <;> first | (replace hb := of_decide_eq_true hb; try simp only [List.length_map] at hb) | (replace hb := of_decide_eq_false hb; try simp only [List.length_map] at hb) | (simp only [List.length_map, bne_iff_ne, ne_eq, beq_iff_eq, bne_eq_false_iff_eq, beq_eq_false_iff_ne, decide_eq_true_eq, decide_eq_false_iff_not, Bool.not_eq_true', Bool.not_eq_false', Int.natCast_inj] at hb) | skip) | ((first | refine andA ?_ | with_reducible refine Exists.intro _ (And.intro (gd_any (And.intro (by omega) (map_get (by omega)))) ?_) | fail); conv => whnf) | (refine fun hln => ?_; (try rw [List.length_map] at hln); unfold maxLen at hln; conv => whnf) | fail
    rename_i pp
    refine AW_loop (fun l : Nat => [(33, iv .i64 l), (32, iv .i64 7), (31, sl (otsL n flt xs 7 t)), (20, iv .i64 t), (19, iv .i64 xs.length), (18, sl xs), (7, .x (.sb 15 0 7 7)), (8, sl (stsL n flt xs 7 (t + 1))), (0, .x (.b 900 0))])
      (fun l => (15, .box [.o 600 (t + bt 0 l) (t + bt 0 l), .o 601 (t + bt 1 l) (t + bt 1 l), .o 602 (t + bt 2 l) (t + bt 2 l), .o 603 (t + bt 3 l) (t + bt 3 l), .o 604 (t + bt 4 l) (t + bt 4 l), .o 605 (t + bt 5 l) (t + bt 5 l), .o 606 (t + bt 6 l) (t + bt 6 l)]) :: (600, rwOb n (flt 0) xs (t + bt 0 l)) :: (601, rwOb n (flt 1) xs (t + bt 1 l)) :: (602, rwOb n (flt 2) xs (t + bt 2 l)) :: (603, rwOb n (flt 3) xs (t + bt 3 l)) :: (604, rwOb n (flt 4) xs (t + bt 4 l)) :: (605, rwOb n (flt 5) xs (t + bt 5 l)) :: (606, rwOb n (flt 6) xs (t + bt 6 l)) :: sB n s1 sk s2 (dl0 n) pp.1 pp.2.1 pp.2.2) (fun l => l ≤ 7) (fun l => 7 - l) 0 (Nat.zero_le _) impA ?_
    intro l hlk
    rcases Nat.lt_or_ge l 7 with hll | hll
    · have hg := ots_at n flt xs t hll
      have e := row_app n (flt l) xs t l
      have hq := bt_self l
      have hz := outsR_len n (flt l) xs (t + bt l l)
      obtain ⟨j, hj⟩ : ∃ j, j = l + 1 := ⟨_, rfl⟩
      have hl' : l = 0 ∨ l = 1 ∨ l = 2 ∨ l = 3 ∨ l = 4 ∨ l = 5 ∨ l = 6 := by omega
      clear hol hbeat ht hlk hll
      rcases hl' with rfl | rfl | rfl | rfl | rfl | rfl | rfl
      all_goals
        repeat' first | with_reducible refine AW_seq ?_ | with_reducible refine AW_block ?_ | ((first | with_reducible refine AW_skip ?_ | with_reducible refine AW_region hTt ?_ | with_reducible refine Exists.intro _ (And.intro (gd_any (And.intro (by omega) hg)) ?_) | refine And.intro (gd_any (And.intro (by decide) (by decide))) ?_ | fail); conv => whnf) | ((refine And.intro ?_ ?_; focus (refine ⟨?_, ?_, ?_⟩ <;> simp [chunk, maxLen] <;> omega)); conv => whnf) | (refine AW_cond rfl (fun _ => ?_) (fun hb => absurd hb (by decide))) | ((first | refine ⟨_, wrap_of (by first | omega | (simp only [List.length_map]; omega)), ?_⟩ | refine andA ?_ | fail); conv => whnf) | fail
        exact ⟨j, by omega, by omega, by subst hj; exact impA⟩
    have hle : l = 7 := by omega
    subst hle
    repeat' first | with_reducible refine AW_seq ?_ | ((first | with_reducible refine AW_exit ?_ | with_reducible refine AW_region hTt ?_ | fail); conv => whnf) | (refine AW_cond rfl (fun hb => absurd hb (by decide)) (fun _ => ?_)) | ((refine ⟨_, wrap_of (by first | omega | (simp only [List.length_map]; omega)), ?_⟩); conv => whnf) | fail
    exact ⟨(t + 1, pp.1, pp.2.1, pp.2.2), by show t + 1 ≤ xs.length; omega, by show xs.length - (t + 1) < xs.length - t; omega, impA⟩
  · have hte : t = xs.length := by omega
    subst hte
    repeat' first | with_reducible refine AW_seq ?_ | with_reducible refine AW_block ?_ | ((first | with_reducible refine AW_skip ?_ | with_reducible refine AW_exit ?_ | with_reducible refine AW_ret ?_ | with_reducible refine AW_region hTt ?_ | fail); conv => whnf) | (exact absurd hb (by omega)) | (refine AW_cond rfl (fun hb => ?_) (fun hb => ?_) <;> first | (replace hb := of_decide_eq_true hb; try simp only [List.length_map] at hb) | (replace hb := of_decide_eq_false hb; try simp only [List.length_map] at hb) | (simp only [List.length_map, bne_iff_ne, ne_eq, beq_iff_eq, bne_eq_false_iff_eq, beq_eq_false_iff_ne, decide_eq_true_eq, decide_eq_false_iff_not, Bool.not_eq_true', Bool.not_eq_false', Int.natCast_inj] at hb) | skip) | fail
    refine ⟨_, sB n s1 sk s2 (dl0 n) a b c, ⟨rfl, rfl, rfl, rfl, trivial⟩, rfl, (?_ : _ = some (rowsAV ((List.range 7).map fun l => outsR n (flt l) xs xs.length))), (a, b, c), rfl, rfl⟩
    have hk := keepRows (σ := (15, .box [.o 600 xs.length xs.length, .o 601 xs.length xs.length, .o 602 xs.length xs.length, .o 603 xs.length xs.length, .o 604 xs.length xs.length, .o 605 xs.length xs.length, .o 606 xs.length xs.length]) :: (600, rwOb n (flt 0) xs xs.length) :: (601, rwOb n (flt 1) xs xs.length) :: (602, rwOb n (flt 2) xs xs.length) :: (603, rwOb n (flt 3) xs xs.length) :: (604, rwOb n (flt 4) xs xs.length) :: (605, rwOb n (flt 5) xs xs.length) :: (606, rwOb n (flt 6) xs xs.length) :: sB n s1 sk s2 (dl0 n) a b c) (σ' := sB n s1 sk s2 (dl0 n) a b c) (id := 15) (n := 7) (cap := 7) (ps := [PV.s 1 ((outsR n (flt 0) xs xs.length).map iPV), PV.s 1 ((outsR n (flt 1) xs xs.length).map iPV), PV.s 1 ((outsR n (flt 2) xs xs.length).map iPV), PV.s 1 ((outsR n (flt 3) xs xs.length).map iPV), PV.s 1 ((outsR n (flt 4) xs xs.length).map iPV), PV.s 1 ((outsR n (flt 5) xs xs.length).map iPV), PV.s 1 ((outsR n (flt 6) xs xs.length).map iPV)]) rfl rfl
      (by repeat' first | exact rfl | refine rowPVs_cons (rowPV_o rfl rfl (by rw [List.length_map, outsR_len])) ?_) rfl
    exact outKeep1 (x := .x (.sb 15 0 7 7)) rfl hk
end Go.Proofs.YtfghooojingdhaaDoor
namespace Go.Proofs.YtfghooojingdhaaDoor
open Go Go.QL
set_option maxHeartbeats 3200000
attribute [local irreducible] ACall FnC
theorem run_8 {n : NetT} (ok : NetOK n) {s1 : Nat} {sk : List (W16 × W16)} (hsk : sk.length = n.inn.toNat + n.gates.length) {s2 s3 k' : Nat} {nw : List W16}
    {flt : Nat → FaultT} (hl : LanesOK sk flt 8) (xs : List Int) (hxl : xs.length ≤ 4096) :
    ACall Tryd.prog 71 [.x (.b 900 0), iv .i64 8, sl xs] (sB n s1 sk s2 (dl0 n) s3 k' nw)
      (fun r σ' => ∃ p : Nat × Nat × List W16, r = rowsAV ((List.range 8).map fun l => outsR n (flt l) xs xs.length) ∧ σ' = sB n s1 sk s2 (dl0 n) p.1 p.2.1 p.2.2) := by
  refine ACall_of_AWD hTt Tryd.func71 rfl (by kernel_rfl) (res := [.tmp 6]) rfl Tryd.ntmps71 (by simp) fun w0 K0 B => ?_
  dsimp only [entry]
  repeat' first | with_reducible refine AW_seq ?_ | with_reducible refine AW_block ?_ | ((first | with_reducible refine AW_region hTt ?_ | refine AW_draw hTt hMix (id := 1) 5 true [0, 1, 0, 4, 3, 31] (by kernel_rfl) rfl rfl (by kernel_rfl) ?_ | refine Or.inr ?_ | refine andA ?_ | fail); conv => whnf) | (refine fun hln => ?_; (try rw [List.length_map] at hln); unfold maxLen at hln; conv => whnf) | fail
  refine AW_imp (Imp.freeze 17 (fr' := frR n flt xs 8) (σ' := (15, .box (cellsN 8 0 0)) :: sB n s1 sk s2 (dl0 n) s3 k' nw) rfl ?_ ?_ rfl rfl) ?_
  · exact ⟨⟨_, rfl, .inl rfl⟩, ⟨_, congrArg (fun k : Nat => some (iv .i64 k)) (List.length_map _), .inl rfl⟩, ⟨_, rfl, .inl rfl⟩, ⟨_, rfl, .inl rfl⟩, ⟨_, rfl, .inr ⟨8, rfl, Nat.le_of_ble_eq_true rfl, rfl⟩⟩, ⟨_, rfl, .inl rfl⟩, trivial⟩
  · exact ⟨rfl, rfl, rfl, rfl, rfl, trivial⟩
  refine AW_imp (Imp.nil 600 3 1 (fr' := frR n flt xs 8) (σ' := chN 0 ((15, .box (cellsN 8 0 1)) :: sB n s1 sk s2 (dl0 n) s3 k' nw)) rfl ⟨⟨_, rfl, .inl rfl⟩, ⟨_, rfl, .inl rfl⟩, ⟨_, rfl, .inl rfl⟩, ⟨_, rfl, .inl rfl⟩, ⟨_, rfl, .inl rfl⟩, ⟨_, rfl, .inl rfl⟩, trivial⟩ ?_ rfl rfl) ?_
  · exact ⟨⟨_, rfl, .inr ⟨_, _, rfl, rfl, .inr ⟨rfl, rfl⟩, .inl rfl, .inl rfl, .inl rfl, .inl rfl, .inl rfl, .inl rfl, .inl rfl, trivial⟩⟩, ⟨_, rfl, .inl rfl⟩, ⟨_, rfl, .inl rfl⟩, ⟨_, rfl, .inl rfl⟩, ⟨_, rfl, .inl rfl⟩, trivial⟩
  refine AW_imp (Imp.nil 601 3 1 (fr' := frR n flt xs 8) (σ' := chN 1 ((15, .box (cellsN 8 0 2)) :: sB n s1 sk s2 (dl0 n) s3 k' nw)) rfl ⟨⟨_, rfl, .inl rfl⟩, ⟨_, rfl, .inl rfl⟩, ⟨_, rfl, .inl rfl⟩, ⟨_, rfl, .inl rfl⟩, ⟨_, rfl, .inl rfl⟩, ⟨_, rfl, .inl rfl⟩, trivial⟩ ?_ rfl rfl) ?_
  · exact ⟨⟨_, rfl, .inl rfl⟩, ⟨_, rfl, .inr ⟨_, _, rfl, rfl, .inl rfl, .inr ⟨rfl, rfl⟩, .inl rfl, .inl rfl, .inl rfl, .inl rfl, .inl rfl, .inl rfl, trivial⟩⟩, ⟨_, rfl, .inl rfl⟩, ⟨_, rfl, .inl rfl⟩, ⟨_, rfl, .inl rfl⟩, ⟨_, rfl, .inl rfl⟩, trivial⟩
  refine AW_imp (Imp.nil 602 3 1 (fr' := frR n flt xs 8) (σ' := chN 2 ((15, .box (cellsN 8 0 3)) :: sB n s1 sk s2 (dl0 n) s3 k' nw)) rfl ⟨⟨_, rfl, .inl rfl⟩, ⟨_, rfl, .inl rfl⟩, ⟨_, rfl, .inl rfl⟩, ⟨_, rfl, .inl rfl⟩, ⟨_, rfl, .inl rfl⟩, ⟨_, rfl, .inl rfl⟩, trivial⟩ ?_ rfl rfl) ?_
  · exact ⟨⟨_, rfl, .inl rfl⟩, ⟨_, rfl, .inl rfl⟩, ⟨_, rfl, .inr ⟨_, _, rfl, rfl, .inl rfl, .inl rfl, .inr ⟨rfl, rfl⟩, .inl rfl, .inl rfl, .inl rfl, .inl rfl, .inl rfl, trivial⟩⟩, ⟨_, rfl, .inl rfl⟩, ⟨_, rfl, .inl rfl⟩, ⟨_, rfl, .inl rfl⟩, ⟨_, rfl, .inl rfl⟩, trivial⟩
  refine AW_imp (Imp.nil 603 3 1 (fr' := frR n flt xs 8) (σ' := chN 3 ((15, .box (cellsN 8 0 4)) :: sB n s1 sk s2 (dl0 n) s3 k' nw)) rfl ⟨⟨_, rfl, .inl rfl⟩, ⟨_, rfl, .inl rfl⟩, ⟨_, rfl, .inl rfl⟩, ⟨_, rfl, .inl rfl⟩, ⟨_, rfl, .inl rfl⟩, ⟨_, rfl, .inl rfl⟩, trivial⟩ ?_ rfl rfl) ?_
  · exact ⟨⟨_, rfl, .inl rfl⟩, ⟨_, rfl, .inl rfl⟩, ⟨_, rfl, .inl rfl⟩, ⟨_, rfl, .inr ⟨_, _, rfl, rfl, .inl rfl, .inl rfl, .inl rfl, .inr ⟨rfl, rfl⟩, .inl rfl, .inl rfl, .inl rfl, .inl rfl, trivial⟩⟩, ⟨_, rfl, .inl rfl⟩, ⟨_, rfl, .inl rfl⟩, ⟨_, rfl, .inl rfl⟩, ⟨_, rfl, .inl rfl⟩, trivial⟩
  refine AW_imp (Imp.nil 604 3 1 (fr' := frR n flt xs 8) (σ' := chN 4 ((15, .box (cellsN 8 0 5)) :: sB n s1 sk s2 (dl0 n) s3 k' nw)) rfl ⟨⟨_, rfl, .inl rfl⟩, ⟨_, rfl, .inl rfl⟩, ⟨_, rfl, .inl rfl⟩, ⟨_, rfl, .inl rfl⟩, ⟨_, rfl, .inl rfl⟩, ⟨_, rfl, .inl rfl⟩, trivial⟩ ?_ rfl rfl) ?_
  · exact ⟨⟨_, rfl, .inl rfl⟩, ⟨_, rfl, .inl rfl⟩, ⟨_, rfl, .inl rfl⟩, ⟨_, rfl, .inl rfl⟩, ⟨_, rfl, .inr ⟨_, _, rfl, rfl, .inl rfl, .inl rfl, .inl rfl, .inl rfl, .inr ⟨rfl, rfl⟩, .inl rfl, .inl rfl, .inl rfl, trivial⟩⟩, ⟨_, rfl, .inl rfl⟩, ⟨_, rfl, .inl rfl⟩, ⟨_, rfl, .inl rfl⟩, ⟨_, rfl, .inl rfl⟩, trivial⟩
  refine AW_imp (Imp.nil 605 3 1 (fr' := frR n flt xs 8) (σ' := chN 5 ((15, .box (cellsN 8 0 6)) :: sB n s1 sk s2 (dl0 n) s3 k' nw)) rfl ⟨⟨_, rfl, .inl rfl⟩, ⟨_, rfl, .inl rfl⟩, ⟨_, rfl, .inl rfl⟩, ⟨_, rfl, .inl rfl⟩, ⟨_, rfl, .inl rfl⟩, ⟨_, rfl, .inl rfl⟩, trivial⟩ ?_ rfl rfl) ?_
  · exact ⟨⟨_, rfl, .inl rfl⟩, ⟨_, rfl, .inl rfl⟩, ⟨_, rfl, .inl rfl⟩, ⟨_, rfl, .inl rfl⟩, ⟨_, rfl, .inl rfl⟩, ⟨_, rfl, .inr ⟨_, _, rfl, rfl, .inl rfl, .inl rfl, .inl rfl, .inl rfl, .inl rfl, .inr ⟨rfl, rfl⟩, .inl rfl, .inl rfl, trivial⟩⟩, ⟨_, rfl, .inl rfl⟩, ⟨_, rfl, .inl rfl⟩, ⟨_, rfl, .inl rfl⟩, ⟨_, rfl, .inl rfl⟩, trivial⟩
  refine AW_imp (Imp.nil 606 3 1 (fr' := frR n flt xs 8) (σ' := chN 6 ((15, .box (cellsN 8 0 7)) :: sB n s1 sk s2 (dl0 n) s3 k' nw)) rfl ⟨⟨_, rfl, .inl rfl⟩, ⟨_, rfl, .inl rfl⟩, ⟨_, rfl, .inl rfl⟩, ⟨_, rfl, .inl rfl⟩, ⟨_, rfl, .inl rfl⟩, ⟨_, rfl, .inl rfl⟩, trivial⟩ ?_ rfl rfl) ?_
  · exact ⟨⟨_, rfl, .inl rfl⟩, ⟨_, rfl, .inl rfl⟩, ⟨_, rfl, .inl rfl⟩, ⟨_, rfl, .inl rfl⟩, ⟨_, rfl, .inl rfl⟩, ⟨_, rfl, .inl rfl⟩, ⟨_, rfl, .inr ⟨_, _, rfl, rfl, .inl rfl, .inl rfl, .inl rfl, .inl rfl, .inl rfl, .inl rfl, .inr ⟨rfl, rfl⟩, .inl rfl, trivial⟩⟩, ⟨_, rfl, .inl rfl⟩, ⟨_, rfl, .inl rfl⟩, ⟨_, rfl, .inl rfl⟩, ⟨_, rfl, .inl rfl⟩, trivial⟩
  refine AW_imp (Imp.nil 607 3 1 (fr' := frR n flt xs 8) (σ' := chN 7 ((15, .box (cellsN 8 0 8)) :: sB n s1 sk s2 (dl0 n) s3 k' nw)) rfl ⟨⟨_, rfl, .inl rfl⟩, ⟨_, rfl, .inl rfl⟩, ⟨_, rfl, .inl rfl⟩, ⟨_, rfl, .inl rfl⟩, ⟨_, rfl, .inl rfl⟩, ⟨_, rfl, .inl rfl⟩, trivial⟩ ?_ rfl rfl) ?_
  · exact ⟨⟨_, rfl, .inl rfl⟩, ⟨_, rfl, .inl rfl⟩, ⟨_, rfl, .inl rfl⟩, ⟨_, rfl, .inl rfl⟩, ⟨_, rfl, .inl rfl⟩, ⟨_, rfl, .inl rfl⟩, ⟨_, rfl, .inl rfl⟩, ⟨_, rfl, .inr ⟨_, _, rfl, rfl, .inl rfl, .inl rfl, .inl rfl, .inl rfl, .inl rfl, .inl rfl, .inl rfl, .inr ⟨rfl, rfl⟩, trivial⟩⟩, ⟨_, rfl, .inl rfl⟩, ⟨_, rfl, .inl rfl⟩, ⟨_, rfl, .inl rfl⟩, ⟨_, rfl, .inl rfl⟩, trivial⟩
  refine AW_loop (fun p : Nat × Nat × Nat × List W16 => [(20, iv .i64 p.1), (19, iv .i64 xs.length), (18, sl xs), (7, .x (.sb 15 0 8 8)), (8, sl (stsL n flt xs 8 p.1)), (0, .x (.b 900 0))])
    (fun p => (15, .box [.o 600 (p.1) (p.1), .o 601 (p.1) (p.1), .o 602 (p.1) (p.1), .o 603 (p.1) (p.1), .o 604 (p.1) (p.1), .o 605 (p.1) (p.1), .o 606 (p.1) (p.1), .o 607 (p.1) (p.1)]) :: (600, rwOb n (flt 0) xs (p.1)) :: (601, rwOb n (flt 1) xs (p.1)) :: (602, rwOb n (flt 2) xs (p.1)) :: (603, rwOb n (flt 3) xs (p.1)) :: (604, rwOb n (flt 4) xs (p.1)) :: (605, rwOb n (flt 5) xs (p.1)) :: (606, rwOb n (flt 6) xs (p.1)) :: (607, rwOb n (flt 7) xs (p.1)) :: sB n s1 sk s2 (dl0 n) p.2.1 p.2.2.1 p.2.2.2)
    (fun p => p.1 ≤ xs.length) (fun p => xs.length - p.1) (0, s3, k', nw) (Nat.zero_le _) impA ?_
  rintro ⟨t, a, b, c⟩ ht
  dsimp only at ht ⊢
  rcases Nat.lt_or_ge t xs.length with htl | htl
  · have hbeat := fun s3 k' nw => beat_lanes ok (s1 := s1) hsk (s2 := s2) (s3 := s3) (k' := k') (nw := nw) (k := 8) (by decide) hl xs t xs[t] (getDI htl)
    have hol := otsL_len n flt xs 8 t
    repeat' first | with_reducible refine AW_seq ?_ | with_reducible refine AW_block ?_ | ((first | with_reducible refine AW_skip ?_ | with_reducible refine AW_exit ?_ | with_reducible refine AW_ret ?_ | with_reducible refine AW_region hTt ?_ | fail); conv => whnf) | (exact absurd hb (by omega)) | ((refine ⟨_, (hbeat a b c).frame (asc []) (by repeat (first | exact trivial | refine ⟨rfl, ?_⟩)) rfl (by rintro _ _ ⟨_, rfl, rfl⟩; rfl), ?_⟩); (rintro _ _ ⟨_, _, ⟨_, rfl, rfl⟩, rfl, rfl⟩); conv => whnf) | (refine AW_cond rfl (fun hb => ?_) (fun hb => ?_) <;> first | (replace hb := of_decide_eq_true hb; try simp only [List.length_map] at hb) | (replace hb := of_decide_eq_false hb; try simp only [List.length_map] at hb) | (simp only [List.length_map, bne_iff_ne, ne_eq, beq_iff_eq, bne_eq_false_iff_eq, beq_eq_false_iff_ne, decide_eq_true_eq, decide_eq_false_iff_not, Bool.not_eq_true', Bool.not_eq_false', Int.natCast_inj] at hb) | skip) | ((first | refine andA ?_ | with_reducible refine Exists.intro _ (And.intro (gd_any (And.intro (by omega) (map_get (by omega)))) ?_) | fail); conv => whnf) | (refine fun hln => ?_; (try rw [List.length_map] at hln); unfold maxLen at hln; conv => whnf) | fail
    rename_i pp
    refine AW_loop (fun l : Nat => [(33, iv .i64 l), (32, iv .i64 8), (31, sl (otsL n flt xs 8 t)), (20, iv .i64 t), (19, iv .i64 xs.length), (18, sl xs), (7, .x (.sb 15 0 8 8)), (8, sl (stsL n flt xs 8 (t + 1))), (0, .x (.b 900 0))])
      (fun l => (15, .box [.o 600 (t + bt 0 l) (t + bt 0 l), .o 601 (t + bt 1 l) (t + bt 1 l), .o 602 (t + bt 2 l) (t + bt 2 l), .o 603 (t + bt 3 l) (t + bt 3 l), .o 604 (t + bt 4 l) (t + bt 4 l), .o 605 (t + bt 5 l) (t + bt 5 l), .o 606 (t + bt 6 l) (t + bt 6 l), .o 607 (t + bt 7 l) (t + bt 7 l)]) :: (600, rwOb n (flt 0) xs (t + bt 0 l)) :: (601, rwOb n (flt 1) xs (t + bt 1 l)) :: (602, rwOb n (flt 2) xs (t + bt 2 l)) :: (603, rwOb n (flt 3) xs (t + bt 3 l)) :: (604, rwOb n (flt 4) xs (t + bt 4 l)) :: (605, rwOb n (flt 5) xs (t + bt 5 l)) :: (606, rwOb n (flt 6) xs (t + bt 6 l)) :: (607, rwOb n (flt 7) xs (t + bt 7 l)) :: sB n s1 sk s2 (dl0 n) pp.1 pp.2.1 pp.2.2) (fun l => l ≤ 8) (fun l => 8 - l) 0 (Nat.zero_le _) impA ?_
    intro l hlk
    rcases Nat.lt_or_ge l 8 with hll | hll
    · have hg := ots_at n flt xs t hll
      have e := row_app n (flt l) xs t l
      have hq := bt_self l
      have hz := outsR_len n (flt l) xs (t + bt l l)
      obtain ⟨j, hj⟩ : ∃ j, j = l + 1 := ⟨_, rfl⟩
      have hl' : l = 0 ∨ l = 1 ∨ l = 2 ∨ l = 3 ∨ l = 4 ∨ l = 5 ∨ l = 6 ∨ l = 7 := by omega
      clear hol hbeat ht hlk hll
      rcases hl' with rfl | rfl | rfl | rfl | rfl | rfl | rfl | rfl
      all_goals
        repeat' first | with_reducible refine AW_seq ?_ | with_reducible refine AW_block ?_ | ((first | with_reducible refine AW_skip ?_ | with_reducible refine AW_region hTt ?_ | with_reducible refine Exists.intro _ (And.intro (gd_any (And.intro (by omega) hg)) ?_) | refine And.intro (gd_any (And.intro (by decide) (by decide))) ?_ | fail); conv => whnf) | ((refine And.intro ?_ ?_; focus (refine ⟨?_, ?_, ?_⟩ <;> simp [chunk, maxLen] <;> omega)); conv => whnf) | (refine AW_cond rfl (fun _ => ?_) (fun hb => absurd hb (by decide))) | ((first | refine ⟨_, wrap_of (by first | omega | (simp only [List.length_map]; omega)), ?_⟩ | refine andA ?_ | fail); conv => whnf) | fail
        exact ⟨j, by omega, by omega, by subst hj; exact impA⟩
    have hle : l = 8 := by omega
    subst hle
    repeat' first | with_reducible refine AW_seq ?_ | ((first | with_reducible refine AW_exit ?_ | with_reducible refine AW_region hTt ?_ | fail); conv => whnf) | (refine AW_cond rfl (fun hb => absurd hb (by decide)) (fun _ => ?_)) | ((refine ⟨_, wrap_of (by first | omega | (simp only [List.length_map]; omega)), ?_⟩); conv => whnf) | fail
    exact ⟨(t + 1, pp.1, pp.2.1, pp.2.2), by show t + 1 ≤ xs.length; omega, by show xs.length - (t + 1) < xs.length - t; omega, impA⟩
  · have hte : t = xs.length := by omega
    subst hte
    repeat' first | with_reducible refine AW_seq ?_ | with_reducible refine AW_block ?_ | ((first | with_reducible refine AW_skip ?_ | with_reducible refine AW_exit ?_ | with_reducible refine AW_ret ?_ | with_reducible refine AW_region hTt ?_ | fail); conv => whnf) | (exact absurd hb (by omega)) | (refine AW_cond rfl (fun hb => ?_) (fun hb => ?_) <;> first | (replace hb := of_decide_eq_true hb; try simp only [List.length_map] at hb) | (replace hb := of_decide_eq_false hb; try simp only [List.length_map] at hb) | (simp only [List.length_map, bne_iff_ne, ne_eq, beq_iff_eq, bne_eq_false_iff_eq, beq_eq_false_iff_ne, decide_eq_true_eq, decide_eq_false_iff_not, Bool.not_eq_true', Bool.not_eq_false', Int.natCast_inj] at hb) | skip) | fail
    refine ⟨_, sB n s1 sk s2 (dl0 n) a b c, ⟨rfl, rfl, rfl, rfl, trivial⟩, rfl, (?_ : _ = some (rowsAV ((List.range 8).map fun l => outsR n (flt l) xs xs.length))), (a, b, c), rfl, rfl⟩
    have hk := keepRows (σ := (15, .box [.o 600 xs.length xs.length, .o 601 xs.length xs.length, .o 602 xs.length xs.length, .o 603 xs.length xs.length, .o 604 xs.length xs.length, .o 605 xs.length xs.length, .o 606 xs.length xs.length, .o 607 xs.length xs.length]) :: (600, rwOb n (flt 0) xs xs.length) :: (601, rwOb n (flt 1) xs xs.length) :: (602, rwOb n (flt 2) xs xs.length) :: (603, rwOb n (flt 3) xs xs.length) :: (604, rwOb n (flt 4) xs xs.length) :: (605, rwOb n (flt 5) xs xs.length) :: (606, rwOb n (flt 6) xs xs.length) :: (607, rwOb n (flt 7) xs xs.length) :: sB n s1 sk s2 (dl0 n) a b c) (σ' := sB n s1 sk s2 (dl0 n) a b c) (id := 15) (n := 8) (cap := 8) (ps := [PV.s 1 ((outsR n (flt 0) xs xs.length).map iPV), PV.s 1 ((outsR n (flt 1) xs xs.length).map iPV), PV.s 1 ((outsR n (flt 2) xs xs.length).map iPV), PV.s 1 ((outsR n (flt 3) xs xs.length).map iPV), PV.s 1 ((outsR n (flt 4) xs xs.length).map iPV), PV.s 1 ((outsR n (flt 5) xs xs.length).map iPV), PV.s 1 ((outsR n (flt 6) xs xs.length).map iPV), PV.s 1 ((outsR n (flt 7) xs xs.length).map iPV)]) rfl rfl
      (by repeat' first | exact rfl | refine rowPVs_cons (rowPV_o rfl rfl (by rw [List.length_map, outsR_len])) ?_) rfl
    exact outKeep1 (x := .x (.sb 15 0 8 8)) rfl hk
end Go.Proofs.YtfghooojingdhaaDoor
namespace Go.Proofs.YtfghooojingdhaaDoor
open Go Go.QL
set_option maxHeartbeats 3200000
attribute [local irreducible] ACall FnC
theorem run_9 {n : NetT} (ok : NetOK n) {s1 : Nat} {sk : List (W16 × W16)} (hsk : sk.length = n.inn.toNat + n.gates.length) {s2 s3 k' : Nat} {nw : List W16}
    {flt : Nat → FaultT} (hl : LanesOK sk flt 9) (xs : List Int) (hxl : xs.length ≤ 4096) :
    ACall Tryd.prog 71 [.x (.b 900 0), iv .i64 9, sl xs] (sB n s1 sk s2 (dl0 n) s3 k' nw)
      (fun r σ' => ∃ p : Nat × Nat × List W16, r = rowsAV ((List.range 9).map fun l => outsR n (flt l) xs xs.length) ∧ σ' = sB n s1 sk s2 (dl0 n) p.1 p.2.1 p.2.2) := by
  refine ACall_of_AWD hTt Tryd.func71 rfl (by kernel_rfl) (res := [.tmp 6]) rfl Tryd.ntmps71 (by simp) fun w0 K0 B => ?_
  dsimp only [entry]
  repeat' first | with_reducible refine AW_seq ?_ | with_reducible refine AW_block ?_ | ((first | with_reducible refine AW_region hTt ?_ | refine AW_draw hTt hMix (id := 1) 5 true [0, 1, 0, 4, 3, 31] (by kernel_rfl) rfl rfl (by kernel_rfl) ?_ | refine Or.inr ?_ | refine andA ?_ | fail); conv => whnf) | (refine fun hln => ?_; (try rw [List.length_map] at hln); unfold maxLen at hln; conv => whnf) | fail
  refine AW_imp (Imp.freeze 17 (fr' := frR n flt xs 9) (σ' := (15, .box (cellsN 9 0 0)) :: sB n s1 sk s2 (dl0 n) s3 k' nw) rfl ?_ ?_ rfl rfl) ?_
  · exact ⟨⟨_, rfl, .inl rfl⟩, ⟨_, congrArg (fun k : Nat => some (iv .i64 k)) (List.length_map _), .inl rfl⟩, ⟨_, rfl, .inl rfl⟩, ⟨_, rfl, .inl rfl⟩, ⟨_, rfl, .inr ⟨9, rfl, Nat.le_of_ble_eq_true rfl, rfl⟩⟩, ⟨_, rfl, .inl rfl⟩, trivial⟩
  · exact ⟨rfl, rfl, rfl, rfl, rfl, trivial⟩
  refine AW_imp (Imp.nil 600 3 1 (fr' := frR n flt xs 9) (σ' := chN 0 ((15, .box (cellsN 9 0 1)) :: sB n s1 sk s2 (dl0 n) s3 k' nw)) rfl ⟨⟨_, rfl, .inl rfl⟩, ⟨_, rfl, .inl rfl⟩, ⟨_, rfl, .inl rfl⟩, ⟨_, rfl, .inl rfl⟩, ⟨_, rfl, .inl rfl⟩, ⟨_, rfl, .inl rfl⟩, trivial⟩ ?_ rfl rfl) ?_
  · exact ⟨⟨_, rfl, .inr ⟨_, _, rfl, rfl, .inr ⟨rfl, rfl⟩, .inl rfl, .inl rfl, .inl rfl, .inl rfl, .inl rfl, .inl rfl, .inl rfl, .inl rfl, trivial⟩⟩, ⟨_, rfl, .inl rfl⟩, ⟨_, rfl, .inl rfl⟩, ⟨_, rfl, .inl rfl⟩, ⟨_, rfl, .inl rfl⟩, trivial⟩
  refine AW_imp (Imp.nil 601 3 1 (fr' := frR n flt xs 9) (σ' := chN 1 ((15, .box (cellsN 9 0 2)) :: sB n s1 sk s2 (dl0 n) s3 k' nw)) rfl ⟨⟨_, rfl, .inl rfl⟩, ⟨_, rfl, .inl rfl⟩, ⟨_, rfl, .inl rfl⟩, ⟨_, rfl, .inl rfl⟩, ⟨_, rfl, .inl rfl⟩, ⟨_, rfl, .inl rfl⟩, trivial⟩ ?_ rfl rfl) ?_
  · exact ⟨⟨_, rfl, .inl rfl⟩, ⟨_, rfl, .inr ⟨_, _, rfl, rfl, .inl rfl, .inr ⟨rfl, rfl⟩, .inl rfl, .inl rfl, .inl rfl, .inl rfl, .inl rfl, .inl rfl, .inl rfl, trivial⟩⟩, ⟨_, rfl, .inl rfl⟩, ⟨_, rfl, .inl rfl⟩, ⟨_, rfl, .inl rfl⟩, ⟨_, rfl, .inl rfl⟩, trivial⟩
  refine AW_imp (Imp.nil 602 3 1 (fr' := frR n flt xs 9) (σ' := chN 2 ((15, .box (cellsN 9 0 3)) :: sB n s1 sk s2 (dl0 n) s3 k' nw)) rfl ⟨⟨_, rfl, .inl rfl⟩, ⟨_, rfl, .inl rfl⟩, ⟨_, rfl, .inl rfl⟩, ⟨_, rfl, .inl rfl⟩, ⟨_, rfl, .inl rfl⟩, ⟨_, rfl, .inl rfl⟩, trivial⟩ ?_ rfl rfl) ?_
  · exact ⟨⟨_, rfl, .inl rfl⟩, ⟨_, rfl, .inl rfl⟩, ⟨_, rfl, .inr ⟨_, _, rfl, rfl, .inl rfl, .inl rfl, .inr ⟨rfl, rfl⟩, .inl rfl, .inl rfl, .inl rfl, .inl rfl, .inl rfl, .inl rfl, trivial⟩⟩, ⟨_, rfl, .inl rfl⟩, ⟨_, rfl, .inl rfl⟩, ⟨_, rfl, .inl rfl⟩, ⟨_, rfl, .inl rfl⟩, trivial⟩
  refine AW_imp (Imp.nil 603 3 1 (fr' := frR n flt xs 9) (σ' := chN 3 ((15, .box (cellsN 9 0 4)) :: sB n s1 sk s2 (dl0 n) s3 k' nw)) rfl ⟨⟨_, rfl, .inl rfl⟩, ⟨_, rfl, .inl rfl⟩, ⟨_, rfl, .inl rfl⟩, ⟨_, rfl, .inl rfl⟩, ⟨_, rfl, .inl rfl⟩, ⟨_, rfl, .inl rfl⟩, trivial⟩ ?_ rfl rfl) ?_
  · exact ⟨⟨_, rfl, .inl rfl⟩, ⟨_, rfl, .inl rfl⟩, ⟨_, rfl, .inl rfl⟩, ⟨_, rfl, .inr ⟨_, _, rfl, rfl, .inl rfl, .inl rfl, .inl rfl, .inr ⟨rfl, rfl⟩, .inl rfl, .inl rfl, .inl rfl, .inl rfl, .inl rfl, trivial⟩⟩, ⟨_, rfl, .inl rfl⟩, ⟨_, rfl, .inl rfl⟩, ⟨_, rfl, .inl rfl⟩, ⟨_, rfl, .inl rfl⟩, trivial⟩
  refine AW_imp (Imp.nil 604 3 1 (fr' := frR n flt xs 9) (σ' := chN 4 ((15, .box (cellsN 9 0 5)) :: sB n s1 sk s2 (dl0 n) s3 k' nw)) rfl ⟨⟨_, rfl, .inl rfl⟩, ⟨_, rfl, .inl rfl⟩, ⟨_, rfl, .inl rfl⟩, ⟨_, rfl, .inl rfl⟩, ⟨_, rfl, .inl rfl⟩, ⟨_, rfl, .inl rfl⟩, trivial⟩ ?_ rfl rfl) ?_
  · exact ⟨⟨_, rfl, .inl rfl⟩, ⟨_, rfl, .inl rfl⟩, ⟨_, rfl, .inl rfl⟩, ⟨_, rfl, .inl rfl⟩, ⟨_, rfl, .inr ⟨_, _, rfl, rfl, .inl rfl, .inl rfl, .inl rfl, .inl rfl, .inr ⟨rfl, rfl⟩, .inl rfl, .inl rfl, .inl rfl, .inl rfl, trivial⟩⟩, ⟨_, rfl, .inl rfl⟩, ⟨_, rfl, .inl rfl⟩, ⟨_, rfl, .inl rfl⟩, ⟨_, rfl, .inl rfl⟩, trivial⟩
  refine AW_imp (Imp.nil 605 3 1 (fr' := frR n flt xs 9) (σ' := chN 5 ((15, .box (cellsN 9 0 6)) :: sB n s1 sk s2 (dl0 n) s3 k' nw)) rfl ⟨⟨_, rfl, .inl rfl⟩, ⟨_, rfl, .inl rfl⟩, ⟨_, rfl, .inl rfl⟩, ⟨_, rfl, .inl rfl⟩, ⟨_, rfl, .inl rfl⟩, ⟨_, rfl, .inl rfl⟩, trivial⟩ ?_ rfl rfl) ?_
  · exact ⟨⟨_, rfl, .inl rfl⟩, ⟨_, rfl, .inl rfl⟩, ⟨_, rfl, .inl rfl⟩, ⟨_, rfl, .inl rfl⟩, ⟨_, rfl, .inl rfl⟩, ⟨_, rfl, .inr ⟨_, _, rfl, rfl, .inl rfl, .inl rfl, .inl rfl, .inl rfl, .inl rfl, .inr ⟨rfl, rfl⟩, .inl rfl, .inl rfl, .inl rfl, trivial⟩⟩, ⟨_, rfl, .inl rfl⟩, ⟨_, rfl, .inl rfl⟩, ⟨_, rfl, .inl rfl⟩, ⟨_, rfl, .inl rfl⟩, trivial⟩
  refine AW_imp (Imp.nil 606 3 1 (fr' := frR n flt xs 9) (σ' := chN 6 ((15, .box (cellsN 9 0 7)) :: sB n s1 sk s2 (dl0 n) s3 k' nw)) rfl ⟨⟨_, rfl, .inl rfl⟩, ⟨_, rfl, .inl rfl⟩, ⟨_, rfl, .inl rfl⟩, ⟨_, rfl, .inl rfl⟩, ⟨_, rfl, .inl rfl⟩, ⟨_, rfl, .inl rfl⟩, trivial⟩ ?_ rfl rfl) ?_
  · exact ⟨⟨_, rfl, .inl rfl⟩, ⟨_, rfl, .inl rfl⟩, ⟨_, rfl, .inl rfl⟩, ⟨_, rfl, .inl rfl⟩, ⟨_, rfl, .inl rfl⟩, ⟨_, rfl, .inl rfl⟩, ⟨_, rfl, .inr ⟨_, _, rfl, rfl, .inl rfl, .inl rfl, .inl rfl, .inl rfl, .inl rfl, .inl rfl, .inr ⟨rfl, rfl⟩, .inl rfl, .inl rfl, trivial⟩⟩, ⟨_, rfl, .inl rfl⟩, ⟨_, rfl, .inl rfl⟩, ⟨_, rfl, .inl rfl⟩, ⟨_, rfl, .inl rfl⟩, trivial⟩
  refine AW_imp (Imp.nil 607 3 1 (fr' := frR n flt xs 9) (σ' := chN 7 ((15, .box (cellsN 9 0 8)) :: sB n s1 sk s2 (dl0 n) s3 k' nw)) rfl ⟨⟨_, rfl, .inl rfl⟩, ⟨_, rfl, .inl rfl⟩, ⟨_, rfl, .inl rfl⟩, ⟨_, rfl, .inl rfl⟩, ⟨_, rfl, .inl rfl⟩, ⟨_, rfl, .inl rfl⟩, trivial⟩ ?_ rfl rfl) ?_
  · exact ⟨⟨_, rfl, .inl rfl⟩, ⟨_, rfl, .inl rfl⟩, ⟨_, rfl, .inl rfl⟩, ⟨_, rfl, .inl rfl⟩, ⟨_, rfl, .inl rfl⟩, ⟨_, rfl, .inl rfl⟩, ⟨_, rfl, .inl rfl⟩, ⟨_, rfl, .inr ⟨_, _, rfl, rfl, .inl rfl, .inl rfl, .inl rfl, .inl rfl, .inl rfl, .inl rfl, .inl rfl, .inr ⟨rfl, rfl⟩, .inl rfl, trivial⟩⟩, ⟨_, rfl, .inl rfl⟩, ⟨_, rfl, .inl rfl⟩, ⟨_, rfl, .inl rfl⟩, ⟨_, rfl, .inl rfl⟩, trivial⟩
  refine AW_imp (Imp.nil 608 3 1 (fr' := frR n flt xs 9) (σ' := chN 8 ((15, .box (cellsN 9 0 9)) :: sB n s1 sk s2 (dl0 n) s3 k' nw)) rfl ⟨⟨_, rfl, .inl rfl⟩, ⟨_, rfl, .inl rfl⟩, ⟨_, rfl, .inl rfl⟩, ⟨_, rfl, .inl rfl⟩, ⟨_, rfl, .inl rfl⟩, ⟨_, rfl, .inl rfl⟩, trivial⟩ ?_ rfl rfl) ?_
  · exact ⟨⟨_, rfl, .inl rfl⟩, ⟨_, rfl, .inl rfl⟩, ⟨_, rfl, .inl rfl⟩, ⟨_, rfl, .inl rfl⟩, ⟨_, rfl, .inl rfl⟩, ⟨_, rfl, .inl rfl⟩, ⟨_, rfl, .inl rfl⟩, ⟨_, rfl, .inl rfl⟩, ⟨_, rfl, .inr ⟨_, _, rfl, rfl, .inl rfl, .inl rfl, .inl rfl, .inl rfl, .inl rfl, .inl rfl, .inl rfl, .inl rfl, .inr ⟨rfl, rfl⟩, trivial⟩⟩, ⟨_, rfl, .inl rfl⟩, ⟨_, rfl, .inl rfl⟩, ⟨_, rfl, .inl rfl⟩, ⟨_, rfl, .inl rfl⟩, trivial⟩
  refine AW_loop (fun p : Nat × Nat × Nat × List W16 => [(20, iv .i64 p.1), (19, iv .i64 xs.length), (18, sl xs), (7, .x (.sb 15 0 9 9)), (8, sl (stsL n flt xs 9 p.1)), (0, .x (.b 900 0))])
    (fun p => (15, .box [.o 600 (p.1) (p.1), .o 601 (p.1) (p.1), .o 602 (p.1) (p.1), .o 603 (p.1) (p.1), .o 604 (p.1) (p.1), .o 605 (p.1) (p.1), .o 606 (p.1) (p.1), .o 607 (p.1) (p.1), .o 608 (p.1) (p.1)]) :: (600, rwOb n (flt 0) xs (p.1)) :: (601, rwOb n (flt 1) xs (p.1)) :: (602, rwOb n (flt 2) xs (p.1)) :: (603, rwOb n (flt 3) xs (p.1)) :: (604, rwOb n (flt 4) xs (p.1)) :: (605, rwOb n (flt 5) xs (p.1)) :: (606, rwOb n (flt 6) xs (p.1)) :: (607, rwOb n (flt 7) xs (p.1)) :: (608, rwOb n (flt 8) xs (p.1)) :: sB n s1 sk s2 (dl0 n) p.2.1 p.2.2.1 p.2.2.2)
    (fun p => p.1 ≤ xs.length) (fun p => xs.length - p.1) (0, s3, k', nw) (Nat.zero_le _) impA ?_
  rintro ⟨t, a, b, c⟩ ht
  dsimp only at ht ⊢
  rcases Nat.lt_or_ge t xs.length with htl | htl
  · have hbeat := fun s3 k' nw => beat_lanes ok (s1 := s1) hsk (s2 := s2) (s3 := s3) (k' := k') (nw := nw) (k := 9) (by decide) hl xs t xs[t] (getDI htl)
    have hol := otsL_len n flt xs 9 t
    repeat' first | with_reducible refine AW_seq ?_ | with_reducible refine AW_block ?_ | ((first | with_reducible refine AW_skip ?_ | with_reducible refine AW_exit ?_ | with_reducible refine AW_ret ?_ | with_reducible refine AW_region hTt ?_ | fail); conv => whnf) | (exact absurd hb (by omega)) | ((refine ⟨_, (hbeat a b c).frame (asc []) (by repeat (first | exact trivial | refine ⟨rfl, ?_⟩)) rfl (by rintro _ _ ⟨_, rfl, rfl⟩; rfl), ?_⟩); (rintro _ _ ⟨_, _, ⟨_, rfl, rfl⟩, rfl, rfl⟩); conv => whnf) | (refine AW_cond rfl (fun hb => ?_) (fun hb => ?_) <;> first | (replace hb := of_decide_eq_true hb; try simp only [List.length_map] at hb) | (replace hb := of_decide_eq_false hb; try simp only [List.length_map] at hb) | (simp only [List.length_map, bne_iff_ne, ne_eq, beq_iff_eq, bne_eq_false_iff_eq, beq_eq_false_iff_ne, decide_eq_true_eq, decide_eq_false_iff_not, Bool.not_eq_true', Bool.not_eq_false', Int.natCast_inj] at hb) | skip) | ((first | refine andA ?_ | with_reducible refine Exists.intro _ (And.intro (gd_any (And.intro (by omega) (map_get (by omega)))) ?_) | fail); conv => whnf) | (refine fun hln => ?_; (try rw [List.length_map] at hln); unfold maxLen at hln; conv => whnf) | fail
    rename_i pp
    refine AW_loop (fun l : Nat => [(33, iv .i64 l), (32, iv .i64 9), (31, sl (otsL n flt xs 9 t)), (20, iv .i64 t), (19, iv .i64 xs.length), (18, sl xs), (7, .x (.sb 15 0 9 9)), (8, sl (stsL n flt xs 9 (t + 1))), (0, .x (.b 900 0))])
      (fun l => (15, .box [.o 600 (t + bt 0 l) (t + bt 0 l), .o 601 (t + bt 1 l) (t + bt 1 l), .o 602 (t + bt 2 l) (t + bt 2 l), .o 603 (t + bt 3 l) (t + bt 3 l), .o 604 (t + bt 4 l) (t + bt 4 l), .o 605 (t + bt 5 l) (t + bt 5 l), .o 606 (t + bt 6 l) (t + bt 6 l), .o 607 (t + bt 7 l) (t + bt 7 l), .o 608 (t + bt 8 l) (t + bt 8 l)]) :: (600, rwOb n (flt 0) xs (t + bt 0 l)) :: (601, rwOb n (flt 1) xs (t + bt 1 l)) :: (602, rwOb n (flt 2) xs (t + bt 2 l)) :: (603, rwOb n (flt 3) xs (t + bt 3 l)) :: (604, rwOb n (flt 4) xs (t + bt 4 l)) :: (605, rwOb n (flt 5) xs (t + bt 5 l)) :: (606, rwOb n (flt 6) xs (t + bt 6 l)) :: (607, rwOb n (flt 7) xs (t + bt 7 l)) :: (608, rwOb n (flt 8) xs (t + bt 8 l)) :: sB n s1 sk s2 (dl0 n) pp.1 pp.2.1 pp.2.2) (fun l => l ≤ 9) (fun l => 9 - l) 0 (Nat.zero_le _) impA ?_
    intro l hlk
    rcases Nat.lt_or_ge l 9 with hll | hll
    · have hg := ots_at n flt xs t hll
      have e := row_app n (flt l) xs t l
      have hq := bt_self l
      have hz := outsR_len n (flt l) xs (t + bt l l)
      obtain ⟨j, hj⟩ : ∃ j, j = l + 1 := ⟨_, rfl⟩
      have hl' : l = 0 ∨ l = 1 ∨ l = 2 ∨ l = 3 ∨ l = 4 ∨ l = 5 ∨ l = 6 ∨ l = 7 ∨ l = 8 := by omega
      clear hol hbeat ht hlk hll
      rcases hl' with rfl | rfl | rfl | rfl | rfl | rfl | rfl | rfl | rfl
      all_goals
        repeat' first | with_reducible refine AW_seq ?_ | with_reducible refine AW_block ?_ | ((first | with_reducible refine AW_skip ?_ | with_reducible refine AW_region hTt ?_ | with_reducible refine Exists.intro _ (And.intro (gd_any (And.intro (by omega) hg)) ?_) | refine And.intro (gd_any (And.intro (by decide) (by decide))) ?_ | fail); conv => whnf) | ((refine And.intro ?_ ?_; focus (refine ⟨?_, ?_, ?_⟩ <;> simp [chunk, maxLen] <;> omega)); conv => whnf) | (refine AW_cond rfl (fun _ => ?_) (fun hb => absurd hb (by decide))) | ((first | refine ⟨_, wrap_of (by first | omega | (simp only [List.length_map]; omega)), ?_⟩ | refine andA ?_ | fail); conv => whnf) | fail
        exact ⟨j, by omega, by omega, by subst hj; exact impA⟩
    have hle : l = 9 := by omega
    subst hle
    repeat' first | with_reducible refine AW_seq ?_ | ((first | with_reducible refine AW_exit ?_ | with_reducible refine AW_region hTt ?_ | fail); conv => whnf) | (refine AW_cond rfl (fun hb => absurd hb (by decide)) (fun _ => ?_)) | ((refine ⟨_, wrap_of (by first | omega | (simp only [List.length_map]; omega)), ?_⟩); conv => whnf) | fail
    exact ⟨(t + 1, pp.1, pp.2.1, pp.2.2), by show t + 1 ≤ xs.length; omega, by show xs.length - (t + 1) < xs.length - t; omega, impA⟩
  · have hte : t = xs.length := by omega
    subst hte
    repeat' first | with_reducible refine AW_seq ?_ | with_reducible refine AW_block ?_ | ((first | with_reducible refine AW_skip ?_ | with_reducible refine AW_exit ?_ | with_reducible refine AW_ret ?_ | with_reducible refine AW_region hTt ?_ | fail); conv => whnf) | (exact absurd hb (by omega)) | (refine AW_cond rfl (fun hb => ?_) (fun hb => ?_) <;> first | (replace hb := of_decide_eq_true hb; try simp only [List.length_map] at hb) | (replace hb := of_decide_eq_false hb; try simp only [List.length_map] at hb) | (simp only [List.length_map, bne_iff_ne, ne_eq, beq_iff_eq, bne_eq_false_iff_eq, beq_eq_false_iff_ne, decide_eq_true_eq, decide_eq_false_iff_not, Bool.not_eq_true', Bool.not_eq_false', Int.natCast_inj] at hb) | skip) | fail
    refine ⟨_, sB n s1 sk s2 (dl0 n) a b c, ⟨rfl, rfl, rfl, rfl, trivial⟩, rfl, (?_ : _ = some (rowsAV ((List.range 9).map fun l => outsR n (flt l) xs xs.length))), (a, b, c), rfl, rfl⟩
    have hk := keepRows (σ := (15, .box [.o 600 xs.length xs.length, .o 601 xs.length xs.length, .o 602 xs.length xs.length, .o 603 xs.length xs.length, .o 604 xs.length xs.length, .o 605 xs.length xs.length, .o 606 xs.length xs.length, .o 607 xs.length xs.length, .o 608 xs.length xs.length]) :: (600, rwOb n (flt 0) xs xs.length) :: (601, rwOb n (flt 1) xs xs.length) :: (602, rwOb n (flt 2) xs xs.length) :: (603, rwOb n (flt 3) xs xs.length) :: (604, rwOb n (flt 4) xs xs.length) :: (605, rwOb n (flt 5) xs xs.length) :: (606, rwOb n (flt 6) xs xs.length) :: (607, rwOb n (flt 7) xs xs.length) :: (608, rwOb n (flt 8) xs xs.length) :: sB n s1 sk s2 (dl0 n) a b c) (σ' := sB n s1 sk s2 (dl0 n) a b c) (id := 15) (n := 9) (cap := 9) (ps := [PV.s 1 ((outsR n (flt 0) xs xs.length).map iPV), PV.s 1 ((outsR n (flt 1) xs xs.length).map iPV), PV.s 1 ((outsR n (flt 2) xs xs.length).map iPV), PV.s 1 ((outsR n (flt 3) xs xs.length).map iPV), PV.s 1 ((outsR n (flt 4) xs xs.length).map iPV), PV.s 1 ((outsR n (flt 5) xs xs.length).map iPV), PV.s 1 ((outsR n (flt 6) xs xs.length).map iPV), PV.s 1 ((outsR n (flt 7) xs xs.length).map iPV), PV.s 1 ((outsR n (flt 8) xs xs.length).map iPV)]) rfl rfl
      (by repeat' first | exact rfl | refine rowPVs_cons (rowPV_o rfl rfl (by rw [List.length_map, outsR_len])) ?_) rfl
    exact outKeep1 (x := .x (.sb 15 0 9 9)) rfl hk
end Go.Proofs.YtfghooojingdhaaDoor
namespace Go.Proofs.YtfghooojingdhaaDoor
open Go Go.QL
set_option maxHeartbeats 3200000
attribute [local irreducible] ACall FnC
theorem run_10 {n : NetT} (ok : NetOK n) {s1 : Nat} {sk : List (W16 × W16)} (hsk : sk.length = n.inn.toNat + n.gates.length) {s2 s3 k' : Nat} {nw : List W16}
    {flt : Nat → FaultT} (hl : LanesOK sk flt 10) (xs : List Int) (hxl : xs.length ≤ 4096) :
    ACall Tryd.prog 71 [.x (.b 900 0), iv .i64 10, sl xs] (sB n s1 sk s2 (dl0 n) s3 k' nw)
      (fun r σ' => ∃ p : Nat × Nat × List W16, r = rowsAV ((List.range 10).map fun l => outsR n (flt l) xs xs.length) ∧ σ' = sB n s1 sk s2 (dl0 n) p.1 p.2.1 p.2.2) := by
  refine ACall_of_AWD hTt Tryd.func71 rfl (by kernel_rfl) (res := [.tmp 6]) rfl Tryd.ntmps71 (by simp) fun w0 K0 B => ?_
  dsimp only [entry]
  repeat' first | with_reducible refine AW_seq ?_ | with_reducible refine AW_block ?_ | ((first | with_reducible refine AW_region hTt ?_ | refine AW_draw hTt hMix (id := 1) 5 true [0, 1, 0, 4, 3, 31] (by kernel_rfl) rfl rfl (by kernel_rfl) ?_ | refine Or.inr ?_ | refine andA ?_ | fail); conv => whnf) | (refine fun hln => ?_; (try rw [List.length_map] at hln); unfold maxLen at hln; conv => whnf) | fail
  refine AW_imp (Imp.freeze 17 (fr' := frR n flt xs 10) (σ' := (15, .box (cellsN 10 0 0)) :: sB n s1 sk s2 (dl0 n) s3 k' nw) rfl ?_ ?_ rfl rfl) ?_
  · exact ⟨⟨_, rfl, .inl rfl⟩, ⟨_, congrArg (fun k : Nat => some (iv .i64 k)) (List.length_map _), .inl rfl⟩, ⟨_, rfl, .inl rfl⟩, ⟨_, rfl, .inl rfl⟩, ⟨_, rfl, .inr ⟨10, rfl, Nat.le_of_ble_eq_true rfl, rfl⟩⟩, ⟨_, rfl, .inl rfl⟩, trivial⟩
  · exact ⟨rfl, rfl, rfl, rfl, rfl, trivial⟩
  refine AW_imp (Imp.nil 600 3 1 (fr' := frR n flt xs 10) (σ' := chN 0 ((15, .box (cellsN 10 0 1)) :: sB n s1 sk s2 (dl0 n) s3 k' nw)) rfl ⟨⟨_, rfl, .inl rfl⟩, ⟨_, rfl, .inl rfl⟩, ⟨_, rfl, .inl rfl⟩, ⟨_, rfl, .inl rfl⟩, ⟨_, rfl, .inl rfl⟩, ⟨_, rfl, .inl rfl⟩, trivial⟩ ?_ rfl rfl) ?_
  · exact ⟨⟨_, rfl, .inr ⟨_, _, rfl, rfl, .inr ⟨rfl, rfl⟩, .inl rfl, .inl rfl, .inl rfl, .inl rfl, .inl rfl, .inl rfl, .inl rfl, .inl rfl, .inl rfl, trivial⟩⟩, ⟨_, rfl, .inl rfl⟩, ⟨_, rfl, .inl rfl⟩, ⟨_, rfl, .inl rfl⟩, ⟨_, rfl, .inl rfl⟩, trivial⟩
  refine AW_imp (Imp.nil 601 3 1 (fr' := frR n flt xs 10) (σ' := chN 1 ((15, .box (cellsN 10 0 2)) :: sB n s1 sk s2 (dl0 n) s3 k' nw)) rfl ⟨⟨_, rfl, .inl rfl⟩, ⟨_, rfl, .inl rfl⟩, ⟨_, rfl, .inl rfl⟩, ⟨_, rfl, .inl rfl⟩, ⟨_, rfl, .inl rfl⟩, ⟨_, rfl, .inl rfl⟩, trivial⟩ ?_ rfl rfl) ?_
  · exact ⟨⟨_, rfl, .inl rfl⟩, ⟨_, rfl, .inr ⟨_, _, rfl, rfl, .inl rfl, .inr ⟨rfl, rfl⟩, .inl rfl, .inl rfl, .inl rfl, .inl rfl, .inl rfl, .inl rfl, .inl rfl, .inl rfl, trivial⟩⟩, ⟨_, rfl, .inl rfl⟩, ⟨_, rfl, .inl rfl⟩, ⟨_, rfl, .inl rfl⟩, ⟨_, rfl, .inl rfl⟩, trivial⟩
  refine AW_imp (Imp.nil 602 3 1 (fr' := frR n flt xs 10) (σ' := chN 2 ((15, .box (cellsN 10 0 3)) :: sB n s1 sk s2 (dl0 n) s3 k' nw)) rfl ⟨⟨_, rfl, .inl rfl⟩, ⟨_, rfl, .inl rfl⟩, ⟨_, rfl, .inl rfl⟩, ⟨_, rfl, .inl rfl⟩, ⟨_, rfl, .inl rfl⟩, ⟨_, rfl, .inl rfl⟩, trivial⟩ ?_ rfl rfl) ?_
  · exact ⟨⟨_, rfl, .inl rfl⟩, ⟨_, rfl, .inl rfl⟩, ⟨_, rfl, .inr ⟨_, _, rfl, rfl, .inl rfl, .inl rfl, .inr ⟨rfl, rfl⟩, .inl rfl, .inl rfl, .inl rfl, .inl rfl, .inl rfl, .inl rfl, .inl rfl, trivial⟩⟩, ⟨_, rfl, .inl rfl⟩, ⟨_, rfl, .inl rfl⟩, ⟨_, rfl, .inl rfl⟩, ⟨_, rfl, .inl rfl⟩, trivial⟩
  refine AW_imp (Imp.nil 603 3 1 (fr' := frR n flt xs 10) (σ' := chN 3 ((15, .box (cellsN 10 0 4)) :: sB n s1 sk s2 (dl0 n) s3 k' nw)) rfl ⟨⟨_, rfl, .inl rfl⟩, ⟨_, rfl, .inl rfl⟩, ⟨_, rfl, .inl rfl⟩, ⟨_, rfl, .inl rfl⟩, ⟨_, rfl, .inl rfl⟩, ⟨_, rfl, .inl rfl⟩, trivial⟩ ?_ rfl rfl) ?_
  · exact ⟨⟨_, rfl, .inl rfl⟩, ⟨_, rfl, .inl rfl⟩, ⟨_, rfl, .inl rfl⟩, ⟨_, rfl, .inr ⟨_, _, rfl, rfl, .inl rfl, .inl rfl, .inl rfl, .inr ⟨rfl, rfl⟩, .inl rfl, .inl rfl, .inl rfl, .inl rfl, .inl rfl, .inl rfl, trivial⟩⟩, ⟨_, rfl, .inl rfl⟩, ⟨_, rfl, .inl rfl⟩, ⟨_, rfl, .inl rfl⟩, ⟨_, rfl, .inl rfl⟩, trivial⟩
  refine AW_imp (Imp.nil 604 3 1 (fr' := frR n flt xs 10) (σ' := chN 4 ((15, .box (cellsN 10 0 5)) :: sB n s1 sk s2 (dl0 n) s3 k' nw)) rfl ⟨⟨_, rfl, .inl rfl⟩, ⟨_, rfl, .inl rfl⟩, ⟨_, rfl, .inl rfl⟩, ⟨_, rfl, .inl rfl⟩, ⟨_, rfl, .inl rfl⟩, ⟨_, rfl, .inl rfl⟩, trivial⟩ ?_ rfl rfl) ?_
  · exact ⟨⟨_, rfl, .inl rfl⟩, ⟨_, rfl, .inl rfl⟩, ⟨_, rfl, .inl rfl⟩, ⟨_, rfl, .inl rfl⟩, ⟨_, rfl, .inr ⟨_, _, rfl, rfl, .inl rfl, .inl rfl, .inl rfl, .inl rfl, .inr ⟨rfl, rfl⟩, .inl rfl, .inl rfl, .inl rfl, .inl rfl, .inl rfl, trivial⟩⟩, ⟨_, rfl, .inl rfl⟩, ⟨_, rfl, .inl rfl⟩, ⟨_, rfl, .inl rfl⟩, ⟨_, rfl, .inl rfl⟩, trivial⟩
  refine AW_imp (Imp.nil 605 3 1 (fr' := frR n flt xs 10) (σ' := chN 5 ((15, .box (cellsN 10 0 6)) :: sB n s1 sk s2 (dl0 n) s3 k' nw)) rfl ⟨⟨_, rfl, .inl rfl⟩, ⟨_, rfl, .inl rfl⟩, ⟨_, rfl, .inl rfl⟩, ⟨_, rfl, .inl rfl⟩, ⟨_, rfl, .inl rfl⟩, ⟨_, rfl, .inl rfl⟩, trivial⟩ ?_ rfl rfl) ?_
  · exact ⟨⟨_, rfl, .inl rfl⟩, ⟨_, rfl, .inl rfl⟩, ⟨_, rfl, .inl rfl⟩, ⟨_, rfl, .inl rfl⟩, ⟨_, rfl, .inl rfl⟩, ⟨_, rfl, .inr ⟨_, _, rfl, rfl, .inl rfl, .inl rfl, .inl rfl, .inl rfl, .inl rfl, .inr ⟨rfl, rfl⟩, .inl rfl, .inl rfl, .inl rfl, .inl rfl, trivial⟩⟩, ⟨_, rfl, .inl rfl⟩, ⟨_, rfl, .inl rfl⟩, ⟨_, rfl, .inl rfl⟩, ⟨_, rfl, .inl rfl⟩, trivial⟩
  refine AW_imp (Imp.nil 606 3 1 (fr' := frR n flt xs 10) (σ' := chN 6 ((15, .box (cellsN 10 0 7)) :: sB n s1 sk s2 (dl0 n) s3 k' nw)) rfl ⟨⟨_, rfl, .inl rfl⟩, ⟨_, rfl, .inl rfl⟩, ⟨_, rfl, .inl rfl⟩, ⟨_, rfl, .inl rfl⟩, ⟨_, rfl, .inl rfl⟩, ⟨_, rfl, .inl rfl⟩, trivial⟩ ?_ rfl rfl) ?_
  · exact ⟨⟨_, rfl, .inl rfl⟩, ⟨_, rfl, .inl rfl⟩, ⟨_, rfl, .inl rfl⟩, ⟨_, rfl, .inl rfl⟩, ⟨_, rfl, .inl rfl⟩, ⟨_, rfl, .inl rfl⟩, ⟨_, rfl, .inr ⟨_, _, rfl, rfl, .inl rfl, .inl rfl, .inl rfl, .inl rfl, .inl rfl, .inl rfl, .inr ⟨rfl, rfl⟩, .inl rfl, .inl rfl, .inl rfl, trivial⟩⟩, ⟨_, rfl, .inl rfl⟩, ⟨_, rfl, .inl rfl⟩, ⟨_, rfl, .inl rfl⟩, ⟨_, rfl, .inl rfl⟩, trivial⟩
  refine AW_imp (Imp.nil 607 3 1 (fr' := frR n flt xs 10) (σ' := chN 7 ((15, .box (cellsN 10 0 8)) :: sB n s1 sk s2 (dl0 n) s3 k' nw)) rfl ⟨⟨_, rfl, .inl rfl⟩, ⟨_, rfl, .inl rfl⟩, ⟨_, rfl, .inl rfl⟩, ⟨_, rfl, .inl rfl⟩, ⟨_, rfl, .inl rfl⟩, ⟨_, rfl, .inl rfl⟩, trivial⟩ ?_ rfl rfl) ?_
  · exact ⟨⟨_, rfl, .inl rfl⟩, ⟨_, rfl, .inl rfl⟩, ⟨_, rfl, .inl rfl⟩, ⟨_, rfl, .inl rfl⟩, ⟨_, rfl, .inl rfl⟩, ⟨_, rfl, .inl rfl⟩, ⟨_, rfl, .inl rfl⟩, ⟨_, rfl, .inr ⟨_, _, rfl, rfl, .inl rfl, .inl rfl, .inl rfl, .inl rfl, .inl rfl, .inl rfl, .inl rfl, .inr ⟨rfl, rfl⟩, .inl rfl, .inl rfl, trivial⟩⟩, ⟨_, rfl, .inl rfl⟩, ⟨_, rfl, .inl rfl⟩, ⟨_, rfl, .inl rfl⟩, ⟨_, rfl, .inl rfl⟩, trivial⟩
  refine AW_imp (Imp.nil 608 3 1 (fr' := frR n flt xs 10) (σ' := chN 8 ((15, .box (cellsN 10 0 9)) :: sB n s1 sk s2 (dl0 n) s3 k' nw)) rfl ⟨⟨_, rfl, .inl rfl⟩, ⟨_, rfl, .inl rfl⟩, ⟨_, rfl, .inl rfl⟩, ⟨_, rfl, .inl rfl⟩, ⟨_, rfl, .inl rfl⟩, ⟨_, rfl, .inl rfl⟩, trivial⟩ ?_ rfl rfl) ?_
  · exact ⟨⟨_, rfl, .inl rfl⟩, ⟨_, rfl, .inl rfl⟩, ⟨_, rfl, .inl rfl⟩, ⟨_, rfl, .inl rfl⟩, ⟨_, rfl, .inl rfl⟩, ⟨_, rfl, .inl rfl⟩, ⟨_, rfl, .inl rfl⟩, ⟨_, rfl, .inl rfl⟩, ⟨_, rfl, .inr ⟨_, _, rfl, rfl, .inl rfl, .inl rfl, .inl rfl, .inl rfl, .inl rfl, .inl rfl, .inl rfl, .inl rfl, .inr ⟨rfl, rfl⟩, .inl rfl, trivial⟩⟩, ⟨_, rfl, .inl rfl⟩, ⟨_, rfl, .inl rfl⟩, ⟨_, rfl, .inl rfl⟩, ⟨_, rfl, .inl rfl⟩, trivial⟩
  refine AW_imp (Imp.nil 609 3 1 (fr' := frR n flt xs 10) (σ' := chN 9 ((15, .box (cellsN 10 0 10)) :: sB n s1 sk s2 (dl0 n) s3 k' nw)) rfl ⟨⟨_, rfl, .inl rfl⟩, ⟨_, rfl, .inl rfl⟩, ⟨_, rfl, .inl rfl⟩, ⟨_, rfl, .inl rfl⟩, ⟨_, rfl, .inl rfl⟩, ⟨_, rfl, .inl rfl⟩, trivial⟩ ?_ rfl rfl) ?_
  · exact ⟨⟨_, rfl, .inl rfl⟩, ⟨_, rfl, .inl rfl⟩, ⟨_, rfl, .inl rfl⟩, ⟨_, rfl, .inl rfl⟩, ⟨_, rfl, .inl rfl⟩, ⟨_, rfl, .inl rfl⟩, ⟨_, rfl, .inl rfl⟩, ⟨_, rfl, .inl rfl⟩, ⟨_, rfl, .inl rfl⟩, ⟨_, rfl, .inr ⟨_, _, rfl, rfl, .inl rfl, .inl rfl, .inl rfl, .inl rfl, .inl rfl, .inl rfl, .inl rfl, .inl rfl, .inl rfl, .inr ⟨rfl, rfl⟩, trivial⟩⟩, ⟨_, rfl, .inl rfl⟩, ⟨_, rfl, .inl rfl⟩, ⟨_, rfl, .inl rfl⟩, ⟨_, rfl, .inl rfl⟩, trivial⟩
  refine AW_loop (fun p : Nat × Nat × Nat × List W16 => [(20, iv .i64 p.1), (19, iv .i64 xs.length), (18, sl xs), (7, .x (.sb 15 0 10 10)), (8, sl (stsL n flt xs 10 p.1)), (0, .x (.b 900 0))])
    (fun p => (15, .box [.o 600 (p.1) (p.1), .o 601 (p.1) (p.1), .o 602 (p.1) (p.1), .o 603 (p.1) (p.1), .o 604 (p.1) (p.1), .o 605 (p.1) (p.1), .o 606 (p.1) (p.1), .o 607 (p.1) (p.1), .o 608 (p.1) (p.1), .o 609 (p.1) (p.1)]) :: (600, rwOb n (flt 0) xs (p.1)) :: (601, rwOb n (flt 1) xs (p.1)) :: (602, rwOb n (flt 2) xs (p.1)) :: (603, rwOb n (flt 3) xs (p.1)) :: (604, rwOb n (flt 4) xs (p.1)) :: (605, rwOb n (flt 5) xs (p.1)) :: (606, rwOb n (flt 6) xs (p.1)) :: (607, rwOb n (flt 7) xs (p.1)) :: (608, rwOb n (flt 8) xs (p.1)) :: (609, rwOb n (flt 9) xs (p.1)) :: sB n s1 sk s2 (dl0 n) p.2.1 p.2.2.1 p.2.2.2)
    (fun p => p.1 ≤ xs.length) (fun p => xs.length - p.1) (0, s3, k', nw) (Nat.zero_le _) impA ?_
  rintro ⟨t, a, b, c⟩ ht
  dsimp only at ht ⊢
  rcases Nat.lt_or_ge t xs.length with htl | htl
  · have hbeat := fun s3 k' nw => beat_lanes ok (s1 := s1) hsk (s2 := s2) (s3 := s3) (k' := k') (nw := nw) (k := 10) (by decide) hl xs t xs[t] (getDI htl)
    have hol := otsL_len n flt xs 10 t
    repeat' first | with_reducible refine AW_seq ?_ | with_reducible refine AW_block ?_ | ((first | with_reducible refine AW_skip ?_ | with_reducible refine AW_exit ?_ | with_reducible refine AW_ret ?_ | with_reducible refine AW_region hTt ?_ | fail); conv => whnf) | (exact absurd hb (by omega)) | ((refine ⟨_, (hbeat a b c).frame (asc []) (by repeat (first | exact trivial | refine ⟨rfl, ?_⟩)) rfl (by rintro _ _ ⟨_, rfl, rfl⟩; rfl), ?_⟩); (rintro _ _ ⟨_, _, ⟨_, rfl, rfl⟩, rfl, rfl⟩); conv => whnf) | (refine AW_cond rfl (fun hb => ?_) (fun hb => ?_) <;> first | (replace hb := of_decide_eq_true hb; try simp only [List.length_map] at hb) | (replace hb := of_decide_eq_false hb; try simp only [List.length_map] at hb) | (simp only [List.length_map, bne_iff_ne, ne_eq, beq_iff_eq, bne_eq_false_iff_eq, beq_eq_false_iff_ne, decide_eq_true_eq, decide_eq_false_iff_not, Bool.not_eq_true', Bool.not_eq_false', Int.natCast_inj] at hb) | skip) | ((first | refine andA ?_ | with_reducible refine Exists.intro _ (And.intro (gd_any (And.intro (by omega) (map_get (by omega)))) ?_) | fail); conv => whnf) | (refine fun hln => ?_; (try rw [List.length_map] at hln); unfold maxLen at hln; conv => whnf) | fail
    rename_i pp
    refine AW_loop (fun l : Nat => [(33, iv .i64 l), (32, iv .i64 10), (31, sl (otsL n flt xs 10 t)), (20, iv .i64 t), (19, iv .i64 xs.length), (18, sl xs), (7, .x (.sb 15 0 10 10)), (8, sl (stsL n flt xs 10 (t + 1))), (0, .x (.b 900 0))])
      (fun l => (15, .box [.o 600 (t + bt 0 l) (t + bt 0 l), .o 601 (t + bt 1 l) (t + bt 1 l), .o 602 (t + bt 2 l) (t + bt 2 l), .o 603 (t + bt 3 l) (t + bt 3 l), .o 604 (t + bt 4 l) (t + bt 4 l), .o 605 (t + bt 5 l) (t + bt 5 l), .o 606 (t + bt 6 l) (t + bt 6 l), .o 607 (t + bt 7 l) (t + bt 7 l), .o 608 (t + bt 8 l) (t + bt 8 l), .o 609 (t + bt 9 l) (t + bt 9 l)]) :: (600, rwOb n (flt 0) xs (t + bt 0 l)) :: (601, rwOb n (flt 1) xs (t + bt 1 l)) :: (602, rwOb n (flt 2) xs (t + bt 2 l)) :: (603, rwOb n (flt 3) xs (t + bt 3 l)) :: (604, rwOb n (flt 4) xs (t + bt 4 l)) :: (605, rwOb n (flt 5) xs (t + bt 5 l)) :: (606, rwOb n (flt 6) xs (t + bt 6 l)) :: (607, rwOb n (flt 7) xs (t + bt 7 l)) :: (608, rwOb n (flt 8) xs (t + bt 8 l)) :: (609, rwOb n (flt 9) xs (t + bt 9 l)) :: sB n s1 sk s2 (dl0 n) pp.1 pp.2.1 pp.2.2) (fun l => l ≤ 10) (fun l => 10 - l) 0 (Nat.zero_le _) impA ?_
    intro l hlk
    rcases Nat.lt_or_ge l 10 with hll | hll
    · have hg := ots_at n flt xs t hll
      have e := row_app n (flt l) xs t l
      have hq := bt_self l
      have hz := outsR_len n (flt l) xs (t + bt l l)
      obtain ⟨j, hj⟩ : ∃ j, j = l + 1 := ⟨_, rfl⟩
      have hl' : l = 0 ∨ l = 1 ∨ l = 2 ∨ l = 3 ∨ l = 4 ∨ l = 5 ∨ l = 6 ∨ l = 7 ∨ l = 8 ∨ l = 9 := by omega
      clear hol hbeat ht hlk hll
      rcases hl' with rfl | rfl | rfl | rfl | rfl | rfl | rfl | rfl | rfl | rfl
      all_goals
        repeat' first | with_reducible refine AW_seq ?_ | with_reducible refine AW_block ?_ | ((first | with_reducible refine AW_skip ?_ | with_reducible refine AW_region hTt ?_ | with_reducible refine Exists.intro _ (And.intro (gd_any (And.intro (by omega) hg)) ?_) | refine And.intro (gd_any (And.intro (by decide) (by decide))) ?_ | fail); conv => whnf) | ((refine And.intro ?_ ?_; focus (refine ⟨?_, ?_, ?_⟩ <;> simp [chunk, maxLen] <;> omega)); conv => whnf) | (refine AW_cond rfl (fun _ => ?_) (fun hb => absurd hb (by decide))) | ((first | refine ⟨_, wrap_of (by first | omega | (simp only [List.length_map]; omega)), ?_⟩ | refine andA ?_ | fail); conv => whnf) | fail
        exact ⟨j, by omega, by omega, by subst hj; exact impA⟩
    have hle : l = 10 := by omega
    subst hle
    repeat' first | with_reducible refine AW_seq ?_ | ((first | with_reducible refine AW_exit ?_ | with_reducible refine AW_region hTt ?_ | fail); conv => whnf) | (refine AW_cond rfl (fun hb => absurd hb (by decide)) (fun _ => ?_)) | ((refine ⟨_, wrap_of (by first | omega | (simp only [List.length_map]; omega)), ?_⟩); conv => whnf) | fail
    exact ⟨(t + 1, pp.1, pp.2.1, pp.2.2), by show t + 1 ≤ xs.length; omega, by show xs.length - (t + 1) < xs.length - t; omega, impA⟩
  · have hte : t = xs.length := by omega
    subst hte
    repeat' first | with_reducible refine AW_seq ?_ | with_reducible refine AW_block ?_ | ((first | with_reducible refine AW_skip ?_ | with_reducible refine AW_exit ?_ | with_reducible refine AW_ret ?_ | with_reducible refine AW_region hTt ?_ | fail); conv => whnf) | (exact absurd hb (by omega)) | (refine AW_cond rfl (fun hb => ?_) (fun hb => ?_) <;> first | (replace hb := of_decide_eq_true hb; try simp only [List.length_map] at hb) | (replace hb := of_decide_eq_false hb; try simp only [List.length_map] at hb) | (simp only [List.length_map, bne_iff_ne, ne_eq, beq_iff_eq, bne_eq_false_iff_eq, beq_eq_false_iff_ne, decide_eq_true_eq, decide_eq_false_iff_not, Bool.not_eq_true', Bool.not_eq_false', Int.natCast_inj] at hb) | skip) | fail
    refine ⟨_, sB n s1 sk s2 (dl0 n) a b c, ⟨rfl, rfl, rfl, rfl, trivial⟩, rfl, (?_ : _ = some (rowsAV ((List.range 10).map fun l => outsR n (flt l) xs xs.length))), (a, b, c), rfl, rfl⟩
    have hk := keepRows (σ := (15, .box [.o 600 xs.length xs.length, .o 601 xs.length xs.length, .o 602 xs.length xs.length, .o 603 xs.length xs.length, .o 604 xs.length xs.length, .o 605 xs.length xs.length, .o 606 xs.length xs.length, .o 607 xs.length xs.length, .o 608 xs.length xs.length, .o 609 xs.length xs.length]) :: (600, rwOb n (flt 0) xs xs.length) :: (601, rwOb n (flt 1) xs xs.length) :: (602, rwOb n (flt 2) xs xs.length) :: (603, rwOb n (flt 3) xs xs.length) :: (604, rwOb n (flt 4) xs xs.length) :: (605, rwOb n (flt 5) xs xs.length) :: (606, rwOb n (flt 6) xs xs.length) :: (607, rwOb n (flt 7) xs xs.length) :: (608, rwOb n (flt 8) xs xs.length) :: (609, rwOb n (flt 9) xs xs.length) :: sB n s1 sk s2 (dl0 n) a b c) (σ' := sB n s1 sk s2 (dl0 n) a b c) (id := 15) (n := 10) (cap := 10) (ps := [PV.s 1 ((outsR n (flt 0) xs xs.length).map iPV), PV.s 1 ((outsR n (flt 1) xs xs.length).map iPV), PV.s 1 ((outsR n (flt 2) xs xs.length).map iPV), PV.s 1 ((outsR n (flt 3) xs xs.length).map iPV), PV.s 1 ((outsR n (flt 4) xs xs.length).map iPV), PV.s 1 ((outsR n (flt 5) xs xs.length).map iPV), PV.s 1 ((outsR n (flt 6) xs xs.length).map iPV), PV.s 1 ((outsR n (flt 7) xs xs.length).map iPV), PV.s 1 ((outsR n (flt 8) xs xs.length).map iPV), PV.s 1 ((outsR n (flt 9) xs xs.length).map iPV)]) rfl rfl
      (by repeat' first | exact rfl | refine rowPVs_cons (rowPV_o rfl rfl (by rw [List.length_map, outsR_len])) ?_) rfl
    exact outKeep1 (x := .x (.sb 15 0 10 10)) rfl hk
end Go.Proofs.YtfghooojingdhaaDoor
namespace Go.Proofs.YtfghooojingdhaaDoor
open Go Go.QL
set_option maxHeartbeats 3200000
attribute [local irreducible] ACall FnC
theorem run_11 {n : NetT} (ok : NetOK n) {s1 : Nat} {sk : List (W16 × W16)} (hsk : sk.length = n.inn.toNat + n.gates.length) {s2 s3 k' : Nat} {nw : List W16}
    {flt : Nat → FaultT} (hl : LanesOK sk flt 11) (xs : List Int) (hxl : xs.length ≤ 4096) :
    ACall Tryd.prog 71 [.x (.b 900 0), iv .i64 11, sl xs] (sB n s1 sk s2 (dl0 n) s3 k' nw)
      (fun r σ' => ∃ p : Nat × Nat × List W16, r = rowsAV ((List.range 11).map fun l => outsR n (flt l) xs xs.length) ∧ σ' = sB n s1 sk s2 (dl0 n) p.1 p.2.1 p.2.2) := by
  refine ACall_of_AWD hTt Tryd.func71 rfl (by kernel_rfl) (res := [.tmp 6]) rfl Tryd.ntmps71 (by simp) fun w0 K0 B => ?_
  dsimp only [entry]
  repeat' first | with_reducible refine AW_seq ?_ | with_reducible refine AW_block ?_ | ((first | with_reducible refine AW_region hTt ?_ | refine AW_draw hTt hMix (id := 1) 5 true [0, 1, 0, 4, 3, 31] (by kernel_rfl) rfl rfl (by kernel_rfl) ?_ | refine Or.inr ?_ | refine andA ?_ | fail); conv => whnf) | (refine fun hln => ?_; (try rw [List.length_map] at hln); unfold maxLen at hln; conv => whnf) | fail
  refine AW_imp (Imp.freeze 17 (fr' := frR n flt xs 11) (σ' := (15, .box (cellsN 11 0 0)) :: sB n s1 sk s2 (dl0 n) s3 k' nw) rfl ?_ ?_ rfl rfl) ?_
  · exact ⟨⟨_, rfl, .inl rfl⟩, ⟨_, congrArg (fun k : Nat => some (iv .i64 k)) (List.length_map _), .inl rfl⟩, ⟨_, rfl, .inl rfl⟩, ⟨_, rfl, .inl rfl⟩, ⟨_, rfl, .inr ⟨11, rfl, Nat.le_of_ble_eq_true rfl, rfl⟩⟩, ⟨_, rfl, .inl rfl⟩, trivial⟩
  · exact ⟨rfl, rfl, rfl, rfl, rfl, trivial⟩
  refine AW_imp (Imp.nil 600 3 1 (fr' := frR n flt xs 11) (σ' := chN 0 ((15, .box (cellsN 11 0 1)) :: sB n s1 sk s2 (dl0 n) s3 k' nw)) rfl ⟨⟨_, rfl, .inl rfl⟩, ⟨_, rfl, .inl rfl⟩, ⟨_, rfl, .inl rfl⟩, ⟨_, rfl, .inl rfl⟩, ⟨_, rfl, .inl rfl⟩, ⟨_, rfl, .inl rfl⟩, trivial⟩ ?_ rfl rfl) ?_
  · exact ⟨⟨_, rfl, .inr ⟨_, _, rfl, rfl, .inr ⟨rfl, rfl⟩, .inl rfl, .inl rfl, .inl rfl, .inl rfl, .inl rfl, .inl rfl, .inl rfl, .inl rfl, .inl rfl, .inl rfl, trivial⟩⟩, ⟨_, rfl, .inl rfl⟩, ⟨_, rfl, .inl rfl⟩, ⟨_, rfl, .inl rfl⟩, ⟨_, rfl, .inl rfl⟩, trivial⟩
  refine AW_imp (Imp.nil 601 3 1 (fr' := frR n flt xs 11) (σ' := chN 1 ((15, .box (cellsN 11 0 2)) :: sB n s1 sk s2 (dl0 n) s3 k' nw)) rfl ⟨⟨_, rfl, .inl rfl⟩, ⟨_, rfl, .inl rfl⟩, ⟨_, rfl, .inl rfl⟩, ⟨_, rfl, .inl rfl⟩, ⟨_, rfl, .inl rfl⟩, ⟨_, rfl, .inl rfl⟩, trivial⟩ ?_ rfl rfl) ?_
  · exact ⟨⟨_, rfl, .inl rfl⟩, ⟨_, rfl, .inr ⟨_, _, rfl, rfl, .inl rfl, .inr ⟨rfl, rfl⟩, .inl rfl, .inl rfl, .inl rfl, .inl rfl, .inl rfl, .inl rfl, .inl rfl, .inl rfl, .inl rfl, trivial⟩⟩, ⟨_, rfl, .inl rfl⟩, ⟨_, rfl, .inl rfl⟩, ⟨_, rfl, .inl rfl⟩, ⟨_, rfl, .inl rfl⟩, trivial⟩
  refine AW_imp (Imp.nil 602 3 1 (fr' := frR n flt xs 11) (σ' := chN 2 ((15, .box (cellsN 11 0 3)) :: sB n s1 sk s2 (dl0 n) s3 k' nw)) rfl ⟨⟨_, rfl, .inl rfl⟩, ⟨_, rfl, .inl rfl⟩, ⟨_, rfl, .inl rfl⟩, ⟨_, rfl, .inl rfl⟩, ⟨_, rfl, .inl rfl⟩, ⟨_, rfl, .inl rfl⟩, trivial⟩ ?_ rfl rfl) ?_
  · exact ⟨⟨_, rfl, .inl rfl⟩, ⟨_, rfl, .inl rfl⟩, ⟨_, rfl, .inr ⟨_, _, rfl, rfl, .inl rfl, .inl rfl, .inr ⟨rfl, rfl⟩, .inl rfl, .inl rfl, .inl rfl, .inl rfl, .inl rfl, .inl rfl, .inl rfl, .inl rfl, trivial⟩⟩, ⟨_, rfl, .inl rfl⟩, ⟨_, rfl, .inl rfl⟩, ⟨_, rfl, .inl rfl⟩, ⟨_, rfl, .inl rfl⟩, trivial⟩
  refine AW_imp (Imp.nil 603 3 1 (fr' := frR n flt xs 11) (σ' := chN 3 ((15, .box (cellsN 11 0 4)) :: sB n s1 sk s2 (dl0 n) s3 k' nw)) rfl ⟨⟨_, rfl, .inl rfl⟩, ⟨_, rfl, .inl rfl⟩, ⟨_, rfl, .inl rfl⟩, ⟨_, rfl, .inl rfl⟩, ⟨_, rfl, .inl rfl⟩, ⟨_, rfl, .inl rfl⟩, trivial⟩ ?_ rfl rfl) ?_
  · exact ⟨⟨_, rfl, .inl rfl⟩, ⟨_, rfl, .inl rfl⟩, ⟨_, rfl, .inl rfl⟩, ⟨_, rfl, .inr ⟨_, _, rfl, rfl, .inl rfl, .inl rfl, .inl rfl, .inr ⟨rfl, rfl⟩, .inl rfl, .inl rfl, .inl rfl, .inl rfl, .inl rfl, .inl rfl, .inl rfl, trivial⟩⟩, ⟨_, rfl, .inl rfl⟩, ⟨_, rfl, .inl rfl⟩, ⟨_, rfl, .inl rfl⟩, ⟨_, rfl, .inl rfl⟩, trivial⟩
  refine AW_imp (Imp.nil 604 3 1 (fr' := frR n flt xs 11) (σ' := chN 4 ((15, .box (cellsN 11 0 5)) :: sB n s1 sk s2 (dl0 n) s3 k' nw)) rfl ⟨⟨_, rfl, .inl rfl⟩, ⟨_, rfl, .inl rfl⟩, ⟨_, rfl, .inl rfl⟩, ⟨_, rfl, .inl rfl⟩, ⟨_, rfl, .inl rfl⟩, ⟨_, rfl, .inl rfl⟩, trivial⟩ ?_ rfl rfl) ?_
  · exact ⟨⟨_, rfl, .inl rfl⟩, ⟨_, rfl, .inl rfl⟩, ⟨_, rfl, .inl rfl⟩, ⟨_, rfl, .inl rfl⟩, ⟨_, rfl, .inr ⟨_, _, rfl, rfl, .inl rfl, .inl rfl, .inl rfl, .inl rfl, .inr ⟨rfl, rfl⟩, .inl rfl, .inl rfl, .inl rfl, .inl rfl, .inl rfl, .inl rfl, trivial⟩⟩, ⟨_, rfl, .inl rfl⟩, ⟨_, rfl, .inl rfl⟩, ⟨_, rfl, .inl rfl⟩, ⟨_, rfl, .inl rfl⟩, trivial⟩
  refine AW_imp (Imp.nil 605 3 1 (fr' := frR n flt xs 11) (σ' := chN 5 ((15, .box (cellsN 11 0 6)) :: sB n s1 sk s2 (dl0 n) s3 k' nw)) rfl ⟨⟨_, rfl, .inl rfl⟩, ⟨_, rfl, .inl rfl⟩, ⟨_, rfl, .inl rfl⟩, ⟨_, rfl, .inl rfl⟩, ⟨_, rfl, .inl rfl⟩, ⟨_, rfl, .inl rfl⟩, trivial⟩ ?_ rfl rfl) ?_
  · exact ⟨⟨_, rfl, .inl rfl⟩, ⟨_, rfl, .inl rfl⟩, ⟨_, rfl, .inl rfl⟩, ⟨_, rfl, .inl rfl⟩, ⟨_, rfl, .inl rfl⟩, ⟨_, rfl, .inr ⟨_, _, rfl, rfl, .inl rfl, .inl rfl, .inl rfl, .inl rfl, .inl rfl, .inr ⟨rfl, rfl⟩, .inl rfl, .inl rfl, .inl rfl, .inl rfl, .inl rfl, trivial⟩⟩, ⟨_, rfl, .inl rfl⟩, ⟨_, rfl, .inl rfl⟩, ⟨_, rfl, .inl rfl⟩, ⟨_, rfl, .inl rfl⟩, trivial⟩
  refine AW_imp (Imp.nil 606 3 1 (fr' := frR n flt xs 11) (σ' := chN 6 ((15, .box (cellsN 11 0 7)) :: sB n s1 sk s2 (dl0 n) s3 k' nw)) rfl ⟨⟨_, rfl, .inl rfl⟩, ⟨_, rfl, .inl rfl⟩, ⟨_, rfl, .inl rfl⟩, ⟨_, rfl, .inl rfl⟩, ⟨_, rfl, .inl rfl⟩, ⟨_, rfl, .inl rfl⟩, trivial⟩ ?_ rfl rfl) ?_
  · exact ⟨⟨_, rfl, .inl rfl⟩, ⟨_, rfl, .inl rfl⟩, ⟨_, rfl, .inl rfl⟩, ⟨_, rfl, .inl rfl⟩, ⟨_, rfl, .inl rfl⟩, ⟨_, rfl, .inl rfl⟩, ⟨_, rfl, .inr ⟨_, _, rfl, rfl, .inl rfl, .inl rfl, .inl rfl, .inl rfl, .inl rfl, .inl rfl, .inr ⟨rfl, rfl⟩, .inl rfl, .inl rfl, .inl rfl, .inl rfl, trivial⟩⟩, ⟨_, rfl, .inl rfl⟩, ⟨_, rfl, .inl rfl⟩, ⟨_, rfl, .inl rfl⟩, ⟨_, rfl, .inl rfl⟩, trivial⟩
  refine AW_imp (Imp.nil 607 3 1 (fr' := frR n flt xs 11) (σ' := chN 7 ((15, .box (cellsN 11 0 8)) :: sB n s1 sk s2 (dl0 n) s3 k' nw)) rfl ⟨⟨_, rfl, .inl rfl⟩, ⟨_, rfl, .inl rfl⟩, ⟨_, rfl, .inl rfl⟩, ⟨_, rfl, .inl rfl⟩, ⟨_, rfl, .inl rfl⟩, ⟨_, rfl, .inl rfl⟩, trivial⟩ ?_ rfl rfl) ?_
  · exact ⟨⟨_, rfl, .inl rfl⟩, ⟨_, rfl, .inl rfl⟩, ⟨_, rfl, .inl rfl⟩, ⟨_, rfl, .inl rfl⟩, ⟨_, rfl, .inl rfl⟩, ⟨_, rfl, .inl rfl⟩, ⟨_, rfl, .inl rfl⟩, ⟨_, rfl, .inr ⟨_, _, rfl, rfl, .inl rfl, .inl rfl, .inl rfl, .inl rfl, .inl rfl, .inl rfl, .inl rfl, .inr ⟨rfl, rfl⟩, .inl rfl, .inl rfl, .inl rfl, trivial⟩⟩, ⟨_, rfl, .inl rfl⟩, ⟨_, rfl, .inl rfl⟩, ⟨_, rfl, .inl rfl⟩, ⟨_, rfl, .inl rfl⟩, trivial⟩
  refine AW_imp (Imp.nil 608 3 1 (fr' := frR n flt xs 11) (σ' := chN 8 ((15, .box (cellsN 11 0 9)) :: sB n s1 sk s2 (dl0 n) s3 k' nw)) rfl ⟨⟨_, rfl, .inl rfl⟩, ⟨_, rfl, .inl rfl⟩, ⟨_, rfl, .inl rfl⟩, ⟨_, rfl, .inl rfl⟩, ⟨_, rfl, .inl rfl⟩, ⟨_, rfl, .inl rfl⟩, trivial⟩ ?_ rfl rfl) ?_
  · exact ⟨⟨_, rfl, .inl rfl⟩, ⟨_, rfl, .inl rfl⟩, ⟨_, rfl, .inl rfl⟩, ⟨_, rfl, .inl rfl⟩, ⟨_, rfl, .inl rfl⟩, ⟨_, rfl, .inl rfl⟩, ⟨_, rfl, .inl rfl⟩, ⟨_, rfl, .inl rfl⟩, ⟨_, rfl, .inr ⟨_, _, rfl, rfl, .inl rfl, .inl rfl, .inl rfl, .inl rfl, .inl rfl, .inl rfl, .inl rfl, .inl rfl, .inr ⟨rfl, rfl⟩, .inl rfl, .inl rfl, trivial⟩⟩, ⟨_, rfl, .inl rfl⟩, ⟨_, rfl, .inl rfl⟩, ⟨_, rfl, .inl rfl⟩, ⟨_, rfl, .inl rfl⟩, trivial⟩
  refine AW_imp (Imp.nil 609 3 1 (fr' := frR n flt xs 11) (σ' := chN 9 ((15, .box (cellsN 11 0 10)) :: sB n s1 sk s2 (dl0 n) s3 k' nw)) rfl ⟨⟨_, rfl, .inl rfl⟩, ⟨_, rfl, .inl rfl⟩, ⟨_, rfl, .inl rfl⟩, ⟨_, rfl, .inl rfl⟩, ⟨_, rfl, .inl rfl⟩, ⟨_, rfl, .inl rfl⟩, trivial⟩ ?_ rfl rfl) ?_
  · exact ⟨⟨_, rfl, .inl rfl⟩, ⟨_, rfl, .inl rfl⟩, ⟨_, rfl, .inl rfl⟩, ⟨_, rfl, .inl rfl⟩, ⟨_, rfl, .inl rfl⟩, ⟨_, rfl, .inl rfl⟩, ⟨_, rfl, .inl rfl⟩, ⟨_, rfl, .inl rfl⟩, ⟨_, rfl, .inl rfl⟩, ⟨_, rfl, .inr ⟨_, _, rfl, rfl, .inl rfl, .inl rfl, .inl rfl, .inl rfl, .inl rfl, .inl rfl, .inl rfl, .inl rfl, .inl rfl, .inr ⟨rfl, rfl⟩, .inl rfl, trivial⟩⟩, ⟨_, rfl, .inl rfl⟩, ⟨_, rfl, .inl rfl⟩, ⟨_, rfl, .inl rfl⟩, ⟨_, rfl, .inl rfl⟩, trivial⟩
  refine AW_imp (Imp.nil 610 3 1 (fr' := frR n flt xs 11) (σ' := chN 10 ((15, .box (cellsN 11 0 11)) :: sB n s1 sk s2 (dl0 n) s3 k' nw)) rfl ⟨⟨_, rfl, .inl rfl⟩, ⟨_, rfl, .inl rfl⟩, ⟨_, rfl, .inl rfl⟩, ⟨_, rfl, .inl rfl⟩, ⟨_, rfl, .inl rfl⟩, ⟨_, rfl, .inl rfl⟩, trivial⟩ ?_ rfl rfl) ?_
  · exact ⟨⟨_, rfl, .inl rfl⟩, ⟨_, rfl, .inl rfl⟩, ⟨_, rfl, .inl rfl⟩, ⟨_, rfl, .inl rfl⟩, ⟨_, rfl, .inl rfl⟩, ⟨_, rfl, .inl rfl⟩, ⟨_, rfl, .inl rfl⟩, ⟨_, rfl, .inl rfl⟩, ⟨_, rfl, .inl rfl⟩, ⟨_, rfl, .inl rfl⟩, ⟨_, rfl, .inr ⟨_, _, rfl, rfl, .inl rfl, .inl rfl, .inl rfl, .inl rfl, .inl rfl, .inl rfl, .inl rfl, .inl rfl, .inl rfl, .inl rfl, .inr ⟨rfl, rfl⟩, trivial⟩⟩, ⟨_, rfl, .inl rfl⟩, ⟨_, rfl, .inl rfl⟩, ⟨_, rfl, .inl rfl⟩, ⟨_, rfl, .inl rfl⟩, trivial⟩
  refine AW_loop (fun p : Nat × Nat × Nat × List W16 => [(20, iv .i64 p.1), (19, iv .i64 xs.length), (18, sl xs), (7, .x (.sb 15 0 11 11)), (8, sl (stsL n flt xs 11 p.1)), (0, .x (.b 900 0))])
    (fun p => (15, .box [.o 600 (p.1) (p.1), .o 601 (p.1) (p.1), .o 602 (p.1) (p.1), .o 603 (p.1) (p.1), .o 604 (p.1) (p.1), .o 605 (p.1) (p.1), .o 606 (p.1) (p.1), .o 607 (p.1) (p.1), .o 608 (p.1) (p.1), .o 609 (p.1) (p.1), .o 610 (p.1) (p.1)]) :: (600, rwOb n (flt 0) xs (p.1)) :: (601, rwOb n (flt 1) xs (p.1)) :: (602, rwOb n (flt 2) xs (p.1)) :: (603, rwOb n (flt 3) xs (p.1)) :: (604, rwOb n (flt 4) xs (p.1)) :: (605, rwOb n (flt 5) xs (p.1)) :: (606, rwOb n (flt 6) xs (p.1)) :: (607, rwOb n (flt 7) xs (p.1)) :: (608, rwOb n (flt 8) xs (p.1)) :: (609, rwOb n (flt 9) xs (p.1)) :: (610, rwOb n (flt 10) xs (p.1)) :: sB n s1 sk s2 (dl0 n) p.2.1 p.2.2.1 p.2.2.2)
    (fun p => p.1 ≤ xs.length) (fun p => xs.length - p.1) (0, s3, k', nw) (Nat.zero_le _) impA ?_
  rintro ⟨t, a, b, c⟩ ht
  dsimp only at ht ⊢
  rcases Nat.lt_or_ge t xs.length with htl | htl
  · have hbeat := fun s3 k' nw => beat_lanes ok (s1 := s1) hsk (s2 := s2) (s3 := s3) (k' := k') (nw := nw) (k := 11) (by decide) hl xs t xs[t] (getDI htl)
    have hol := otsL_len n flt xs 11 t
    repeat' first | with_reducible refine AW_seq ?_ | with_reducible refine AW_block ?_ | ((first | with_reducible refine AW_skip ?_ | with_reducible refine AW_exit ?_ | with_reducible refine AW_ret ?_ | with_reducible refine AW_region hTt ?_ | fail); conv => whnf) | (exact absurd hb (by omega)) | ((refine ⟨_, (hbeat a b c).frame (asc []) (by repeat (first | exact trivial | refine ⟨rfl, ?_⟩)) rfl (by rintro _ _ ⟨_, rfl, rfl⟩; rfl), ?_⟩); (rintro _ _ ⟨_, _, ⟨_, rfl, rfl⟩, rfl, rfl⟩); conv => whnf) | (refine AW_cond rfl (fun hb => ?_) (fun hb => ?_) <;> first | (replace hb := of_decide_eq_true hb; try simp only [List.length_map] at hb) | (replace hb := of_decide_eq_false hb; try simp only [List.length_map] at hb) | (simp only [List.length_map, bne_iff_ne, ne_eq, beq_iff_eq, bne_eq_false_iff_eq, beq_eq_false_iff_ne, decide_eq_true_eq, decide_eq_false_iff_not, Bool.not_eq_true', Bool.not_eq_false', Int.natCast_inj] at hb) | skip) | ((first | refine andA ?_ | with_reducible refine Exists.intro _ (And.intro (gd_any (And.intro (by omega) (map_get (by omega)))) ?_) | fail); conv => whnf) | (refine fun hln => ?_; (try rw [List.length_map] at hln); unfold maxLen at hln; conv => whnf) | fail
    rename_i pp
    refine AW_loop (fun l : Nat => [(33, iv .i64 l), (32, iv .i64 11), (31, sl (otsL n flt xs 11 t)), (20, iv .i64 t), (19, iv .i64 xs.length), (18, sl xs), (7, .x (.sb 15 0 11 11)), (8, sl (stsL n flt xs 11 (t + 1))), (0, .x (.b 900 0))])
      (fun l => (15, .box [.o 600 (t + bt 0 l) (t + bt 0 l), .o 601 (t + bt 1 l) (t + bt 1 l), .o 602 (t + bt 2 l) (t + bt 2 l), .o 603 (t + bt 3 l) (t + bt 3 l), .o 604 (t + bt 4 l) (t + bt 4 l), .o 605 (t + bt 5 l) (t + bt 5 l), .o 606 (t + bt 6 l) (t + bt 6 l), .o 607 (t + bt 7 l) (t + bt 7 l), .o 608 (t + bt 8 l) (t + bt 8 l), .o 609 (t + bt 9 l) (t + bt 9 l), .o 610 (t + bt 10 l) (t + bt 10 l)]) :: (600, rwOb n (flt 0) xs (t + bt 0 l)) :: (601, rwOb n (flt 1) xs (t + bt 1 l)) :: (602, rwOb n (flt 2) xs (t + bt 2 l)) :: (603, rwOb n (flt 3) xs (t + bt 3 l)) :: (604, rwOb n (flt 4) xs (t + bt 4 l)) :: (605, rwOb n (flt 5) xs (t + bt 5 l)) :: (606, rwOb n (flt 6) xs (t + bt 6 l)) :: (607, rwOb n (flt 7) xs (t + bt 7 l)) :: (608, rwOb n (flt 8) xs (t + bt 8 l)) :: (609, rwOb n (flt 9) xs (t + bt 9 l)) :: (610, rwOb n (flt 10) xs (t + bt 10 l)) :: sB n s1 sk s2 (dl0 n) pp.1 pp.2.1 pp.2.2) (fun l => l ≤ 11) (fun l => 11 - l) 0 (Nat.zero_le _) impA ?_
    intro l hlk
    rcases Nat.lt_or_ge l 11 with hll | hll
    · have hg := ots_at n flt xs t hll
      have e := row_app n (flt l) xs t l
      have hq := bt_self l
      have hz := outsR_len n (flt l) xs (t + bt l l)
      obtain ⟨j, hj⟩ : ∃ j, j = l + 1 := ⟨_, rfl⟩
      have hl' : l = 0 ∨ l = 1 ∨ l = 2 ∨ l = 3 ∨ l = 4 ∨ l = 5 ∨ l = 6 ∨ l = 7 ∨ l = 8 ∨ l = 9 ∨ l = 10 := by omega
      clear hol hbeat ht hlk hll
      rcases hl' with rfl | rfl | rfl | rfl | rfl | rfl | rfl | rfl | rfl | rfl | rfl
      all_goals
        repeat' first | with_reducible refine AW_seq ?_ | with_reducible refine AW_block ?_ | ((first | with_reducible refine AW_skip ?_ | with_reducible refine AW_region hTt ?_ | with_reducible refine Exists.intro _ (And.intro (gd_any (And.intro (by omega) hg)) ?_) | refine And.intro (gd_any (And.intro (by decide) (by decide))) ?_ | fail); conv => whnf) | ((refine And.intro ?_ ?_; focus (refine ⟨?_, ?_, ?_⟩ <;> simp [chunk, maxLen] <;> omega)); conv => whnf) | (refine AW_cond rfl (fun _ => ?_) (fun hb => absurd hb (by decide))) | ((first | refine ⟨_, wrap_of (by first | omega | (simp only [List.length_map]; omega)), ?_⟩ | refine andA ?_ | fail); conv => whnf) | fail
        exact ⟨j, by omega, by omega, by subst hj; exact impA⟩
    have hle : l = 11 := by omega
    subst hle
    repeat' first | with_reducible refine AW_seq ?_ | ((first | with_reducible refine AW_exit ?_ | with_reducible refine AW_region hTt ?_ | fail); conv => whnf) | (refine AW_cond rfl (fun hb => absurd hb (by decide)) (fun _ => ?_)) | ((refine ⟨_, wrap_of (by first | omega | (simp only [List.length_map]; omega)), ?_⟩); conv => whnf) | fail
    exact ⟨(t + 1, pp.1, pp.2.1, pp.2.2), by show t + 1 ≤ xs.length; omega, by show xs.length - (t + 1) < xs.length - t; omega, impA⟩
  · have hte : t = xs.length := by omega
    subst hte
    repeat' first | with_reducible refine AW_seq ?_ | with_reducible refine AW_block ?_ | ((first | with_reducible refine AW_skip ?_ | with_reducible refine AW_exit ?_ | with_reducible refine AW_ret ?_ | with_reducible refine AW_region hTt ?_ | fail); conv => whnf) | (exact absurd hb (by omega)) | (refine AW_cond rfl (fun hb => ?_) (fun hb => ?_) <;> first | (replace hb := of_decide_eq_true hb; try simp only [List.length_map] at hb) | (replace hb := of_decide_eq_false hb; try simp only [List.length_map] at hb) | (simp only [List.length_map, bne_iff_ne, ne_eq, beq_iff_eq, bne_eq_false_iff_eq, beq_eq_false_iff_ne, decide_eq_true_eq, decide_eq_false_iff_not, Bool.not_eq_true', Bool.not_eq_false', Int.natCast_inj] at hb) | skip) | fail
    refine ⟨_, sB n s1 sk s2 (dl0 n) a b c, ⟨rfl, rfl, rfl, rfl, trivial⟩, rfl, (?_ : _ = some (rowsAV ((List.range 11).map fun l => outsR n (flt l) xs xs.length))), (a, b, c), rfl, rfl⟩
    have hk := keepRows (σ := (15, .box [.o 600 xs.length xs.length, .o 601 xs.length xs.length, .o 602 xs.length xs.length, .o 603 xs.length xs.length, .o 604 xs.length xs.length, .o 605 xs.length xs.length, .o 606 xs.length xs.length, .o 607 xs.length xs.length, .o 608 xs.length xs.length, .o 609 xs.length xs.length, .o 610 xs.length xs.length]) :: (600, rwOb n (flt 0) xs xs.length) :: (601, rwOb n (flt 1) xs xs.length) :: (602, rwOb n (flt 2) xs xs.length) :: (603, rwOb n (flt 3) xs xs.length) :: (604, rwOb n (flt 4) xs xs.length) :: (605, rwOb n (flt 5) xs xs.length) :: (606, rwOb n (flt 6) xs xs.length) :: (607, rwOb n (flt 7) xs xs.length) :: (608, rwOb n (flt 8) xs xs.length) :: (609, rwOb n (flt 9) xs xs.length) :: (610, rwOb n (flt 10) xs xs.length) :: sB n s1 sk s2 (dl0 n) a b c) (σ' := sB n s1 sk s2 (dl0 n) a b c) (id := 15) (n := 11) (cap := 11) (ps := [PV.s 1 ((outsR n (flt 0) xs xs.length).map iPV), PV.s 1 ((outsR n (flt 1) xs xs.length).map iPV), PV.s 1 ((outsR n (flt 2) xs xs.length).map iPV), PV.s 1 ((outsR n (flt 3) xs xs.length).map iPV), PV.s 1 ((outsR n (flt 4) xs xs.length).map iPV), PV.s 1 ((outsR n (flt 5) xs xs.length).map iPV), PV.s 1 ((outsR n (flt 6) xs xs.length).map iPV), PV.s 1 ((outsR n (flt 7) xs xs.length).map iPV), PV.s 1 ((outsR n (flt 8) xs xs.length).map iPV), PV.s 1 ((outsR n (flt 9) xs xs.length).map iPV), PV.s 1 ((outsR n (flt 10) xs xs.length).map iPV)]) rfl rfl
      (by repeat' first | exact rfl | refine rowPVs_cons (rowPV_o rfl rfl (by rw [List.length_map, outsR_len])) ?_) rfl
    exact outKeep1 (x := .x (.sb 15 0 11 11)) rfl hk
end Go.Proofs.YtfghooojingdhaaDoor
namespace Go.Proofs.YtfghooojingdhaaDoor
open Go Go.QL
set_option maxHeartbeats 3200000
attribute [local irreducible] ACall FnC
theorem run_12 {n : NetT} (ok : NetOK n) {s1 : Nat} {sk : List (W16 × W16)} (hsk : sk.length = n.inn.toNat + n.gates.length) {s2 s3 k' : Nat} {nw : List W16}
    {flt : Nat → FaultT} (hl : LanesOK sk flt 12) (xs : List Int) (hxl : xs.length ≤ 4096) :
    ACall Tryd.prog 71 [.x (.b 900 0), iv .i64 12, sl xs] (sB n s1 sk s2 (dl0 n) s3 k' nw)
      (fun r σ' => ∃ p : Nat × Nat × List W16, r = rowsAV ((List.range 12).map fun l => outsR n (flt l) xs xs.length) ∧ σ' = sB n s1 sk s2 (dl0 n) p.1 p.2.1 p.2.2) := by
  refine ACall_of_AWD hTt Tryd.func71 rfl (by kernel_rfl) (res := [.tmp 6]) rfl Tryd.ntmps71 (by simp) fun w0 K0 B => ?_
  dsimp only [entry]
  repeat' first | with_reducible refine AW_seq ?_ | with_reducible refine AW_block ?_ | ((first | with_reducible refine AW_region hTt ?_ | refine AW_draw hTt hMix (id := 1) 5 true [0, 1, 0, 4, 3, 31] (by kernel_rfl) rfl rfl (by kernel_rfl) ?_ | refine Or.inr ?_ | refine andA ?_ | fail); conv => whnf) | (refine fun hln => ?_; (try rw [List.length_map] at hln); unfold maxLen at hln; conv => whnf) | fail
  refine AW_imp (Imp.freeze 17 (fr' := frR n flt xs 12) (σ' := (15, .box (cellsN 12 0 0)) :: sB n s1 sk s2 (dl0 n) s3 k' nw) rfl ?_ ?_ rfl rfl) ?_
  · exact ⟨⟨_, rfl, .inl rfl⟩, ⟨_, congrArg (fun k : Nat => some (iv .i64 k)) (List.length_map _), .inl rfl⟩, ⟨_, rfl, .inl rfl⟩, ⟨_, rfl, .inl rfl⟩, ⟨_, rfl, .inr ⟨12, rfl, Nat.le_of_ble_eq_true rfl, rfl⟩⟩, ⟨_, rfl, .inl rfl⟩, trivial⟩
  · exact ⟨rfl, rfl, rfl, rfl, rfl, trivial⟩
  refine AW_imp (Imp.nil 600 3 1 (fr' := frR n flt xs 12) (σ' := chN 0 ((15, .box (cellsN 12 0 1)) :: sB n s1 sk s2 (dl0 n) s3 k' nw)) rfl ⟨⟨_, rfl, .inl rfl⟩, ⟨_, rfl, .inl rfl⟩, ⟨_, rfl, .inl rfl⟩, ⟨_, rfl, .inl rfl⟩, ⟨_, rfl, .inl rfl⟩, ⟨_, rfl, .inl rfl⟩, trivial⟩ ?_ rfl rfl) ?_
  · exact ⟨⟨_, rfl, .inr ⟨_, _, rfl, rfl, .inr ⟨rfl, rfl⟩, .inl rfl, .inl rfl, .inl rfl, .inl rfl, .inl rfl, .inl rfl, .inl rfl, .inl rfl, .inl rfl, .inl rfl, .inl rfl, trivial⟩⟩, ⟨_, rfl, .inl rfl⟩, ⟨_, rfl, .inl rfl⟩, ⟨_, rfl, .inl rfl⟩, ⟨_, rfl, .inl rfl⟩, trivial⟩
  refine AW_imp (Imp.nil 601 3 1 (fr' := frR n flt xs 12) (σ' := chN 1 ((15, .box (cellsN 12 0 2)) :: sB n s1 sk s2 (dl0 n) s3 k' nw)) rfl ⟨⟨_, rfl, .inl rfl⟩, ⟨_, rfl, .inl rfl⟩, ⟨_, rfl, .inl rfl⟩, ⟨_, rfl, .inl rfl⟩, ⟨_, rfl, .inl rfl⟩, ⟨_, rfl, .inl rfl⟩, trivial⟩ ?_ rfl rfl) ?_
  · exact ⟨⟨_, rfl, .inl rfl⟩, ⟨_, rfl, .inr ⟨_, _, rfl, rfl, .inl rfl, .inr ⟨rfl, rfl⟩, .inl rfl, .inl rfl, .inl rfl, .inl rfl, .inl rfl, .inl rfl, .inl rfl, .inl rfl, .inl rfl, .inl rfl, trivial⟩⟩, ⟨_, rfl, .inl rfl⟩, ⟨_, rfl, .inl rfl⟩, ⟨_, rfl, .inl rfl⟩, ⟨_, rfl, .inl rfl⟩, trivial⟩
  refine AW_imp (Imp.nil 602 3 1 (fr' := frR n flt xs 12) (σ' := chN 2 ((15, .box (cellsN 12 0 3)) :: sB n s1 sk s2 (dl0 n) s3 k' nw)) rfl ⟨⟨_, rfl, .inl rfl⟩, ⟨_, rfl, .inl rfl⟩, ⟨_, rfl, .inl rfl⟩, ⟨_, rfl, .inl rfl⟩, ⟨_, rfl, .inl rfl⟩, ⟨_, rfl, .inl rfl⟩, trivial⟩ ?_ rfl rfl) ?_
  · exact ⟨⟨_, rfl, .inl rfl⟩, ⟨_, rfl, .inl rfl⟩, ⟨_, rfl, .inr ⟨_, _, rfl, rfl, .inl rfl, .inl rfl, .inr ⟨rfl, rfl⟩, .inl rfl, .inl rfl, .inl rfl, .inl rfl, .inl rfl, .inl rfl, .inl rfl, .inl rfl, .inl rfl, trivial⟩⟩, ⟨_, rfl, .inl rfl⟩, ⟨_, rfl, .inl rfl⟩, ⟨_, rfl, .inl rfl⟩, ⟨_, rfl, .inl rfl⟩, trivial⟩
  refine AW_imp (Imp.nil 603 3 1 (fr' := frR n flt xs 12) (σ' := chN 3 ((15, .box (cellsN 12 0 4)) :: sB n s1 sk s2 (dl0 n) s3 k' nw)) rfl ⟨⟨_, rfl, .inl rfl⟩, ⟨_, rfl, .inl rfl⟩, ⟨_, rfl, .inl rfl⟩, ⟨_, rfl, .inl rfl⟩, ⟨_, rfl, .inl rfl⟩, ⟨_, rfl, .inl rfl⟩, trivial⟩ ?_ rfl rfl) ?_
  · exact ⟨⟨_, rfl, .inl rfl⟩, ⟨_, rfl, .inl rfl⟩, ⟨_, rfl, .inl rfl⟩, ⟨_, rfl, .inr ⟨_, _, rfl, rfl, .inl rfl, .inl rfl, .inl rfl, .inr ⟨rfl, rfl⟩, .inl rfl, .inl rfl, .inl rfl, .inl rfl, .inl rfl, .inl rfl, .inl rfl, .inl rfl, trivial⟩⟩, ⟨_, rfl, .inl rfl⟩, ⟨_, rfl, .inl rfl⟩, ⟨_, rfl, .inl rfl⟩, ⟨_, rfl, .inl rfl⟩, trivial⟩
  refine AW_imp (Imp.nil 604 3 1 (fr' := frR n flt xs 12) (σ' := chN 4 ((15, .box (cellsN 12 0 5)) :: sB n s1 sk s2 (dl0 n) s3 k' nw)) rfl ⟨⟨_, rfl, .inl rfl⟩, ⟨_, rfl, .inl rfl⟩, ⟨_, rfl, .inl rfl⟩, ⟨_, rfl, .inl rfl⟩, ⟨_, rfl, .inl rfl⟩, ⟨_, rfl, .inl rfl⟩, trivial⟩ ?_ rfl rfl) ?_
  · exact ⟨⟨_, rfl, .inl rfl⟩, ⟨_, rfl, .inl rfl⟩, ⟨_, rfl, .inl rfl⟩, ⟨_, rfl, .inl rfl⟩, ⟨_, rfl, .inr ⟨_, _, rfl, rfl, .inl rfl, .inl rfl, .inl rfl, .inl rfl, .inr ⟨rfl, rfl⟩, .inl rfl, .inl rfl, .inl rfl, .inl rfl, .inl rfl, .inl rfl, .inl rfl, trivial⟩⟩, ⟨_, rfl, .inl rfl⟩, ⟨_, rfl, .inl rfl⟩, ⟨_, rfl, .inl rfl⟩, ⟨_, rfl, .inl rfl⟩, trivial⟩
  refine AW_imp (Imp.nil 605 3 1 (fr' := frR n flt xs 12) (σ' := chN 5 ((15, .box (cellsN 12 0 6)) :: sB n s1 sk s2 (dl0 n) s3 k' nw)) rfl ⟨⟨_, rfl, .inl rfl⟩, ⟨_, rfl, .inl rfl⟩, ⟨_, rfl, .inl rfl⟩, ⟨_, rfl, .inl rfl⟩, ⟨_, rfl, .inl rfl⟩, ⟨_, rfl, .inl rfl⟩, trivial⟩ ?_ rfl rfl) ?_
  · exact ⟨⟨_, rfl, .inl rfl⟩, ⟨_, rfl, .inl rfl⟩, ⟨_, rfl, .inl rfl⟩, ⟨_, rfl, .inl rfl⟩, ⟨_, rfl, .inl rfl⟩, ⟨_, rfl, .inr ⟨_, _, rfl, rfl, .inl rfl, .inl rfl, .inl rfl, .inl rfl, .inl rfl, .inr ⟨rfl, rfl⟩, .inl rfl, .inl rfl, .inl rfl, .inl rfl, .inl rfl, .inl rfl, trivial⟩⟩, ⟨_, rfl, .inl rfl⟩, ⟨_, rfl, .inl rfl⟩, ⟨_, rfl, .inl rfl⟩, ⟨_, rfl, .inl rfl⟩, trivial⟩
  refine AW_imp (Imp.nil 606 3 1 (fr' := frR n flt xs 12) (σ' := chN 6 ((15, .box (cellsN 12 0 7)) :: sB n s1 sk s2 (dl0 n) s3 k' nw)) rfl ⟨⟨_, rfl, .inl rfl⟩, ⟨_, rfl, .inl rfl⟩, ⟨_, rfl, .inl rfl⟩, ⟨_, rfl, .inl rfl⟩, ⟨_, rfl, .inl rfl⟩, ⟨_, rfl, .inl rfl⟩, trivial⟩ ?_ rfl rfl) ?_
  · exact ⟨⟨_, rfl, .inl rfl⟩, ⟨_, rfl, .inl rfl⟩, ⟨_, rfl, .inl rfl⟩, ⟨_, rfl, .inl rfl⟩, ⟨_, rfl, .inl rfl⟩, ⟨_, rfl, .inl rfl⟩, ⟨_, rfl, .inr ⟨_, _, rfl, rfl, .inl rfl, .inl rfl, .inl rfl, .inl rfl, .inl rfl, .inl rfl, .inr ⟨rfl, rfl⟩, .inl rfl, .inl rfl, .inl rfl, .inl rfl, .inl rfl, trivial⟩⟩, ⟨_, rfl, .inl rfl⟩, ⟨_, rfl, .inl rfl⟩, ⟨_, rfl, .inl rfl⟩, ⟨_, rfl, .inl rfl⟩, trivial⟩
  refine AW_imp (Imp.nil 607 3 1 (fr' := frR n flt xs 12) (σ' := chN 7 ((15, .box (cellsN 12 0 8)) :: sB n s1 sk s2 (dl0 n) s3 k' nw)) rfl ⟨⟨_, rfl, .inl rfl⟩, ⟨_, rfl, .inl rfl⟩, ⟨_, rfl, .inl rfl⟩, ⟨_, rfl, .inl rfl⟩, ⟨_, rfl, .inl rfl⟩, ⟨_, rfl, .inl rfl⟩, trivial⟩ ?_ rfl rfl) ?_
  · exact ⟨⟨_, rfl, .inl rfl⟩, ⟨_, rfl, .inl rfl⟩, ⟨_, rfl, .inl rfl⟩, ⟨_, rfl, .inl rfl⟩, ⟨_, rfl, .inl rfl⟩, ⟨_, rfl, .inl rfl⟩, ⟨_, rfl, .inl rfl⟩, ⟨_, rfl, .inr ⟨_, _, rfl, rfl, .inl rfl, .inl rfl, .inl rfl, .inl rfl, .inl rfl, .inl rfl, .inl rfl, .inr ⟨rfl, rfl⟩, .inl rfl, .inl rfl, .inl rfl, .inl rfl, trivial⟩⟩, ⟨_, rfl, .inl rfl⟩, ⟨_, rfl, .inl rfl⟩, ⟨_, rfl, .inl rfl⟩, ⟨_, rfl, .inl rfl⟩, trivial⟩
  refine AW_imp (Imp.nil 608 3 1 (fr' := frR n flt xs 12) (σ' := chN 8 ((15, .box (cellsN 12 0 9)) :: sB n s1 sk s2 (dl0 n) s3 k' nw)) rfl ⟨⟨_, rfl, .inl rfl⟩, ⟨_, rfl, .inl rfl⟩, ⟨_, rfl, .inl rfl⟩, ⟨_, rfl, .inl rfl⟩, ⟨_, rfl, .inl rfl⟩, ⟨_, rfl, .inl rfl⟩, trivial⟩ ?_ rfl rfl) ?_
  · exact ⟨⟨_, rfl, .inl rfl⟩, ⟨_, rfl, .inl rfl⟩, ⟨_, rfl, .inl rfl⟩, ⟨_, rfl, .inl rfl⟩, ⟨_, rfl, .inl rfl⟩, ⟨_, rfl, .inl rfl⟩, ⟨_, rfl, .inl rfl⟩, ⟨_, rfl, .inl rfl⟩, ⟨_, rfl, .inr ⟨_, _, rfl, rfl, .inl rfl, .inl rfl, .inl rfl, .inl rfl, .inl rfl, .inl rfl, .inl rfl, .inl rfl, .inr ⟨rfl, rfl⟩, .inl rfl, .inl rfl, .inl rfl, trivial⟩⟩, ⟨_, rfl, .inl rfl⟩, ⟨_, rfl, .inl rfl⟩, ⟨_, rfl, .inl rfl⟩, ⟨_, rfl, .inl rfl⟩, trivial⟩
  refine AW_imp (Imp.nil 609 3 1 (fr' := frR n flt xs 12) (σ' := chN 9 ((15, .box (cellsN 12 0 10)) :: sB n s1 sk s2 (dl0 n) s3 k' nw)) rfl ⟨⟨_, rfl, .inl rfl⟩, ⟨_, rfl, .inl rfl⟩, ⟨_, rfl, .inl rfl⟩, ⟨_, rfl, .inl rfl⟩, ⟨_, rfl, .inl rfl⟩, ⟨_, rfl, .inl rfl⟩, trivial⟩ ?_ rfl rfl) ?_
  · exact ⟨⟨_, rfl, .inl rfl⟩, ⟨_, rfl, .inl rfl⟩, ⟨_, rfl, .inl rfl⟩, ⟨_, rfl, .inl rfl⟩, ⟨_, rfl, .inl rfl⟩, ⟨_, rfl, .inl rfl⟩, ⟨_, rfl, .inl rfl⟩, ⟨_, rfl, .inl rfl⟩, ⟨_, rfl, .inl rfl⟩, ⟨_, rfl, .inr ⟨_, _, rfl, rfl, .inl rfl, .inl rfl, .inl rfl, .inl rfl, .inl rfl, .inl rfl, .inl rfl, .inl rfl, .inl rfl, .inr ⟨rfl, rfl⟩, .inl rfl, .inl rfl, trivial⟩⟩, ⟨_, rfl, .inl rfl⟩, ⟨_, rfl, .inl rfl⟩, ⟨_, rfl, .inl rfl⟩, ⟨_, rfl, .inl rfl⟩, trivial⟩
  refine AW_imp (Imp.nil 610 3 1 (fr' := frR n flt xs 12) (σ' := chN 10 ((15, .box (cellsN 12 0 11)) :: sB n s1 sk s2 (dl0 n) s3 k' nw)) rfl ⟨⟨_, rfl, .inl rfl⟩, ⟨_, rfl, .inl rfl⟩, ⟨_, rfl, .inl rfl⟩, ⟨_, rfl, .inl rfl⟩, ⟨_, rfl, .inl rfl⟩, ⟨_, rfl, .inl rfl⟩, trivial⟩ ?_ rfl rfl) ?_
  · exact ⟨⟨_, rfl, .inl rfl⟩, ⟨_, rfl, .inl rfl⟩, ⟨_, rfl, .inl rfl⟩, ⟨_, rfl, .inl rfl⟩, ⟨_, rfl, .inl rfl⟩, ⟨_, rfl, .inl rfl⟩, ⟨_, rfl, .inl rfl⟩, ⟨_, rfl, .inl rfl⟩, ⟨_, rfl, .inl rfl⟩, ⟨_, rfl, .inl rfl⟩, ⟨_, rfl, .inr ⟨_, _, rfl, rfl, .inl rfl, .inl rfl, .inl rfl, .inl rfl, .inl rfl, .inl rfl, .inl rfl, .inl rfl, .inl rfl, .inl rfl, .inr ⟨rfl, rfl⟩, .inl rfl, trivial⟩⟩, ⟨_, rfl, .inl rfl⟩, ⟨_, rfl, .inl rfl⟩, ⟨_, rfl, .inl rfl⟩, ⟨_, rfl, .inl rfl⟩, trivial⟩
  refine AW_imp (Imp.nil 611 3 1 (fr' := frR n flt xs 12) (σ' := chN 11 ((15, .box (cellsN 12 0 12)) :: sB n s1 sk s2 (dl0 n) s3 k' nw)) rfl ⟨⟨_, rfl, .inl rfl⟩, ⟨_, rfl, .inl rfl⟩, ⟨_, rfl, .inl rfl⟩, ⟨_, rfl, .inl rfl⟩, ⟨_, rfl, .inl rfl⟩, ⟨_, rfl, .inl rfl⟩, trivial⟩ ?_ rfl rfl) ?_
  · exact ⟨⟨_, rfl, .inl rfl⟩, ⟨_, rfl, .inl rfl⟩, ⟨_, rfl, .inl rfl⟩, ⟨_, rfl, .inl rfl⟩, ⟨_, rfl, .inl rfl⟩, ⟨_, rfl, .inl rfl⟩, ⟨_, rfl, .inl rfl⟩, ⟨_, rfl, .inl rfl⟩, ⟨_, rfl, .inl rfl⟩, ⟨_, rfl, .inl rfl⟩, ⟨_, rfl, .inl rfl⟩, ⟨_, rfl, .inr ⟨_, _, rfl, rfl, .inl rfl, .inl rfl, .inl rfl, .inl rfl, .inl rfl, .inl rfl, .inl rfl, .inl rfl, .inl rfl, .inl rfl, .inl rfl, .inr ⟨rfl, rfl⟩, trivial⟩⟩, ⟨_, rfl, .inl rfl⟩, ⟨_, rfl, .inl rfl⟩, ⟨_, rfl, .inl rfl⟩, ⟨_, rfl, .inl rfl⟩, trivial⟩
  refine AW_loop (fun p : Nat × Nat × Nat × List W16 => [(20, iv .i64 p.1), (19, iv .i64 xs.length), (18, sl xs), (7, .x (.sb 15 0 12 12)), (8, sl (stsL n flt xs 12 p.1)), (0, .x (.b 900 0))])
    (fun p => (15, .box [.o 600 (p.1) (p.1), .o 601 (p.1) (p.1), .o 602 (p.1) (p.1), .o 603 (p.1) (p.1), .o 604 (p.1) (p.1), .o 605 (p.1) (p.1), .o 606 (p.1) (p.1), .o 607 (p.1) (p.1), .o 608 (p.1) (p.1), .o 609 (p.1) (p.1), .o 610 (p.1) (p.1), .o 611 (p.1) (p.1)]) :: (600, rwOb n (flt 0) xs (p.1)) :: (601, rwOb n (flt 1) xs (p.1)) :: (602, rwOb n (flt 2) xs (p.1)) :: (603, rwOb n (flt 3) xs (p.1)) :: (604, rwOb n (flt 4) xs (p.1)) :: (605, rwOb n (flt 5) xs (p.1)) :: (606, rwOb n (flt 6) xs (p.1)) :: (607, rwOb n (flt 7) xs (p.1)) :: (608, rwOb n (flt 8) xs (p.1)) :: (609, rwOb n (flt 9) xs (p.1)) :: (610, rwOb n (flt 10) xs (p.1)) :: (611, rwOb n (flt 11) xs (p.1)) :: sB n s1 sk s2 (dl0 n) p.2.1 p.2.2.1 p.2.2.2)
    (fun p => p.1 ≤ xs.length) (fun p => xs.length - p.1) (0, s3, k', nw) (Nat.zero_le _) impA ?_
  rintro ⟨t, a, b, c⟩ ht
  dsimp only at ht ⊢
  rcases Nat.lt_or_ge t xs.length with htl | htl
  · have hbeat := fun s3 k' nw => beat_lanes ok (s1 := s1) hsk (s2 := s2) (s3 := s3) (k' := k') (nw := nw) (k := 12) (by decide) hl xs t xs[t] (getDI htl)
    have hol := otsL_len n flt xs 12 t
    repeat' first | with_reducible refine AW_seq ?_ | with_reducible refine AW_block ?_ | ((first | with_reducible refine AW_skip ?_ | with_reducible refine AW_exit ?_ | with_reducible refine AW_ret ?_ | with_reducible refine AW_region hTt ?_ | fail); conv => whnf) | (exact absurd hb (by omega)) | ((refine ⟨_, (hbeat a b c).frame (asc []) (by repeat (first | exact trivial | refine ⟨rfl, ?_⟩)) rfl (by rintro _ _ ⟨_, rfl, rfl⟩; rfl), ?_⟩); (rintro _ _ ⟨_, _, ⟨_, rfl, rfl⟩, rfl, rfl⟩); conv => whnf) | (refine AW_cond rfl (fun hb => ?_) (fun hb => ?_) <;> first | (replace hb := of_decide_eq_true hb; try simp only [List.length_map] at hb) | (replace hb := of_decide_eq_false hb; try simp only [List.length_map] at hb) | (simp only [List.length_map, bne_iff_ne, ne_eq, beq_iff_eq, bne_eq_false_iff_eq, beq_eq_false_iff_ne, decide_eq_true_eq, decide_eq_false_iff_not, Bool.not_eq_true', Bool.not_eq_false', Int.natCast_inj] at hb) | skip) | ((first | refine andA ?_ | with_reducible refine Exists.intro _ (And.intro (gd_any (And.intro (by omega) (map_get (by omega)))) ?_) | fail); conv => whnf) | (refine fun hln => ?_; (try rw [List.length_map] at hln); unfold maxLen at hln; conv => whnf) | fail
    rename_i pp
    refine AW_loop (fun l : Nat => [(33, iv .i64 l), (32, iv .i64 12), (31, sl (otsL n flt xs 12 t)), (20, iv .i64 t), (19, iv .i64 xs.length), (18, sl xs), (7, .x (.sb 15 0 12 12)), (8, sl (stsL n flt xs 12 (t + 1))), (0, .x (.b 900 0))])
      (fun l => (15, .box [.o 600 (t + bt 0 l) (t + bt 0 l), .o 601 (t + bt 1 l) (t + bt 1 l), .o 602 (t + bt 2 l) (t + bt 2 l), .o 603 (t + bt 3 l) (t + bt 3 l), .o 604 (t + bt 4 l) (t + bt 4 l), .o 605 (t + bt 5 l) (t + bt 5 l), .o 606 (t + bt 6 l) (t + bt 6 l), .o 607 (t + bt 7 l) (t + bt 7 l), .o 608 (t + bt 8 l) (t + bt 8 l), .o 609 (t + bt 9 l) (t + bt 9 l), .o 610 (t + bt 10 l) (t + bt 10 l), .o 611 (t + bt 11 l) (t + bt 11 l)]) :: (600, rwOb n (flt 0) xs (t + bt 0 l)) :: (601, rwOb n (flt 1) xs (t + bt 1 l)) :: (602, rwOb n (flt 2) xs (t + bt 2 l)) :: (603, rwOb n (flt 3) xs (t + bt 3 l)) :: (604, rwOb n (flt 4) xs (t + bt 4 l)) :: (605, rwOb n (flt 5) xs (t + bt 5 l)) :: (606, rwOb n (flt 6) xs (t + bt 6 l)) :: (607, rwOb n (flt 7) xs (t + bt 7 l)) :: (608, rwOb n (flt 8) xs (t + bt 8 l)) :: (609, rwOb n (flt 9) xs (t + bt 9 l)) :: (610, rwOb n (flt 10) xs (t + bt 10 l)) :: (611, rwOb n (flt 11) xs (t + bt 11 l)) :: sB n s1 sk s2 (dl0 n) pp.1 pp.2.1 pp.2.2) (fun l => l ≤ 12) (fun l => 12 - l) 0 (Nat.zero_le _) impA ?_
    intro l hlk
    rcases Nat.lt_or_ge l 12 with hll | hll
    · have hg := ots_at n flt xs t hll
      have e := row_app n (flt l) xs t l
      have hq := bt_self l
      have hz := outsR_len n (flt l) xs (t + bt l l)
      obtain ⟨j, hj⟩ : ∃ j, j = l + 1 := ⟨_, rfl⟩
      have hl' : l = 0 ∨ l = 1 ∨ l = 2 ∨ l = 3 ∨ l = 4 ∨ l = 5 ∨ l = 6 ∨ l = 7 ∨ l = 8 ∨ l = 9 ∨ l = 10 ∨ l = 11 := by omega
      clear hol hbeat ht hlk hll
      rcases hl' with rfl | rfl | rfl | rfl | rfl | rfl | rfl | rfl | rfl | rfl | rfl | rfl
      all_goals
        repeat' first | with_reducible refine AW_seq ?_ | with_reducible refine AW_block ?_ | ((first | with_reducible refine AW_skip ?_ | with_reducible refine AW_region hTt ?_ | with_reducible refine Exists.intro _ (And.intro (gd_any (And.intro (by omega) hg)) ?_) | refine And.intro (gd_any (And.intro (by decide) (by decide))) ?_ | fail); conv => whnf) | ((refine And.intro ?_ ?_; focus (refine ⟨?_, ?_, ?_⟩ <;> simp [chunk, maxLen] <;> omega)); conv => whnf) | (refine AW_cond rfl (fun _ => ?_) (fun hb => absurd hb (by decide))) | ((first | refine ⟨_, wrap_of (by first | omega | (simp only [List.length_map]; omega)), ?_⟩ | refine andA ?_ | fail); conv => whnf) | fail
        exact ⟨j, by omega, by omega, by subst hj; exact impA⟩
    have hle : l = 12 := by omega
    subst hle
    repeat' first | with_reducible refine AW_seq ?_ | ((first | with_reducible refine AW_exit ?_ | with_reducible refine AW_region hTt ?_ | fail); conv => whnf) | (refine AW_cond rfl (fun hb => absurd hb (by decide)) (fun _ => ?_)) | ((refine ⟨_, wrap_of (by first | omega | (simp only [List.length_map]; omega)), ?_⟩); conv => whnf) | fail
    exact ⟨(t + 1, pp.1, pp.2.1, pp.2.2), by show t + 1 ≤ xs.length; omega, by show xs.length - (t + 1) < xs.length - t; omega, impA⟩
  · have hte : t = xs.length := by omega
    subst hte
    repeat' first | with_reducible refine AW_seq ?_ | with_reducible refine AW_block ?_ | ((first | with_reducible refine AW_skip ?_ | with_reducible refine AW_exit ?_ | with_reducible refine AW_ret ?_ | with_reducible refine AW_region hTt ?_ | fail); conv => whnf) | (exact absurd hb (by omega)) | (refine AW_cond rfl (fun hb => ?_) (fun hb => ?_) <;> first | (replace hb := of_decide_eq_true hb; try simp only [List.length_map] at hb) | (replace hb := of_decide_eq_false hb; try simp only [List.length_map] at hb) | (simp only [List.length_map, bne_iff_ne, ne_eq, beq_iff_eq, bne_eq_false_iff_eq, beq_eq_false_iff_ne, decide_eq_true_eq, decide_eq_false_iff_not, Bool.not_eq_true', Bool.not_eq_false', Int.natCast_inj] at hb) | skip) | fail
    refine ⟨_, sB n s1 sk s2 (dl0 n) a b c, ⟨rfl, rfl, rfl, rfl, trivial⟩, rfl, (?_ : _ = some (rowsAV ((List.range 12).map fun l => outsR n (flt l) xs xs.length))), (a, b, c), rfl, rfl⟩
    have hk := keepRows (σ := (15, .box [.o 600 xs.length xs.length, .o 601 xs.length xs.length, .o 602 xs.length xs.length, .o 603 xs.length xs.length, .o 604 xs.length xs.length, .o 605 xs.length xs.length, .o 606 xs.length xs.length, .o 607 xs.length xs.length, .o 608 xs.length xs.length, .o 609 xs.length xs.length, .o 610 xs.length xs.length, .o 611 xs.length xs.length]) :: (600, rwOb n (flt 0) xs xs.length) :: (601, rwOb n (flt 1) xs xs.length) :: (602, rwOb n (flt 2) xs xs.length) :: (603, rwOb n (flt 3) xs xs.length) :: (604, rwOb n (flt 4) xs xs.length) :: (605, rwOb n (flt 5) xs xs.length) :: (606, rwOb n (flt 6) xs xs.length) :: (607, rwOb n (flt 7) xs xs.length) :: (608, rwOb n (flt 8) xs xs.length) :: (609, rwOb n (flt 9) xs xs.length) :: (610, rwOb n (flt 10) xs xs.length) :: (611, rwOb n (flt 11) xs xs.length) :: sB n s1 sk s2 (dl0 n) a b c) (σ' := sB n s1 sk s2 (dl0 n) a b c) (id := 15) (n := 12) (cap := 12) (ps := [PV.s 1 ((outsR n (flt 0) xs xs.length).map iPV), PV.s 1 ((outsR n (flt 1) xs xs.length).map iPV), PV.s 1 ((outsR n (flt 2) xs xs.length).map iPV), PV.s 1 ((outsR n (flt 3) xs xs.length).map iPV), PV.s 1 ((outsR n (flt 4) xs xs.length).map iPV), PV.s 1 ((outsR n (flt 5) xs xs.length).map iPV), PV.s 1 ((outsR n (flt 6) xs xs.length).map iPV), PV.s 1 ((outsR n (flt 7) xs xs.length).map iPV), PV.s 1 ((outsR n (flt 8) xs xs.length).map iPV), PV.s 1 ((outsR n (flt 9) xs xs.length).map iPV), PV.s 1 ((outsR n (flt 10) xs xs.length).map iPV), PV.s 1 ((outsR n (flt 11) xs xs.length).map iPV)]) rfl rfl
      (by repeat' first | exact rfl | refine rowPVs_cons (rowPV_o rfl rfl (by rw [List.length_map, outsR_len])) ?_) rfl
    exact outKeep1 (x := .x (.sb 15 0 12 12)) rfl hk
end Go.Proofs.YtfghooojingdhaaDoor
namespace Go.Proofs.YtfghooojingdhaaDoor
open Go Go.QL
set_option maxHeartbeats 3200000
attribute [local irreducible] ACall FnC
theorem run_13 {n : NetT} (ok : NetOK n) {s1 : Nat} {sk : List (W16 × W16)} (hsk : sk.length = n.inn.toNat + n.gates.length) {s2 s3 k' : Nat} {nw : List W16}
    {flt : Nat → FaultT} (hl : LanesOK sk flt 13) (xs : List Int) (hxl : xs.length ≤ 4096) :
    ACall Tryd.prog 71 [.x (.b 900 0), iv .i64 13, sl xs] (sB n s1 sk s2 (dl0 n) s3 k' nw)
      (fun r σ' => ∃ p : Nat × Nat × List W16, r = rowsAV ((List.range 13).map fun l => outsR n (flt l) xs xs.length) ∧ σ' = sB n s1 sk s2 (dl0 n) p.1 p.2.1 p.2.2) := by
  refine ACall_of_AWD hTt Tryd.func71 rfl (by kernel_rfl) (res := [.tmp 6]) rfl Tryd.ntmps71 (by simp) fun w0 K0 B => ?_
  dsimp only [entry]
  repeat' first | with_reducible refine AW_seq ?_ | with_reducible refine AW_block ?_ | ((first | with_reducible refine AW_region hTt ?_ | refine AW_draw hTt hMix (id := 1) 5 true [0, 1, 0, 4, 3, 31] (by kernel_rfl) rfl rfl (by kernel_rfl) ?_ | refine Or.inr ?_ | refine andA ?_ | fail); conv => whnf) | (refine fun hln => ?_; (try rw [List.length_map] at hln); unfold maxLen at hln; conv => whnf) | fail
  refine AW_imp (Imp.freeze 17 (fr' := frR n flt xs 13) (σ' := (15, .box (cellsN 13 0 0)) :: sB n s1 sk s2 (dl0 n) s3 k' nw) rfl ?_ ?_ rfl rfl) ?_
  · exact ⟨⟨_, rfl, .inl rfl⟩, ⟨_, congrArg (fun k : Nat => some (iv .i64 k)) (List.length_map _), .inl rfl⟩, ⟨_, rfl, .inl rfl⟩, ⟨_, rfl, .inl rfl⟩, ⟨_, rfl, .inr ⟨13, rfl, Nat.le_of_ble_eq_true rfl, rfl⟩⟩, ⟨_, rfl, .inl rfl⟩, trivial⟩
  · exact ⟨rfl, rfl, rfl, rfl, rfl, trivial⟩
  refine AW_imp (Imp.nil 600 3 1 (fr' := frR n flt xs 13) (σ' := chN 0 ((15, .box (cellsN 13 0 1)) :: sB n s1 sk s2 (dl0 n) s3 k' nw)) rfl ⟨⟨_, rfl, .inl rfl⟩, ⟨_, rfl, .inl rfl⟩, ⟨_, rfl, .inl rfl⟩, ⟨_, rfl, .inl rfl⟩, ⟨_, rfl, .inl rfl⟩, ⟨_, rfl, .inl rfl⟩, trivial⟩ ?_ rfl rfl) ?_
  · exact ⟨⟨_, rfl, .inr ⟨_, _, rfl, rfl, .inr ⟨rfl, rfl⟩, .inl rfl, .inl rfl, .inl rfl, .inl rfl, .inl rfl, .inl rfl, .inl rfl, .inl rfl, .inl rfl, .inl rfl, .inl rfl, .inl rfl, trivial⟩⟩, ⟨_, rfl, .inl rfl⟩, ⟨_, rfl, .inl rfl⟩, ⟨_, rfl, .inl rfl⟩, ⟨_, rfl, .inl rfl⟩, trivial⟩
  refine AW_imp (Imp.nil 601 3 1 (fr' := frR n flt xs 13) (σ' := chN 1 ((15, .box (cellsN 13 0 2)) :: sB n s1 sk s2 (dl0 n) s3 k' nw)) rfl ⟨⟨_, rfl, .inl rfl⟩, ⟨_, rfl, .inl rfl⟩, ⟨_, rfl, .inl rfl⟩, ⟨_, rfl, .inl rfl⟩, ⟨_, rfl, .inl rfl⟩, ⟨_, rfl, .inl rfl⟩, trivial⟩ ?_ rfl rfl) ?_
  · exact ⟨⟨_, rfl, .inl rfl⟩, ⟨_, rfl, .inr ⟨_, _, rfl, rfl, .inl rfl, .inr ⟨rfl, rfl⟩, .inl rfl, .inl rfl, .inl rfl, .inl rfl, .inl rfl, .inl rfl, .inl rfl, .inl rfl, .inl rfl, .inl rfl, .inl rfl, trivial⟩⟩, ⟨_, rfl, .inl rfl⟩, ⟨_, rfl, .inl rfl⟩, ⟨_, rfl, .inl rfl⟩, ⟨_, rfl, .inl rfl⟩, trivial⟩
  refine AW_imp (Imp.nil 602 3 1 (fr' := frR n flt xs 13) (σ' := chN 2 ((15, .box (cellsN 13 0 3)) :: sB n s1 sk s2 (dl0 n) s3 k' nw)) rfl ⟨⟨_, rfl, .inl rfl⟩, ⟨_, rfl, .inl rfl⟩, ⟨_, rfl, .inl rfl⟩, ⟨_, rfl, .inl rfl⟩, ⟨_, rfl, .inl rfl⟩, ⟨_, rfl, .inl rfl⟩, trivial⟩ ?_ rfl rfl) ?_
  · exact ⟨⟨_, rfl, .inl rfl⟩, ⟨_, rfl, .inl rfl⟩, ⟨_, rfl, .inr ⟨_, _, rfl, rfl, .inl rfl, .inl rfl, .inr ⟨rfl, rfl⟩, .inl rfl, .inl rfl, .inl rfl, .inl rfl, .inl rfl, .inl rfl, .inl rfl, .inl rfl, .inl rfl, .inl rfl, trivial⟩⟩, ⟨_, rfl, .inl rfl⟩, ⟨_, rfl, .inl rfl⟩, ⟨_, rfl, .inl rfl⟩, ⟨_, rfl, .inl rfl⟩, trivial⟩
  refine AW_imp (Imp.nil 603 3 1 (fr' := frR n flt xs 13) (σ' := chN 3 ((15, .box (cellsN 13 0 4)) :: sB n s1 sk s2 (dl0 n) s3 k' nw)) rfl ⟨⟨_, rfl, .inl rfl⟩, ⟨_, rfl, .inl rfl⟩, ⟨_, rfl, .inl rfl⟩, ⟨_, rfl, .inl rfl⟩, ⟨_, rfl, .inl rfl⟩, ⟨_, rfl, .inl rfl⟩, trivial⟩ ?_ rfl rfl) ?_
  · exact ⟨⟨_, rfl, .inl rfl⟩, ⟨_, rfl, .inl rfl⟩, ⟨_, rfl, .inl rfl⟩, ⟨_, rfl, .inr ⟨_, _, rfl, rfl, .inl rfl, .inl rfl, .inl rfl, .inr ⟨rfl, rfl⟩, .inl rfl, .inl rfl, .inl rfl, .inl rfl, .inl rfl, .inl rfl, .inl rfl, .inl rfl, .inl rfl, trivial⟩⟩, ⟨_, rfl, .inl rfl⟩, ⟨_, rfl, .inl rfl⟩, ⟨_, rfl, .inl rfl⟩, ⟨_, rfl, .inl rfl⟩, trivial⟩
  refine AW_imp (Imp.nil 604 3 1 (fr' := frR n flt xs 13) (σ' := chN 4 ((15, .box (cellsN 13 0 5)) :: sB n s1 sk s2 (dl0 n) s3 k' nw)) rfl ⟨⟨_, rfl, .inl rfl⟩, ⟨_, rfl, .inl rfl⟩, ⟨_, rfl, .inl rfl⟩, ⟨_, rfl, .inl rfl⟩, ⟨_, rfl, .inl rfl⟩, ⟨_, rfl, .inl rfl⟩, trivial⟩ ?_ rfl rfl) ?_
  · exact ⟨⟨_, rfl, .inl rfl⟩, ⟨_, rfl, .inl rfl⟩, ⟨_, rfl, .inl rfl⟩, ⟨_, rfl, .inl rfl⟩, ⟨_, rfl, .inr ⟨_, _, rfl, rfl, .inl rfl, .inl rfl, .inl rfl, .inl rfl, .inr ⟨rfl, rfl⟩, .inl rfl, .inl rfl, .inl rfl, .inl rfl, .inl rfl, .inl rfl, .inl rfl, .inl rfl, trivial⟩⟩, ⟨_, rfl, .inl rfl⟩, ⟨_, rfl, .inl rfl⟩, ⟨_, rfl, .inl rfl⟩, ⟨_, rfl, .inl rfl⟩, trivial⟩
  refine AW_imp (Imp.nil 605 3 1 (fr' := frR n flt xs 13) (σ' := chN 5 ((15, .box (cellsN 13 0 6)) :: sB n s1 sk s2 (dl0 n) s3 k' nw)) rfl ⟨⟨_, rfl, .inl rfl⟩, ⟨_, rfl, .inl rfl⟩, ⟨_, rfl, .inl rfl⟩, ⟨_, rfl, .inl rfl⟩, ⟨_, rfl, .inl rfl⟩, ⟨_, rfl, .inl rfl⟩, trivial⟩ ?_ rfl rfl) ?_
  · exact ⟨⟨_, rfl, .inl rfl⟩, ⟨_, rfl, .inl rfl⟩, ⟨_, rfl, .inl rfl⟩, ⟨_, rfl, .inl rfl⟩, ⟨_, rfl, .inl rfl⟩, ⟨_, rfl, .inr ⟨_, _, rfl, rfl, .inl rfl, .inl rfl, .inl rfl, .inl rfl, .inl rfl, .inr ⟨rfl, rfl⟩, .inl rfl, .inl rfl, .inl rfl, .inl rfl, .inl rfl, .inl rfl, .inl rfl, trivial⟩⟩, ⟨_, rfl, .inl rfl⟩, ⟨_, rfl, .inl rfl⟩, ⟨_, rfl, .inl rfl⟩, ⟨_, rfl, .inl rfl⟩, trivial⟩
  refine AW_imp (Imp.nil 606 3 1 (fr' := frR n flt xs 13) (σ' := chN 6 ((15, .box (cellsN 13 0 7)) :: sB n s1 sk s2 (dl0 n) s3 k' nw)) rfl ⟨⟨_, rfl, .inl rfl⟩, ⟨_, rfl, .inl rfl⟩, ⟨_, rfl, .inl rfl⟩, ⟨_, rfl, .inl rfl⟩, ⟨_, rfl, .inl rfl⟩, ⟨_, rfl, .inl rfl⟩, trivial⟩ ?_ rfl rfl) ?_
  · exact ⟨⟨_, rfl, .inl rfl⟩, ⟨_, rfl, .inl rfl⟩, ⟨_, rfl, .inl rfl⟩, ⟨_, rfl, .inl rfl⟩, ⟨_, rfl, .inl rfl⟩, ⟨_, rfl, .inl rfl⟩, ⟨_, rfl, .inr ⟨_, _, rfl, rfl, .inl rfl, .inl rfl, .inl rfl, .inl rfl, .inl rfl, .inl rfl, .inr ⟨rfl, rfl⟩, .inl rfl, .inl rfl, .inl rfl, .inl rfl, .inl rfl, .inl rfl, trivial⟩⟩, ⟨_, rfl, .inl rfl⟩, ⟨_, rfl, .inl rfl⟩, ⟨_, rfl, .inl rfl⟩, ⟨_, rfl, .inl rfl⟩, trivial⟩
  refine AW_imp (Imp.nil 607 3 1 (fr' := frR n flt xs 13) (σ' := chN 7 ((15, .box (cellsN 13 0 8)) :: sB n s1 sk s2 (dl0 n) s3 k' nw)) rfl ⟨⟨_, rfl, .inl rfl⟩, ⟨_, rfl, .inl rfl⟩, ⟨_, rfl, .inl rfl⟩, ⟨_, rfl, .inl rfl⟩, ⟨_, rfl, .inl rfl⟩, ⟨_, rfl, .inl rfl⟩, trivial⟩ ?_ rfl rfl) ?_
  · exact ⟨⟨_, rfl, .inl rfl⟩, ⟨_, rfl, .inl rfl⟩, ⟨_, rfl, .inl rfl⟩, ⟨_, rfl, .inl rfl⟩, ⟨_, rfl, .inl rfl⟩, ⟨_, rfl, .inl rfl⟩, ⟨_, rfl, .inl rfl⟩, ⟨_, rfl, .inr ⟨_, _, rfl, rfl, .inl rfl, .inl rfl, .inl rfl, .inl rfl, .inl rfl, .inl rfl, .inl rfl, .inr ⟨rfl, rfl⟩, .inl rfl, .inl rfl, .inl rfl, .inl rfl, .inl rfl, trivial⟩⟩, ⟨_, rfl, .inl rfl⟩, ⟨_, rfl, .inl rfl⟩, ⟨_, rfl, .inl rfl⟩, ⟨_, rfl, .inl rfl⟩, trivial⟩
  refine AW_imp (Imp.nil 608 3 1 (fr' := frR n flt xs 13) (σ' := chN 8 ((15, .box (cellsN 13 0 9)) :: sB n s1 sk s2 (dl0 n) s3 k' nw)) rfl ⟨⟨_, rfl, .inl rfl⟩, ⟨_, rfl, .inl rfl⟩, ⟨_, rfl, .inl rfl⟩, ⟨_, rfl, .inl rfl⟩, ⟨_, rfl, .inl rfl⟩, ⟨_, rfl, .inl rfl⟩, trivial⟩ ?_ rfl rfl) ?_
  · exact ⟨⟨_, rfl, .inl rfl⟩, ⟨_, rfl, .inl rfl⟩, ⟨_, rfl, .inl rfl⟩, ⟨_, rfl, .inl rfl⟩, ⟨_, rfl, .inl rfl⟩, ⟨_, rfl, .inl rfl⟩, ⟨_, rfl, .inl rfl⟩, ⟨_, rfl, .inl rfl⟩, ⟨_, rfl, .inr ⟨_, _, rfl, rfl, .inl rfl, .inl rfl, .inl rfl, .inl rfl, .inl rfl, .inl rfl, .inl rfl, .inl rfl, .inr ⟨rfl, rfl⟩, .inl rfl, .inl rfl, .inl rfl, .inl rfl, trivial⟩⟩, ⟨_, rfl, .inl rfl⟩, ⟨_, rfl, .inl rfl⟩, ⟨_, rfl, .inl rfl⟩, ⟨_, rfl, .inl rfl⟩, trivial⟩
  refine AW_imp (Imp.nil 609 3 1 (fr' := frR n flt xs 13) (σ' := chN 9 ((15, .box (cellsN 13 0 10)) :: sB n s1 sk s2 (dl0 n) s3 k' nw)) rfl ⟨⟨_, rfl, .inl rfl⟩, ⟨_, rfl, .inl rfl⟩, ⟨_, rfl, .inl rfl⟩, ⟨_, rfl, .inl rfl⟩, ⟨_, rfl, .inl rfl⟩, ⟨_, rfl, .inl rfl⟩, trivial⟩ ?_ rfl rfl) ?_
  · exact ⟨⟨_, rfl, .inl rfl⟩, ⟨_, rfl, .inl rfl⟩, ⟨_, rfl, .inl rfl⟩, ⟨_, rfl, .inl rfl⟩, ⟨_, rfl, .inl rfl⟩, ⟨_, rfl, .inl rfl⟩, ⟨_, rfl, .inl rfl⟩, ⟨_, rfl, .inl rfl⟩, ⟨_, rfl, .inl rfl⟩, ⟨_, rfl, .inr ⟨_, _, rfl, rfl, .inl rfl, .inl rfl, .inl rfl, .inl rfl, .inl rfl, .inl rfl, .inl rfl, .inl rfl, .inl rfl, .inr ⟨rfl, rfl⟩, .inl rfl, .inl rfl, .inl rfl, trivial⟩⟩, ⟨_, rfl, .inl rfl⟩, ⟨_, rfl, .inl rfl⟩, ⟨_, rfl, .inl rfl⟩, ⟨_, rfl, .inl rfl⟩, trivial⟩
  refine AW_imp (Imp.nil 610 3 1 (fr' := frR n flt xs 13) (σ' := chN 10 ((15, .box (cellsN 13 0 11)) :: sB n s1 sk s2 (dl0 n) s3 k' nw)) rfl ⟨⟨_, rfl, .inl rfl⟩, ⟨_, rfl, .inl rfl⟩, ⟨_, rfl, .inl rfl⟩, ⟨_, rfl, .inl rfl⟩, ⟨_, rfl, .inl rfl⟩, ⟨_, rfl, .inl rfl⟩, trivial⟩ ?_ rfl rfl) ?_
  · exact ⟨⟨_, rfl, .inl rfl⟩, ⟨_, rfl, .inl rfl⟩, ⟨_, rfl, .inl rfl⟩, ⟨_, rfl, .inl rfl⟩, ⟨_, rfl, .inl rfl⟩, ⟨_, rfl, .inl rfl⟩, ⟨_, rfl, .inl rfl⟩, ⟨_, rfl, .inl rfl⟩, ⟨_, rfl, .inl rfl⟩, ⟨_, rfl, .inl rfl⟩, ⟨_, rfl, .inr ⟨_, _, rfl, rfl, .inl rfl, .inl rfl, .inl rfl, .inl rfl, .inl rfl, .inl rfl, .inl rfl, .inl rfl, .inl rfl, .inl rfl, .inr ⟨rfl, rfl⟩, .inl rfl, .inl rfl, trivial⟩⟩, ⟨_, rfl, .inl rfl⟩, ⟨_, rfl, .inl rfl⟩, ⟨_, rfl, .inl rfl⟩, ⟨_, rfl, .inl rfl⟩, trivial⟩
  refine AW_imp (Imp.nil 611 3 1 (fr' := frR n flt xs 13) (σ' := chN 11 ((15, .box (cellsN 13 0 12)) :: sB n s1 sk s2 (dl0 n) s3 k' nw)) rfl ⟨⟨_, rfl, .inl rfl⟩, ⟨_, rfl, .inl rfl⟩, ⟨_, rfl, .inl rfl⟩, ⟨_, rfl, .inl rfl⟩, ⟨_, rfl, .inl rfl⟩, ⟨_, rfl, .inl rfl⟩, trivial⟩ ?_ rfl rfl) ?_
  · exact ⟨⟨_, rfl, .inl rfl⟩, ⟨_, rfl, .inl rfl⟩, ⟨_, rfl, .inl rfl⟩, ⟨_, rfl, .inl rfl⟩, ⟨_, rfl, .inl rfl⟩, ⟨_, rfl, .inl rfl⟩, ⟨_, rfl, .inl rfl⟩, ⟨_, rfl, .inl rfl⟩, ⟨_, rfl, .inl rfl⟩, ⟨_, rfl, .inl rfl⟩, ⟨_, rfl, .inl rfl⟩, ⟨_, rfl, .inr ⟨_, _, rfl, rfl, .inl rfl, .inl rfl, .inl rfl, .inl rfl, .inl rfl, .inl rfl, .inl rfl, .inl rfl, .inl rfl, .inl rfl, .inl rfl, .inr ⟨rfl, rfl⟩, .inl rfl, trivial⟩⟩, ⟨_, rfl, .inl rfl⟩, ⟨_, rfl, .inl rfl⟩, ⟨_, rfl, .inl rfl⟩, ⟨_, rfl, .inl rfl⟩, trivial⟩
  refine AW_imp (Imp.nil 612 3 1 (fr' := frR n flt xs 13) (σ' := chN 12 ((15, .box (cellsN 13 0 13)) :: sB n s1 sk s2 (dl0 n) s3 k' nw)) rfl ⟨⟨_, rfl, .inl rfl⟩, ⟨_, rfl, .inl rfl⟩, ⟨_, rfl, .inl rfl⟩, ⟨_, rfl, .inl rfl⟩, ⟨_, rfl, .inl rfl⟩, ⟨_, rfl, .inl rfl⟩, trivial⟩ ?_ rfl rfl) ?_
  · exact ⟨⟨_, rfl, .inl rfl⟩, ⟨_, rfl, .inl rfl⟩, ⟨_, rfl, .inl rfl⟩, ⟨_, rfl, .inl rfl⟩, ⟨_, rfl, .inl rfl⟩, ⟨_, rfl, .inl rfl⟩, ⟨_, rfl, .inl rfl⟩, ⟨_, rfl, .inl rfl⟩, ⟨_, rfl, .inl rfl⟩, ⟨_, rfl, .inl rfl⟩, ⟨_, rfl, .inl rfl⟩, ⟨_, rfl, .inl rfl⟩, ⟨_, rfl, .inr ⟨_, _, rfl, rfl, .inl rfl, .inl rfl, .inl rfl, .inl rfl, .inl rfl, .inl rfl, .inl rfl, .inl rfl, .inl rfl, .inl rfl, .inl rfl, .inl rfl, .inr ⟨rfl, rfl⟩, trivial⟩⟩, ⟨_, rfl, .inl rfl⟩, ⟨_, rfl, .inl rfl⟩, ⟨_, rfl, .inl rfl⟩, ⟨_, rfl, .inl rfl⟩, trivial⟩
  refine AW_loop (fun p : Nat × Nat × Nat × List W16 => [(20, iv .i64 p.1), (19, iv .i64 xs.length), (18, sl xs), (7, .x (.sb 15 0 13 13)), (8, sl (stsL n flt xs 13 p.1)), (0, .x (.b 900 0))])
    (fun p => (15, .box [.o 600 (p.1) (p.1), .o 601 (p.1) (p.1), .o 602 (p.1) (p.1), .o 603 (p.1) (p.1), .o 604 (p.1) (p.1), .o 605 (p.1) (p.1), .o 606 (p.1) (p.1), .o 607 (p.1) (p.1), .o 608 (p.1) (p.1), .o 609 (p.1) (p.1), .o 610 (p.1) (p.1), .o 611 (p.1) (p.1), .o 612 (p.1) (p.1)]) :: (600, rwOb n (flt 0) xs (p.1)) :: (601, rwOb n (flt 1) xs (p.1)) :: (602, rwOb n (flt 2) xs (p.1)) :: (603, rwOb n (flt 3) xs (p.1)) :: (604, rwOb n (flt 4) xs (p.1)) :: (605, rwOb n (flt 5) xs (p.1)) :: (606, rwOb n (flt 6) xs (p.1)) :: (607, rwOb n (flt 7) xs (p.1)) :: (608, rwOb n (flt 8) xs (p.1)) :: (609, rwOb n (flt 9) xs (p.1)) :: (610, rwOb n (flt 10) xs (p.1)) :: (611, rwOb n (flt 11) xs (p.1)) :: (612, rwOb n (flt 12) xs (p.1)) :: sB n s1 sk s2 (dl0 n) p.2.1 p.2.2.1 p.2.2.2)
    (fun p => p.1 ≤ xs.length) (fun p => xs.length - p.1) (0, s3, k', nw) (Nat.zero_le _) impA ?_
  rintro ⟨t, a, b, c⟩ ht
  dsimp only at ht ⊢
  rcases Nat.lt_or_ge t xs.length with htl | htl
  · have hbeat := fun s3 k' nw => beat_lanes ok (s1 := s1) hsk (s2 := s2) (s3 := s3) (k' := k') (nw := nw) (k := 13) (by decide) hl xs t xs[t] (getDI htl)
    have hol := otsL_len n flt xs 13 t
    repeat' first | with_reducible refine AW_seq ?_ | with_reducible refine AW_block ?_ | ((first | with_reducible refine AW_skip ?_ | with_reducible refine AW_exit ?_ | with_reducible refine AW_ret ?_ | with_reducible refine AW_region hTt ?_ | fail); conv => whnf) | (exact absurd hb (by omega)) | ((refine ⟨_, (hbeat a b c).frame (asc []) (by repeat (first | exact trivial | refine ⟨rfl, ?_⟩)) rfl (by rintro _ _ ⟨_, rfl, rfl⟩; rfl), ?_⟩); (rintro _ _ ⟨_, _, ⟨_, rfl, rfl⟩, rfl, rfl⟩); conv => whnf) | (refine AW_cond rfl (fun hb => ?_) (fun hb => ?_) <;> first | (replace hb := of_decide_eq_true hb; try simp only [List.length_map] at hb) | (replace hb := of_decide_eq_false hb; try simp only [List.length_map] at hb) | (simp only [List.length_map, bne_iff_ne, ne_eq, beq_iff_eq, bne_eq_false_iff_eq, beq_eq_false_iff_ne, decide_eq_true_eq, decide_eq_false_iff_not, Bool.not_eq_true', Bool.not_eq_false', Int.natCast_inj] at hb) | skip) | ((first | refine andA ?_ | with_reducible refine Exists.intro _ (And.intro (gd_any (And.intro (by omega) (map_get (by omega)))) ?_) | fail); conv => whnf) | (refine fun hln => ?_; (try rw [List.length_map] at hln); unfold maxLen at hln; conv => whnf) | fail
    rename_i pp
    refine AW_loop (fun l : Nat => [(33, iv .i64 l), (32, iv .i64 13), (31, sl (otsL n flt xs 13 t)), (20, iv .i64 t), (19, iv .i64 xs.length), (18, sl xs), (7, .x (.sb 15 0 13 13)), (8, sl (stsL n flt xs 13 (t + 1))), (0, .x (.b 900 0))])
      (fun l => (15, .box [.o 600 (t + bt 0 l) (t + bt 0 l), .o 601 (t + bt 1 l) (t + bt 1 l), .o 602 (t + bt 2 l) (t + bt 2 l), .o 603 (t + bt 3 l) (t + bt 3 l), .o 604 (t + bt 4 l) (t + bt 4 l), .o 605 (t + bt 5 l) (t + bt 5 l), .o 606 (t + bt 6 l) (t + bt 6 l), .o 607 (t + bt 7 l) (t + bt 7 l), .o 608 (t + bt 8 l) (t + bt 8 l), .o 609 (t + bt 9 l) (t + bt 9 l), .o 610 (t + bt 10 l) (t + bt 10 l), .o 611 (t + bt 11 l) (t + bt 11 l), .o 612 (t + bt 12 l) (t + bt 12 l)]) :: (600, rwOb n (flt 0) xs (t + bt 0 l)) :: (601, rwOb n (flt 1) xs (t + bt 1 l)) :: (602, rwOb n (flt 2) xs (t + bt 2 l)) :: (603, rwOb n (flt 3) xs (t + bt 3 l)) :: (604, rwOb n (flt 4) xs (t + bt 4 l)) :: (605, rwOb n (flt 5) xs (t + bt 5 l)) :: (606, rwOb n (flt 6) xs (t + bt 6 l)) :: (607, rwOb n (flt 7) xs (t + bt 7 l)) :: (608, rwOb n (flt 8) xs (t + bt 8 l)) :: (609, rwOb n (flt 9) xs (t + bt 9 l)) :: (610, rwOb n (flt 10) xs (t + bt 10 l)) :: (611, rwOb n (flt 11) xs (t + bt 11 l)) :: (612, rwOb n (flt 12) xs (t + bt 12 l)) :: sB n s1 sk s2 (dl0 n) pp.1 pp.2.1 pp.2.2) (fun l => l ≤ 13) (fun l => 13 - l) 0 (Nat.zero_le _) impA ?_
    intro l hlk
    rcases Nat.lt_or_ge l 13 with hll | hll
    · have hg := ots_at n flt xs t hll
      have e := row_app n (flt l) xs t l
      have hq := bt_self l
      have hz := outsR_len n (flt l) xs (t + bt l l)
      obtain ⟨j, hj⟩ : ∃ j, j = l + 1 := ⟨_, rfl⟩
      have hl' : l = 0 ∨ l = 1 ∨ l = 2 ∨ l = 3 ∨ l = 4 ∨ l = 5 ∨ l = 6 ∨ l = 7 ∨ l = 8 ∨ l = 9 ∨ l = 10 ∨ l = 11 ∨ l = 12 := by omega
      clear hol hbeat ht hlk hll
      rcases hl' with rfl | rfl | rfl | rfl | rfl | rfl | rfl | rfl | rfl | rfl | rfl | rfl | rfl
      all_goals
        repeat' first | with_reducible refine AW_seq ?_ | with_reducible refine AW_block ?_ | ((first | with_reducible refine AW_skip ?_ | with_reducible refine AW_region hTt ?_ | with_reducible refine Exists.intro _ (And.intro (gd_any (And.intro (by omega) hg)) ?_) | refine And.intro (gd_any (And.intro (by decide) (by decide))) ?_ | fail); conv => whnf) | ((refine And.intro ?_ ?_; focus (refine ⟨?_, ?_, ?_⟩ <;> simp [chunk, maxLen] <;> omega)); conv => whnf) | (refine AW_cond rfl (fun _ => ?_) (fun hb => absurd hb (by decide))) | ((first | refine ⟨_, wrap_of (by first | omega | (simp only [List.length_map]; omega)), ?_⟩ | refine andA ?_ | fail); conv => whnf) | fail
        exact ⟨j, by omega, by omega, by subst hj; exact impA⟩
    have hle : l = 13 := by omega
    subst hle
    repeat' first | with_reducible refine AW_seq ?_ | ((first | with_reducible refine AW_exit ?_ | with_reducible refine AW_region hTt ?_ | fail); conv => whnf) | (refine AW_cond rfl (fun hb => absurd hb (by decide)) (fun _ => ?_)) | ((refine ⟨_, wrap_of (by first | omega | (simp only [List.length_map]; omega)), ?_⟩); conv => whnf) | fail
    exact ⟨(t + 1, pp.1, pp.2.1, pp.2.2), by show t + 1 ≤ xs.length; omega, by show xs.length - (t + 1) < xs.length - t; omega, impA⟩
  · have hte : t = xs.length := by omega
    subst hte
    repeat' first | with_reducible refine AW_seq ?_ | with_reducible refine AW_block ?_ | ((first | with_reducible refine AW_skip ?_ | with_reducible refine AW_exit ?_ | with_reducible refine AW_ret ?_ | with_reducible refine AW_region hTt ?_ | fail); conv => whnf) | (exact absurd hb (by omega)) | (refine AW_cond rfl (fun hb => ?_) (fun hb => ?_) <;> first | (replace hb := of_decide_eq_true hb; try simp only [List.length_map] at hb) | (replace hb := of_decide_eq_false hb; try simp only [List.length_map] at hb) | (simp only [List.length_map, bne_iff_ne, ne_eq, beq_iff_eq, bne_eq_false_iff_eq, beq_eq_false_iff_ne, decide_eq_true_eq, decide_eq_false_iff_not, Bool.not_eq_true', Bool.not_eq_false', Int.natCast_inj] at hb) | skip) | fail
    refine ⟨_, sB n s1 sk s2 (dl0 n) a b c, ⟨rfl, rfl, rfl, rfl, trivial⟩, rfl, (?_ : _ = some (rowsAV ((List.range 13).map fun l => outsR n (flt l) xs xs.length))), (a, b, c), rfl, rfl⟩
    have hk := keepRows (σ := (15, .box [.o 600 xs.length xs.length, .o 601 xs.length xs.length, .o 602 xs.length xs.length, .o 603 xs.length xs.length, .o 604 xs.length xs.length, .o 605 xs.length xs.length, .o 606 xs.length xs.length, .o 607 xs.length xs.length, .o 608 xs.length xs.length, .o 609 xs.length xs.length, .o 610 xs.length xs.length, .o 611 xs.length xs.length, .o 612 xs.length xs.length]) :: (600, rwOb n (flt 0) xs xs.length) :: (601, rwOb n (flt 1) xs xs.length) :: (602, rwOb n (flt 2) xs xs.length) :: (603, rwOb n (flt 3) xs xs.length) :: (604, rwOb n (flt 4) xs xs.length) :: (605, rwOb n (flt 5) xs xs.length) :: (606, rwOb n (flt 6) xs xs.length) :: (607, rwOb n (flt 7) xs xs.length) :: (608, rwOb n (flt 8) xs xs.length) :: (609, rwOb n (flt 9) xs xs.length) :: (610, rwOb n (flt 10) xs xs.length) :: (611, rwOb n (flt 11) xs xs.length) :: (612, rwOb n (flt 12) xs xs.length) :: sB n s1 sk s2 (dl0 n) a b c) (σ' := sB n s1 sk s2 (dl0 n) a b c) (id := 15) (n := 13) (cap := 13) (ps := [PV.s 1 ((outsR n (flt 0) xs xs.length).map iPV), PV.s 1 ((outsR n (flt 1) xs xs.length).map iPV), PV.s 1 ((outsR n (flt 2) xs xs.length).map iPV), PV.s 1 ((outsR n (flt 3) xs xs.length).map iPV), PV.s 1 ((outsR n (flt 4) xs xs.length).map iPV), PV.s 1 ((outsR n (flt 5) xs xs.length).map iPV), PV.s 1 ((outsR n (flt 6) xs xs.length).map iPV), PV.s 1 ((outsR n (flt 7) xs xs.length).map iPV), PV.s 1 ((outsR n (flt 8) xs xs.length).map iPV), PV.s 1 ((outsR n (flt 9) xs xs.length).map iPV), PV.s 1 ((outsR n (flt 10) xs xs.length).map iPV), PV.s 1 ((outsR n (flt 11) xs xs.length).map iPV), PV.s 1 ((outsR n (flt 12) xs xs.length).map iPV)]) rfl rfl
      (by repeat' first | exact rfl | refine rowPVs_cons (rowPV_o rfl rfl (by rw [List.length_map, outsR_len])) ?_) rfl
    exact outKeep1 (x := .x (.sb 15 0 13 13)) rfl hk
end Go.Proofs.YtfghooojingdhaaDoor
namespace Go.Proofs.YtfghooojingdhaaDoor
open Go Go.QL
set_option maxHeartbeats 1600000
attribute [local irreducible] ACall FnC
theorem runs_at {k : Nat} (h1 : 1 ≤ k) (h13 : k ≤ 13) : RunsAt k := by
  have : k = 1 ∨ k = 2 ∨ k = 3 ∨ k = 4 ∨ k = 5 ∨ k = 6 ∨ k = 7 ∨ k = 8 ∨ k = 9 ∨ k = 10 ∨ k = 11 ∨ k = 12 ∨ k = 13 := by omega
  intro n ok s1 sk hsk s2 s3 k' nw flt hl xs hxl
  rcases this with rfl | rfl | rfl | rfl | rfl | rfl | rfl | rfl | rfl | rfl | rfl | rfl | rfl
  · exact run_1 ok hsk hl xs hxl
  · exact run_2 ok hsk hl xs hxl
  · exact run_3 ok hsk hl xs hxl
  · exact run_4 ok hsk hl xs hxl
  · exact run_5 ok hsk hl xs hxl
  · exact run_6 ok hsk hl xs hxl
  · exact run_7 ok hsk hl xs hxl
  · exact run_8 ok hsk hl xs hxl
  · exact run_9 ok hsk hl xs hxl
  · exact run_10 ok hsk hl xs hxl
  · exact run_11 ok hsk hl xs hxl
  · exact run_12 ok hsk hl xs hxl
  · exact run_13 ok hsk hl xs hxl
end Go.Proofs.YtfghooojingdhaaDoor
namespace Go.Proofs.YtfghooojingdhaaDoor
open Go Go.QL
set_option maxHeartbeats 3200000
attribute [local irreducible] ACall FnC YC
theorem runs_of (n : NetT) (fs : List FaultT) (ts : List (List Int)) (hc : askedR n fs ts = 0) : RunsAt (fs.length + 1) := by
  have := (AskOK.of hc).fl
  exact runs_at (by omega) (by omega)
end Go.Proofs.YtfghooojingdhaaDoor
namespace Go.Proofs.YtfghooojingdhaaDoor
open Go Go.QL
set_option maxHeartbeats 3200000
attribute [local irreducible] ACall FnC YC
theorem can1_fn (a b : List Int) : FnC Tryd.prog 83 [sl a, sl b] (bv (decide (b.length = a.length))) := by
  by_cases h : b.length = a.length
  · rw [show decide (b.length = a.length) = true from decide_eq_true h]
    have e : (((a.map fun n => [PV.v (.int .i64 n)]).length : Int) == ((b.map fun n => [PV.v (.int .i64 n)]).length : Int)) = true := by simp [h]
    refine FnC_of_AW hTt Tryd.func83 rfl (by kernel_rfl) (res := [.tmp 4]) rfl Tryd.ntmps83 (by simp) fun w0 K0 => ?_
    dsimp only [entry]
    repeat' first | with_reducible refine AW_seq ?_ | ((first | with_reducible refine AW_ret ?_ | with_reducible refine AW_region hTt ?_ | fail); conv => whnf) | (refine fun hln => ?_; (try rw [List.length_map] at hln); unfold maxLen at hln; conv => whnf) | fail
    first
      | rfl
      | (show some (bv _) = some (bv true); congr 2)
  · rw [show decide (b.length = a.length) = false from decide_eq_false h]
    have e : (((a.map fun n => [PV.v (.int .i64 n)]).length : Int) == ((b.map fun n => [PV.v (.int .i64 n)]).length : Int)) = false := by simp; omega
    refine FnC_of_AW hTt Tryd.func83 rfl (by kernel_rfl) (res := [.tmp 4]) rfl Tryd.ntmps83 (by simp) fun w0 K0 => ?_
    dsimp only [entry]
    repeat' first | with_reducible refine AW_seq ?_ | ((first | with_reducible refine AW_ret ?_ | with_reducible refine AW_region hTt ?_ | fail); conv => whnf) | (refine fun hln => ?_; (try rw [List.length_map] at hln); unfold maxLen at hln; conv => whnf) | fail
    first
      | rfl
      | (show some (bv _) = some (bv false); congr 2)
theorem eqf_fn (ts rs : List (List Int)) : ACall Tryd.prog 82 [rowsAV ts, rowsAV rs, .x (.f (.func 83) [] [])] [] (fun r σ' => r = bv (decide (rs.length = ts.length) && sameLens ts rs) ∧ σ' = []) := by
  refine ACall_of_AWD hTt Tryd.func82 rfl (by kernel_rfl) (res := [.tmp 6]) rfl Tryd.ntmps82 (by simp) fun w0 K0 B => ?_
  dsimp only [entry]
  by_cases hl : rs.length = ts.length
  · rw [show decide (rs.length = ts.length) = true from decide_eq_true hl, Bool.true_and]
    repeat' first | with_reducible refine AW_seq ?_ | with_reducible refine AW_block ?_ | ((first | with_reducible refine AW_skip ?_ | with_reducible refine AW_ret ?_ | with_reducible refine AW_region hTt ?_ | fail); conv => whnf) | (exact absurd hb (by omega)) | (refine AW_cond rfl (fun hb => ?_) (fun hb => ?_) <;> first | (replace hb := of_decide_eq_true hb; try simp only [List.length_map] at hb) | (replace hb := of_decide_eq_false hb; try simp only [List.length_map] at hb) | (simp only [List.length_map, bne_iff_ne, ne_eq, beq_iff_eq, bne_eq_false_iff_eq, beq_eq_false_iff_ne, decide_eq_true_eq, decide_eq_false_iff_not, Bool.not_eq_true', Bool.not_eq_false', Int.natCast_inj] at hb)) | (refine fun hln => ?_; (try rw [List.length_map] at hln); unfold maxLen at hln; conv => whnf) | fail
    refine AW_loop (fun i : Nat => [(17, iv .i64 i), (16, iv .i64 ts.length), (15, rowsAV ts), (0, rowsAV ts), (1, rowsAV rs), (2, .x (.f (.func 83) [] []))]) (fun _ => [])
      (fun i => i ≤ ts.length ∧ ((List.range i).all fun i => decide ((rs.getD i []).length = (ts.getD i []).length)) = true) (fun i => ts.length - i) 0 ⟨Nat.zero_le _, rfl⟩ impA ?_
    rintro i ⟨hi, hs⟩
    rcases Nat.lt_or_ge i ts.length with hil | hil
    · obtain ⟨t, ht⟩ : ∃ t, ts[i]? = some t := ⟨_, List.getElem?_eq_getElem hil⟩
      obtain ⟨r, hr⟩ : ∃ r, rs[i]? = some r := ⟨_, List.getElem?_eq_getElem (by omega)⟩
      have o1 := can1_fn t r
      have hst : ((List.range (i + 1)).all fun i => decide ((rs.getD i []).length = (ts.getD i []).length)) = decide (r.length = t.length) := by
        rw [all_range_succ, hs, Bool.true_and, List.getD_eq_getElem?_getD, List.getD_eq_getElem?_getD, ht, hr]; rfl
      have hfin : decide (r.length = t.length) = false → sameLens ts rs = false := fun e => all_range_false hil (by
        show decide ((rs.getD i []).length = (ts.getD i []).length) = false
        rw [List.getD_eq_getElem?_getD, List.getD_eq_getElem?_getD, ht, hr]; exact e)
      generalize decide (r.length = t.length) = q at o1 hst hfin
      cases q with
      | true =>
        repeat' first | with_reducible refine AW_seq ?_ | with_reducible refine AW_block ?_ | ((first | with_reducible refine AW_skip ?_ | with_reducible refine AW_exit ?_ | with_reducible refine AW_ret ?_ | with_reducible refine AW_region hTt ?_ | fail); conv => whnf) | (exact absurd hb (by omega)) | ((first | with_reducible refine Exists.intro _ (And.intro (gd_any (And.intro (by omega) (row_some ht))) ?_) | with_reducible refine Exists.intro _ (And.intro (gd_any (And.intro (by omega) (row_some hr))) ?_) | ((refine ⟨_, (o1).call rfl rfl, ?_⟩); (rintro _ _ ⟨rfl, rfl⟩)) | fail); conv => whnf) | (refine AW_cond rfl (fun hb => absurd hb (by decide)) (fun _ => ?_)) | (refine AW_cond rfl (fun hb => ?_) (fun hb => ?_) <;> first | (replace hb := of_decide_eq_true hb; try simp only [List.length_map] at hb) | (replace hb := of_decide_eq_false hb; try simp only [List.length_map] at hb)) | ((first | refine ⟨_, wrap_of (by first | omega | (simp only [List.length_map]; omega)), ?_⟩ | refine andA ?_ | fail); conv => whnf) | fail
        exact ⟨i + 1, ⟨hil, hst⟩, by omega, impA⟩
      | false =>
        rw [hfin rfl]
        repeat' first | with_reducible refine AW_seq ?_ | with_reducible refine AW_block ?_ | ((first | with_reducible refine AW_skip ?_ | with_reducible refine AW_exit ?_ | with_reducible refine AW_ret ?_ | with_reducible refine AW_region hTt ?_ | fail); conv => whnf) | (exact absurd hb (by omega)) | ((first | with_reducible refine Exists.intro _ (And.intro (gd_any (And.intro (by omega) (row_some ht))) ?_) | with_reducible refine Exists.intro _ (And.intro (gd_any (And.intro (by omega) (row_some hr))) ?_) | ((refine ⟨_, (o1).call rfl rfl, ?_⟩); (rintro _ _ ⟨rfl, rfl⟩)) | fail); conv => whnf) | (refine AW_cond rfl (fun _ => ?_) (fun hb => absurd hb (by decide))) | (refine AW_cond rfl (fun hb => ?_) (fun hb => ?_) <;> first | (replace hb := of_decide_eq_true hb; try simp only [List.length_map] at hb) | (replace hb := of_decide_eq_false hb; try simp only [List.length_map] at hb)) | ((refine andA ?_); conv => whnf) | fail
        exact ⟨_, [], trivial, rfl, rfl, rfl, rfl⟩
    · have hie : i = ts.length := by omega
      subst hie
      rw [show sameLens ts rs = true from hs]
      repeat' first | with_reducible refine AW_seq ?_ | with_reducible refine AW_block ?_ | ((first | with_reducible refine AW_skip ?_ | with_reducible refine AW_exit ?_ | with_reducible refine AW_ret ?_ | with_reducible refine AW_region hTt ?_ | fail); conv => whnf) | (exact absurd hb (by omega)) | (refine AW_cond rfl (fun hb => ?_) (fun hb => ?_) <;> first | (replace hb := of_decide_eq_true hb; try simp only [List.length_map] at hb) | (replace hb := of_decide_eq_false hb; try simp only [List.length_map] at hb)) | fail
      exact ⟨_, [], trivial, rfl, rfl, rfl, rfl⟩
  · rw [show decide (rs.length = ts.length) = false from decide_eq_false hl, Bool.false_and]
    repeat' first | with_reducible refine AW_seq ?_ | ((first | with_reducible refine AW_skip ?_ | with_reducible refine AW_ret ?_ | with_reducible refine AW_region hTt ?_ | fail); conv => whnf) | (exact absurd hb (by omega)) | (refine AW_cond rfl (fun hb => ?_) (fun hb => ?_) <;> first | (replace hb := of_decide_eq_true hb; try simp only [List.length_map] at hb) | (replace hb := of_decide_eq_false hb; try simp only [List.length_map] at hb) | (simp only [List.length_map, bne_iff_ne, ne_eq, beq_iff_eq, bne_eq_false_iff_eq, beq_eq_false_iff_ne, decide_eq_true_eq, decide_eq_false_iff_not, Bool.not_eq_true', Bool.not_eq_false', Int.natCast_inj] at hb)) | (refine fun hln => ?_; (try rw [List.length_map] at hln); unfold maxLen at hln; conv => whnf) | fail
    exact ⟨_, [], trivial, rfl, rfl, rfl, rfl⟩
end Go.Proofs.YtfghooojingdhaaDoor
namespace Go.Proofs.YtfghooojingdhaaDoor
open Go Go.QL
set_option maxHeartbeats 3200000
attribute [local irreducible] ACall FnC YC
theorem can_fn (n : NetT) (hi : i64 n.inn) (fs : List FaultT) (ts rs : List (List Int)) (hr : askedR n fs ts = 0 → RunsAt (fs.length + 1)) : FnC Tryd.prog 51 [netAV n, faultsAV fs, rowsAV ts, rowsAV rs] (.t [sl (canR n fs ts rs).1, iv .i64 (canR n fs ts rs).2]) := by
  have htr := tried_fn n hi fs ts hr
  have heq := eqf_fn ts rs
  by_cases hc : askedR n fs ts = 0
  · have h := AskOK.of hc
    rw [show triedR n fs ts = (ts.map fun t => lanesR n fs t, 0) from if_pos hc] at htr
    have hfl := h.fl
    have htl := h.tl
    dsimp only at htr ⊢
    by_cases hsl : rs.length = ts.length ∧ sameLens ts rs = true
    · rw [show canR n fs ts rs = (cansR n fs ts rs (fs.length + 1), 0) from by unfold canR; rw [if_pos hc, if_pos hsl]]
      rw [hsl.2, Bool.and_true, decide_eq_true hsl.1] at heq
      have hrl := hsl.1
      clear hsl h hc
      refine FnC_of_AWL hTt Tryd.func51 rfl (by kernel_rfl) (res := [.tmp 8, .tmp 9]) rfl Tryd.ntmps51 (by simp) fun w0 K0 => ?_
      dsimp only [entry]
      repeat' first | with_reducible refine AW_seq ?_ | with_reducible refine AW_block ?_ | with_reducible refine AW_scope ?_ | ((first | with_reducible refine AW_skip ?_ | with_reducible refine AW_label ?_ | with_reducible refine AW_region hTt ?_ | ((refine ⟨_, (htr).call rfl rfl, ?_⟩); (rintro _ _ ⟨rfl, rfl⟩)) | ((refine ⟨_, (heq).frame (asc []) (by repeat (first | exact trivial | refine ⟨rfl, ?_⟩)) rfl (by rintro _ _ ⟨rfl, rfl⟩; rfl), ?_⟩); (rintro _ _ ⟨_, _, ⟨rfl, rfl⟩, rfl, rfl⟩)) | fail); conv => whnf) | (refine AW_cond rfl (fun hb => absurd hb (by decide)) (fun _ => ?_)) | ((refine ⟨_, wrap_of (by first | omega | (simp only [List.length_map]; omega)), ?_⟩); conv => whnf) | (refine fun hln => ?_; (try rw [List.length_map] at hln); unfold maxLen at hln; conv => whnf) | fail
      refine AW_imp (Imp.nil 8 3 1 (fr' := [(31, iv .i64 0), (30, iv .i64 ((fs.length : Int) + 1)), (8, .x (.o 8 0 0)), (9, iv .i64 0), (10, cubeAV (ts.map fun t => lanesR n fs t)), (3, rowsAV rs), (1, faultsAV fs)]) (σ' := []) rfl ?_ ?_ rfl rfl) ?_
      · exact ⟨⟨_, rfl, .inl rfl⟩, ⟨_, congrArg (fun k : Nat => some (iv .i64 ((k : Int) + 1))) (List.length_map _), .inl rfl⟩, ⟨_, rfl, .inr ⟨rfl, rfl⟩⟩, ⟨_, rfl, .inl rfl⟩, ⟨_, rfl, .inl rfl⟩, ⟨_, rfl, .inl rfl⟩, ⟨_, rfl, .inl rfl⟩, trivial⟩
      · exact trivial
      refine AW_loop (fun k : Nat => [(31, iv .i64 k), (30, iv .i64 ((fs.length : Int) + 1)), (8, .x (.o 8 (cansR n fs ts rs k).length (cansR n fs ts rs k).length)), (9, iv .i64 0), (10, cubeAV (ts.map fun t => lanesR n fs t)), (3, rowsAV rs)])
        (fun k => [(8, .chain 3 1 (cansR n fs ts rs k).length ((cansR n fs ts rs k).map fun n => [PV.v (.int .i64 n)]))]) (fun k => k ≤ fs.length + 1) (fun k => fs.length + 1 - k) 0 (Nat.zero_le _) impA ?_
      intro k hk
      rcases Nat.lt_or_ge k (fs.length + 1) with hkl | hkl
      · have hcs := cansR_succ n fs ts rs k
        have hcl := cansR_len n fs ts rs k
        generalize cansR n fs ts rs k = C at hcs hcl
        repeat' first | with_reducible refine AW_seq ?_ | with_reducible refine AW_block ?_ | ((first | with_reducible refine AW_skip ?_ | with_reducible refine AW_exit ?_ | with_reducible refine AW_ret ?_ | with_reducible refine AW_region hTt ?_ | fail); conv => whnf) | (exact absurd hb (by omega)) | (refine AW_cond rfl (fun hb => ?_) (fun hb => ?_) <;> first | (replace hb := of_decide_eq_true hb; try simp only [List.length_map] at hb) | (replace hb := of_decide_eq_false hb; try simp only [List.length_map] at hb)) | (refine fun hln => ?_; (try rw [List.length_map] at hln); unfold maxLen at hln; conv => whnf) | fail
        refine AW_loop (fun i : Nat => [(36, iv .i64 i), (35, iv .i64 ts.length), (34, cubeAV (ts.map fun t => lanesR n fs t)), (11, iv .i64 k), (31, iv .i64 k), (30, iv .i64 ((fs.length : Int) + 1)), (8, .x (.o 8 C.length C.length)), (9, iv .i64 0), (10, cubeAV (ts.map fun t => lanesR n fs t)), (3, rowsAV rs)])
          (fun _ => [(8, .chain 3 1 C.length (C.map fun n => [PV.v (.int .i64 n)]))]) (fun i => i ≤ ts.length ∧ ((List.range i).all fun i => sameInts (oR n (fAt fs k) (ts.getD i [])) (rs.getD i [])) = true) (fun i => ts.length - i) 0 ⟨Nat.zero_le _, rfl⟩ (Imp.forget (by repeat' (first | exact trivial | refine And.intro ?_ ?_ | exact congrArg (fun k : Nat => some (iv .i64 k)) (by unfold cubePV; rw [List.length_map, List.length_map]) | rfl | exact ivE (by first | omega | (simp only [List.length_map, List.length_append, List.length_singleton] <;> omega)) | exact oE (by first | omega | (simp only [List.length_map, List.length_append, List.length_singleton] <;> omega)))) (by repeat' (first | exact trivial | refine And.intro ?_ ?_ | exact congrArg (fun k : Nat => some (iv .i64 k)) (by unfold cubePV; rw [List.length_map, List.length_map]) | rfl | exact ivE (by first | omega | (simp only [List.length_map, List.length_append, List.length_singleton] <;> omega)) | exact oE (by first | omega | (simp only [List.length_map, List.length_append, List.length_singleton] <;> omega)))) (by kernel_rfl) (by kernel_rfl) (by kernel_rfl)) ?_
        rintro i ⟨hi', hs⟩
        rcases Nat.lt_or_ge i ts.length with hil | hil
        · obtain ⟨t, ht⟩ : ∃ t, ts[i]? = some t := ⟨_, List.getElem?_eq_getElem hil⟩
          obtain ⟨r, hr⟩ : ∃ r, rs[i]? = some r := ⟨_, List.getElem?_eq_getElem (by omega)⟩
          have htL : (ts.map fun t => lanesR n fs t)[i]? = some (lanesR n fs t) := by rw [List.getElem?_map, ht]; rfl
          have hLk : (lanesR n fs t)[k]? = some (oR n (fAt fs k) t) := by
            unfold lanesR
            rw [List.getElem?_map, List.getElem?_range hkl]; rfl
          have o1 := equal_fn (oR n (fAt fs k) t) r
          have hst : ((List.range (i + 1)).all fun i => sameInts (oR n (fAt fs k) (ts.getD i [])) (rs.getD i [])) = sameInts (oR n (fAt fs k) t) r := by
            rw [all_range_succ, hs, Bool.true_and, List.getD_eq_getElem?_getD, List.getD_eq_getElem?_getD, ht, hr]; rfl
          have hfin : sameInts (oR n (fAt fs k) t) r = false → givesR n (fAt fs k) ts rs = false := fun e => all_range_false hil (by
            show sameInts (oR n (fAt fs k) (ts.getD i [])) (rs.getD i []) = false
            rw [List.getD_eq_getElem?_getD, List.getD_eq_getElem?_getD, ht, hr]; exact e)
          generalize sameInts (oR n (fAt fs k) t) r = q at o1 hst hfin
          clear htr heq
          cases q with
          | true =>
            repeat' first | with_reducible refine AW_seq ?_ | with_reducible refine AW_block ?_ | ((first | with_reducible refine AW_skip ?_ | with_reducible refine AW_exit ?_ | with_reducible refine AW_region hTt ?_ | refine AW_draw hTt hMix (id := 12) 8 false [0, 0, 3, 7, 0, 0, 48, 112, 255, 511] (by kernel_rfl) rfl rfl (by kernel_rfl) ?_ | fail); conv => whnf) | (exact absurd hb (by omega)) | ((first | with_reducible refine Exists.intro _ (And.intro (gd_any (And.intro (by omega) (rows_some htL))) ?_) | with_reducible refine Exists.intro _ (And.intro (gd_any (And.intro (by omega) (row_some hLk))) ?_) | with_reducible refine Exists.intro _ (And.intro (gd_any (And.intro (by omega) (row_some hr))) ?_) | ((refine ⟨_, (o1).call rfl rfl, ?_⟩); (rintro _ _ ⟨rfl, rfl⟩)) | fail); conv => whnf) | (refine AW_cond rfl (fun hb => absurd hb (by decide)) (fun _ => ?_)) | (refine AW_cond rfl (fun hb => ?_) (fun hb => ?_) <;> first | (replace hb := of_decide_eq_true hb; try simp only [List.length_map] at hb) | (replace hb := of_decide_eq_false hb; try simp only [List.length_map] at hb)) | ((first | refine ⟨_, wrap_of (by first | omega | (simp only [List.length_map]; omega)), ?_⟩ | refine andA ?_ | fail); conv => whnf) | fail
            exact ⟨i + 1, ⟨hil, hst⟩, by omega, impA⟩
          | false =>
            rw [hfin rfl, if_neg (by decide)] at hcs
            repeat' first | with_reducible refine AW_seq ?_ | with_reducible refine AW_block ?_ | ((first | with_reducible refine AW_skip ?_ | with_reducible refine AW_exit ?_ | with_reducible refine AW_region hTt ?_ | refine AW_draw hTt hMix (id := 12) 8 false [0, 0, 3, 7, 0, 0, 48, 112, 255, 511] (by kernel_rfl) rfl rfl (by kernel_rfl) ?_ | fail); conv => whnf) | (exact absurd hb (by omega)) | ((first | with_reducible refine Exists.intro _ (And.intro (gd_any (And.intro (by omega) (rows_some htL))) ?_) | with_reducible refine Exists.intro _ (And.intro (gd_any (And.intro (by omega) (row_some hLk))) ?_) | with_reducible refine Exists.intro _ (And.intro (gd_any (And.intro (by omega) (row_some hr))) ?_) | ((refine ⟨_, (o1).call rfl rfl, ?_⟩); (rintro _ _ ⟨rfl, rfl⟩)) | fail); conv => whnf) | (refine AW_cond rfl (fun _ => ?_) (fun hb => absurd hb (by decide))) | (refine AW_cond rfl (fun hb => ?_) (fun hb => ?_) <;> first | (replace hb := of_decide_eq_true hb; try simp only [List.length_map] at hb) | (replace hb := of_decide_eq_false hb; try simp only [List.length_map] at hb)) | ((first | refine ⟨_, wrap_of (by first | omega | (simp only [List.length_map]; omega)), ?_⟩ | refine andA ?_ | fail); conv => whnf) | fail
            refine ⟨k + 1, hkl, by omega, ?_⟩
            rw [hcs]
            exact impA
        · have hie : i = ts.length := by omega
          subst hie
          rw [show givesR n (fAt fs k) ts rs = true from hs, if_pos rfl] at hcs
          have hst : (C.map fun n => [PV.v (.int .i64 n)]).take C.length ++ [[PV.v (.int .i64 ((k : Int) - 1))]] = (C ++ [(k : Int) - 1]).map fun n => [PV.v (.int .i64 n)] := by
            rw [List.take_of_length_le (by rw [List.length_map]; exact Nat.le_refl _), List.map_append]; rfl
          have hln : C.length + 1 = (C ++ [(k : Int) - 1]).length := by simp
          clear htr heq
          repeat' first | with_reducible refine AW_seq ?_ | with_reducible refine AW_block ?_ | ((first | with_reducible refine AW_skip ?_ | with_reducible refine AW_exit ?_ | with_reducible refine AW_region hTt ?_ | fail); conv => whnf) | (exact absurd hb (by omega)) | ((refine And.intro (by refine ⟨?_, ?_, ?_⟩ <;> simp [chunk, maxLen] <;> omega) ?_); conv => whnf) | (refine AW_cond rfl (fun hb => ?_) (fun hb => ?_) <;> first | (replace hb := of_decide_eq_true hb; try simp only [List.length_map] at hb) | (replace hb := of_decide_eq_false hb; try simp only [List.length_map] at hb)) | ((first | refine ⟨_, wrap_of (by first | omega | (simp only [List.length_map]; omega)), ?_⟩ | refine andA ?_ | fail); conv => whnf) | fail
          refine ⟨k + 1, hkl, by omega, ?_⟩
          rw [hcs]
          exact (Imp.forget (by repeat' (first | exact trivial | refine And.intro ?_ ?_ | exact oE hln | exact chE hst | (rw [← hln]; exact chE hst) | exact congr (congrArg (fun a b => some (AV.x (.o 8 a b))) hln) hln | rfl | exact ivE (by first | omega | (simp only [List.length_map, List.length_append, List.length_singleton] <;> omega)) | exact oE (by first | omega | (simp only [List.length_map, List.length_append, List.length_singleton] <;> omega)))) (by repeat' (first | exact trivial | refine And.intro ?_ ?_ | exact oE hln | exact chE hst | (rw [← hln]; exact chE hst) | exact congr (congrArg (fun a b => some (AV.x (.o 8 a b))) hln) hln | rfl | exact ivE (by first | omega | (simp only [List.length_map, List.length_append, List.length_singleton] <;> omega)) | exact oE (by first | omega | (simp only [List.length_map, List.length_append, List.length_singleton] <;> omega)))) (by kernel_rfl) (by kernel_rfl) (by kernel_rfl))
      · have hke : k = fs.length + 1 := by omega
        subst hke
        repeat' first | with_reducible refine AW_seq ?_ | with_reducible refine AW_block ?_ | ((first | with_reducible refine AW_skip ?_ | with_reducible refine AW_exit ?_ | with_reducible refine AW_ret ?_ | with_reducible refine AW_region hTt ?_ | fail); conv => whnf) | (exact absurd hb (by omega)) | (refine AW_cond rfl (fun hb => ?_) (fun hb => ?_) <;> first | (replace hb := of_decide_eq_true hb; try simp only [List.length_map] at hb) | (replace hb := of_decide_eq_false hb; try simp only [List.length_map] at hb)) | fail
        refine ⟨.t [sl (cansR n fs ts rs (fs.length + 1)), iv .i64 0], ?_, LeAV.refl _⟩
        show viewAV _ (.t [.x (.o 8 (cansR n fs ts rs (fs.length + 1)).length (cansR n fs ts rs (fs.length + 1)).length), iv .i64 0]) = _
        simp only [viewAV, viewAVs, viewAV1]
        rw [viewO' (σ := [(8, Ob.chain 3 1 (cansR n fs ts rs (fs.length + 1)).length ((cansR n fs ts rs (fs.length + 1)).map fun n => [PV.v (.int .i64 n)]))]) rfl (List.length_map _).symm]
        rfl
    · rw [show canR n fs ts rs = ([], 2) from by unfold canR; rw [if_pos hc, if_neg hsl]]
      have hq : (decide (rs.length = ts.length) && sameLens ts rs) = false := by
        cases h1 : (decide (rs.length = ts.length) && sameLens ts rs) with
        | false => rfl
        | true => exfalso; apply hsl; simpa using h1
      rw [hq] at heq
      refine FnC_of_AWL hTt Tryd.func51 rfl (by kernel_rfl) (res := [.tmp 8, .tmp 9]) rfl Tryd.ntmps51 (by simp) fun w0 K0 => ?_
      dsimp only [entry]
      repeat' first | with_reducible refine AW_seq ?_ | with_reducible refine AW_scope ?_ | ((first | with_reducible refine AW_skip ?_ | with_reducible refine AW_ret ?_ | with_reducible refine AW_region hTt ?_ | ((refine ⟨_, (htr).call rfl rfl, ?_⟩); (rintro _ _ ⟨rfl, rfl⟩)) | ((refine ⟨_, (heq).frame (asc []) (by repeat (first | exact trivial | refine ⟨rfl, ?_⟩)) rfl (by rintro _ _ ⟨rfl, rfl⟩; rfl), ?_⟩); (rintro _ _ ⟨_, _, ⟨rfl, rfl⟩, rfl, rfl⟩)) | fail); conv => whnf) | (refine AW_cond rfl (fun _ => ?_) (fun hb => absurd hb (by decide))) | (refine AW_cond rfl (fun hb => absurd hb (by decide)) (fun _ => ?_)) | fail
      exact ⟨_, rfl, _, rfl, LeAV1.nil 1, LeAV1.refl _, trivial⟩
  · rw [show canR n fs ts rs = ([], askedR n fs ts) from if_neg hc]
    rw [show triedR n fs ts = ([], askedR n fs ts) from if_neg hc] at htr
    dsimp only at htr ⊢
    refine FnC_of_AWL hTt Tryd.func51 rfl (by kernel_rfl) (res := [.tmp 8, .tmp 9]) rfl Tryd.ntmps51 (by simp) fun w0 K0 => ?_
    dsimp only [entry]
    repeat' first | with_reducible refine AW_seq ?_ | with_reducible refine AW_scope ?_ | ((first | with_reducible refine AW_skip ?_ | with_reducible refine AW_ret ?_ | with_reducible refine AW_region hTt ?_ | fail); conv => whnf) | (exact absurd hb hc) | ((refine ⟨_, (htr).call rfl rfl, ?_⟩); (rintro _ _ ⟨rfl, rfl⟩); conv => whnf) | (refine AW_cond rfl (fun hb => ?_) (fun hb => ?_) <;> first | (replace hb := of_decide_eq_true hb; try simp only [List.length_map] at hb) | (replace hb := of_decide_eq_false hb; try simp only [List.length_map] at hb) | (simp only [List.length_map, bne_iff_ne, ne_eq, beq_iff_eq, bne_eq_false_iff_eq, beq_eq_false_iff_ne, decide_eq_true_eq, decide_eq_false_iff_not, Bool.not_eq_true', Bool.not_eq_false', Int.natCast_inj] at hb)) | fail
    exact ⟨_, rfl, _, rfl, LeAV1.nil 1, LeAV1.refl _, trivial⟩
end Go.Proofs.YtfghooojingdhaaDoor
namespace Go.Proofs.YtfghooojingdhaaDoor
open Go Go.QL
set_option maxHeartbeats 3200000
attribute [local irreducible] ACall FnC YC
def anyEq (l : List Int) (c : Int) (i : Nat) : Bool := (l.take i).any fun x => x == c
theorem anyEq_succ {l : List Int} {c : Int} {i : Nat} {x : Int} (h : l[i]? = some x) : (bif anyEq l c i then true else x == c) = anyEq l c (i + 1) := by
  unfold anyEq
  rw [List.take_add_one, h, List.any_append]
  cases (l.take i).any fun x => x == c <;> simp
theorem anyEq_all {l : List Int} {c : Int} (h : c ∈ l) : anyEq l c l.length = true := by
  unfold anyEq
  rw [List.take_of_length_le (Nat.le_refl _), List.any_eq_true]
  exact ⟨c, h, by simp⟩
theorem tail_form (l : List (List PV)) : ((l.take ((l.length : Int)).toNat).drop (1 : Int).toNat) = l.drop 1 := by
  rw [Int.toNat_natCast, List.take_of_length_le (Nat.le_refl _)]; rfl
theorem gcan_fn (n : NetT) (hi : i64 n.inn) (fs : List FaultT) (ts : List (List Int)) (b : Int) (hb0 : 0 ≤ b ∧ b < 65536) (hfl0 : fs.length ≤ 1048576) (htl0 : ts.length ≤ 1048576) :
    FnC Tryd.prog 15 [netAV n, faultsAV fs, choiceAV ts b] (bv true) := by
  have houts := outsT_fn n hi fs ts hfl0 htl0
  have htb := ptable_fn n hi fs ts (runs_of n fs ts)
  by_cases hc : askedR n fs ts = 0
  · have h := AskOK.of hc
    have hfl := h.fl
    have htl := h.tl
    rw [outsT_ask h] at houts
    rw [show tableR n fs ts = (ts.map fun t => rowR n fs t, 0) from if_pos hc] at htb
    generalize (ts.map fun t => rowR n fs t) = TB at htb
    obtain ⟨k, hk⟩ : ∃ k : Nat, b % ((fs.length : Int) + 1) = k := ⟨(b % ((fs.length : Int) + 1)).toNat, by have := Int.emod_nonneg b (show ((fs.length : Int) + 1) ≠ 0 by omega); omega⟩
    have hkl : k < fs.length + 1 := by have := Int.emod_lt_of_pos b (show (0 : Int) < (fs.length : Int) + 1 by omega); omega
    have hlf : ((fs.map faultPV).length : Int) = fs.length := by rw [List.length_map]
    have hmod : b.tmod (((fs.map faultPV).length : Int) + 1) = (k : Int) := by rw [Int.tmod_eq_emod_of_nonneg hb0.1, hlf]; exact hk
    have hcan1 := can_fn n hi fs ts (resK n fs k ts) (runs_of n fs ts)
    rw [can_says h k] at hcan1
    have hcan2 : FnC Tryd.prog 51 [netAV n, faultsAV fs, .x (.d (.s 1 (((ts.map fun r => [intsPV r]).take (((ts.map fun r => [intsPV r]).length : Int)).toNat).drop (1 : Int).toNat))), .x (.d (.s 1 ((((resK n fs k ts).map fun r => [intsPV r]).take ((((resK n fs k ts).map fun r => [intsPV r]).length : Int)).toNat).drop (1 : Int).toNat)))]
        (.t [sl (cansR n fs (ts.drop 1) (resK n fs k (ts.drop 1)) (fs.length + 1)), iv .i64 0]) := by
      have hh := can_fn n hi fs (ts.drop 1) (resK n fs k (ts.drop 1)) (runs_of n fs (ts.drop 1))
      rw [can_says (h.drop 1) k] at hh
      rw [tail_form, tail_form]
      have e1 : (ts.map fun r => [intsPV r]).drop 1 = (ts.drop 1).map fun r => [intsPV r] := List.map_drop.symm
      have e2 : ((resK n fs k ts).map fun r => [intsPV r]).drop 1 = (resK n fs k (ts.drop 1)).map fun r => [intsPV r] := by
        unfold resK
        rw [List.map_drop, List.map_drop]
      rw [e1, e2]; exact hh
    have hhas := cans_has n fs ts hkl
    have hsub : ∀ x ∈ cansR n fs ts (resK n fs k ts) (fs.length + 1), x ∈ cansR n fs (ts.drop 1) (resK n fs k (ts.drop 1)) (fs.length + 1) := fun x hx => cans_sub n fs ts k hx
    have hnone : ts.length = 0 → (cansR n fs ts (resK n fs k ts) (fs.length + 1)).length = fs.length + 1 := by
      intro h0
      rw [List.length_eq_zero_iff.1 h0]
      exact cans_none n fs k
    generalize cansR n fs ts (resK n fs k ts) (fs.length + 1) = M at *
    generalize cansR n fs (ts.drop 1) (resK n fs k (ts.drop 1)) (fs.length + 1) = M2 at *
    have hLl : (cubePV (ts.map fun t => lanesR n fs t)).length = ts.length := by unfold cubePV; rw [List.length_map, List.length_map]
    have hlt : (ts.map fun r => [intsPV r]).length = ts.length := List.length_map _
    have hRl : (resK n fs k ts).length = ts.length := by simp [resK]
    have hRm : ((resK n fs k ts).map fun r => [intsPV r]).length = ts.length := by rw [List.length_map, hRl]
    have lM : (M.map fun n => [PV.v (.int .i64 n)]).length = M.length := List.length_map _
    have lM2 : (M2.map fun n => [PV.v (.int .i64 n)]).length = M2.length := List.length_map _
    refine FnC_of_AW hTt Tryd.func15 rfl (by kernel_rfl) (res := [.tmp 6]) rfl Tryd.ntmps15 (by simp) fun w0 K0 => ?_
    dsimp only [entry]
    repeat' first | with_reducible refine AW_seq ?_ | with_reducible refine AW_block ?_ | ((first | with_reducible refine AW_skip ?_ | with_reducible refine AW_ret ?_ | with_reducible refine AW_region hTt ?_ | fail); conv => whnf) | (exact absurd trivial hb) | (exact absurd hb (by decide)) | ((first | ((refine ⟨_, (houts).call rfl rfl, ?_⟩); (rintro _ _ ⟨rfl, rfl⟩)) | ((refine ⟨_, (htb).call rfl rfl, ?_⟩); (rintro _ _ ⟨rfl, rfl⟩)) | refine And.intro (gd_none (by omega)) ?_ | refine ⟨_, hmod, ?_⟩ | fail); conv => whnf) | (refine AW_cond rfl (fun hb => ?_) (fun hb => ?_) <;> first | (replace hb := of_decide_eq_true hb; try simp only [List.length_map] at hb) | (replace hb := of_decide_eq_false hb; try simp only [List.length_map] at hb) | (simp only [List.length_map, bne_iff_ne, ne_eq, beq_iff_eq, bne_eq_false_iff_eq, beq_eq_false_iff_ne, decide_eq_true_eq, decide_eq_false_iff_not, Bool.not_eq_true', Bool.not_eq_false', Int.natCast_inj] at hb) | skip) | ((first | refine ⟨_, wrap_of (by first | omega | (simp only [List.length_map]; omega)), ?_⟩ | refine andA ?_ | fail); conv => whnf) | (refine fun hln => ?_; (try rw [List.length_map] at hln); unfold maxLen at hln; conv => whnf) | fail
    refine AW_imp (Imp.nil 12 23 1 (fr' := [(13, iv .i64 0), (12, .x (.o 12 0 0)), (7, cubeAV (ts.map fun t => lanesR n fs t)), (11, iv .i64 k), (3, .x (.b 3 0)), (5, .x (.b 5 0)), (1, faultsAV fs)]) (σ' := [(3, netCells n), (5, .box [.d (.s 1 (ts.map fun r => [intsPV r])), .d (.v (.int .u16 b))])]) rfl ?_ ?_ rfl rfl) ?_
    · exact ⟨⟨_, rfl, .inl rfl⟩, ⟨_, rfl, .inr ⟨rfl, rfl⟩⟩, ⟨_, rfl, .inl rfl⟩, ⟨_, rfl, .inl rfl⟩, ⟨_, rfl, .inl rfl⟩, ⟨_, rfl, .inl rfl⟩, ⟨_, rfl, .inl rfl⟩, trivial⟩
    · exact ⟨⟨_, rfl, .inl rfl⟩, ⟨_, rfl, .inl rfl⟩, trivial⟩
    refine AW_loop (fun i : Nat => [(13, iv .i64 i), (12, .x (.o 12 i i)), (7, cubeAV (ts.map fun t => lanesR n fs t)), (11, iv .i64 k), (3, .x (.b 3 0)), (5, .x (.b 5 0)), (1, faultsAV fs)])
      (fun i => [(12, .chain 23 1 i (((resK n fs k ts).take i).map rwT)), (3, netCells n), (5, .box [.d (.s 1 (ts.map fun r => [intsPV r])), .d (.v (.int .u16 b))])]) (fun i => i ≤ ts.length) (fun i => ts.length - i) 0 (Nat.zero_le _) impA ?_
    intro i hil'
    have hli : (((resK n fs k ts).take i).map rwT).length = i := by rw [List.length_map, List.length_take]; omega
    rcases Nat.lt_or_ge i ts.length with hil | hil
    · obtain ⟨t, ht⟩ : ∃ t, ts[i]? = some t := ⟨_, List.getElem?_eq_getElem hil⟩
      have hL : (cubePV (ts.map fun t => lanesR n fs t))[((i : Int)).toNat]? = some [rowsPV (lanesR n fs t)] := by
        unfold cubePV
        rw [Int.toNat_natCast, List.getElem?_map, List.getElem?_map, ht]; rfl
      have hK : (lanesR n fs t)[k]? = some (oR n (fAt fs k) t) := by
        unfold lanesR
        rw [List.getElem?_map, List.getElem?_range hkl]; rfl
      have hRt : (resK n fs k ts)[i]? = some (oR n (fAt fs k) t) := by unfold resK; rw [List.getElem?_map, ht]; rfl
      have hlr : ((lanesR n fs t).map fun r => [intsPV r]).length = fs.length + 1 := by rw [List.length_map, lanes_cons]; simp
      have e1 : (((resK n fs k ts).take i).map rwT).take i ++ [[intsPV (oR n (fAt fs k) t)]] = ((resK n fs k ts).take (i + 1)).map rwT := by
        rw [List.take_of_length_le (Nat.le_of_eq hli), List.take_add_one, hRt, List.map_append]; rfl
      generalize ((resK n fs k ts).take i).map rwT = R at hli e1
      clear hcan1 hcan2 htb houts hmod
      repeat' first | with_reducible refine AW_seq ?_ | with_reducible refine AW_block ?_ | ((first | with_reducible refine AW_skip ?_ | with_reducible refine AW_exit ?_ | with_reducible refine AW_region hTt ?_ | fail); conv => whnf) | (exact absurd hb (by omega)) | ((first | with_reducible refine Exists.intro _ (And.intro (gd_any (And.intro (by omega) hL)) ?_) | with_reducible refine Exists.intro _ (And.intro (gd_any (And.intro (by omega) (row_some hK))) ?_) | refine And.intro ⟨Nat.le_of_eq hli.symm, by show i + 1 ≤ maxLen; unfold maxLen; omega, by show (i + 1) * 24 ≤ 140737488355328; omega⟩ ?_ | fail); conv => whnf) | (refine AW_cond rfl (fun hb => ?_) (fun hb => ?_) <;> first | (replace hb := of_decide_eq_true hb; try simp only [List.length_map] at hb) | (replace hb := of_decide_eq_false hb; try simp only [List.length_map] at hb) | (simp only [List.length_map, bne_iff_ne, ne_eq, beq_iff_eq, bne_eq_false_iff_eq, beq_eq_false_iff_ne, decide_eq_true_eq, decide_eq_false_iff_not, Bool.not_eq_true', Bool.not_eq_false', Int.natCast_inj] at hb) | skip) | ((first | refine ⟨_, wrap_of (by first | omega | (simp only [List.length_map]; omega)), ?_⟩ | refine andA ?_ | fail); conv => whnf) | (refine fun hln => ?_; (try rw [List.length_map] at hln); unfold maxLen at hln; conv => whnf) | fail
      exact ⟨i + 1, hil, by omega, impA⟩
    have hie : i = ts.length := by omega
    subst hie
    have hfz : AV.x (.d (.s 1 ((resK n fs k ts).map fun r => [intsPV r]))) = .x (.d (.s 1 ((((resK n fs k ts).take ts.length).map rwT).take ts.length))) := by
      rw [List.take_of_length_le (Nat.le_of_eq hli), List.take_of_length_le (by omega)]; rfl
    refine AW_imp (Imp.freeze 12 (fr' := [(13, iv .i64 ts.length), (12, .x (.d (.s 1 ((resK n fs k ts).map fun r => [intsPV r])))), (7, cubeAV (ts.map fun t => lanesR n fs t)), (11, iv .i64 k), (3, .x (.b 3 0)), (5, .x (.b 5 0)), (1, faultsAV fs)]) (σ' := [(3, netCells n), (5, .box [.d (.s 1 (ts.map fun r => [intsPV r])), .d (.v (.int .u16 b))])]) rfl
      ⟨⟨_, rfl, .inl rfl⟩, ⟨_, rfl, .inr ⟨ts.length, rfl, Nat.le_of_eq hli.symm, hfz⟩⟩, ⟨_, rfl, .inl rfl⟩, ⟨_, rfl, .inl rfl⟩, ⟨_, rfl, .inl rfl⟩, ⟨_, rfl, .inl rfl⟩, ⟨_, rfl, .inl rfl⟩, trivial⟩ ⟨rfl, rfl, trivial⟩ rfl rfl) ?_
    clear htb houts hmod hfz hli
    repeat' first | with_reducible refine AW_seq ?_ | with_reducible refine AW_block ?_ | ((first | with_reducible refine AW_skip ?_ | with_reducible refine AW_exit ?_ | with_reducible refine AW_region hTt ?_ | fail); conv => whnf) | (exact absurd hb (by omega)) | ((refine ⟨_, (hcan1).call rfl rfl, ?_⟩); (rintro _ _ ⟨rfl, rfl⟩); conv => whnf) | (refine AW_cond rfl (fun hb => ?_) (fun hb => ?_) <;> first | (replace hb := of_decide_eq_true hb; try simp only [List.length_map] at hb) | (replace hb := of_decide_eq_false hb; try simp only [List.length_map] at hb) | (simp only [List.length_map, bne_iff_ne, ne_eq, beq_iff_eq, bne_eq_false_iff_eq, beq_eq_false_iff_ne, decide_eq_true_eq, decide_eq_false_iff_not, Bool.not_eq_true', Bool.not_eq_false', Int.natCast_inj] at hb) | skip) | ((refine andA ?_); conv => whnf) | (refine fun hln => ?_; (try rw [List.length_map] at hln); unfold maxLen at hln; conv => whnf) | fail
    refine AW_loop (fun i : Nat => [(16, iv .i64 i), (15, bv (anyEq M ((k : Int) - 1) i)), (14, sl M), (11, iv .i64 k), (10, iv .i64 0), (12, .x (.d (.s 1 ((resK n fs k ts).map fun r => [intsPV r])))), (3, .x (.b 3 0)), (5, .x (.b 5 0)), (1, faultsAV fs)])
      (fun _ => [(3, netCells n), (5, .box [.d (.s 1 (ts.map fun r => [intsPV r])), .d (.v (.int .u16 b))])]) (fun i => i ≤ M.length) (fun i => M.length - i) 0 (Nat.zero_le _) impA ?_
    intro i hiM'
    rcases Nat.lt_or_ge i M.length with hiM | hiM
    · obtain ⟨x, hx⟩ : ∃ x, M[i]? = some x := ⟨_, List.getElem?_eq_getElem hiM⟩
      have hs := anyEq_succ (c := (k : Int) - 1) hx
      generalize hB : anyEq M ((k : Int) - 1) i = B at hs
      generalize hB' : anyEq M ((k : Int) - 1) (i + 1) = B' at hs
      clear hcan1 hcan2
      repeat' first | with_reducible refine AW_seq ?_ | with_reducible refine AW_block ?_ | ((first | with_reducible refine AW_skip ?_ | with_reducible refine AW_exit ?_ | with_reducible refine AW_region hTt ?_ | refine And.intro ?_ ?_; focus (first | (exact trivial) | (intro h1; exact h1) | (intro h1 h2; simp_all; done) | (intro h1 h2; exact h1)) | fail); conv => whnf) | (exact absurd hb (by omega)) | ((with_reducible refine Exists.intro _ (And.intro (gd_any (And.intro (by omega) (map_some hx))) ?_)); conv => whnf) | (refine AW_cond rfl (fun hb => ?_) (fun hb => ?_) <;> first | (replace hb := of_decide_eq_true hb; try simp only [List.length_map] at hb) | (replace hb := of_decide_eq_false hb; try simp only [List.length_map] at hb) | (simp only [List.length_map, bne_iff_ne, ne_eq, beq_iff_eq, bne_eq_false_iff_eq, beq_eq_false_iff_ne, decide_eq_true_eq, decide_eq_false_iff_not, Bool.not_eq_true', Bool.not_eq_false', Int.natCast_inj] at hb) | skip) | ((first | refine ⟨_, wrap_of (by first | omega | (simp only [List.length_map]; omega)), ?_⟩ | refine andA ?_ | fail); conv => whnf) | (refine fun hln => ?_; (try rw [List.length_map] at hln); unfold maxLen at hln; conv => whnf) | fail
      exact ⟨i + 1, hiM, by omega, (Imp.forget (by repeat' (first | exact trivial | refine And.intro ?_ ?_ | exact congrArg (fun b => some (bv b)) (hs.trans hB'.symm) | rfl | exact ivE (by first | omega | (simp only [List.length_map, List.length_append, List.length_singleton] <;> omega)) | exact oE (by first | omega | (simp only [List.length_map, List.length_append, List.length_singleton] <;> omega)))) (by repeat' (first | exact trivial | refine And.intro ?_ ?_ | exact congrArg (fun b => some (bv b)) (hs.trans hB'.symm) | rfl | exact ivE (by first | omega | (simp only [List.length_map, List.length_append, List.length_singleton] <;> omega)) | exact oE (by first | omega | (simp only [List.length_map, List.length_append, List.length_singleton] <;> omega)))) (by kernel_rfl) (by kernel_rfl) (by kernel_rfl))⟩
    have hiE : i = M.length := by omega
    subst hiE
    rw [anyEq_all hhas]
    clear hcan1
    repeat' first | with_reducible refine AW_seq ?_ | with_reducible refine AW_block ?_ | ((first | with_reducible refine AW_skip ?_ | with_reducible refine AW_exit ?_ | with_reducible refine AW_ret ?_ | with_reducible refine AW_region hTt ?_ | refine AW_draw hTt hMix (id := 23) 12 false [0, 0, 0, 4, 12, 0, 32, 127, 255, 511, 511, 1023, 4095] (by kernel_rfl) rfl rfl (by kernel_rfl) ?_ | fail); conv => whnf) | (exfalso; simp at hb; done) | ((first | refine And.intro (gd_any (by omega)) ?_ | refine ⟨_, fun _ => (hcan2).call rfl rfl, ?_⟩ | refine ⟨_, fun _ => (awake_fn).call rfl rfl, ?_⟩ | fail); conv => whnf) | (refine AW_cond rfl (fun hb => absurd hb (by decide)) (fun _ => ?_)) | (refine AW_cond rfl (fun hb => ?_) (fun hb => ?_) <;> first | (replace hb := of_decide_eq_true hb; try simp only [List.length_map] at hb) | (replace hb := of_decide_eq_false hb; try simp only [List.length_map] at hb) | (simp only [List.length_map, bne_iff_ne, ne_eq, beq_iff_eq, bne_eq_false_iff_eq, beq_eq_false_iff_ne, decide_eq_true_eq, decide_eq_false_iff_not, Bool.not_eq_true', Bool.not_eq_false', Int.natCast_inj] at hb) | skip) | ((first | refine ⟨_, wrap_of (by first | omega | (simp only [List.length_map]; omega)), ?_⟩ | refine andA ?_ | fail); conv => whnf) | (refine fun hln => ?_; (try rw [List.length_map] at hln); unfold maxLen at hln; conv => whnf) | fail
    · have hz : ts.length = 0 := by omega
      have hn := hnone hz
      exact (show ∀ b, b = true → some (bv b) = some (bv true) from fun b h => by rw [h]) _ (by simp [hn])
    refine AW_loop (fun i : Nat => [(18, iv .i64 i), (14, sl M), (17, sl M2), (10, iv .i64 0)]) (fun _ => []) (fun i => i ≤ M.length) (fun i => M.length - i) 0 (Nat.zero_le _) impA ?_
    intro i hiM'
    rcases Nat.lt_or_ge i M.length with hiM | hiM
    · obtain ⟨x, hx⟩ : ∃ x, M[i]? = some x := ⟨_, List.getElem?_eq_getElem hiM⟩
      have hxs := anyEq_all (hsub x (List.mem_of_getElem? hx))
      clear hcan2
      repeat' first | with_reducible refine AW_seq ?_ | with_reducible refine AW_block ?_ | ((first | with_reducible refine AW_skip ?_ | with_reducible refine AW_exit ?_ | with_reducible refine AW_region hTt ?_ | fail); conv => whnf) | (exact absurd hb (by omega)) | (refine AW_cond rfl (fun hb => ?_) (fun hb => ?_) <;> first | (replace hb := of_decide_eq_true hb; try simp only [List.length_map] at hb) | (replace hb := of_decide_eq_false hb; try simp only [List.length_map] at hb) | (simp only [List.length_map, bne_iff_ne, ne_eq, beq_iff_eq, bne_eq_false_iff_eq, beq_eq_false_iff_ne, decide_eq_true_eq, decide_eq_false_iff_not, Bool.not_eq_true', Bool.not_eq_false', Int.natCast_inj] at hb) | skip) | (refine fun hln => ?_; (try rw [List.length_map] at hln); unfold maxLen at hln; conv => whnf) | fail
      refine AW_loop (fun j : Nat => [(20, iv .i64 j), (19, bv (anyEq M2 x j)), (18, iv .i64 i), (14, sl M), (17, sl M2), (10, iv .i64 0)]) (fun _ => []) (fun j => j ≤ M2.length) (fun j => M2.length - j) 0 (Nat.zero_le _) impA ?_
      intro j hjM'
      rcases Nat.lt_or_ge j M2.length with hjM | hjM
      · obtain ⟨y, hy⟩ : ∃ y, M2[j]? = some y := ⟨_, List.getElem?_eq_getElem hjM⟩
        have hs := anyEq_succ (c := x) hy
        generalize hB : anyEq M2 x j = B at hs
        generalize hB' : anyEq M2 x (j + 1) = B' at hs
        repeat' first | with_reducible refine AW_seq ?_ | with_reducible refine AW_block ?_ | ((first | with_reducible refine AW_skip ?_ | with_reducible refine AW_exit ?_ | with_reducible refine AW_region hTt ?_ | refine AW_draw hTt hMix (id := 31) 10 false [0, 1, 3, 3, 15, 31, 3, 3, 195, 451, 1023, 2047, 4095] (by kernel_rfl) rfl rfl (by kernel_rfl) ?_ | refine And.intro ?_ ?_; focus (first | (exact trivial) | (intro h1; exact h1) | (intro h1 h2; simp_all; done) | (intro h1 h2; exact h1)) | fail); conv => whnf) | (exact absurd hb (by omega)) | ((first | with_reducible refine Exists.intro _ (And.intro (gd_any (And.intro (by omega) (map_some hy))) ?_) | with_reducible refine Exists.intro _ (And.intro (gd_any (And.intro (by omega) (map_some hx))) ?_) | fail); conv => whnf) | (refine AW_cond rfl (fun hb => ?_) (fun hb => ?_) <;> first | (replace hb := of_decide_eq_true hb; try simp only [List.length_map] at hb) | (replace hb := of_decide_eq_false hb; try simp only [List.length_map] at hb) | (simp only [List.length_map, bne_iff_ne, ne_eq, beq_iff_eq, bne_eq_false_iff_eq, beq_eq_false_iff_ne, decide_eq_true_eq, decide_eq_false_iff_not, Bool.not_eq_true', Bool.not_eq_false', Int.natCast_inj] at hb) | skip) | ((first | refine ⟨_, wrap_of (by first | omega | (simp only [List.length_map]; omega)), ?_⟩ | refine andA ?_ | fail); conv => whnf) | (refine fun hln => ?_; (try rw [List.length_map] at hln); unfold maxLen at hln; conv => whnf) | fail
        exact ⟨j + 1, hjM, by omega, (Imp.forget (by repeat' (first | exact trivial | refine And.intro ?_ ?_ | exact congrArg (fun b => some (bv b)) (hs.trans hB'.symm) | rfl | exact ivE (by first | omega | (simp only [List.length_map, List.length_append, List.length_singleton] <;> omega)) | exact oE (by first | omega | (simp only [List.length_map, List.length_append, List.length_singleton] <;> omega)))) (by repeat' (first | exact trivial | refine And.intro ?_ ?_ | exact congrArg (fun b => some (bv b)) (hs.trans hB'.symm) | rfl | exact ivE (by first | omega | (simp only [List.length_map, List.length_append, List.length_singleton] <;> omega)) | exact oE (by first | omega | (simp only [List.length_map, List.length_append, List.length_singleton] <;> omega)))) (by kernel_rfl) (by kernel_rfl) (by kernel_rfl))⟩
      have hje : j = M2.length := by omega
      subst hje
      rw [hxs]
      repeat' first | with_reducible refine AW_seq ?_ | with_reducible refine AW_block ?_ | ((first | with_reducible refine AW_skip ?_ | with_reducible refine AW_exit ?_ | with_reducible refine AW_region hTt ?_ | refine AW_draw hTt hMix (id := 31) 10 false [0, 1, 3, 3, 15, 31, 3, 3, 195, 451, 1023, 2047, 4095] (by kernel_rfl) rfl rfl (by kernel_rfl) ?_ | fail); conv => whnf) | (exact absurd hb (by omega)) | (refine AW_cond rfl (fun hb => absurd hb (by decide)) (fun _ => ?_)) | (refine AW_cond rfl (fun hb => ?_) (fun hb => ?_) <;> first | (replace hb := of_decide_eq_true hb; try simp only [List.length_map] at hb) | (replace hb := of_decide_eq_false hb; try simp only [List.length_map] at hb) | (simp only [List.length_map, bne_iff_ne, ne_eq, beq_iff_eq, bne_eq_false_iff_eq, beq_eq_false_iff_ne, decide_eq_true_eq, decide_eq_false_iff_not, Bool.not_eq_true', Bool.not_eq_false', Int.natCast_inj] at hb) | skip) | ((refine ⟨_, wrap_of (by first | omega | (simp only [List.length_map]; omega)), ?_⟩); conv => whnf) | (refine fun hln => ?_; (try rw [List.length_map] at hln); unfold maxLen at hln; conv => whnf) | fail
      exact ⟨i + 1, hiM, by omega, impA⟩
    have hiE : i = M.length := by omega
    subst hiE
    repeat' first | with_reducible refine AW_seq ?_ | with_reducible refine AW_block ?_ | ((first | with_reducible refine AW_skip ?_ | with_reducible refine AW_exit ?_ | with_reducible refine AW_ret ?_ | with_reducible refine AW_region hTt ?_ | fail); conv => whnf) | (exact absurd hb (by omega)) | ((refine ⟨_, fun _ => (awake_fn).call rfl rfl, ?_⟩); conv => whnf) | (refine AW_cond rfl (fun hb => ?_) (fun hb => ?_) <;> first | (replace hb := of_decide_eq_true hb; try simp only [List.length_map] at hb) | (replace hb := of_decide_eq_false hb; try simp only [List.length_map] at hb) | (simp only [List.length_map, bne_iff_ne, ne_eq, beq_iff_eq, bne_eq_false_iff_eq, beq_eq_false_iff_ne, decide_eq_true_eq, decide_eq_false_iff_not, Bool.not_eq_true', Bool.not_eq_false', Int.natCast_inj] at hb) | skip) | ((refine andA ?_); conv => whnf) | (refine fun hln => ?_; (try rw [List.length_map] at hln); unfold maxLen at hln; conv => whnf) | fail
    exact (show ∀ b, b = true → some (bv b) = some (bv true) from fun b h => by rw [h]) _ (by simp)
  · rw [show tableR n fs ts = ([], askedR n fs ts) from if_neg hc] at htb
    generalize outsT n fs ts = OT at houts
    obtain ⟨o1, o2⟩ := OT
    dsimp only at houts
    refine FnC_of_AW hTt Tryd.func15 rfl (by kernel_rfl) (res := [.tmp 6]) rfl Tryd.ntmps15 (by simp) fun w0 K0 => ?_
    dsimp only [entry]
    repeat' first | with_reducible refine AW_seq ?_ | ((first | with_reducible refine AW_skip ?_ | with_reducible refine AW_ret ?_ | with_reducible refine AW_region hTt ?_ | fail); conv => whnf) | (exact absurd hb hc) | ((first | ((refine ⟨_, (houts).call rfl rfl, ?_⟩); (rintro _ _ ⟨rfl, rfl⟩)) | ((refine ⟨_, (htb).call rfl rfl, ?_⟩); (rintro _ _ ⟨rfl, rfl⟩)) | ((refine ⟨_, (awake_fn).call rfl rfl, ?_⟩); (rintro _ _ ⟨rfl, rfl⟩)) | fail); conv => whnf) | (refine AW_cond rfl (fun hb => ?_) (fun hb => ?_) <;> first | (replace hb := of_decide_eq_true hb; try simp only [List.length_map] at hb) | (replace hb := of_decide_eq_false hb; try simp only [List.length_map] at hb) | (simp only [List.length_map, bne_iff_ne, ne_eq, beq_iff_eq, bne_eq_false_iff_eq, beq_eq_false_iff_ne, decide_eq_true_eq, decide_eq_false_iff_not, Bool.not_eq_true', Bool.not_eq_false', Int.natCast_inj] at hb) | skip) | ((refine andA ?_); conv => whnf) | fail
    rfl
end Go.Proofs.YtfghooojingdhaaDoor
