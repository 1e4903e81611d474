/- What the functions that this law reaches return: part 0. No condition. -/
import Derived.Test.YtfghooojingdhaaDoorJ05
set_option linter.all false
namespace Go.Proofs.YtfghooojingdhaaDoor
open Go Go.QL
set_option maxHeartbeats 3200000
attribute [local irreducible] ACall FnC
def givesR (n : NetT) (f : FaultT) (ts rs : List (List Int)) : Bool := (List.range ts.length).all fun i => sameInts (oR n f (ts.getD i [])) (rs.getD i [])
theorem gives_ref {n : NetT} {fs : List FaultT} {ts : List (List Int)} (h : AskOK n fs ts) {f : FaultT} (hf : FltOK f) (rs : List (List Int)) (hl : rs.length = ts.length) :
    FnC Tryd.prog 84 [netAV n, faultAV f, rowsAV ts, rowsAV rs] (bv (givesR n f ts rs)) := by
  refine FnC_of_AW hTt Tryd.func84 rfl (by kernel_rfl) (res := [.tmp 8]) rfl Tryd.ntmps84 (by simp) fun w0 K0 => ?_
  dsimp only [entry]
  repeat' first | with_reducible refine AW_seq ?_ | with_reducible refine AW_block ?_ | ((with_reducible refine AW_region hTt ?_); conv => whnf) | fail
  refine AW_loop (fun i : Nat => [(9, iv .i64 i), (4, .x (.b 4 0)), (5, .x (.b 5 0)), (2, rowsAV ts), (3, rowsAV rs)]) (fun _ => [(4, netCells n), (5, fltBox f)])
    (fun i => i ≤ ts.length ∧ ((List.range i).all fun i => sameInts (oR n f (ts.getD i [])) (rs.getD i [])) = true) (fun i => ts.length - i) 0 ⟨Nat.zero_le _, rfl⟩ impA ?_
  rintro i ⟨hi, hs⟩
  rcases Nat.lt_or_ge i ts.length with hil | hil
  · obtain ⟨t, ht⟩ : ∃ t, ts[i]? = some t := ⟨_, List.getElem?_eq_getElem hil⟩
    obtain ⟨r, hr⟩ : ∃ r, rs[i]? = some r := ⟨_, List.getElem?_eq_getElem (by omega)⟩
    have o1 := h.out hf (List.mem_of_getElem? ht)
    have hst : ((List.range (i + 1)).all fun i => sameInts (oR n f (ts.getD i [])) (rs.getD i [])) = sameInts (oR n f t) r := by
      rw [all_range_succ, hs, Bool.true_and, List.getD_eq_getElem?_getD, List.getD_eq_getElem?_getD, ht, hr]; rfl
    have hfin : sameInts (oR n f t) r = false → givesR n f ts rs = false := fun e => all_range_false hil (by
      show sameInts (oR n f (ts.getD i [])) (rs.getD i []) = false
      rw [List.getD_eq_getElem?_getD, List.getD_eq_getElem?_getD, ht, hr]; exact e)
    repeat' first | with_reducible refine AW_seq ?_ | with_reducible refine AW_block ?_ | ((first | with_reducible refine AW_skip ?_ | with_reducible refine AW_exit ?_ | with_reducible refine AW_ret ?_ | with_reducible refine AW_region hTt ?_ | refine AW_draw hTt hMix (id := 4) 11 false [0, 0, 0, 0, 12, 28, 63, 0, 0, 384, 896, 2047, 4095] (by kernel_rfl) rfl rfl (by kernel_rfl) ?_ | fail); conv => whnf) | (exact absurd hb (by omega)) | ((first | with_reducible refine Exists.intro _ (And.intro (gd_any (And.intro (by omega) (row_some ht))) ?_) | with_reducible refine Exists.intro _ (And.intro (gd_any (And.intro (by omega) (row_some hr))) ?_) | refine ⟨_, fun _ => (o1).call rfl rfl, ?_⟩ | ((refine ⟨_, (ints_fn _ _).call rfl rfl, ?_⟩); (rintro _ _ ⟨rfl, rfl⟩)) | fail); conv => whnf) | (refine AW_cond rfl (fun hb => ?_) (fun hb => ?_) <;> first | (replace hb := of_decide_eq_true hb; try simp only [List.length_map] at hb) | (replace hb := of_decide_eq_false hb; try simp only [List.length_map] at hb) | (simp only [List.length_map, bne_iff_ne, ne_eq, beq_iff_eq, bne_eq_false_iff_eq, beq_eq_false_iff_ne, decide_eq_true_eq, decide_eq_false_iff_not, Bool.not_eq_true', Bool.not_eq_false', Int.natCast_inj] at hb)) | ((first | refine ⟨_, wrap_of (by first | omega | (simp only [List.length_map]; omega)), ?_⟩ | refine andA ?_ | fail); conv => whnf) | (refine fun hln => ?_; (try rw [List.length_map] at hln); unfold maxLen at hln; conv => whnf) | fail
    · rw [hfin hb]; rfl
    · exact ⟨i + 1, ⟨by omega, by rw [hst, hb]⟩, by omega, impA⟩
  · have hie : i = ts.length := by omega
    subst hie
    repeat' first | with_reducible refine AW_seq ?_ | with_reducible refine AW_block ?_ | ((first | with_reducible refine AW_skip ?_ | with_reducible refine AW_exit ?_ | with_reducible refine AW_ret ?_ | with_reducible refine AW_region hTt ?_ | refine AW_draw hTt hMix (id := 4) 11 false [0, 0, 0, 0, 12, 28, 63, 0, 0, 384, 896, 2047, 4095] (by kernel_rfl) rfl rfl (by kernel_rfl) ?_ | fail); conv => whnf) | (exact absurd hb (by omega)) | (refine AW_cond rfl (fun hb => ?_) (fun hb => ?_) <;> first | (replace hb := of_decide_eq_true hb; try simp only [List.length_map] at hb) | (replace hb := of_decide_eq_false hb; try simp only [List.length_map] at hb)) | (refine fun hln => ?_; (try rw [List.length_map] at hln); unfold maxLen at hln; conv => whnf) | fail
    rw [show givesR n f ts rs = true from hs]; rfl
def cansR (n : NetT) (fs : List FaultT) (ts rs : List (List Int)) (k : Nat) : List Int := ((List.range k).filter fun l => givesR n (fAt fs l) ts rs).map fun (l : Nat) => (l : Int) - 1
theorem cansR_succ (n : NetT) (fs : List FaultT) (ts rs : List (List Int)) (k : Nat) : cansR n fs ts rs (k + 1) = if givesR n (fAt fs k) ts rs = true then cansR n fs ts rs k ++ [(k : Int) - 1] else cansR n fs ts rs k := by
  unfold cansR
  rw [List.range_succ, List.filter_append]
  by_cases h : givesR n (fAt fs k) ts rs = true
  · simp [h]
  · simp [h]
theorem cansR_len (n : NetT) (fs : List FaultT) (ts rs : List (List Int)) (k : Nat) : (cansR n fs ts rs k).length ≤ k := by
  unfold cansR
  rw [List.length_map]
  exact Nat.le_trans (List.length_filter_le _ _) (by simp)
def sameLens (ts rs : List (List Int)) : Bool := (List.range ts.length).all fun i => decide ((rs.getD i []).length = (ts.getD i []).length)
def canR (n : NetT) (fs : List FaultT) (ts rs : List (List Int)) : List Int × Int :=
  if askedR n fs ts = 0 then (if rs.length = ts.length ∧ sameLens ts rs = true then (cansR n fs ts rs (fs.length + 1), 0) else ([], 2)) else ([], askedR n fs ts)
end Go.Proofs.YtfghooojingdhaaDoor
namespace Go.Proofs.YtfghooojingdhaaDoor
open Go Go.QL
set_option maxHeartbeats 3200000
attribute [local irreducible] ACall FnC YC
theorem can1_fn (a b : List Int) : FnC Tryd.prog 83 [sl a, sl b] (bv (decide (b.length = a.length))) := by
  by_cases h : b.length = a.length
  · rw [show decide (b.length = a.length) = true from decide_eq_true h]
    have e : (((a.map fun n => [PV.v (.int .i64 n)]).length : Int) == ((b.map fun n => [PV.v (.int .i64 n)]).length : Int)) = true := by simp [h]
    refine FnC_of_AW hTt Tryd.func83 rfl (by kernel_rfl) (res := [.tmp 4]) rfl Tryd.ntmps83 (by simp) fun w0 K0 => ?_
    dsimp only [entry]
    repeat' first | with_reducible refine AW_seq ?_ | ((first | with_reducible refine AW_ret ?_ | with_reducible refine AW_region hTt ?_ | fail); conv => whnf) | (refine fun hln => ?_; (try rw [List.length_map] at hln); unfold maxLen at hln; conv => whnf) | fail
    first
      | rfl
      | (show some (bv _) = some (bv true); congr 2)
  · rw [show decide (b.length = a.length) = false from decide_eq_false h]
    have e : (((a.map fun n => [PV.v (.int .i64 n)]).length : Int) == ((b.map fun n => [PV.v (.int .i64 n)]).length : Int)) = false := by simp; omega
    refine FnC_of_AW hTt Tryd.func83 rfl (by kernel_rfl) (res := [.tmp 4]) rfl Tryd.ntmps83 (by simp) fun w0 K0 => ?_
    dsimp only [entry]
    repeat' first | with_reducible refine AW_seq ?_ | ((first | with_reducible refine AW_ret ?_ | with_reducible refine AW_region hTt ?_ | fail); conv => whnf) | (refine fun hln => ?_; (try rw [List.length_map] at hln); unfold maxLen at hln; conv => whnf) | fail
    first
      | rfl
      | (show some (bv _) = some (bv false); congr 2)
theorem eqf_fn (ts rs : List (List Int)) : ACall Tryd.prog 82 [rowsAV ts, rowsAV rs, .x (.f (.func 83) [] [])] [] (fun r σ' => r = bv (decide (rs.length = ts.length) && sameLens ts rs) ∧ σ' = []) := by
  refine ACall_of_AWD hTt Tryd.func82 rfl (by kernel_rfl) (res := [.tmp 6]) rfl Tryd.ntmps82 (by simp) fun w0 K0 B => ?_
  dsimp only [entry]
  by_cases hl : rs.length = ts.length
  · rw [show decide (rs.length = ts.length) = true from decide_eq_true hl, Bool.true_and]
    repeat' first | with_reducible refine AW_seq ?_ | with_reducible refine AW_block ?_ | ((first | with_reducible refine AW_skip ?_ | with_reducible refine AW_ret ?_ | with_reducible refine AW_region hTt ?_ | fail); conv => whnf) | (exact absurd hb (by omega)) | (refine AW_cond rfl (fun hb => ?_) (fun hb => ?_) <;> first | (replace hb := of_decide_eq_true hb; try simp only [List.length_map] at hb) | (replace hb := of_decide_eq_false hb; try simp only [List.length_map] at hb) | (simp only [List.length_map, bne_iff_ne, ne_eq, beq_iff_eq, bne_eq_false_iff_eq, beq_eq_false_iff_ne, decide_eq_true_eq, decide_eq_false_iff_not, Bool.not_eq_true', Bool.not_eq_false', Int.natCast_inj] at hb)) | (refine fun hln => ?_; (try rw [List.length_map] at hln); unfold maxLen at hln; conv => whnf) | fail
    refine AW_loop (fun i : Nat => [(17, iv .i64 i), (16, iv .i64 ts.length), (15, rowsAV ts), (0, rowsAV ts), (1, rowsAV rs), (2, .x (.f (.func 83) [] []))]) (fun _ => [])
      (fun i => i ≤ ts.length ∧ ((List.range i).all fun i => decide ((rs.getD i []).length = (ts.getD i []).length)) = true) (fun i => ts.length - i) 0 ⟨Nat.zero_le _, rfl⟩ impA ?_
    rintro i ⟨hi, hs⟩
    rcases Nat.lt_or_ge i ts.length with hil | hil
    · obtain ⟨t, ht⟩ : ∃ t, ts[i]? = some t := ⟨_, List.getElem?_eq_getElem hil⟩
      obtain ⟨r, hr⟩ : ∃ r, rs[i]? = some r := ⟨_, List.getElem?_eq_getElem (by omega)⟩
      have o1 := can1_fn t r
      have hst : ((List.range (i + 1)).all fun i => decide ((rs.getD i []).length = (ts.getD i []).length)) = decide (r.length = t.length) := by
        rw [all_range_succ, hs, Bool.true_and, List.getD_eq_getElem?_getD, List.getD_eq_getElem?_getD, ht, hr]; rfl
      have hfin : decide (r.length = t.length) = false → sameLens ts rs = false := fun e => all_range_false hil (by
        show decide ((rs.getD i []).length = (ts.getD i []).length) = false
        rw [List.getD_eq_getElem?_getD, List.getD_eq_getElem?_getD, ht, hr]; exact e)
      generalize decide (r.length = t.length) = q at o1 hst hfin
      cases q with
      | true =>
        repeat' first | with_reducible refine AW_seq ?_ | with_reducible refine AW_block ?_ | ((first | with_reducible refine AW_skip ?_ | with_reducible refine AW_exit ?_ | with_reducible refine AW_ret ?_ | with_reducible refine AW_region hTt ?_ | fail); conv => whnf) | (exact absurd hb (by omega)) | ((first | with_reducible refine Exists.intro _ (And.intro (gd_any (And.intro (by omega) (row_some ht))) ?_) | with_reducible refine Exists.intro _ (And.intro (gd_any (And.intro (by omega) (row_some hr))) ?_) | ((refine ⟨_, (o1).call rfl rfl, ?_⟩); (rintro _ _ ⟨rfl, rfl⟩)) | fail); conv => whnf) | (refine AW_cond rfl (fun hb => absurd hb (by decide)) (fun _ => ?_)) | (refine AW_cond rfl (fun hb => ?_) (fun hb => ?_) <;> first | (replace hb := of_decide_eq_true hb; try simp only [List.length_map] at hb) | (replace hb := of_decide_eq_false hb; try simp only [List.length_map] at hb)) | ((first | refine ⟨_, wrap_of (by first | omega | (simp only [List.length_map]; omega)), ?_⟩ | refine andA ?_ | fail); conv => whnf) | fail
        exact ⟨i + 1, ⟨hil, hst⟩, by omega, impA⟩
      | false =>
        rw [hfin rfl]
        repeat' first | with_reducible refine AW_seq ?_ | with_reducible refine AW_block ?_ | ((first | with_reducible refine AW_skip ?_ | with_reducible refine AW_exit ?_ | with_reducible refine AW_ret ?_ | with_reducible refine AW_region hTt ?_ | fail); conv => whnf) | (exact absurd hb (by omega)) | ((first | with_reducible refine Exists.intro _ (And.intro (gd_any (And.intro (by omega) (row_some ht))) ?_) | with_reducible refine Exists.intro _ (And.intro (gd_any (And.intro (by omega) (row_some hr))) ?_) | ((refine ⟨_, (o1).call rfl rfl, ?_⟩); (rintro _ _ ⟨rfl, rfl⟩)) | fail); conv => whnf) | (refine AW_cond rfl (fun _ => ?_) (fun hb => absurd hb (by decide))) | (refine AW_cond rfl (fun hb => ?_) (fun hb => ?_) <;> first | (replace hb := of_decide_eq_true hb; try simp only [List.length_map] at hb) | (replace hb := of_decide_eq_false hb; try simp only [List.length_map] at hb)) | ((refine andA ?_); conv => whnf) | fail
        exact ⟨_, [], trivial, rfl, rfl, rfl, rfl⟩
    · have hie : i = ts.length := by omega
      subst hie
      rw [show sameLens ts rs = true from hs]
      repeat' first | with_reducible refine AW_seq ?_ | with_reducible refine AW_block ?_ | ((first | with_reducible refine AW_skip ?_ | with_reducible refine AW_exit ?_ | with_reducible refine AW_ret ?_ | with_reducible refine AW_region hTt ?_ | fail); conv => whnf) | (exact absurd hb (by omega)) | (refine AW_cond rfl (fun hb => ?_) (fun hb => ?_) <;> first | (replace hb := of_decide_eq_true hb; try simp only [List.length_map] at hb) | (replace hb := of_decide_eq_false hb; try simp only [List.length_map] at hb)) | fail
      exact ⟨_, [], trivial, rfl, rfl, rfl, rfl⟩
  · rw [show decide (rs.length = ts.length) = false from decide_eq_false hl, Bool.false_and]
    repeat' first | with_reducible refine AW_seq ?_ | ((first | with_reducible refine AW_skip ?_ | with_reducible refine AW_ret ?_ | with_reducible refine AW_region hTt ?_ | fail); conv => whnf) | (exact absurd hb (by omega)) | (refine AW_cond rfl (fun hb => ?_) (fun hb => ?_) <;> first | (replace hb := of_decide_eq_true hb; try simp only [List.length_map] at hb) | (replace hb := of_decide_eq_false hb; try simp only [List.length_map] at hb) | (simp only [List.length_map, bne_iff_ne, ne_eq, beq_iff_eq, bne_eq_false_iff_eq, beq_eq_false_iff_ne, decide_eq_true_eq, decide_eq_false_iff_not, Bool.not_eq_true', Bool.not_eq_false', Int.natCast_inj] at hb)) | (refine fun hln => ?_; (try rw [List.length_map] at hln); unfold maxLen at hln; conv => whnf) | fail
    exact ⟨_, [], trivial, rfl, rfl, rfl, rfl⟩
end Go.Proofs.YtfghooojingdhaaDoor
namespace Go.Proofs.YtfghooojingdhaaDoor
open Go Go.QL
set_option maxHeartbeats 3200000
attribute [local irreducible] ACall FnC YC
theorem can_fn (n : NetT) (hi : i64 n.inn) (fs : List FaultT) (ts rs : List (List Int)) (hr : askedR n fs ts = 0 → RunsAt (fs.length + 1)) : FnC Tryd.prog 51 [netAV n, faultsAV fs, rowsAV ts, rowsAV rs] (.t [sl (canR n fs ts rs).1, iv .i64 (canR n fs ts rs).2]) := by
  have htr := tried_fn n hi fs ts hr
  have heq := eqf_fn ts rs
  by_cases hc : askedR n fs ts = 0
  · have h := AskOK.of hc
    rw [show triedR n fs ts = (ts.map fun t => lanesR n fs t, 0) from if_pos hc] at htr
    have hfl := h.fl
    have htl := h.tl
    dsimp only at htr ⊢
    by_cases hsl : rs.length = ts.length ∧ sameLens ts rs = true
    · rw [show canR n fs ts rs = (cansR n fs ts rs (fs.length + 1), 0) from by unfold canR; rw [if_pos hc, if_pos hsl]]
      rw [hsl.2, Bool.and_true, decide_eq_true hsl.1] at heq
      have hrl := hsl.1
      clear hsl h hc
      refine FnC_of_AWL hTt Tryd.func51 rfl (by kernel_rfl) (res := [.tmp 8, .tmp 9]) rfl Tryd.ntmps51 (by simp) fun w0 K0 => ?_
      dsimp only [entry]
      repeat' first | with_reducible refine AW_seq ?_ | with_reducible refine AW_block ?_ | with_reducible refine AW_scope ?_ | ((first | with_reducible refine AW_skip ?_ | with_reducible refine AW_label ?_ | with_reducible refine AW_region hTt ?_ | ((refine ⟨_, (htr).call rfl rfl, ?_⟩); (rintro _ _ ⟨rfl, rfl⟩)) | ((refine ⟨_, (heq).frame (asc []) (by repeat (first | exact trivial | refine ⟨rfl, ?_⟩)) rfl (by rintro _ _ ⟨rfl, rfl⟩; rfl), ?_⟩); (rintro _ _ ⟨_, _, ⟨rfl, rfl⟩, rfl, rfl⟩)) | fail); conv => whnf) | (refine AW_cond rfl (fun hb => absurd hb (by decide)) (fun _ => ?_)) | ((refine ⟨_, wrap_of (by first | omega | (simp only [List.length_map]; omega)), ?_⟩); conv => whnf) | (refine fun hln => ?_; (try rw [List.length_map] at hln); unfold maxLen at hln; conv => whnf) | fail
      refine AW_imp (Imp.nil 8 3 1 (fr' := [(31, iv .i64 0), (30, iv .i64 ((fs.length : Int) + 1)), (8, .x (.o 8 0 0)), (9, iv .i64 0), (10, cubeAV (ts.map fun t => lanesR n fs t)), (3, rowsAV rs), (1, faultsAV fs)]) (σ' := []) rfl ?_ ?_ rfl rfl) ?_
      · exact ⟨⟨_, rfl, .inl rfl⟩, ⟨_, congrArg (fun k : Nat => some (iv .i64 ((k : Int) + 1))) (List.length_map _), .inl rfl⟩, ⟨_, rfl, .inr ⟨rfl, rfl⟩⟩, ⟨_, rfl, .inl rfl⟩, ⟨_, rfl, .inl rfl⟩, ⟨_, rfl, .inl rfl⟩, ⟨_, rfl, .inl rfl⟩, trivial⟩
      · exact trivial
      refine AW_loop (fun k : Nat => [(31, iv .i64 k), (30, iv .i64 ((fs.length : Int) + 1)), (8, .x (.o 8 (cansR n fs ts rs k).length (cansR n fs ts rs k).length)), (9, iv .i64 0), (10, cubeAV (ts.map fun t => lanesR n fs t)), (3, rowsAV rs)])
        (fun k => [(8, .chain 3 1 (cansR n fs ts rs k).length ((cansR n fs ts rs k).map fun n => [PV.v (.int .i64 n)]))]) (fun k => k ≤ fs.length + 1) (fun k => fs.length + 1 - k) 0 (Nat.zero_le _) impA ?_
      intro k hk
      rcases Nat.lt_or_ge k (fs.length + 1) with hkl | hkl
      · have hcs := cansR_succ n fs ts rs k
        have hcl := cansR_len n fs ts rs k
        generalize cansR n fs ts rs k = C at hcs hcl
        repeat' first | with_reducible refine AW_seq ?_ | with_reducible refine AW_block ?_ | ((first | with_reducible refine AW_skip ?_ | with_reducible refine AW_exit ?_ | with_reducible refine AW_ret ?_ | with_reducible refine AW_region hTt ?_ | fail); conv => whnf) | (exact absurd hb (by omega)) | (refine AW_cond rfl (fun hb => ?_) (fun hb => ?_) <;> first | (replace hb := of_decide_eq_true hb; try simp only [List.length_map] at hb) | (replace hb := of_decide_eq_false hb; try simp only [List.length_map] at hb)) | (refine fun hln => ?_; (try rw [List.length_map] at hln); unfold maxLen at hln; conv => whnf) | fail
        refine AW_loop (fun i : Nat => [(36, iv .i64 i), (35, iv .i64 ts.length), (34, cubeAV (ts.map fun t => lanesR n fs t)), (11, iv .i64 k), (31, iv .i64 k), (30, iv .i64 ((fs.length : Int) + 1)), (8, .x (.o 8 C.length C.length)), (9, iv .i64 0), (10, cubeAV (ts.map fun t => lanesR n fs t)), (3, rowsAV rs)])
          (fun _ => [(8, .chain 3 1 C.length (C.map fun n => [PV.v (.int .i64 n)]))]) (fun i => i ≤ ts.length ∧ ((List.range i).all fun i => sameInts (oR n (fAt fs k) (ts.getD i [])) (rs.getD i [])) = true) (fun i => ts.length - i) 0 ⟨Nat.zero_le _, rfl⟩ (Imp.forget (by repeat' (first | exact trivial | refine And.intro ?_ ?_ | exact congrArg (fun k : Nat => some (iv .i64 k)) (by unfold cubePV; rw [List.length_map, List.length_map]) | rfl | exact ivE (by first | omega | (simp only [List.length_map, List.length_append, List.length_singleton] <;> omega)) | exact oE (by first | omega | (simp only [List.length_map, List.length_append, List.length_singleton] <;> omega)))) (by repeat' (first | exact trivial | refine And.intro ?_ ?_ | exact congrArg (fun k : Nat => some (iv .i64 k)) (by unfold cubePV; rw [List.length_map, List.length_map]) | rfl | exact ivE (by first | omega | (simp only [List.length_map, List.length_append, List.length_singleton] <;> omega)) | exact oE (by first | omega | (simp only [List.length_map, List.length_append, List.length_singleton] <;> omega)))) (by kernel_rfl) (by kernel_rfl) (by kernel_rfl)) ?_
        rintro i ⟨hi', hs⟩
        rcases Nat.lt_or_ge i ts.length with hil | hil
        · obtain ⟨t, ht⟩ : ∃ t, ts[i]? = some t := ⟨_, List.getElem?_eq_getElem hil⟩
          obtain ⟨r, hr⟩ : ∃ r, rs[i]? = some r := ⟨_, List.getElem?_eq_getElem (by omega)⟩
          have htL : (ts.map fun t => lanesR n fs t)[i]? = some (lanesR n fs t) := by rw [List.getElem?_map, ht]; rfl
          have hLk : (lanesR n fs t)[k]? = some (oR n (fAt fs k) t) := by
            unfold lanesR
            rw [List.getElem?_map, List.getElem?_range hkl]; rfl
          have o1 := equal_fn (oR n (fAt fs k) t) r
          have hst : ((List.range (i + 1)).all fun i => sameInts (oR n (fAt fs k) (ts.getD i [])) (rs.getD i [])) = sameInts (oR n (fAt fs k) t) r := by
            rw [all_range_succ, hs, Bool.true_and, List.getD_eq_getElem?_getD, List.getD_eq_getElem?_getD, ht, hr]; rfl
          have hfin : sameInts (oR n (fAt fs k) t) r = false → givesR n (fAt fs k) ts rs = false := fun e => all_range_false hil (by
            show sameInts (oR n (fAt fs k) (ts.getD i [])) (rs.getD i []) = false
            rw [List.getD_eq_getElem?_getD, List.getD_eq_getElem?_getD, ht, hr]; exact e)
          generalize sameInts (oR n (fAt fs k) t) r = q at o1 hst hfin
          clear htr heq
          cases q with
          | true =>
            repeat' first | with_reducible refine AW_seq ?_ | with_reducible refine AW_block ?_ | ((first | with_reducible refine AW_skip ?_ | with_reducible refine AW_exit ?_ | with_reducible refine AW_region hTt ?_ | refine AW_draw hTt hMix (id := 12) 8 false [0, 0, 3, 7, 0, 0, 48, 112, 255, 511] (by kernel_rfl) rfl rfl (by kernel_rfl) ?_ | fail); conv => whnf) | (exact absurd hb (by omega)) | ((first | with_reducible refine Exists.intro _ (And.intro (gd_any (And.intro (by omega) (rows_some htL))) ?_) | with_reducible refine Exists.intro _ (And.intro (gd_any (And.intro (by omega) (row_some hLk))) ?_) | with_reducible refine Exists.intro _ (And.intro (gd_any (And.intro (by omega) (row_some hr))) ?_) | ((refine ⟨_, (o1).call rfl rfl, ?_⟩); (rintro _ _ ⟨rfl, rfl⟩)) | fail); conv => whnf) | (refine AW_cond rfl (fun hb => absurd hb (by decide)) (fun _ => ?_)) | (refine AW_cond rfl (fun hb => ?_) (fun hb => ?_) <;> first | (replace hb := of_decide_eq_true hb; try simp only [List.length_map] at hb) | (replace hb := of_decide_eq_false hb; try simp only [List.length_map] at hb)) | ((first | refine ⟨_, wrap_of (by first | omega | (simp only [List.length_map]; omega)), ?_⟩ | refine andA ?_ | fail); conv => whnf) | fail
            exact ⟨i + 1, ⟨hil, hst⟩, by omega, impA⟩
          | false =>
            rw [hfin rfl, if_neg (by decide)] at hcs
            repeat' first | with_reducible refine AW_seq ?_ | with_reducible refine AW_block ?_ | ((first | with_reducible refine AW_skip ?_ | with_reducible refine AW_exit ?_ | with_reducible refine AW_region hTt ?_ | refine AW_draw hTt hMix (id := 12) 8 false [0, 0, 3, 7, 0, 0, 48, 112, 255, 511] (by kernel_rfl) rfl rfl (by kernel_rfl) ?_ | fail); conv => whnf) | (exact absurd hb (by omega)) | ((first | with_reducible refine Exists.intro _ (And.intro (gd_any (And.intro (by omega) (rows_some htL))) ?_) | with_reducible refine Exists.intro _ (And.intro (gd_any (And.intro (by omega) (row_some hLk))) ?_) | with_reducible refine Exists.intro _ (And.intro (gd_any (And.intro (by omega) (row_some hr))) ?_) | ((refine ⟨_, (o1).call rfl rfl, ?_⟩); (rintro _ _ ⟨rfl, rfl⟩)) | fail); conv => whnf) | (refine AW_cond rfl (fun _ => ?_) (fun hb => absurd hb (by decide))) | (refine AW_cond rfl (fun hb => ?_) (fun hb => ?_) <;> first | (replace hb := of_decide_eq_true hb; try simp only [List.length_map] at hb) | (replace hb := of_decide_eq_false hb; try simp only [List.length_map] at hb)) | ((first | refine ⟨_, wrap_of (by first | omega | (simp only [List.length_map]; omega)), ?_⟩ | refine andA ?_ | fail); conv => whnf) | fail
            refine ⟨k + 1, hkl, by omega, ?_⟩
            rw [hcs]
            exact impA
        · have hie : i = ts.length := by omega
          subst hie
          rw [show givesR n (fAt fs k) ts rs = true from hs, if_pos rfl] at hcs
          have hst : (C.map fun n => [PV.v (.int .i64 n)]).take C.length ++ [[PV.v (.int .i64 ((k : Int) - 1))]] = (C ++ [(k : Int) - 1]).map fun n => [PV.v (.int .i64 n)] := by
            rw [List.take_of_length_le (by rw [List.length_map]; exact Nat.le_refl _), List.map_append]; rfl
          have hln : C.length + 1 = (C ++ [(k : Int) - 1]).length := by simp
          clear htr heq
          repeat' first | with_reducible refine AW_seq ?_ | with_reducible refine AW_block ?_ | ((first | with_reducible refine AW_skip ?_ | with_reducible refine AW_exit ?_ | with_reducible refine AW_region hTt ?_ | fail); conv => whnf) | (exact absurd hb (by omega)) | ((refine And.intro (by refine ⟨?_, ?_, ?_⟩ <;> simp [chunk, maxLen] <;> omega) ?_); conv => whnf) | (refine AW_cond rfl (fun hb => ?_) (fun hb => ?_) <;> first | (replace hb := of_decide_eq_true hb; try simp only [List.length_map] at hb) | (replace hb := of_decide_eq_false hb; try simp only [List.length_map] at hb)) | ((first | refine ⟨_, wrap_of (by first | omega | (simp only [List.length_map]; omega)), ?_⟩ | refine andA ?_ | fail); conv => whnf) | fail
          refine ⟨k + 1, hkl, by omega, ?_⟩
          rw [hcs]
          exact (Imp.forget (by repeat' (first | exact trivial | refine And.intro ?_ ?_ | exact oE hln | exact chE hst | (rw [← hln]; exact chE hst) | exact congr (congrArg (fun a b => some (AV.x (.o 8 a b))) hln) hln | rfl | exact ivE (by first | omega | (simp only [List.length_map, List.length_append, List.length_singleton] <;> omega)) | exact oE (by first | omega | (simp only [List.length_map, List.length_append, List.length_singleton] <;> omega)))) (by repeat' (first | exact trivial | refine And.intro ?_ ?_ | exact oE hln | exact chE hst | (rw [← hln]; exact chE hst) | exact congr (congrArg (fun a b => some (AV.x (.o 8 a b))) hln) hln | rfl | exact ivE (by first | omega | (simp only [List.length_map, List.length_append, List.length_singleton] <;> omega)) | exact oE (by first | omega | (simp only [List.length_map, List.length_append, List.length_singleton] <;> omega)))) (by kernel_rfl) (by kernel_rfl) (by kernel_rfl))
      · have hke : k = fs.length + 1 := by omega
        subst hke
        repeat' first | with_reducible refine AW_seq ?_ | with_reducible refine AW_block ?_ | ((first | with_reducible refine AW_skip ?_ | with_reducible refine AW_exit ?_ | with_reducible refine AW_ret ?_ | with_reducible refine AW_region hTt ?_ | fail); conv => whnf) | (exact absurd hb (by omega)) | (refine AW_cond rfl (fun hb => ?_) (fun hb => ?_) <;> first | (replace hb := of_decide_eq_true hb; try simp only [List.length_map] at hb) | (replace hb := of_decide_eq_false hb; try simp only [List.length_map] at hb)) | fail
        refine ⟨.t [sl (cansR n fs ts rs (fs.length + 1)), iv .i64 0], ?_, LeAV.refl _⟩
        show viewAV _ (.t [.x (.o 8 (cansR n fs ts rs (fs.length + 1)).length (cansR n fs ts rs (fs.length + 1)).length), iv .i64 0]) = _
        simp only [viewAV, viewAVs, viewAV1]
        rw [viewO' (σ := [(8, Ob.chain 3 1 (cansR n fs ts rs (fs.length + 1)).length ((cansR n fs ts rs (fs.length + 1)).map fun n => [PV.v (.int .i64 n)]))]) rfl (List.length_map _).symm]
        rfl
    · rw [show canR n fs ts rs = ([], 2) from by unfold canR; rw [if_pos hc, if_neg hsl]]
      have hq : (decide (rs.length = ts.length) && sameLens ts rs) = false := by
        cases h1 : (decide (rs.length = ts.length) && sameLens ts rs) with
        | false => rfl
        | true => exfalso; apply hsl; simpa using h1
      rw [hq] at heq
      refine FnC_of_AWL hTt Tryd.func51 rfl (by kernel_rfl) (res := [.tmp 8, .tmp 9]) rfl Tryd.ntmps51 (by simp) fun w0 K0 => ?_
      dsimp only [entry]
      repeat' first | with_reducible refine AW_seq ?_ | with_reducible refine AW_scope ?_ | ((first | with_reducible refine AW_skip ?_ | with_reducible refine AW_ret ?_ | with_reducible refine AW_region hTt ?_ | ((refine ⟨_, (htr).call rfl rfl, ?_⟩); (rintro _ _ ⟨rfl, rfl⟩)) | ((refine ⟨_, (heq).frame (asc []) (by repeat (first | exact trivial | refine ⟨rfl, ?_⟩)) rfl (by rintro _ _ ⟨rfl, rfl⟩; rfl), ?_⟩); (rintro _ _ ⟨_, _, ⟨rfl, rfl⟩, rfl, rfl⟩)) | fail); conv => whnf) | (refine AW_cond rfl (fun _ => ?_) (fun hb => absurd hb (by decide))) | (refine AW_cond rfl (fun hb => absurd hb (by decide)) (fun _ => ?_)) | fail
      exact ⟨_, rfl, _, rfl, LeAV1.nil 1, LeAV1.refl _, trivial⟩
  · rw [show canR n fs ts rs = ([], askedR n fs ts) from if_neg hc]
    rw [show triedR n fs ts = ([], askedR n fs ts) from if_neg hc] at htr
    dsimp only at htr ⊢
    refine FnC_of_AWL hTt Tryd.func51 rfl (by kernel_rfl) (res := [.tmp 8, .tmp 9]) rfl Tryd.ntmps51 (by simp) fun w0 K0 => ?_
    dsimp only [entry]
    repeat' first | with_reducible refine AW_seq ?_ | with_reducible refine AW_scope ?_ | ((first | with_reducible refine AW_skip ?_ | with_reducible refine AW_ret ?_ | with_reducible refine AW_region hTt ?_ | fail); conv => whnf) | (exact absurd hb hc) | ((refine ⟨_, (htr).call rfl rfl, ?_⟩); (rintro _ _ ⟨rfl, rfl⟩); conv => whnf) | (refine AW_cond rfl (fun hb => ?_) (fun hb => ?_) <;> first | (replace hb := of_decide_eq_true hb; try simp only [List.length_map] at hb) | (replace hb := of_decide_eq_false hb; try simp only [List.length_map] at hb) | (simp only [List.length_map, bne_iff_ne, ne_eq, beq_iff_eq, bne_eq_false_iff_eq, beq_eq_false_iff_ne, decide_eq_true_eq, decide_eq_false_iff_not, Bool.not_eq_true', Bool.not_eq_false', Int.natCast_inj] at hb)) | fail
    exact ⟨_, rfl, _, rfl, LeAV1.nil 1, LeAV1.refl _, trivial⟩
end Go.Proofs.YtfghooojingdhaaDoor
namespace Go.Proofs.YtfghooojingdhaaDoor
open Go Go.QL
set_option maxHeartbeats 3200000
attribute [local irreducible] ACall FnC YC
theorem exk_stuck : stuckR adder ⟨7, 0⟩ [3, 1, 0] = ([0, 1, 0], 0) := by kernel_rfl
theorem exk_show : showR adder ⟨7, 0⟩ = ([3, 0], 0) := by kernel_rfl
theorem exk_show2 : showR adder ⟨2, 1⟩ = ([0], 0) := by kernel_rfl
theorem exk_few : fewR adder exF exT = ([2], 0) := by kernel_rfl
theorem exk_can : canR adder exF [[3, 0], [3, 1, 0]] [[0, 0], [0, 0, 0]] = ([3], 0) := by kernel_rfl
theorem exk_can2 : canR adder exF [[3, 0]] [[0, 0]] = ([0, 3], 0) := by kernel_rfl
theorem gknown_fn : FnC Tryd.prog 16 [] (bv true) := by
  have h1 := pstuck_fn adder ex_i64 ⟨7, 0⟩ [3, 1, 0]
  rw [exk_stuck] at h1
  have h2 := pshow_fn adder ex_i64 ⟨7, 0⟩
  rw [exk_show] at h2
  have h3 := pshow_fn adder ex_i64 ⟨2, 1⟩
  rw [exk_show2] at h3
  have h4 := pfew_fn adder ex_i64 exF exT (fun _ => runs_5)
  rw [exk_few] at h4
  have h5 := can_fn adder ex_i64 exF [[3, 0], [3, 1, 0]] [[0, 0], [0, 0, 0]] (fun _ => runs_5)
  rw [exk_can] at h5
  have h6 := can_fn adder ex_i64 exF [[3, 0]] [[0, 0]] (fun _ => runs_5)
  rw [exk_can2] at h6
  have i0 : ∀ l, FnC Tryd.prog 25 [sl l, sl l] (bv true) := fun l => by
    have h := ints_fn l l
    rw [show sameInts l l = true from decide_eq_true rfl] at h
    exact h
  have i1 := i0 [0, 1, 0]
  have i2 := i0 [3, 0]
  have i3 := i0 [0]
  have i4 := i0 [2]
  have i5 := i0 [3]
  have i6 := i0 [0, 3]
  clear i0
  refine FnC_of_AW hTt Tryd.func16 rfl (by kernel_rfl) (res := [.tmp 0]) rfl Tryd.ntmps16 (by simp) fun w0 K0 => ?_
  dsimp only [entry]
  repeat' first | with_reducible refine AW_seq ?_ | ((first | with_reducible refine AW_ret ?_ | with_reducible refine AW_region hTt ?_ | refine AW_draw hTt hMix (id := 2) 12 false [0, 0, 2, 6, 2, 18, 50, 127, 255, 511, 511, 1023, 4095] (by kernel_rfl) rfl rfl (by kernel_rfl) ?_ | refine AW_draw hTt hMix (id := 3) 9 false [0, 0, 2, 6, 15, 31, 63, 63, 127, 511] (by kernel_rfl) rfl rfl (by kernel_rfl) ?_ | refine AW_draw hTt hMix (id := 4) 9 false [0, 0, 2, 6, 15, 31, 63, 63, 127, 511] (by kernel_rfl) rfl rfl (by kernel_rfl) ?_ | refine AW_draw hTt hMix (id := 5) 8 false [0, 0, 2, 7, 15, 31, 31, 63, 255] (by kernel_rfl) rfl rfl (by kernel_rfl) ?_ | refine AW_draw hTt hMix (id := 6) 13 true [0, 0, 0, 0, 12, 0, 0, 96, 255, 511, 1023, 1023, 2047, 8191] (by kernel_rfl) rfl rfl (by kernel_rfl) ?_ | refine AW_draw hTt hMix (id := 7) 11 true [0, 0, 0, 4, 0, 16, 63, 127, 255, 255, 511, 2047] (by kernel_rfl) rfl rfl (by kernel_rfl) ?_ | with_reducible refine Exists.intro _ (And.intro (gd_any (And.intro (by decide) rfl)) ?_) | ((refine ⟨_, (padder_fn).call rfl rfl, ?_⟩); (rintro _ _ ⟨rfl, rfl⟩)) | refine ⟨_, fun _ => (tests_fn).call rfl rfl, ?_⟩ | refine ⟨_, fun _ => (faults_fn).call rfl rfl, ?_⟩ | refine ⟨_, fun _ => (h1).call rfl rfl, ?_⟩ | refine ⟨_, fun _ => (h2).call rfl rfl, ?_⟩ | refine ⟨_, fun _ => (h3).call rfl rfl, ?_⟩ | refine ⟨_, fun _ => (h4).call rfl rfl, ?_⟩ | refine ⟨_, fun _ => (h5).call rfl rfl, ?_⟩ | refine ⟨_, fun _ => (h6).call rfl rfl, ?_⟩ | refine ⟨_, fun _ => (i1).call rfl rfl, ?_⟩ | refine ⟨_, fun _ => (i2).call rfl rfl, ?_⟩ | refine ⟨_, fun _ => (i3).call rfl rfl, ?_⟩ | refine ⟨_, fun _ => (i4).call rfl rfl, ?_⟩ | refine ⟨_, fun _ => (i5).call rfl rfl, ?_⟩ | refine ⟨_, fun _ => (i6).call rfl rfl, ?_⟩ | refine ⟨_, fun _ => (awake_fn).call rfl rfl, ?_⟩ | refine andA ?_ | fail); conv => whnf) | fail
  exact (show ∀ b, b = true → some (bv b) = some (bv true) from fun b h => by rw [h]) _ rfl
end Go.Proofs.YtfghooojingdhaaDoor
