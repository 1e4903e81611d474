/- What the functions that this law reaches return: part 0. No condition. -/
import Derived.Test.YtfghooojingdhaaDoorH05
set_option linter.all false
namespace Go.Proofs.YtfghooojingdhaaDoor
open Go Go.QL
set_option maxHeartbeats 3200000
attribute [local irreducible] ACall FnC
theorem run_2 {n : NetT} (ok : NetOK n) {s1 : Nat} {sk : List (W16 × W16)} (hsk : sk.length = n.inn.toNat + n.gates.length) {s2 s3 k' : Nat} {nw : List W16}
    {flt : Nat → FaultT} (hl : LanesOK sk flt 2) (xs : List Int) (hxl : xs.length ≤ 4096) :
    ACall Tryd.prog 71 [.x (.b 900 0), iv .i64 2, sl xs] (sB n s1 sk s2 (dl0 n) s3 k' nw)
      (fun r σ' => ∃ p : Nat × Nat × List W16, r = rowsAV ((List.range 2).map fun l => outsR n (flt l) xs xs.length) ∧ σ' = sB n s1 sk s2 (dl0 n) p.1 p.2.1 p.2.2) := by
  refine ACall_of_AWD hTt Tryd.func71 rfl (by kernel_rfl) (res := [.tmp 6]) rfl Tryd.ntmps71 (by simp) fun w0 K0 B => ?_
  dsimp only [entry]
  repeat' first | with_reducible refine AW_seq ?_ | with_reducible refine AW_block ?_ | ((first | with_reducible refine AW_region hTt ?_ | refine AW_draw hTt hMix (id := 1) 5 true [0, 1, 0, 4, 3, 31] (by kernel_rfl) rfl rfl (by kernel_rfl) ?_ | refine Or.inr ?_ | refine andA ?_ | fail); conv => whnf) | (refine fun hln => ?_; (try rw [List.length_map] at hln); unfold maxLen at hln; conv => whnf) | fail
  refine AW_imp (Imp.freeze 17 (fr' := frR n flt xs 2) (σ' := (15, .box (cellsN 2 0 0)) :: sB n s1 sk s2 (dl0 n) s3 k' nw) rfl ?_ ?_ rfl rfl) ?_
  · exact ⟨⟨_, rfl, .inl rfl⟩, ⟨_, congrArg (fun k : Nat => some (iv .i64 k)) (List.length_map _), .inl rfl⟩, ⟨_, rfl, .inl rfl⟩, ⟨_, rfl, .inl rfl⟩, ⟨_, rfl, .inr ⟨2, rfl, Nat.le_of_ble_eq_true rfl, rfl⟩⟩, ⟨_, rfl, .inl rfl⟩, trivial⟩
  · exact ⟨rfl, rfl, rfl, rfl, rfl, trivial⟩
  refine AW_imp (Imp.nil 600 3 1 (fr' := frR n flt xs 2) (σ' := chN 0 ((15, .box (cellsN 2 0 1)) :: sB n s1 sk s2 (dl0 n) s3 k' nw)) rfl ⟨⟨_, rfl, .inl rfl⟩, ⟨_, rfl, .inl rfl⟩, ⟨_, rfl, .inl rfl⟩, ⟨_, rfl, .inl rfl⟩, ⟨_, rfl, .inl rfl⟩, ⟨_, rfl, .inl rfl⟩, trivial⟩ ?_ rfl rfl) ?_
  · exact ⟨⟨_, rfl, .inr ⟨_, _, rfl, rfl, .inr ⟨rfl, rfl⟩, .inl rfl, trivial⟩⟩, ⟨_, rfl, .inl rfl⟩, ⟨_, rfl, .inl rfl⟩, ⟨_, rfl, .inl rfl⟩, ⟨_, rfl, .inl rfl⟩, trivial⟩
  refine AW_imp (Imp.nil 601 3 1 (fr' := frR n flt xs 2) (σ' := chN 1 ((15, .box (cellsN 2 0 2)) :: sB n s1 sk s2 (dl0 n) s3 k' nw)) rfl ⟨⟨_, rfl, .inl rfl⟩, ⟨_, rfl, .inl rfl⟩, ⟨_, rfl, .inl rfl⟩, ⟨_, rfl, .inl rfl⟩, ⟨_, rfl, .inl rfl⟩, ⟨_, rfl, .inl rfl⟩, trivial⟩ ?_ rfl rfl) ?_
  · exact ⟨⟨_, rfl, .inl rfl⟩, ⟨_, rfl, .inr ⟨_, _, rfl, rfl, .inl rfl, .inr ⟨rfl, rfl⟩, trivial⟩⟩, ⟨_, rfl, .inl rfl⟩, ⟨_, rfl, .inl rfl⟩, ⟨_, rfl, .inl rfl⟩, ⟨_, rfl, .inl rfl⟩, trivial⟩
  refine AW_loop (fun p : Nat × Nat × Nat × List W16 => [(20, iv .i64 p.1), (19, iv .i64 xs.length), (18, sl xs), (7, .x (.sb 15 0 2 2)), (8, sl (stsL n flt xs 2 p.1)), (0, .x (.b 900 0))])
    (fun p => (15, .box [.o 600 (p.1) (p.1), .o 601 (p.1) (p.1)]) :: (600, rwOb n (flt 0) xs (p.1)) :: (601, rwOb n (flt 1) xs (p.1)) :: sB n s1 sk s2 (dl0 n) p.2.1 p.2.2.1 p.2.2.2)
    (fun p => p.1 ≤ xs.length) (fun p => xs.length - p.1) (0, s3, k', nw) (Nat.zero_le _) impA ?_
  rintro ⟨t, a, b, c⟩ ht
  dsimp only at ht ⊢
  rcases Nat.lt_or_ge t xs.length with htl | htl
  · have hbeat := fun s3 k' nw => beat_lanes ok (s1 := s1) hsk (s2 := s2) (s3 := s3) (k' := k') (nw := nw) (k := 2) (by decide) hl xs t xs[t] (getDI htl)
    have hol := otsL_len n flt xs 2 t
    repeat' first | with_reducible refine AW_seq ?_ | with_reducible refine AW_block ?_ | ((first | with_reducible refine AW_skip ?_ | with_reducible refine AW_exit ?_ | with_reducible refine AW_ret ?_ | with_reducible refine AW_region hTt ?_ | fail); conv => whnf) | (exact absurd hb (by omega)) | ((refine ⟨_, (hbeat a b c).frame (asc []) (by repeat (first | exact trivial | refine ⟨rfl, ?_⟩)) rfl (by rintro _ _ ⟨_, rfl, rfl⟩; rfl), ?_⟩); (rintro _ _ ⟨_, _, ⟨_, rfl, rfl⟩, rfl, rfl⟩); conv => whnf) | (refine AW_cond rfl (fun hb => ?_) (fun hb => ?_) <;> first | (replace hb := of_decide_eq_true hb; try simp only [List.length_map] at hb) | (replace hb := of_decide_eq_false hb; try simp only [List.length_map] at hb) | (simp only [List.length_map, bne_iff_ne, ne_eq, beq_iff_eq, bne_eq_false_iff_eq, beq_eq_false_iff_ne, decide_eq_true_eq, decide_eq_false_iff_not, Bool.not_eq_true', Bool.not_eq_false', Int.natCast_inj] at hb) | skip) | ((first | refine andA ?_ | with_reducible refine Exists.intro _ (And.intro (gd_any (And.intro (by omega) (map_get (by omega)))) ?_) | fail); conv => whnf) | (refine fun hln => ?_; (try rw [List.length_map] at hln); unfold maxLen at hln; conv => whnf) | fail
    rename_i pp
    refine AW_loop (fun l : Nat => [(33, iv .i64 l), (32, iv .i64 2), (31, sl (otsL n flt xs 2 t)), (20, iv .i64 t), (19, iv .i64 xs.length), (18, sl xs), (7, .x (.sb 15 0 2 2)), (8, sl (stsL n flt xs 2 (t + 1))), (0, .x (.b 900 0))])
      (fun l => (15, .box [.o 600 (t + bt 0 l) (t + bt 0 l), .o 601 (t + bt 1 l) (t + bt 1 l)]) :: (600, rwOb n (flt 0) xs (t + bt 0 l)) :: (601, rwOb n (flt 1) xs (t + bt 1 l)) :: sB n s1 sk s2 (dl0 n) pp.1 pp.2.1 pp.2.2) (fun l => l ≤ 2) (fun l => 2 - l) 0 (Nat.zero_le _) impA ?_
    intro l hlk
    rcases Nat.lt_or_ge l 2 with hll | hll
    · have hg := ots_at n flt xs t hll
      have e := row_app n (flt l) xs t l
      have hq := bt_self l
      have hz := outsR_len n (flt l) xs (t + bt l l)
      obtain ⟨j, hj⟩ : ∃ j, j = l + 1 := ⟨_, rfl⟩
      have hl' : l = 0 ∨ l = 1 := by omega
      clear hol hbeat ht hlk hll
      rcases hl' with rfl | rfl
      all_goals
        repeat' first | with_reducible refine AW_seq ?_ | with_reducible refine AW_block ?_ | ((first | with_reducible refine AW_skip ?_ | with_reducible refine AW_region hTt ?_ | with_reducible refine Exists.intro _ (And.intro (gd_any (And.intro (by omega) hg)) ?_) | refine And.intro (gd_any (And.intro (by decide) (by decide))) ?_ | fail); conv => whnf) | ((refine And.intro ?_ ?_; focus (refine ⟨?_, ?_, ?_⟩ <;> simp [chunk, maxLen] <;> omega)); conv => whnf) | (refine AW_cond rfl (fun _ => ?_) (fun hb => absurd hb (by decide))) | ((first | refine ⟨_, wrap_of (by first | omega | (simp only [List.length_map]; omega)), ?_⟩ | refine andA ?_ | fail); conv => whnf) | fail
        exact ⟨j, by omega, by omega, by subst hj; exact impA⟩
    have hle : l = 2 := by omega
    subst hle
    repeat' first | with_reducible refine AW_seq ?_ | ((first | with_reducible refine AW_exit ?_ | with_reducible refine AW_region hTt ?_ | fail); conv => whnf) | (refine AW_cond rfl (fun hb => absurd hb (by decide)) (fun _ => ?_)) | ((refine ⟨_, wrap_of (by first | omega | (simp only [List.length_map]; omega)), ?_⟩); conv => whnf) | fail
    exact ⟨(t + 1, pp.1, pp.2.1, pp.2.2), by show t + 1 ≤ xs.length; omega, by show xs.length - (t + 1) < xs.length - t; omega, impA⟩
  · have hte : t = xs.length := by omega
    subst hte
    repeat' first | with_reducible refine AW_seq ?_ | with_reducible refine AW_block ?_ | ((first | with_reducible refine AW_skip ?_ | with_reducible refine AW_exit ?_ | with_reducible refine AW_ret ?_ | with_reducible refine AW_region hTt ?_ | fail); conv => whnf) | (exact absurd hb (by omega)) | (refine AW_cond rfl (fun hb => ?_) (fun hb => ?_) <;> first | (replace hb := of_decide_eq_true hb; try simp only [List.length_map] at hb) | (replace hb := of_decide_eq_false hb; try simp only [List.length_map] at hb) | (simp only [List.length_map, bne_iff_ne, ne_eq, beq_iff_eq, bne_eq_false_iff_eq, beq_eq_false_iff_ne, decide_eq_true_eq, decide_eq_false_iff_not, Bool.not_eq_true', Bool.not_eq_false', Int.natCast_inj] at hb) | skip) | fail
    refine ⟨_, sB n s1 sk s2 (dl0 n) a b c, ⟨rfl, rfl, rfl, rfl, trivial⟩, rfl, (?_ : _ = some (rowsAV ((List.range 2).map fun l => outsR n (flt l) xs xs.length))), (a, b, c), rfl, rfl⟩
    have hk := keepRows (σ := (15, .box [.o 600 xs.length xs.length, .o 601 xs.length xs.length]) :: (600, rwOb n (flt 0) xs xs.length) :: (601, rwOb n (flt 1) xs xs.length) :: sB n s1 sk s2 (dl0 n) a b c) (σ' := sB n s1 sk s2 (dl0 n) a b c) (id := 15) (n := 2) (cap := 2) (ps := [PV.s 1 ((outsR n (flt 0) xs xs.length).map iPV), PV.s 1 ((outsR n (flt 1) xs xs.length).map iPV)]) rfl rfl
      (by repeat' first | exact rfl | refine rowPVs_cons (rowPV_o rfl rfl (by rw [List.length_map, outsR_len])) ?_) rfl
    exact outKeep1 (x := .x (.sb 15 0 2 2)) rfl hk
end Go.Proofs.YtfghooojingdhaaDoor
namespace Go.Proofs.YtfghooojingdhaaDoor
open Go Go.QL
set_option maxHeartbeats 3200000
attribute [local irreducible] ACall FnC
theorem run_3 {n : NetT} (ok : NetOK n) {s1 : Nat} {sk : List (W16 × W16)} (hsk : sk.length = n.inn.toNat + n.gates.length) {s2 s3 k' : Nat} {nw : List W16}
    {flt : Nat → FaultT} (hl : LanesOK sk flt 3) (xs : List Int) (hxl : xs.length ≤ 4096) :
    ACall Tryd.prog 71 [.x (.b 900 0), iv .i64 3, sl xs] (sB n s1 sk s2 (dl0 n) s3 k' nw)
      (fun r σ' => ∃ p : Nat × Nat × List W16, r = rowsAV ((List.range 3).map fun l => outsR n (flt l) xs xs.length) ∧ σ' = sB n s1 sk s2 (dl0 n) p.1 p.2.1 p.2.2) := by
  refine ACall_of_AWD hTt Tryd.func71 rfl (by kernel_rfl) (res := [.tmp 6]) rfl Tryd.ntmps71 (by simp) fun w0 K0 B => ?_
  dsimp only [entry]
  repeat' first | with_reducible refine AW_seq ?_ | with_reducible refine AW_block ?_ | ((first | with_reducible refine AW_region hTt ?_ | refine AW_draw hTt hMix (id := 1) 5 true [0, 1, 0, 4, 3, 31] (by kernel_rfl) rfl rfl (by kernel_rfl) ?_ | refine Or.inr ?_ | refine andA ?_ | fail); conv => whnf) | (refine fun hln => ?_; (try rw [List.length_map] at hln); unfold maxLen at hln; conv => whnf) | fail
  refine AW_imp (Imp.freeze 17 (fr' := frR n flt xs 3) (σ' := (15, .box (cellsN 3 0 0)) :: sB n s1 sk s2 (dl0 n) s3 k' nw) rfl ?_ ?_ rfl rfl) ?_
  · exact ⟨⟨_, rfl, .inl rfl⟩, ⟨_, congrArg (fun k : Nat => some (iv .i64 k)) (List.length_map _), .inl rfl⟩, ⟨_, rfl, .inl rfl⟩, ⟨_, rfl, .inl rfl⟩, ⟨_, rfl, .inr ⟨3, rfl, Nat.le_of_ble_eq_true rfl, rfl⟩⟩, ⟨_, rfl, .inl rfl⟩, trivial⟩
  · exact ⟨rfl, rfl, rfl, rfl, rfl, trivial⟩
  refine AW_imp (Imp.nil 600 3 1 (fr' := frR n flt xs 3) (σ' := chN 0 ((15, .box (cellsN 3 0 1)) :: sB n s1 sk s2 (dl0 n) s3 k' nw)) rfl ⟨⟨_, rfl, .inl rfl⟩, ⟨_, rfl, .inl rfl⟩, ⟨_, rfl, .inl rfl⟩, ⟨_, rfl, .inl rfl⟩, ⟨_, rfl, .inl rfl⟩, ⟨_, rfl, .inl rfl⟩, trivial⟩ ?_ rfl rfl) ?_
  · exact ⟨⟨_, rfl, .inr ⟨_, _, rfl, rfl, .inr ⟨rfl, rfl⟩, .inl rfl, .inl rfl, trivial⟩⟩, ⟨_, rfl, .inl rfl⟩, ⟨_, rfl, .inl rfl⟩, ⟨_, rfl, .inl rfl⟩, ⟨_, rfl, .inl rfl⟩, trivial⟩
  refine AW_imp (Imp.nil 601 3 1 (fr' := frR n flt xs 3) (σ' := chN 1 ((15, .box (cellsN 3 0 2)) :: sB n s1 sk s2 (dl0 n) s3 k' nw)) rfl ⟨⟨_, rfl, .inl rfl⟩, ⟨_, rfl, .inl rfl⟩, ⟨_, rfl, .inl rfl⟩, ⟨_, rfl, .inl rfl⟩, ⟨_, rfl, .inl rfl⟩, ⟨_, rfl, .inl rfl⟩, trivial⟩ ?_ rfl rfl) ?_
  · exact ⟨⟨_, rfl, .inl rfl⟩, ⟨_, rfl, .inr ⟨_, _, rfl, rfl, .inl rfl, .inr ⟨rfl, rfl⟩, .inl rfl, trivial⟩⟩, ⟨_, rfl, .inl rfl⟩, ⟨_, rfl, .inl rfl⟩, ⟨_, rfl, .inl rfl⟩, ⟨_, rfl, .inl rfl⟩, trivial⟩
  refine AW_imp (Imp.nil 602 3 1 (fr' := frR n flt xs 3) (σ' := chN 2 ((15, .box (cellsN 3 0 3)) :: sB n s1 sk s2 (dl0 n) s3 k' nw)) rfl ⟨⟨_, rfl, .inl rfl⟩, ⟨_, rfl, .inl rfl⟩, ⟨_, rfl, .inl rfl⟩, ⟨_, rfl, .inl rfl⟩, ⟨_, rfl, .inl rfl⟩, ⟨_, rfl, .inl rfl⟩, trivial⟩ ?_ rfl rfl) ?_
  · exact ⟨⟨_, rfl, .inl rfl⟩, ⟨_, rfl, .inl rfl⟩, ⟨_, rfl, .inr ⟨_, _, rfl, rfl, .inl rfl, .inl rfl, .inr ⟨rfl, rfl⟩, trivial⟩⟩, ⟨_, rfl, .inl rfl⟩, ⟨_, rfl, .inl rfl⟩, ⟨_, rfl, .inl rfl⟩, ⟨_, rfl, .inl rfl⟩, trivial⟩
  refine AW_loop (fun p : Nat × Nat × Nat × List W16 => [(20, iv .i64 p.1), (19, iv .i64 xs.length), (18, sl xs), (7, .x (.sb 15 0 3 3)), (8, sl (stsL n flt xs 3 p.1)), (0, .x (.b 900 0))])
    (fun p => (15, .box [.o 600 (p.1) (p.1), .o 601 (p.1) (p.1), .o 602 (p.1) (p.1)]) :: (600, rwOb n (flt 0) xs (p.1)) :: (601, rwOb n (flt 1) xs (p.1)) :: (602, rwOb n (flt 2) xs (p.1)) :: sB n s1 sk s2 (dl0 n) p.2.1 p.2.2.1 p.2.2.2)
    (fun p => p.1 ≤ xs.length) (fun p => xs.length - p.1) (0, s3, k', nw) (Nat.zero_le _) impA ?_
  rintro ⟨t, a, b, c⟩ ht
  dsimp only at ht ⊢
  rcases Nat.lt_or_ge t xs.length with htl | htl
  · have hbeat := fun s3 k' nw => beat_lanes ok (s1 := s1) hsk (s2 := s2) (s3 := s3) (k' := k') (nw := nw) (k := 3) (by decide) hl xs t xs[t] (getDI htl)
    have hol := otsL_len n flt xs 3 t
    repeat' first | with_reducible refine AW_seq ?_ | with_reducible refine AW_block ?_ | ((first | with_reducible refine AW_skip ?_ | with_reducible refine AW_exit ?_ | with_reducible refine AW_ret ?_ | with_reducible refine AW_region hTt ?_ | fail); conv => whnf) | (exact absurd hb (by omega)) | ((refine ⟨_, (hbeat a b c).frame (asc []) (by repeat (first | exact trivial | refine ⟨rfl, ?_⟩)) rfl (by rintro _ _ ⟨_, rfl, rfl⟩; rfl), ?_⟩); (rintro _ _ ⟨_, _, ⟨_, rfl, rfl⟩, rfl, rfl⟩); conv => whnf) | (refine AW_cond rfl (fun hb => ?_) (fun hb => ?_) <;> first | (replace hb := of_decide_eq_true hb; try simp only [List.length_map] at hb) | (replace hb := of_decide_eq_false hb; try simp only [List.length_map] at hb) | (simp only [List.length_map, bne_iff_ne, ne_eq, beq_iff_eq, bne_eq_false_iff_eq, beq_eq_false_iff_ne, decide_eq_true_eq, decide_eq_false_iff_not, Bool.not_eq_true', Bool.not_eq_false', Int.natCast_inj] at hb) | skip) | ((first | refine andA ?_ | with_reducible refine Exists.intro _ (And.intro (gd_any (And.intro (by omega) (map_get (by omega)))) ?_) | fail); conv => whnf) | (refine fun hln => ?_; (try rw [List.length_map] at hln); unfold maxLen at hln; conv => whnf) | fail
    rename_i pp
    refine AW_loop (fun l : Nat => [(33, iv .i64 l), (32, iv .i64 3), (31, sl (otsL n flt xs 3 t)), (20, iv .i64 t), (19, iv .i64 xs.length), (18, sl xs), (7, .x (.sb 15 0 3 3)), (8, sl (stsL n flt xs 3 (t + 1))), (0, .x (.b 900 0))])
      (fun l => (15, .box [.o 600 (t + bt 0 l) (t + bt 0 l), .o 601 (t + bt 1 l) (t + bt 1 l), .o 602 (t + bt 2 l) (t + bt 2 l)]) :: (600, rwOb n (flt 0) xs (t + bt 0 l)) :: (601, rwOb n (flt 1) xs (t + bt 1 l)) :: (602, rwOb n (flt 2) xs (t + bt 2 l)) :: sB n s1 sk s2 (dl0 n) pp.1 pp.2.1 pp.2.2) (fun l => l ≤ 3) (fun l => 3 - l) 0 (Nat.zero_le _) impA ?_
    intro l hlk
    rcases Nat.lt_or_ge l 3 with hll | hll
    · have hg := ots_at n flt xs t hll
      have e := row_app n (flt l) xs t l
      have hq := bt_self l
      have hz := outsR_len n (flt l) xs (t + bt l l)
      obtain ⟨j, hj⟩ : ∃ j, j = l + 1 := ⟨_, rfl⟩
      have hl' : l = 0 ∨ l = 1 ∨ l = 2 := by omega
      clear hol hbeat ht hlk hll
      rcases hl' with rfl | rfl | rfl
      all_goals
        repeat' first | with_reducible refine AW_seq ?_ | with_reducible refine AW_block ?_ | ((first | with_reducible refine AW_skip ?_ | with_reducible refine AW_region hTt ?_ | with_reducible refine Exists.intro _ (And.intro (gd_any (And.intro (by omega) hg)) ?_) | refine And.intro (gd_any (And.intro (by decide) (by decide))) ?_ | fail); conv => whnf) | ((refine And.intro ?_ ?_; focus (refine ⟨?_, ?_, ?_⟩ <;> simp [chunk, maxLen] <;> omega)); conv => whnf) | (refine AW_cond rfl (fun _ => ?_) (fun hb => absurd hb (by decide))) | ((first | refine ⟨_, wrap_of (by first | omega | (simp only [List.length_map]; omega)), ?_⟩ | refine andA ?_ | fail); conv => whnf) | fail
        exact ⟨j, by omega, by omega, by subst hj; exact impA⟩
    have hle : l = 3 := by omega
    subst hle
    repeat' first | with_reducible refine AW_seq ?_ | ((first | with_reducible refine AW_exit ?_ | with_reducible refine AW_region hTt ?_ | fail); conv => whnf) | (refine AW_cond rfl (fun hb => absurd hb (by decide)) (fun _ => ?_)) | ((refine ⟨_, wrap_of (by first | omega | (simp only [List.length_map]; omega)), ?_⟩); conv => whnf) | fail
    exact ⟨(t + 1, pp.1, pp.2.1, pp.2.2), by show t + 1 ≤ xs.length; omega, by show xs.length - (t + 1) < xs.length - t; omega, impA⟩
  · have hte : t = xs.length := by omega
    subst hte
    repeat' first | with_reducible refine AW_seq ?_ | with_reducible refine AW_block ?_ | ((first | with_reducible refine AW_skip ?_ | with_reducible refine AW_exit ?_ | with_reducible refine AW_ret ?_ | with_reducible refine AW_region hTt ?_ | fail); conv => whnf) | (exact absurd hb (by omega)) | (refine AW_cond rfl (fun hb => ?_) (fun hb => ?_) <;> first | (replace hb := of_decide_eq_true hb; try simp only [List.length_map] at hb) | (replace hb := of_decide_eq_false hb; try simp only [List.length_map] at hb) | (simp only [List.length_map, bne_iff_ne, ne_eq, beq_iff_eq, bne_eq_false_iff_eq, beq_eq_false_iff_ne, decide_eq_true_eq, decide_eq_false_iff_not, Bool.not_eq_true', Bool.not_eq_false', Int.natCast_inj] at hb) | skip) | fail
    refine ⟨_, sB n s1 sk s2 (dl0 n) a b c, ⟨rfl, rfl, rfl, rfl, trivial⟩, rfl, (?_ : _ = some (rowsAV ((List.range 3).map fun l => outsR n (flt l) xs xs.length))), (a, b, c), rfl, rfl⟩
    have hk := keepRows (σ := (15, .box [.o 600 xs.length xs.length, .o 601 xs.length xs.length, .o 602 xs.length xs.length]) :: (600, rwOb n (flt 0) xs xs.length) :: (601, rwOb n (flt 1) xs xs.length) :: (602, rwOb n (flt 2) xs xs.length) :: sB n s1 sk s2 (dl0 n) a b c) (σ' := sB n s1 sk s2 (dl0 n) a b c) (id := 15) (n := 3) (cap := 3) (ps := [PV.s 1 ((outsR n (flt 0) xs xs.length).map iPV), PV.s 1 ((outsR n (flt 1) xs xs.length).map iPV), PV.s 1 ((outsR n (flt 2) xs xs.length).map iPV)]) rfl rfl
      (by repeat' first | exact rfl | refine rowPVs_cons (rowPV_o rfl rfl (by rw [List.length_map, outsR_len])) ?_) rfl
    exact outKeep1 (x := .x (.sb 15 0 3 3)) rfl hk
end Go.Proofs.YtfghooojingdhaaDoor
namespace Go.Proofs.YtfghooojingdhaaDoor
open Go Go.QL
set_option maxHeartbeats 3200000
attribute [local irreducible] ACall FnC
theorem run_4 {n : NetT} (ok : NetOK n) {s1 : Nat} {sk : List (W16 × W16)} (hsk : sk.length = n.inn.toNat + n.gates.length) {s2 s3 k' : Nat} {nw : List W16}
    {flt : Nat → FaultT} (hl : LanesOK sk flt 4) (xs : List Int) (hxl : xs.length ≤ 4096) :
    ACall Tryd.prog 71 [.x (.b 900 0), iv .i64 4, sl xs] (sB n s1 sk s2 (dl0 n) s3 k' nw)
      (fun r σ' => ∃ p : Nat × Nat × List W16, r = rowsAV ((List.range 4).map fun l => outsR n (flt l) xs xs.length) ∧ σ' = sB n s1 sk s2 (dl0 n) p.1 p.2.1 p.2.2) := by
  refine ACall_of_AWD hTt Tryd.func71 rfl (by kernel_rfl) (res := [.tmp 6]) rfl Tryd.ntmps71 (by simp) fun w0 K0 B => ?_
  dsimp only [entry]
  repeat' first | with_reducible refine AW_seq ?_ | with_reducible refine AW_block ?_ | ((first | with_reducible refine AW_region hTt ?_ | refine AW_draw hTt hMix (id := 1) 5 true [0, 1, 0, 4, 3, 31] (by kernel_rfl) rfl rfl (by kernel_rfl) ?_ | refine Or.inr ?_ | refine andA ?_ | fail); conv => whnf) | (refine fun hln => ?_; (try rw [List.length_map] at hln); unfold maxLen at hln; conv => whnf) | fail
  refine AW_imp (Imp.freeze 17 (fr' := frR n flt xs 4) (σ' := (15, .box (cellsN 4 0 0)) :: sB n s1 sk s2 (dl0 n) s3 k' nw) rfl ?_ ?_ rfl rfl) ?_
  · exact ⟨⟨_, rfl, .inl rfl⟩, ⟨_, congrArg (fun k : Nat => some (iv .i64 k)) (List.length_map _), .inl rfl⟩, ⟨_, rfl, .inl rfl⟩, ⟨_, rfl, .inl rfl⟩, ⟨_, rfl, .inr ⟨4, rfl, Nat.le_of_ble_eq_true rfl, rfl⟩⟩, ⟨_, rfl, .inl rfl⟩, trivial⟩
  · exact ⟨rfl, rfl, rfl, rfl, rfl, trivial⟩
  refine AW_imp (Imp.nil 600 3 1 (fr' := frR n flt xs 4) (σ' := chN 0 ((15, .box (cellsN 4 0 1)) :: sB n s1 sk s2 (dl0 n) s3 k' nw)) rfl ⟨⟨_, rfl, .inl rfl⟩, ⟨_, rfl, .inl rfl⟩, ⟨_, rfl, .inl rfl⟩, ⟨_, rfl, .inl rfl⟩, ⟨_, rfl, .inl rfl⟩, ⟨_, rfl, .inl rfl⟩, trivial⟩ ?_ rfl rfl) ?_
  · exact ⟨⟨_, rfl, .inr ⟨_, _, rfl, rfl, .inr ⟨rfl, rfl⟩, .inl rfl, .inl rfl, .inl rfl, trivial⟩⟩, ⟨_, rfl, .inl rfl⟩, ⟨_, rfl, .inl rfl⟩, ⟨_, rfl, .inl rfl⟩, ⟨_, rfl, .inl rfl⟩, trivial⟩
  refine AW_imp (Imp.nil 601 3 1 (fr' := frR n flt xs 4) (σ' := chN 1 ((15, .box (cellsN 4 0 2)) :: sB n s1 sk s2 (dl0 n) s3 k' nw)) rfl ⟨⟨_, rfl, .inl rfl⟩, ⟨_, rfl, .inl rfl⟩, ⟨_, rfl, .inl rfl⟩, ⟨_, rfl, .inl rfl⟩, ⟨_, rfl, .inl rfl⟩, ⟨_, rfl, .inl rfl⟩, trivial⟩ ?_ rfl rfl) ?_
  · exact ⟨⟨_, rfl, .inl rfl⟩, ⟨_, rfl, .inr ⟨_, _, rfl, rfl, .inl rfl, .inr ⟨rfl, rfl⟩, .inl rfl, .inl rfl, trivial⟩⟩, ⟨_, rfl, .inl rfl⟩, ⟨_, rfl, .inl rfl⟩, ⟨_, rfl, .inl rfl⟩, ⟨_, rfl, .inl rfl⟩, trivial⟩
  refine AW_imp (Imp.nil 602 3 1 (fr' := frR n flt xs 4) (σ' := chN 2 ((15, .box (cellsN 4 0 3)) :: sB n s1 sk s2 (dl0 n) s3 k' nw)) rfl ⟨⟨_, rfl, .inl rfl⟩, ⟨_, rfl, .inl rfl⟩, ⟨_, rfl, .inl rfl⟩, ⟨_, rfl, .inl rfl⟩, ⟨_, rfl, .inl rfl⟩, ⟨_, rfl, .inl rfl⟩, trivial⟩ ?_ rfl rfl) ?_
  · exact ⟨⟨_, rfl, .inl rfl⟩, ⟨_, rfl, .inl rfl⟩, ⟨_, rfl, .inr ⟨_, _, rfl, rfl, .inl rfl, .inl rfl, .inr ⟨rfl, rfl⟩, .inl rfl, trivial⟩⟩, ⟨_, rfl, .inl rfl⟩, ⟨_, rfl, .inl rfl⟩, ⟨_, rfl, .inl rfl⟩, ⟨_, rfl, .inl rfl⟩, trivial⟩
  refine AW_imp (Imp.nil 603 3 1 (fr' := frR n flt xs 4) (σ' := chN 3 ((15, .box (cellsN 4 0 4)) :: sB n s1 sk s2 (dl0 n) s3 k' nw)) rfl ⟨⟨_, rfl, .inl rfl⟩, ⟨_, rfl, .inl rfl⟩, ⟨_, rfl, .inl rfl⟩, ⟨_, rfl, .inl rfl⟩, ⟨_, rfl, .inl rfl⟩, ⟨_, rfl, .inl rfl⟩, trivial⟩ ?_ rfl rfl) ?_
  · exact ⟨⟨_, rfl, .inl rfl⟩, ⟨_, rfl, .inl rfl⟩, ⟨_, rfl, .inl rfl⟩, ⟨_, rfl, .inr ⟨_, _, rfl, rfl, .inl rfl, .inl rfl, .inl rfl, .inr ⟨rfl, rfl⟩, trivial⟩⟩, ⟨_, rfl, .inl rfl⟩, ⟨_, rfl, .inl rfl⟩, ⟨_, rfl, .inl rfl⟩, ⟨_, rfl, .inl rfl⟩, trivial⟩
  refine AW_loop (fun p : Nat × Nat × Nat × List W16 => [(20, iv .i64 p.1), (19, iv .i64 xs.length), (18, sl xs), (7, .x (.sb 15 0 4 4)), (8, sl (stsL n flt xs 4 p.1)), (0, .x (.b 900 0))])
    (fun p => (15, .box [.o 600 (p.1) (p.1), .o 601 (p.1) (p.1), .o 602 (p.1) (p.1), .o 603 (p.1) (p.1)]) :: (600, rwOb n (flt 0) xs (p.1)) :: (601, rwOb n (flt 1) xs (p.1)) :: (602, rwOb n (flt 2) xs (p.1)) :: (603, rwOb n (flt 3) xs (p.1)) :: sB n s1 sk s2 (dl0 n) p.2.1 p.2.2.1 p.2.2.2)
    (fun p => p.1 ≤ xs.length) (fun p => xs.length - p.1) (0, s3, k', nw) (Nat.zero_le _) impA ?_
  rintro ⟨t, a, b, c⟩ ht
  dsimp only at ht ⊢
  rcases Nat.lt_or_ge t xs.length with htl | htl
  · have hbeat := fun s3 k' nw => beat_lanes ok (s1 := s1) hsk (s2 := s2) (s3 := s3) (k' := k') (nw := nw) (k := 4) (by decide) hl xs t xs[t] (getDI htl)
    have hol := otsL_len n flt xs 4 t
    repeat' first | with_reducible refine AW_seq ?_ | with_reducible refine AW_block ?_ | ((first | with_reducible refine AW_skip ?_ | with_reducible refine AW_exit ?_ | with_reducible refine AW_ret ?_ | with_reducible refine AW_region hTt ?_ | fail); conv => whnf) | (exact absurd hb (by omega)) | ((refine ⟨_, (hbeat a b c).frame (asc []) (by repeat (first | exact trivial | refine ⟨rfl, ?_⟩)) rfl (by rintro _ _ ⟨_, rfl, rfl⟩; rfl), ?_⟩); (rintro _ _ ⟨_, _, ⟨_, rfl, rfl⟩, rfl, rfl⟩); conv => whnf) | (refine AW_cond rfl (fun hb => ?_) (fun hb => ?_) <;> first | (replace hb := of_decide_eq_true hb; try simp only [List.length_map] at hb) | (replace hb := of_decide_eq_false hb; try simp only [List.length_map] at hb) | (simp only [List.length_map, bne_iff_ne, ne_eq, beq_iff_eq, bne_eq_false_iff_eq, beq_eq_false_iff_ne, decide_eq_true_eq, decide_eq_false_iff_not, Bool.not_eq_true', Bool.not_eq_false', Int.natCast_inj] at hb) | skip) | ((first | refine andA ?_ | with_reducible refine Exists.intro _ (And.intro (gd_any (And.intro (by omega) (map_get (by omega)))) ?_) | fail); conv => whnf) | (refine fun hln => ?_; (try rw [List.length_map] at hln); unfold maxLen at hln; conv => whnf) | fail
    rename_i pp
    refine AW_loop (fun l : Nat => [(33, iv .i64 l), (32, iv .i64 4), (31, sl (otsL n flt xs 4 t)), (20, iv .i64 t), (19, iv .i64 xs.length), (18, sl xs), (7, .x (.sb 15 0 4 4)), (8, sl (stsL n flt xs 4 (t + 1))), (0, .x (.b 900 0))])
      (fun l => (15, .box [.o 600 (t + bt 0 l) (t + bt 0 l), .o 601 (t + bt 1 l) (t + bt 1 l), .o 602 (t + bt 2 l) (t + bt 2 l), .o 603 (t + bt 3 l) (t + bt 3 l)]) :: (600, rwOb n (flt 0) xs (t + bt 0 l)) :: (601, rwOb n (flt 1) xs (t + bt 1 l)) :: (602, rwOb n (flt 2) xs (t + bt 2 l)) :: (603, rwOb n (flt 3) xs (t + bt 3 l)) :: sB n s1 sk s2 (dl0 n) pp.1 pp.2.1 pp.2.2) (fun l => l ≤ 4) (fun l => 4 - l) 0 (Nat.zero_le _) impA ?_
    intro l hlk
    rcases Nat.lt_or_ge l 4 with hll | hll
    · have hg := ots_at n flt xs t hll
      have e := row_app n (flt l) xs t l
      have hq := bt_self l
      have hz := outsR_len n (flt l) xs (t + bt l l)
      obtain ⟨j, hj⟩ : ∃ j, j = l + 1 := ⟨_, rfl⟩
      have hl' : l = 0 ∨ l = 1 ∨ l = 2 ∨ l = 3 := by omega
      clear hol hbeat ht hlk hll
      rcases hl' with rfl | rfl | rfl | rfl
      all_goals
        repeat' first | with_reducible refine AW_seq ?_ | with_reducible refine AW_block ?_ | ((first | with_reducible refine AW_skip ?_ | with_reducible refine AW_region hTt ?_ | with_reducible refine Exists.intro _ (And.intro (gd_any (And.intro (by omega) hg)) ?_) | refine And.intro (gd_any (And.intro (by decide) (by decide))) ?_ | fail); conv => whnf) | ((refine And.intro ?_ ?_; focus (refine ⟨?_, ?_, ?_⟩ <;> simp [chunk, maxLen] <;> omega)); conv => whnf) | (refine AW_cond rfl (fun _ => ?_) (fun hb => absurd hb (by decide))) | ((first | refine ⟨_, wrap_of (by first | omega | (simp only [List.length_map]; omega)), ?_⟩ | refine andA ?_ | fail); conv => whnf) | fail
        exact ⟨j, by omega, by omega, by subst hj; exact impA⟩
    have hle : l = 4 := by omega
    subst hle
    repeat' first | with_reducible refine AW_seq ?_ | ((first | with_reducible refine AW_exit ?_ | with_reducible refine AW_region hTt ?_ | fail); conv => whnf) | (refine AW_cond rfl (fun hb => absurd hb (by decide)) (fun _ => ?_)) | ((refine ⟨_, wrap_of (by first | omega | (simp only [List.length_map]; omega)), ?_⟩); conv => whnf) | fail
    exact ⟨(t + 1, pp.1, pp.2.1, pp.2.2), by show t + 1 ≤ xs.length; omega, by show xs.length - (t + 1) < xs.length - t; omega, impA⟩
  · have hte : t = xs.length := by omega
    subst hte
    repeat' first | with_reducible refine AW_seq ?_ | with_reducible refine AW_block ?_ | ((first | with_reducible refine AW_skip ?_ | with_reducible refine AW_exit ?_ | with_reducible refine AW_ret ?_ | with_reducible refine AW_region hTt ?_ | fail); conv => whnf) | (exact absurd hb (by omega)) | (refine AW_cond rfl (fun hb => ?_) (fun hb => ?_) <;> first | (replace hb := of_decide_eq_true hb; try simp only [List.length_map] at hb) | (replace hb := of_decide_eq_false hb; try simp only [List.length_map] at hb) | (simp only [List.length_map, bne_iff_ne, ne_eq, beq_iff_eq, bne_eq_false_iff_eq, beq_eq_false_iff_ne, decide_eq_true_eq, decide_eq_false_iff_not, Bool.not_eq_true', Bool.not_eq_false', Int.natCast_inj] at hb) | skip) | fail
    refine ⟨_, sB n s1 sk s2 (dl0 n) a b c, ⟨rfl, rfl, rfl, rfl, trivial⟩, rfl, (?_ : _ = some (rowsAV ((List.range 4).map fun l => outsR n (flt l) xs xs.length))), (a, b, c), rfl, rfl⟩
    have hk := keepRows (σ := (15, .box [.o 600 xs.length xs.length, .o 601 xs.length xs.length, .o 602 xs.length xs.length, .o 603 xs.length xs.length]) :: (600, rwOb n (flt 0) xs xs.length) :: (601, rwOb n (flt 1) xs xs.length) :: (602, rwOb n (flt 2) xs xs.length) :: (603, rwOb n (flt 3) xs xs.length) :: sB n s1 sk s2 (dl0 n) a b c) (σ' := sB n s1 sk s2 (dl0 n) a b c) (id := 15) (n := 4) (cap := 4) (ps := [PV.s 1 ((outsR n (flt 0) xs xs.length).map iPV), PV.s 1 ((outsR n (flt 1) xs xs.length).map iPV), PV.s 1 ((outsR n (flt 2) xs xs.length).map iPV), PV.s 1 ((outsR n (flt 3) xs xs.length).map iPV)]) rfl rfl
      (by repeat' first | exact rfl | refine rowPVs_cons (rowPV_o rfl rfl (by rw [List.length_map, outsR_len])) ?_) rfl
    exact outKeep1 (x := .x (.sb 15 0 4 4)) rfl hk
end Go.Proofs.YtfghooojingdhaaDoor
namespace Go.Proofs.YtfghooojingdhaaDoor
open Go Go.QL
set_option maxHeartbeats 3200000
attribute [local irreducible] ACall FnC
theorem run_6 {n : NetT} (ok : NetOK n) {s1 : Nat} {sk : List (W16 × W16)} (hsk : sk.length = n.inn.toNat + n.gates.length) {s2 s3 k' : Nat} {nw : List W16}
    {flt : Nat → FaultT} (hl : LanesOK sk flt 6) (xs : List Int) (hxl : xs.length ≤ 4096) :
    ACall Tryd.prog 71 [.x (.b 900 0), iv .i64 6, sl xs] (sB n s1 sk s2 (dl0 n) s3 k' nw)
      (fun r σ' => ∃ p : Nat × Nat × List W16, r = rowsAV ((List.range 6).map fun l => outsR n (flt l) xs xs.length) ∧ σ' = sB n s1 sk s2 (dl0 n) p.1 p.2.1 p.2.2) := by
  refine ACall_of_AWD hTt Tryd.func71 rfl (by kernel_rfl) (res := [.tmp 6]) rfl Tryd.ntmps71 (by simp) fun w0 K0 B => ?_
  dsimp only [entry]
  repeat' first | with_reducible refine AW_seq ?_ | with_reducible refine AW_block ?_ | ((first | with_reducible refine AW_region hTt ?_ | refine AW_draw hTt hMix (id := 1) 5 true [0, 1, 0, 4, 3, 31] (by kernel_rfl) rfl rfl (by kernel_rfl) ?_ | refine Or.inr ?_ | refine andA ?_ | fail); conv => whnf) | (refine fun hln => ?_; (try rw [List.length_map] at hln); unfold maxLen at hln; conv => whnf) | fail
  refine AW_imp (Imp.freeze 17 (fr' := frR n flt xs 6) (σ' := (15, .box (cellsN 6 0 0)) :: sB n s1 sk s2 (dl0 n) s3 k' nw) rfl ?_ ?_ rfl rfl) ?_
  · exact ⟨⟨_, rfl, .inl rfl⟩, ⟨_, congrArg (fun k : Nat => some (iv .i64 k)) (List.length_map _), .inl rfl⟩, ⟨_, rfl, .inl rfl⟩, ⟨_, rfl, .inl rfl⟩, ⟨_, rfl, .inr ⟨6, rfl, Nat.le_of_ble_eq_true rfl, rfl⟩⟩, ⟨_, rfl, .inl rfl⟩, trivial⟩
  · exact ⟨rfl, rfl, rfl, rfl, rfl, trivial⟩
  refine AW_imp (Imp.nil 600 3 1 (fr' := frR n flt xs 6) (σ' := chN 0 ((15, .box (cellsN 6 0 1)) :: sB n s1 sk s2 (dl0 n) s3 k' nw)) rfl ⟨⟨_, rfl, .inl rfl⟩, ⟨_, rfl, .inl rfl⟩, ⟨_, rfl, .inl rfl⟩, ⟨_, rfl, .inl rfl⟩, ⟨_, rfl, .inl rfl⟩, ⟨_, rfl, .inl rfl⟩, trivial⟩ ?_ rfl rfl) ?_
  · exact ⟨⟨_, rfl, .inr ⟨_, _, rfl, rfl, .inr ⟨rfl, rfl⟩, .inl rfl, .inl rfl, .inl rfl, .inl rfl, .inl rfl, trivial⟩⟩, ⟨_, rfl, .inl rfl⟩, ⟨_, rfl, .inl rfl⟩, ⟨_, rfl, .inl rfl⟩, ⟨_, rfl, .inl rfl⟩, trivial⟩
  refine AW_imp (Imp.nil 601 3 1 (fr' := frR n flt xs 6) (σ' := chN 1 ((15, .box (cellsN 6 0 2)) :: sB n s1 sk s2 (dl0 n) s3 k' nw)) rfl ⟨⟨_, rfl, .inl rfl⟩, ⟨_, rfl, .inl rfl⟩, ⟨_, rfl, .inl rfl⟩, ⟨_, rfl, .inl rfl⟩, ⟨_, rfl, .inl rfl⟩, ⟨_, rfl, .inl rfl⟩, trivial⟩ ?_ rfl rfl) ?_
  · exact ⟨⟨_, rfl, .inl rfl⟩, ⟨_, rfl, .inr ⟨_, _, rfl, rfl, .inl rfl, .inr ⟨rfl, rfl⟩, .inl rfl, .inl rfl, .inl rfl, .inl rfl, trivial⟩⟩, ⟨_, rfl, .inl rfl⟩, ⟨_, rfl, .inl rfl⟩, ⟨_, rfl, .inl rfl⟩, ⟨_, rfl, .inl rfl⟩, trivial⟩
  refine AW_imp (Imp.nil 602 3 1 (fr' := frR n flt xs 6) (σ' := chN 2 ((15, .box (cellsN 6 0 3)) :: sB n s1 sk s2 (dl0 n) s3 k' nw)) rfl ⟨⟨_, rfl, .inl rfl⟩, ⟨_, rfl, .inl rfl⟩, ⟨_, rfl, .inl rfl⟩, ⟨_, rfl, .inl rfl⟩, ⟨_, rfl, .inl rfl⟩, ⟨_, rfl, .inl rfl⟩, trivial⟩ ?_ rfl rfl) ?_
  · exact ⟨⟨_, rfl, .inl rfl⟩, ⟨_, rfl, .inl rfl⟩, ⟨_, rfl, .inr ⟨_, _, rfl, rfl, .inl rfl, .inl rfl, .inr ⟨rfl, rfl⟩, .inl rfl, .inl rfl, .inl rfl, trivial⟩⟩, ⟨_, rfl, .inl rfl⟩, ⟨_, rfl, .inl rfl⟩, ⟨_, rfl, .inl rfl⟩, ⟨_, rfl, .inl rfl⟩, trivial⟩
  refine AW_imp (Imp.nil 603 3 1 (fr' := frR n flt xs 6) (σ' := chN 3 ((15, .box (cellsN 6 0 4)) :: sB n s1 sk s2 (dl0 n) s3 k' nw)) rfl ⟨⟨_, rfl, .inl rfl⟩, ⟨_, rfl, .inl rfl⟩, ⟨_, rfl, .inl rfl⟩, ⟨_, rfl, .inl rfl⟩, ⟨_, rfl, .inl rfl⟩, ⟨_, rfl, .inl rfl⟩, trivial⟩ ?_ rfl rfl) ?_
  · exact ⟨⟨_, rfl, .inl rfl⟩, ⟨_, rfl, .inl rfl⟩, ⟨_, rfl, .inl rfl⟩, ⟨_, rfl, .inr ⟨_, _, rfl, rfl, .inl rfl, .inl rfl, .inl rfl, .inr ⟨rfl, rfl⟩, .inl rfl, .inl rfl, trivial⟩⟩, ⟨_, rfl, .inl rfl⟩, ⟨_, rfl, .inl rfl⟩, ⟨_, rfl, .inl rfl⟩, ⟨_, rfl, .inl rfl⟩, trivial⟩
  refine AW_imp (Imp.nil 604 3 1 (fr' := frR n flt xs 6) (σ' := chN 4 ((15, .box (cellsN 6 0 5)) :: sB n s1 sk s2 (dl0 n) s3 k' nw)) rfl ⟨⟨_, rfl, .inl rfl⟩, ⟨_, rfl, .inl rfl⟩, ⟨_, rfl, .inl rfl⟩, ⟨_, rfl, .inl rfl⟩, ⟨_, rfl, .inl rfl⟩, ⟨_, rfl, .inl rfl⟩, trivial⟩ ?_ rfl rfl) ?_
  · exact ⟨⟨_, rfl, .inl rfl⟩, ⟨_, rfl, .inl rfl⟩, ⟨_, rfl, .inl rfl⟩, ⟨_, rfl, .inl rfl⟩, ⟨_, rfl, .inr ⟨_, _, rfl, rfl, .inl rfl, .inl rfl, .inl rfl, .inl rfl, .inr ⟨rfl, rfl⟩, .inl rfl, trivial⟩⟩, ⟨_, rfl, .inl rfl⟩, ⟨_, rfl, .inl rfl⟩, ⟨_, rfl, .inl rfl⟩, ⟨_, rfl, .inl rfl⟩, trivial⟩
  refine AW_imp (Imp.nil 605 3 1 (fr' := frR n flt xs 6) (σ' := chN 5 ((15, .box (cellsN 6 0 6)) :: sB n s1 sk s2 (dl0 n) s3 k' nw)) rfl ⟨⟨_, rfl, .inl rfl⟩, ⟨_, rfl, .inl rfl⟩, ⟨_, rfl, .inl rfl⟩, ⟨_, rfl, .inl rfl⟩, ⟨_, rfl, .inl rfl⟩, ⟨_, rfl, .inl rfl⟩, trivial⟩ ?_ rfl rfl) ?_
  · exact ⟨⟨_, rfl, .inl rfl⟩, ⟨_, rfl, .inl rfl⟩, ⟨_, rfl, .inl rfl⟩, ⟨_, rfl, .inl rfl⟩, ⟨_, rfl, .inl rfl⟩, ⟨_, rfl, .inr ⟨_, _, rfl, rfl, .inl rfl, .inl rfl, .inl rfl, .inl rfl, .inl rfl, .inr ⟨rfl, rfl⟩, trivial⟩⟩, ⟨_, rfl, .inl rfl⟩, ⟨_, rfl, .inl rfl⟩, ⟨_, rfl, .inl rfl⟩, ⟨_, rfl, .inl rfl⟩, trivial⟩
  refine AW_loop (fun p : Nat × Nat × Nat × List W16 => [(20, iv .i64 p.1), (19, iv .i64 xs.length), (18, sl xs), (7, .x (.sb 15 0 6 6)), (8, sl (stsL n flt xs 6 p.1)), (0, .x (.b 900 0))])
    (fun p => (15, .box [.o 600 (p.1) (p.1), .o 601 (p.1) (p.1), .o 602 (p.1) (p.1), .o 603 (p.1) (p.1), .o 604 (p.1) (p.1), .o 605 (p.1) (p.1)]) :: (600, rwOb n (flt 0) xs (p.1)) :: (601, rwOb n (flt 1) xs (p.1)) :: (602, rwOb n (flt 2) xs (p.1)) :: (603, rwOb n (flt 3) xs (p.1)) :: (604, rwOb n (flt 4) xs (p.1)) :: (605, rwOb n (flt 5) xs (p.1)) :: sB n s1 sk s2 (dl0 n) p.2.1 p.2.2.1 p.2.2.2)
    (fun p => p.1 ≤ xs.length) (fun p => xs.length - p.1) (0, s3, k', nw) (Nat.zero_le _) impA ?_
  rintro ⟨t, a, b, c⟩ ht
  dsimp only at ht ⊢
  rcases Nat.lt_or_ge t xs.length with htl | htl
  · have hbeat := fun s3 k' nw => beat_lanes ok (s1 := s1) hsk (s2 := s2) (s3 := s3) (k' := k') (nw := nw) (k := 6) (by decide) hl xs t xs[t] (getDI htl)
    have hol := otsL_len n flt xs 6 t
    repeat' first | with_reducible refine AW_seq ?_ | with_reducible refine AW_block ?_ | ((first | with_reducible refine AW_skip ?_ | with_reducible refine AW_exit ?_ | with_reducible refine AW_ret ?_ | with_reducible refine AW_region hTt ?_ | fail); conv => whnf) | (exact absurd hb (by omega)) | ((refine ⟨_, (hbeat a b c).frame (asc []) (by repeat (first | exact trivial | refine ⟨rfl, ?_⟩)) rfl (by rintro _ _ ⟨_, rfl, rfl⟩; rfl), ?_⟩); (rintro _ _ ⟨_, _, ⟨_, rfl, rfl⟩, rfl, rfl⟩); conv => whnf) | (refine AW_cond rfl (fun hb => ?_) (fun hb => ?_) <;> first | (replace hb := of_decide_eq_true hb; try simp only [List.length_map] at hb) | (replace hb := of_decide_eq_false hb; try simp only [List.length_map] at hb) | (simp only [List.length_map, bne_iff_ne, ne_eq, beq_iff_eq, bne_eq_false_iff_eq, beq_eq_false_iff_ne, decide_eq_true_eq, decide_eq_false_iff_not, Bool.not_eq_true', Bool.not_eq_false', Int.natCast_inj] at hb) | skip) | ((first | refine andA ?_ | with_reducible refine Exists.intro _ (And.intro (gd_any (And.intro (by omega) (map_get (by omega)))) ?_) | fail); conv => whnf) | (refine fun hln => ?_; (try rw [List.length_map] at hln); unfold maxLen at hln; conv => whnf) | fail
    rename_i pp
    refine AW_loop (fun l : Nat => [(33, iv .i64 l), (32, iv .i64 6), (31, sl (otsL n flt xs 6 t)), (20, iv .i64 t), (19, iv .i64 xs.length), (18, sl xs), (7, .x (.sb 15 0 6 6)), (8, sl (stsL n flt xs 6 (t + 1))), (0, .x (.b 900 0))])
      (fun l => (15, .box [.o 600 (t + bt 0 l) (t + bt 0 l), .o 601 (t + bt 1 l) (t + bt 1 l), .o 602 (t + bt 2 l) (t + bt 2 l), .o 603 (t + bt 3 l) (t + bt 3 l), .o 604 (t + bt 4 l) (t + bt 4 l), .o 605 (t + bt 5 l) (t + bt 5 l)]) :: (600, rwOb n (flt 0) xs (t + bt 0 l)) :: (601, rwOb n (flt 1) xs (t + bt 1 l)) :: (602, rwOb n (flt 2) xs (t + bt 2 l)) :: (603, rwOb n (flt 3) xs (t + bt 3 l)) :: (604, rwOb n (flt 4) xs (t + bt 4 l)) :: (605, rwOb n (flt 5) xs (t + bt 5 l)) :: sB n s1 sk s2 (dl0 n) pp.1 pp.2.1 pp.2.2) (fun l => l ≤ 6) (fun l => 6 - l) 0 (Nat.zero_le _) impA ?_
    intro l hlk
    rcases Nat.lt_or_ge l 6 with hll | hll
    · have hg := ots_at n flt xs t hll
      have e := row_app n (flt l) xs t l
      have hq := bt_self l
      have hz := outsR_len n (flt l) xs (t + bt l l)
      obtain ⟨j, hj⟩ : ∃ j, j = l + 1 := ⟨_, rfl⟩
      have hl' : l = 0 ∨ l = 1 ∨ l = 2 ∨ l = 3 ∨ l = 4 ∨ l = 5 := by omega
      clear hol hbeat ht hlk hll
      rcases hl' with rfl | rfl | rfl | rfl | rfl | rfl
      all_goals
        repeat' first | with_reducible refine AW_seq ?_ | with_reducible refine AW_block ?_ | ((first | with_reducible refine AW_skip ?_ | with_reducible refine AW_region hTt ?_ | with_reducible refine Exists.intro _ (And.intro (gd_any (And.intro (by omega) hg)) ?_) | refine And.intro (gd_any (And.intro (by decide) (by decide))) ?_ | fail); conv => whnf) | ((refine And.intro ?_ ?_; focus (refine ⟨?_, ?_, ?_⟩ <;> simp [chunk, maxLen] <;> omega)); conv => whnf) | (refine AW_cond rfl (fun _ => ?_) (fun hb => absurd hb (by decide))) | ((first | refine ⟨_, wrap_of (by first | omega | (simp only [List.length_map]; omega)), ?_⟩ | refine andA ?_ | fail); conv => whnf) | fail
        exact ⟨j, by omega, by omega, by subst hj; exact impA⟩
    have hle : l = 6 := by omega
    subst hle
    repeat' first | with_reducible refine AW_seq ?_ | ((first | with_reducible refine AW_exit ?_ | with_reducible refine AW_region hTt ?_ | fail); conv => whnf) | (refine AW_cond rfl (fun hb => absurd hb (by decide)) (fun _ => ?_)) | ((refine ⟨_, wrap_of (by first | omega | (simp only [List.length_map]; omega)), ?_⟩); conv => whnf) | fail
    exact ⟨(t + 1, pp.1, pp.2.1, pp.2.2), by show t + 1 ≤ xs.length; omega, by show xs.length - (t + 1) < xs.length - t; omega, impA⟩
  · have hte : t = xs.length := by omega
    subst hte
    repeat' first | with_reducible refine AW_seq ?_ | with_reducible refine AW_block ?_ | ((first | with_reducible refine AW_skip ?_ | with_reducible refine AW_exit ?_ | with_reducible refine AW_ret ?_ | with_reducible refine AW_region hTt ?_ | fail); conv => whnf) | (exact absurd hb (by omega)) | (refine AW_cond rfl (fun hb => ?_) (fun hb => ?_) <;> first | (replace hb := of_decide_eq_true hb; try simp only [List.length_map] at hb) | (replace hb := of_decide_eq_false hb; try simp only [List.length_map] at hb) | (simp only [List.length_map, bne_iff_ne, ne_eq, beq_iff_eq, bne_eq_false_iff_eq, beq_eq_false_iff_ne, decide_eq_true_eq, decide_eq_false_iff_not, Bool.not_eq_true', Bool.not_eq_false', Int.natCast_inj] at hb) | skip) | fail
    refine ⟨_, sB n s1 sk s2 (dl0 n) a b c, ⟨rfl, rfl, rfl, rfl, trivial⟩, rfl, (?_ : _ = some (rowsAV ((List.range 6).map fun l => outsR n (flt l) xs xs.length))), (a, b, c), rfl, rfl⟩
    have hk := keepRows (σ := (15, .box [.o 600 xs.length xs.length, .o 601 xs.length xs.length, .o 602 xs.length xs.length, .o 603 xs.length xs.length, .o 604 xs.length xs.length, .o 605 xs.length xs.length]) :: (600, rwOb n (flt 0) xs xs.length) :: (601, rwOb n (flt 1) xs xs.length) :: (602, rwOb n (flt 2) xs xs.length) :: (603, rwOb n (flt 3) xs xs.length) :: (604, rwOb n (flt 4) xs xs.length) :: (605, rwOb n (flt 5) xs xs.length) :: sB n s1 sk s2 (dl0 n) a b c) (σ' := sB n s1 sk s2 (dl0 n) a b c) (id := 15) (n := 6) (cap := 6) (ps := [PV.s 1 ((outsR n (flt 0) xs xs.length).map iPV), PV.s 1 ((outsR n (flt 1) xs xs.length).map iPV), PV.s 1 ((outsR n (flt 2) xs xs.length).map iPV), PV.s 1 ((outsR n (flt 3) xs xs.length).map iPV), PV.s 1 ((outsR n (flt 4) xs xs.length).map iPV), PV.s 1 ((outsR n (flt 5) xs xs.length).map iPV)]) rfl rfl
      (by repeat' first | exact rfl | refine rowPVs_cons (rowPV_o rfl rfl (by rw [List.length_map, outsR_len])) ?_) rfl
    exact outKeep1 (x := .x (.sb 15 0 6 6)) rfl hk
end Go.Proofs.YtfghooojingdhaaDoor
namespace Go.Proofs.YtfghooojingdhaaDoor
open Go Go.QL
set_option maxHeartbeats 3200000
attribute [local irreducible] ACall FnC
theorem run_7 {n : NetT} (ok : NetOK n) {s1 : Nat} {sk : List (W16 × W16)} (hsk : sk.length = n.inn.toNat + n.gates.length) {s2 s3 k' : Nat} {nw : List W16}
    {flt : Nat → FaultT} (hl : LanesOK sk flt 7) (xs : List Int) (hxl : xs.length ≤ 4096) :
    ACall Tryd.prog 71 [.x (.b 900 0), iv .i64 7, sl xs] (sB n s1 sk s2 (dl0 n) s3 k' nw)
      (fun r σ' => ∃ p : Nat × Nat × List W16, r = rowsAV ((List.range 7).map fun l => outsR n (flt l) xs xs.length) ∧ σ' = sB n s1 sk s2 (dl0 n) p.1 p.2.1 p.2.2) := by
  refine ACall_of_AWD hTt Tryd.func71 rfl (by kernel_rfl) (res := [.tmp 6]) rfl Tryd.ntmps71 (by simp) fun w0 K0 B => ?_
  dsimp only [entry]
  repeat' first | with_reducible refine AW_seq ?_ | with_reducible refine AW_block ?_ | ((first | with_reducible refine AW_region hTt ?_ | refine AW_draw hTt hMix (id := 1) 5 true [0, 1, 0, 4, 3, 31] (by kernel_rfl) rfl rfl (by kernel_rfl) ?_ | refine Or.inr ?_ | refine andA ?_ | fail); conv => whnf) | (refine fun hln => ?_; (try rw [List.length_map] at hln); unfold maxLen at hln; conv => whnf) | fail
  refine AW_imp (Imp.freeze 17 (fr' := frR n flt xs 7) (σ' := (15, .box (cellsN 7 0 0)) :: sB n s1 sk s2 (dl0 n) s3 k' nw) rfl ?_ ?_ rfl rfl) ?_
  · exact ⟨⟨_, rfl, .inl rfl⟩, ⟨_, congrArg (fun k : Nat => some (iv .i64 k)) (List.length_map _), .inl rfl⟩, ⟨_, rfl, .inl rfl⟩, ⟨_, rfl, .inl rfl⟩, ⟨_, rfl, .inr ⟨7, rfl, Nat.le_of_ble_eq_true rfl, rfl⟩⟩, ⟨_, rfl, .inl rfl⟩, trivial⟩
  · exact ⟨rfl, rfl, rfl, rfl, rfl, trivial⟩
  refine AW_imp (Imp.nil 600 3 1 (fr' := frR n flt xs 7) (σ' := chN 0 ((15, .box (cellsN 7 0 1)) :: sB n s1 sk s2 (dl0 n) s3 k' nw)) rfl ⟨⟨_, rfl, .inl rfl⟩, ⟨_, rfl, .inl rfl⟩, ⟨_, rfl, .inl rfl⟩, ⟨_, rfl, .inl rfl⟩, ⟨_, rfl, .inl rfl⟩, ⟨_, rfl, .inl rfl⟩, trivial⟩ ?_ rfl rfl) ?_
  · exact ⟨⟨_, rfl, .inr ⟨_, _, rfl, rfl, .inr ⟨rfl, rfl⟩, .inl rfl, .inl rfl, .inl rfl, .inl rfl, .inl rfl, .inl rfl, trivial⟩⟩, ⟨_, rfl, .inl rfl⟩, ⟨_, rfl, .inl rfl⟩, ⟨_, rfl, .inl rfl⟩, ⟨_, rfl, .inl rfl⟩, trivial⟩
  refine AW_imp (Imp.nil 601 3 1 (fr' := frR n flt xs 7) (σ' := chN 1 ((15, .box (cellsN 7 0 2)) :: sB n s1 sk s2 (dl0 n) s3 k' nw)) rfl ⟨⟨_, rfl, .inl rfl⟩, ⟨_, rfl, .inl rfl⟩, ⟨_, rfl, .inl rfl⟩, ⟨_, rfl, .inl rfl⟩, ⟨_, rfl, .inl rfl⟩, ⟨_, rfl, .inl rfl⟩, trivial⟩ ?_ rfl rfl) ?_
  · exact ⟨⟨_, rfl, .inl rfl⟩, ⟨_, rfl, .inr ⟨_, _, rfl, rfl, .inl rfl, .inr ⟨rfl, rfl⟩, .inl rfl, .inl rfl, .inl rfl, .inl rfl, .inl rfl, trivial⟩⟩, ⟨_, rfl, .inl rfl⟩, ⟨_, rfl, .inl rfl⟩, ⟨_, rfl, .inl rfl⟩, ⟨_, rfl, .inl rfl⟩, trivial⟩
  refine AW_imp (Imp.nil 602 3 1 (fr' := frR n flt xs 7) (σ' := chN 2 ((15, .box (cellsN 7 0 3)) :: sB n s1 sk s2 (dl0 n) s3 k' nw)) rfl ⟨⟨_, rfl, .inl rfl⟩, ⟨_, rfl, .inl rfl⟩, ⟨_, rfl, .inl rfl⟩, ⟨_, rfl, .inl rfl⟩, ⟨_, rfl, .inl rfl⟩, ⟨_, rfl, .inl rfl⟩, trivial⟩ ?_ rfl rfl) ?_
  · exact ⟨⟨_, rfl, .inl rfl⟩, ⟨_, rfl, .inl rfl⟩, ⟨_, rfl, .inr ⟨_, _, rfl, rfl, .inl rfl, .inl rfl, .inr ⟨rfl, rfl⟩, .inl rfl, .inl rfl, .inl rfl, .inl rfl, trivial⟩⟩, ⟨_, rfl, .inl rfl⟩, ⟨_, rfl, .inl rfl⟩, ⟨_, rfl, .inl rfl⟩, ⟨_, rfl, .inl rfl⟩, trivial⟩
  refine AW_imp (Imp.nil 603 3 1 (fr' := frR n flt xs 7) (σ' := chN 3 ((15, .box (cellsN 7 0 4)) :: sB n s1 sk s2 (dl0 n) s3 k' nw)) rfl ⟨⟨_, rfl, .inl rfl⟩, ⟨_, rfl, .inl rfl⟩, ⟨_, rfl, .inl rfl⟩, ⟨_, rfl, .inl rfl⟩, ⟨_, rfl, .inl rfl⟩, ⟨_, rfl, .inl rfl⟩, trivial⟩ ?_ rfl rfl) ?_
  · exact ⟨⟨_, rfl, .inl rfl⟩, ⟨_, rfl, .inl rfl⟩, ⟨_, rfl, .inl rfl⟩, ⟨_, rfl, .inr ⟨_, _, rfl, rfl, .inl rfl, .inl rfl, .inl rfl, .inr ⟨rfl, rfl⟩, .inl rfl, .inl rfl, .inl rfl, trivial⟩⟩, ⟨_, rfl, .inl rfl⟩, ⟨_, rfl, .inl rfl⟩, ⟨_, rfl, .inl rfl⟩, ⟨_, rfl, .inl rfl⟩, trivial⟩
  refine AW_imp (Imp.nil 604 3 1 (fr' := frR n flt xs 7) (σ' := chN 4 ((15, .box (cellsN 7 0 5)) :: sB n s1 sk s2 (dl0 n) s3 k' nw)) rfl ⟨⟨_, rfl, .inl rfl⟩, ⟨_, rfl, .inl rfl⟩, ⟨_, rfl, .inl rfl⟩, ⟨_, rfl, .inl rfl⟩, ⟨_, rfl, .inl rfl⟩, ⟨_, rfl, .inl rfl⟩, trivial⟩ ?_ rfl rfl) ?_
  · exact ⟨⟨_, rfl, .inl rfl⟩, ⟨_, rfl, .inl rfl⟩, ⟨_, rfl, .inl rfl⟩, ⟨_, rfl, .inl rfl⟩, ⟨_, rfl, .inr ⟨_, _, rfl, rfl, .inl rfl, .inl rfl, .inl rfl, .inl rfl, .inr ⟨rfl, rfl⟩, .inl rfl, .inl rfl, trivial⟩⟩, ⟨_, rfl, .inl rfl⟩, ⟨_, rfl, .inl rfl⟩, ⟨_, rfl, .inl rfl⟩, ⟨_, rfl, .inl rfl⟩, trivial⟩
  refine AW_imp (Imp.nil 605 3 1 (fr' := frR n flt xs 7) (σ' := chN 5 ((15, .box (cellsN 7 0 6)) :: sB n s1 sk s2 (dl0 n) s3 k' nw)) rfl ⟨⟨_, rfl, .inl rfl⟩, ⟨_, rfl, .inl rfl⟩, ⟨_, rfl, .inl rfl⟩, ⟨_, rfl, .inl rfl⟩, ⟨_, rfl, .inl rfl⟩, ⟨_, rfl, .inl rfl⟩, trivial⟩ ?_ rfl rfl) ?_
  · exact ⟨⟨_, rfl, .inl rfl⟩, ⟨_, rfl, .inl rfl⟩, ⟨_, rfl, .inl rfl⟩, ⟨_, rfl, .inl rfl⟩, ⟨_, rfl, .inl rfl⟩, ⟨_, rfl, .inr ⟨_, _, rfl, rfl, .inl rfl, .inl rfl, .inl rfl, .inl rfl, .inl rfl, .inr ⟨rfl, rfl⟩, .inl rfl, trivial⟩⟩, ⟨_, rfl, .inl rfl⟩, ⟨_, rfl, .inl rfl⟩, ⟨_, rfl, .inl rfl⟩, ⟨_, rfl, .inl rfl⟩, trivial⟩
  refine AW_imp (Imp.nil 606 3 1 (fr' := frR n flt xs 7) (σ' := chN 6 ((15, .box (cellsN 7 0 7)) :: sB n s1 sk s2 (dl0 n) s3 k' nw)) rfl ⟨⟨_, rfl, .inl rfl⟩, ⟨_, rfl, .inl rfl⟩, ⟨_, rfl, .inl rfl⟩, ⟨_, rfl, .inl rfl⟩, ⟨_, rfl, .inl rfl⟩, ⟨_, rfl, .inl rfl⟩, trivial⟩ ?_ rfl rfl) ?_
  · exact ⟨⟨_, rfl, .inl rfl⟩, ⟨_, rfl, .inl rfl⟩, ⟨_, rfl, .inl rfl⟩, ⟨_, rfl, .inl rfl⟩, ⟨_, rfl, .inl rfl⟩, ⟨_, rfl, .inl rfl⟩, ⟨_, rfl, .inr ⟨_, _, rfl, rfl, .inl rfl, .inl rfl, .inl rfl, .inl rfl, .inl rfl, .inl rfl, .inr ⟨rfl, rfl⟩, trivial⟩⟩, ⟨_, rfl, .inl rfl⟩, ⟨_, rfl, .inl rfl⟩, ⟨_, rfl, .inl rfl⟩, ⟨_, rfl, .inl rfl⟩, trivial⟩
  refine AW_loop (fun p : Nat × Nat × Nat × List W16 => [(20, iv .i64 p.1), (19, iv .i64 xs.length), (18, sl xs), (7, .x (.sb 15 0 7 7)), (8, sl (stsL n flt xs 7 p.1)), (0, .x (.b 900 0))])
    (fun p => (15, .box [.o 600 (p.1) (p.1), .o 601 (p.1) (p.1), .o 602 (p.1) (p.1), .o 603 (p.1) (p.1), .o 604 (p.1) (p.1), .o 605 (p.1) (p.1), .o 606 (p.1) (p.1)]) :: (600, rwOb n (flt 0) xs (p.1)) :: (601, rwOb n (flt 1) xs (p.1)) :: (602, rwOb n (flt 2) xs (p.1)) :: (603, rwOb n (flt 3) xs (p.1)) :: (604, rwOb n (flt 4) xs (p.1)) :: (605, rwOb n (flt 5) xs (p.1)) :: (606, rwOb n (flt 6) xs (p.1)) :: sB n s1 sk s2 (dl0 n) p.2.1 p.2.2.1 p.2.2.2)
    (fun p => p.1 ≤ xs.length) (fun p => xs.length - p.1) (0, s3, k', nw) (Nat.zero_le _) impA ?_
  rintro ⟨t, a, b, c⟩ ht
  dsimp only at ht ⊢
  rcases Nat.lt_or_ge t xs.length with htl | htl
  · have hbeat := fun s3 k' nw => beat_lanes ok (s1 := s1) hsk (s2 := s2) (s3 := s3) (k' := k') (nw := nw) (k := 7) (by decide) hl xs t xs[t] (getDI htl)
    have hol := otsL_len n flt xs 7 t
    repeat' first | with_reducible refine AW_seq ?_ | with_reducible refine AW_block ?_ | ((first | with_reducible refine AW_skip ?_ | with_reducible refine AW_exit ?_ | with_reducible refine AW_ret ?_ | with_reducible refine AW_region hTt ?_ | fail); conv => whnf) | (exact absurd hb (by omega)) | ((refine ⟨_, (hbeat a b c).frame (asc []) (by repeat (first | exact trivial | refine ⟨rfl, ?_⟩)) rfl (by rintro _ _ ⟨_, rfl, rfl⟩; rfl), ?_⟩); (rintro _ _ ⟨_, _, ⟨_, rfl, rfl⟩, rfl, rfl⟩); conv => whnf) | (refine AW_cond rfl (fun hb => ?_) (fun hb => ?_) <;> first | (replace hb := of_decide_eq_true hb; try simp only [List.length_map] at hb) | (replace hb := of_decide_eq_false hb; try simp only [List.length_map] at hb) | (simp only [List.length_map, bne_iff_ne, ne_eq, beq_iff_eq, bne_eq_false_iff_eq, beq_eq_false_iff_ne, decide_eq_true_eq, decide_eq_false_iff_not, Bool.not_eq_true', Bool.not_eq_false', Int.natCast_inj] at hb) | skip) | ((first | refine andA ?_ | with_reducible refine Exists.intro _ (And.intro (gd_any (And.intro (by omega) (map_get (by omega)))) ?_) | fail); conv => whnf) | (refine fun hln => ?_; (try rw [List.length_map] at hln); unfold maxLen at hln; conv => whnf) | fail
    rename_i pp
    refine AW_loop (fun l : Nat => [(33, iv .i64 l), (32, iv .i64 7), (31, sl (otsL n flt xs 7 t)), (20, iv .i64 t), (19, iv .i64 xs.length), (18, sl xs), (7, .x (.sb 15 0 7 7)), (8, sl (stsL n flt xs 7 (t + 1))), (0, .x (.b 900 0))])
      (fun l => (15, .box [.o 600 (t + bt 0 l) (t + bt 0 l), .o 601 (t + bt 1 l) (t + bt 1 l), .o 602 (t + bt 2 l) (t + bt 2 l), .o 603 (t + bt 3 l) (t + bt 3 l), .o 604 (t + bt 4 l) (t + bt 4 l), .o 605 (t + bt 5 l) (t + bt 5 l), .o 606 (t + bt 6 l) (t + bt 6 l)]) :: (600, rwOb n (flt 0) xs (t + bt 0 l)) :: (601, rwOb n (flt 1) xs (t + bt 1 l)) :: (602, rwOb n (flt 2) xs (t + bt 2 l)) :: (603, rwOb n (flt 3) xs (t + bt 3 l)) :: (604, rwOb n (flt 4) xs (t + bt 4 l)) :: (605, rwOb n (flt 5) xs (t + bt 5 l)) :: (606, rwOb n (flt 6) xs (t + bt 6 l)) :: sB n s1 sk s2 (dl0 n) pp.1 pp.2.1 pp.2.2) (fun l => l ≤ 7) (fun l => 7 - l) 0 (Nat.zero_le _) impA ?_
    intro l hlk
    rcases Nat.lt_or_ge l 7 with hll | hll
    · have hg := ots_at n flt xs t hll
      have e := row_app n (flt l) xs t l
      have hq := bt_self l
      have hz := outsR_len n (flt l) xs (t + bt l l)
      obtain ⟨j, hj⟩ : ∃ j, j = l + 1 := ⟨_, rfl⟩
      have hl' : l = 0 ∨ l = 1 ∨ l = 2 ∨ l = 3 ∨ l = 4 ∨ l = 5 ∨ l = 6 := by omega
      clear hol hbeat ht hlk hll
      rcases hl' with rfl | rfl | rfl | rfl | rfl | rfl | rfl
      all_goals
        repeat' first | with_reducible refine AW_seq ?_ | with_reducible refine AW_block ?_ | ((first | with_reducible refine AW_skip ?_ | with_reducible refine AW_region hTt ?_ | with_reducible refine Exists.intro _ (And.intro (gd_any (And.intro (by omega) hg)) ?_) | refine And.intro (gd_any (And.intro (by decide) (by decide))) ?_ | fail); conv => whnf) | ((refine And.intro ?_ ?_; focus (refine ⟨?_, ?_, ?_⟩ <;> simp [chunk, maxLen] <;> omega)); conv => whnf) | (refine AW_cond rfl (fun _ => ?_) (fun hb => absurd hb (by decide))) | ((first | refine ⟨_, wrap_of (by first | omega | (simp only [List.length_map]; omega)), ?_⟩ | refine andA ?_ | fail); conv => whnf) | fail
        exact ⟨j, by omega, by omega, by subst hj; exact impA⟩
    have hle : l = 7 := by omega
    subst hle
    repeat' first | with_reducible refine AW_seq ?_ | ((first | with_reducible refine AW_exit ?_ | with_reducible refine AW_region hTt ?_ | fail); conv => whnf) | (refine AW_cond rfl (fun hb => absurd hb (by decide)) (fun _ => ?_)) | ((refine ⟨_, wrap_of (by first | omega | (simp only [List.length_map]; omega)), ?_⟩); conv => whnf) | fail
    exact ⟨(t + 1, pp.1, pp.2.1, pp.2.2), by show t + 1 ≤ xs.length; omega, by show xs.length - (t + 1) < xs.length - t; omega, impA⟩
  · have hte : t = xs.length := by omega
    subst hte
    repeat' first | with_reducible refine AW_seq ?_ | with_reducible refine AW_block ?_ | ((first | with_reducible refine AW_skip ?_ | with_reducible refine AW_exit ?_ | with_reducible refine AW_ret ?_ | with_reducible refine AW_region hTt ?_ | fail); conv => whnf) | (exact absurd hb (by omega)) | (refine AW_cond rfl (fun hb => ?_) (fun hb => ?_) <;> first | (replace hb := of_decide_eq_true hb; try simp only [List.length_map] at hb) | (replace hb := of_decide_eq_false hb; try simp only [List.length_map] at hb) | (simp only [List.length_map, bne_iff_ne, ne_eq, beq_iff_eq, bne_eq_false_iff_eq, beq_eq_false_iff_ne, decide_eq_true_eq, decide_eq_false_iff_not, Bool.not_eq_true', Bool.not_eq_false', Int.natCast_inj] at hb) | skip) | fail
    refine ⟨_, sB n s1 sk s2 (dl0 n) a b c, ⟨rfl, rfl, rfl, rfl, trivial⟩, rfl, (?_ : _ = some (rowsAV ((List.range 7).map fun l => outsR n (flt l) xs xs.length))), (a, b, c), rfl, rfl⟩
    have hk := keepRows (σ := (15, .box [.o 600 xs.length xs.length, .o 601 xs.length xs.length, .o 602 xs.length xs.length, .o 603 xs.length xs.length, .o 604 xs.length xs.length, .o 605 xs.length xs.length, .o 606 xs.length xs.length]) :: (600, rwOb n (flt 0) xs xs.length) :: (601, rwOb n (flt 1) xs xs.length) :: (602, rwOb n (flt 2) xs xs.length) :: (603, rwOb n (flt 3) xs xs.length) :: (604, rwOb n (flt 4) xs xs.length) :: (605, rwOb n (flt 5) xs xs.length) :: (606, rwOb n (flt 6) xs xs.length) :: sB n s1 sk s2 (dl0 n) a b c) (σ' := sB n s1 sk s2 (dl0 n) a b c) (id := 15) (n := 7) (cap := 7) (ps := [PV.s 1 ((outsR n (flt 0) xs xs.length).map iPV), PV.s 1 ((outsR n (flt 1) xs xs.length).map iPV), PV.s 1 ((outsR n (flt 2) xs xs.length).map iPV), PV.s 1 ((outsR n (flt 3) xs xs.length).map iPV), PV.s 1 ((outsR n (flt 4) xs xs.length).map iPV), PV.s 1 ((outsR n (flt 5) xs xs.length).map iPV), PV.s 1 ((outsR n (flt 6) xs xs.length).map iPV)]) rfl rfl
      (by repeat' first | exact rfl | refine rowPVs_cons (rowPV_o rfl rfl (by rw [List.length_map, outsR_len])) ?_) rfl
    exact outKeep1 (x := .x (.sb 15 0 7 7)) rfl hk
end Go.Proofs.YtfghooojingdhaaDoor
namespace Go.Proofs.YtfghooojingdhaaDoor
open Go Go.QL
set_option maxHeartbeats 3200000
attribute [local irreducible] ACall FnC
theorem run_8 {n : NetT} (ok : NetOK n) {s1 : Nat} {sk : List (W16 × W16)} (hsk : sk.length = n.inn.toNat + n.gates.length) {s2 s3 k' : Nat} {nw : List W16}
    {flt : Nat → FaultT} (hl : LanesOK sk flt 8) (xs : List Int) (hxl : xs.length ≤ 4096) :
    ACall Tryd.prog 71 [.x (.b 900 0), iv .i64 8, sl xs] (sB n s1 sk s2 (dl0 n) s3 k' nw)
      (fun r σ' => ∃ p : Nat × Nat × List W16, r = rowsAV ((List.range 8).map fun l => outsR n (flt l) xs xs.length) ∧ σ' = sB n s1 sk s2 (dl0 n) p.1 p.2.1 p.2.2) := by
  refine ACall_of_AWD hTt Tryd.func71 rfl (by kernel_rfl) (res := [.tmp 6]) rfl Tryd.ntmps71 (by simp) fun w0 K0 B => ?_
  dsimp only [entry]
  repeat' first | with_reducible refine AW_seq ?_ | with_reducible refine AW_block ?_ | ((first | with_reducible refine AW_region hTt ?_ | refine AW_draw hTt hMix (id := 1) 5 true [0, 1, 0, 4, 3, 31] (by kernel_rfl) rfl rfl (by kernel_rfl) ?_ | refine Or.inr ?_ | refine andA ?_ | fail); conv => whnf) | (refine fun hln => ?_; (try rw [List.length_map] at hln); unfold maxLen at hln; conv => whnf) | fail
  refine AW_imp (Imp.freeze 17 (fr' := frR n flt xs 8) (σ' := (15, .box (cellsN 8 0 0)) :: sB n s1 sk s2 (dl0 n) s3 k' nw) rfl ?_ ?_ rfl rfl) ?_
  · exact ⟨⟨_, rfl, .inl rfl⟩, ⟨_, congrArg (fun k : Nat => some (iv .i64 k)) (List.length_map _), .inl rfl⟩, ⟨_, rfl, .inl rfl⟩, ⟨_, rfl, .inl rfl⟩, ⟨_, rfl, .inr ⟨8, rfl, Nat.le_of_ble_eq_true rfl, rfl⟩⟩, ⟨_, rfl, .inl rfl⟩, trivial⟩
  · exact ⟨rfl, rfl, rfl, rfl, rfl, trivial⟩
  refine AW_imp (Imp.nil 600 3 1 (fr' := frR n flt xs 8) (σ' := chN 0 ((15, .box (cellsN 8 0 1)) :: sB n s1 sk s2 (dl0 n) s3 k' nw)) rfl ⟨⟨_, rfl, .inl rfl⟩, ⟨_, rfl, .inl rfl⟩, ⟨_, rfl, .inl rfl⟩, ⟨_, rfl, .inl rfl⟩, ⟨_, rfl, .inl rfl⟩, ⟨_, rfl, .inl rfl⟩, trivial⟩ ?_ rfl rfl) ?_
  · exact ⟨⟨_, rfl, .inr ⟨_, _, rfl, rfl, .inr ⟨rfl, rfl⟩, .inl rfl, .inl rfl, .inl rfl, .inl rfl, .inl rfl, .inl rfl, .inl rfl, trivial⟩⟩, ⟨_, rfl, .inl rfl⟩, ⟨_, rfl, .inl rfl⟩, ⟨_, rfl, .inl rfl⟩, ⟨_, rfl, .inl rfl⟩, trivial⟩
  refine AW_imp (Imp.nil 601 3 1 (fr' := frR n flt xs 8) (σ' := chN 1 ((15, .box (cellsN 8 0 2)) :: sB n s1 sk s2 (dl0 n) s3 k' nw)) rfl ⟨⟨_, rfl, .inl rfl⟩, ⟨_, rfl, .inl rfl⟩, ⟨_, rfl, .inl rfl⟩, ⟨_, rfl, .inl rfl⟩, ⟨_, rfl, .inl rfl⟩, ⟨_, rfl, .inl rfl⟩, trivial⟩ ?_ rfl rfl) ?_
  · exact ⟨⟨_, rfl, .inl rfl⟩, ⟨_, rfl, .inr ⟨_, _, rfl, rfl, .inl rfl, .inr ⟨rfl, rfl⟩, .inl rfl, .inl rfl, .inl rfl, .inl rfl, .inl rfl, .inl rfl, trivial⟩⟩, ⟨_, rfl, .inl rfl⟩, ⟨_, rfl, .inl rfl⟩, ⟨_, rfl, .inl rfl⟩, ⟨_, rfl, .inl rfl⟩, trivial⟩
  refine AW_imp (Imp.nil 602 3 1 (fr' := frR n flt xs 8) (σ' := chN 2 ((15, .box (cellsN 8 0 3)) :: sB n s1 sk s2 (dl0 n) s3 k' nw)) rfl ⟨⟨_, rfl, .inl rfl⟩, ⟨_, rfl, .inl rfl⟩, ⟨_, rfl, .inl rfl⟩, ⟨_, rfl, .inl rfl⟩, ⟨_, rfl, .inl rfl⟩, ⟨_, rfl, .inl rfl⟩, trivial⟩ ?_ rfl rfl) ?_
  · exact ⟨⟨_, rfl, .inl rfl⟩, ⟨_, rfl, .inl rfl⟩, ⟨_, rfl, .inr ⟨_, _, rfl, rfl, .inl rfl, .inl rfl, .inr ⟨rfl, rfl⟩, .inl rfl, .inl rfl, .inl rfl, .inl rfl, .inl rfl, trivial⟩⟩, ⟨_, rfl, .inl rfl⟩, ⟨_, rfl, .inl rfl⟩, ⟨_, rfl, .inl rfl⟩, ⟨_, rfl, .inl rfl⟩, trivial⟩
  refine AW_imp (Imp.nil 603 3 1 (fr' := frR n flt xs 8) (σ' := chN 3 ((15, .box (cellsN 8 0 4)) :: sB n s1 sk s2 (dl0 n) s3 k' nw)) rfl ⟨⟨_, rfl, .inl rfl⟩, ⟨_, rfl, .inl rfl⟩, ⟨_, rfl, .inl rfl⟩, ⟨_, rfl, .inl rfl⟩, ⟨_, rfl, .inl rfl⟩, ⟨_, rfl, .inl rfl⟩, trivial⟩ ?_ rfl rfl) ?_
  · exact ⟨⟨_, rfl, .inl rfl⟩, ⟨_, rfl, .inl rfl⟩, ⟨_, rfl, .inl rfl⟩, ⟨_, rfl, .inr ⟨_, _, rfl, rfl, .inl rfl, .inl rfl, .inl rfl, .inr ⟨rfl, rfl⟩, .inl rfl, .inl rfl, .inl rfl, .inl rfl, trivial⟩⟩, ⟨_, rfl, .inl rfl⟩, ⟨_, rfl, .inl rfl⟩, ⟨_, rfl, .inl rfl⟩, ⟨_, rfl, .inl rfl⟩, trivial⟩
  refine AW_imp (Imp.nil 604 3 1 (fr' := frR n flt xs 8) (σ' := chN 4 ((15, .box (cellsN 8 0 5)) :: sB n s1 sk s2 (dl0 n) s3 k' nw)) rfl ⟨⟨_, rfl, .inl rfl⟩, ⟨_, rfl, .inl rfl⟩, ⟨_, rfl, .inl rfl⟩, ⟨_, rfl, .inl rfl⟩, ⟨_, rfl, .inl rfl⟩, ⟨_, rfl, .inl rfl⟩, trivial⟩ ?_ rfl rfl) ?_
  · exact ⟨⟨_, rfl, .inl rfl⟩, ⟨_, rfl, .inl rfl⟩, ⟨_, rfl, .inl rfl⟩, ⟨_, rfl, .inl rfl⟩, ⟨_, rfl, .inr ⟨_, _, rfl, rfl, .inl rfl, .inl rfl, .inl rfl, .inl rfl, .inr ⟨rfl, rfl⟩, .inl rfl, .inl rfl, .inl rfl, trivial⟩⟩, ⟨_, rfl, .inl rfl⟩, ⟨_, rfl, .inl rfl⟩, ⟨_, rfl, .inl rfl⟩, ⟨_, rfl, .inl rfl⟩, trivial⟩
  refine AW_imp (Imp.nil 605 3 1 (fr' := frR n flt xs 8) (σ' := chN 5 ((15, .box (cellsN 8 0 6)) :: sB n s1 sk s2 (dl0 n) s3 k' nw)) rfl ⟨⟨_, rfl, .inl rfl⟩, ⟨_, rfl, .inl rfl⟩, ⟨_, rfl, .inl rfl⟩, ⟨_, rfl, .inl rfl⟩, ⟨_, rfl, .inl rfl⟩, ⟨_, rfl, .inl rfl⟩, trivial⟩ ?_ rfl rfl) ?_
  · exact ⟨⟨_, rfl, .inl rfl⟩, ⟨_, rfl, .inl rfl⟩, ⟨_, rfl, .inl rfl⟩, ⟨_, rfl, .inl rfl⟩, ⟨_, rfl, .inl rfl⟩, ⟨_, rfl, .inr ⟨_, _, rfl, rfl, .inl rfl, .inl rfl, .inl rfl, .inl rfl, .inl rfl, .inr ⟨rfl, rfl⟩, .inl rfl, .inl rfl, trivial⟩⟩, ⟨_, rfl, .inl rfl⟩, ⟨_, rfl, .inl rfl⟩, ⟨_, rfl, .inl rfl⟩, ⟨_, rfl, .inl rfl⟩, trivial⟩
  refine AW_imp (Imp.nil 606 3 1 (fr' := frR n flt xs 8) (σ' := chN 6 ((15, .box (cellsN 8 0 7)) :: sB n s1 sk s2 (dl0 n) s3 k' nw)) rfl ⟨⟨_, rfl, .inl rfl⟩, ⟨_, rfl, .inl rfl⟩, ⟨_, rfl, .inl rfl⟩, ⟨_, rfl, .inl rfl⟩, ⟨_, rfl, .inl rfl⟩, ⟨_, rfl, .inl rfl⟩, trivial⟩ ?_ rfl rfl) ?_
  · exact ⟨⟨_, rfl, .inl rfl⟩, ⟨_, rfl, .inl rfl⟩, ⟨_, rfl, .inl rfl⟩, ⟨_, rfl, .inl rfl⟩, ⟨_, rfl, .inl rfl⟩, ⟨_, rfl, .inl rfl⟩, ⟨_, rfl, .inr ⟨_, _, rfl, rfl, .inl rfl, .inl rfl, .inl rfl, .inl rfl, .inl rfl, .inl rfl, .inr ⟨rfl, rfl⟩, .inl rfl, trivial⟩⟩, ⟨_, rfl, .inl rfl⟩, ⟨_, rfl, .inl rfl⟩, ⟨_, rfl, .inl rfl⟩, ⟨_, rfl, .inl rfl⟩, trivial⟩
  refine AW_imp (Imp.nil 607 3 1 (fr' := frR n flt xs 8) (σ' := chN 7 ((15, .box (cellsN 8 0 8)) :: sB n s1 sk s2 (dl0 n) s3 k' nw)) rfl ⟨⟨_, rfl, .inl rfl⟩, ⟨_, rfl, .inl rfl⟩, ⟨_, rfl, .inl rfl⟩, ⟨_, rfl, .inl rfl⟩, ⟨_, rfl, .inl rfl⟩, ⟨_, rfl, .inl rfl⟩, trivial⟩ ?_ rfl rfl) ?_
  · exact ⟨⟨_, rfl, .inl rfl⟩, ⟨_, rfl, .inl rfl⟩, ⟨_, rfl, .inl rfl⟩, ⟨_, rfl, .inl rfl⟩, ⟨_, rfl, .inl rfl⟩, ⟨_, rfl, .inl rfl⟩, ⟨_, rfl, .inl rfl⟩, ⟨_, rfl, .inr ⟨_, _, rfl, rfl, .inl rfl, .inl rfl, .inl rfl, .inl rfl, .inl rfl, .inl rfl, .inl rfl, .inr ⟨rfl, rfl⟩, trivial⟩⟩, ⟨_, rfl, .inl rfl⟩, ⟨_, rfl, .inl rfl⟩, ⟨_, rfl, .inl rfl⟩, ⟨_, rfl, .inl rfl⟩, trivial⟩
  refine AW_loop (fun p : Nat × Nat × Nat × List W16 => [(20, iv .i64 p.1), (19, iv .i64 xs.length), (18, sl xs), (7, .x (.sb 15 0 8 8)), (8, sl (stsL n flt xs 8 p.1)), (0, .x (.b 900 0))])
    (fun p => (15, .box [.o 600 (p.1) (p.1), .o 601 (p.1) (p.1), .o 602 (p.1) (p.1), .o 603 (p.1) (p.1), .o 604 (p.1) (p.1), .o 605 (p.1) (p.1), .o 606 (p.1) (p.1), .o 607 (p.1) (p.1)]) :: (600, rwOb n (flt 0) xs (p.1)) :: (601, rwOb n (flt 1) xs (p.1)) :: (602, rwOb n (flt 2) xs (p.1)) :: (603, rwOb n (flt 3) xs (p.1)) :: (604, rwOb n (flt 4) xs (p.1)) :: (605, rwOb n (flt 5) xs (p.1)) :: (606, rwOb n (flt 6) xs (p.1)) :: (607, rwOb n (flt 7) xs (p.1)) :: sB n s1 sk s2 (dl0 n) p.2.1 p.2.2.1 p.2.2.2)
    (fun p => p.1 ≤ xs.length) (fun p => xs.length - p.1) (0, s3, k', nw) (Nat.zero_le _) impA ?_
  rintro ⟨t, a, b, c⟩ ht
  dsimp only at ht ⊢
  rcases Nat.lt_or_ge t xs.length with htl | htl
  · have hbeat := fun s3 k' nw => beat_lanes ok (s1 := s1) hsk (s2 := s2) (s3 := s3) (k' := k') (nw := nw) (k := 8) (by decide) hl xs t xs[t] (getDI htl)
    have hol := otsL_len n flt xs 8 t
    repeat' first | with_reducible refine AW_seq ?_ | with_reducible refine AW_block ?_ | ((first | with_reducible refine AW_skip ?_ | with_reducible refine AW_exit ?_ | with_reducible refine AW_ret ?_ | with_reducible refine AW_region hTt ?_ | fail); conv => whnf) | (exact absurd hb (by omega)) | ((refine ⟨_, (hbeat a b c).frame (asc []) (by repeat (first | exact trivial | refine ⟨rfl, ?_⟩)) rfl (by rintro _ _ ⟨_, rfl, rfl⟩; rfl), ?_⟩); (rintro _ _ ⟨_, _, ⟨_, rfl, rfl⟩, rfl, rfl⟩); conv => whnf) | (refine AW_cond rfl (fun hb => ?_) (fun hb => ?_) <;> first | (replace hb := of_decide_eq_true hb; try simp only [List.length_map] at hb) | (replace hb := of_decide_eq_false hb; try simp only [List.length_map] at hb) | (simp only [List.length_map, bne_iff_ne, ne_eq, beq_iff_eq, bne_eq_false_iff_eq, beq_eq_false_iff_ne, decide_eq_true_eq, decide_eq_false_iff_not, Bool.not_eq_true', Bool.not_eq_false', Int.natCast_inj] at hb) | skip) | ((first | refine andA ?_ | with_reducible refine Exists.intro _ (And.intro (gd_any (And.intro (by omega) (map_get (by omega)))) ?_) | fail); conv => whnf) | (refine fun hln => ?_; (try rw [List.length_map] at hln); unfold maxLen at hln; conv => whnf) | fail
    rename_i pp
    refine AW_loop (fun l : Nat => [(33, iv .i64 l), (32, iv .i64 8), (31, sl (otsL n flt xs 8 t)), (20, iv .i64 t), (19, iv .i64 xs.length), (18, sl xs), (7, .x (.sb 15 0 8 8)), (8, sl (stsL n flt xs 8 (t + 1))), (0, .x (.b 900 0))])
      (fun l => (15, .box [.o 600 (t + bt 0 l) (t + bt 0 l), .o 601 (t + bt 1 l) (t + bt 1 l), .o 602 (t + bt 2 l) (t + bt 2 l), .o 603 (t + bt 3 l) (t + bt 3 l), .o 604 (t + bt 4 l) (t + bt 4 l), .o 605 (t + bt 5 l) (t + bt 5 l), .o 606 (t + bt 6 l) (t + bt 6 l), .o 607 (t + bt 7 l) (t + bt 7 l)]) :: (600, rwOb n (flt 0) xs (t + bt 0 l)) :: (601, rwOb n (flt 1) xs (t + bt 1 l)) :: (602, rwOb n (flt 2) xs (t + bt 2 l)) :: (603, rwOb n (flt 3) xs (t + bt 3 l)) :: (604, rwOb n (flt 4) xs (t + bt 4 l)) :: (605, rwOb n (flt 5) xs (t + bt 5 l)) :: (606, rwOb n (flt 6) xs (t + bt 6 l)) :: (607, rwOb n (flt 7) xs (t + bt 7 l)) :: sB n s1 sk s2 (dl0 n) pp.1 pp.2.1 pp.2.2) (fun l => l ≤ 8) (fun l => 8 - l) 0 (Nat.zero_le _) impA ?_
    intro l hlk
    rcases Nat.lt_or_ge l 8 with hll | hll
    · have hg := ots_at n flt xs t hll
      have e := row_app n (flt l) xs t l
      have hq := bt_self l
      have hz := outsR_len n (flt l) xs (t + bt l l)
      obtain ⟨j, hj⟩ : ∃ j, j = l + 1 := ⟨_, rfl⟩
      have hl' : l = 0 ∨ l = 1 ∨ l = 2 ∨ l = 3 ∨ l = 4 ∨ l = 5 ∨ l = 6 ∨ l = 7 := by omega
      clear hol hbeat ht hlk hll
      rcases hl' with rfl | rfl | rfl | rfl | rfl | rfl | rfl | rfl
      all_goals
        repeat' first | with_reducible refine AW_seq ?_ | with_reducible refine AW_block ?_ | ((first | with_reducible refine AW_skip ?_ | with_reducible refine AW_region hTt ?_ | with_reducible refine Exists.intro _ (And.intro (gd_any (And.intro (by omega) hg)) ?_) | refine And.intro (gd_any (And.intro (by decide) (by decide))) ?_ | fail); conv => whnf) | ((refine And.intro ?_ ?_; focus (refine ⟨?_, ?_, ?_⟩ <;> simp [chunk, maxLen] <;> omega)); conv => whnf) | (refine AW_cond rfl (fun _ => ?_) (fun hb => absurd hb (by decide))) | ((first | refine ⟨_, wrap_of (by first | omega | (simp only [List.length_map]; omega)), ?_⟩ | refine andA ?_ | fail); conv => whnf) | fail
        exact ⟨j, by omega, by omega, by subst hj; exact impA⟩
    have hle : l = 8 := by omega
    subst hle
    repeat' first | with_reducible refine AW_seq ?_ | ((first | with_reducible refine AW_exit ?_ | with_reducible refine AW_region hTt ?_ | fail); conv => whnf) | (refine AW_cond rfl (fun hb => absurd hb (by decide)) (fun _ => ?_)) | ((refine ⟨_, wrap_of (by first | omega | (simp only [List.length_map]; omega)), ?_⟩); conv => whnf) | fail
    exact ⟨(t + 1, pp.1, pp.2.1, pp.2.2), by show t + 1 ≤ xs.length; omega, by show xs.length - (t + 1) < xs.length - t; omega, impA⟩
  · have hte : t = xs.length := by omega
    subst hte
    repeat' first | with_reducible refine AW_seq ?_ | with_reducible refine AW_block ?_ | ((first | with_reducible refine AW_skip ?_ | with_reducible refine AW_exit ?_ | with_reducible refine AW_ret ?_ | with_reducible refine AW_region hTt ?_ | fail); conv => whnf) | (exact absurd hb (by omega)) | (refine AW_cond rfl (fun hb => ?_) (fun hb => ?_) <;> first | (replace hb := of_decide_eq_true hb; try simp only [List.length_map] at hb) | (replace hb := of_decide_eq_false hb; try simp only [List.length_map] at hb) | (simp only [List.length_map, bne_iff_ne, ne_eq, beq_iff_eq, bne_eq_false_iff_eq, beq_eq_false_iff_ne, decide_eq_true_eq, decide_eq_false_iff_not, Bool.not_eq_true', Bool.not_eq_false', Int.natCast_inj] at hb) | skip) | fail
    refine ⟨_, sB n s1 sk s2 (dl0 n) a b c, ⟨rfl, rfl, rfl, rfl, trivial⟩, rfl, (?_ : _ = some (rowsAV ((List.range 8).map fun l => outsR n (flt l) xs xs.length))), (a, b, c), rfl, rfl⟩
    have hk := keepRows (σ := (15, .box [.o 600 xs.length xs.length, .o 601 xs.length xs.length, .o 602 xs.length xs.length, .o 603 xs.length xs.length, .o 604 xs.length xs.length, .o 605 xs.length xs.length, .o 606 xs.length xs.length, .o 607 xs.length xs.length]) :: (600, rwOb n (flt 0) xs xs.length) :: (601, rwOb n (flt 1) xs xs.length) :: (602, rwOb n (flt 2) xs xs.length) :: (603, rwOb n (flt 3) xs xs.length) :: (604, rwOb n (flt 4) xs xs.length) :: (605, rwOb n (flt 5) xs xs.length) :: (606, rwOb n (flt 6) xs xs.length) :: (607, rwOb n (flt 7) xs xs.length) :: sB n s1 sk s2 (dl0 n) a b c) (σ' := sB n s1 sk s2 (dl0 n) a b c) (id := 15) (n := 8) (cap := 8) (ps := [PV.s 1 ((outsR n (flt 0) xs xs.length).map iPV), PV.s 1 ((outsR n (flt 1) xs xs.length).map iPV), PV.s 1 ((outsR n (flt 2) xs xs.length).map iPV), PV.s 1 ((outsR n (flt 3) xs xs.length).map iPV), PV.s 1 ((outsR n (flt 4) xs xs.length).map iPV), PV.s 1 ((outsR n (flt 5) xs xs.length).map iPV), PV.s 1 ((outsR n (flt 6) xs xs.length).map iPV), PV.s 1 ((outsR n (flt 7) xs xs.length).map iPV)]) rfl rfl
      (by repeat' first | exact rfl | refine rowPVs_cons (rowPV_o rfl rfl (by rw [List.length_map, outsR_len])) ?_) rfl
    exact outKeep1 (x := .x (.sb 15 0 8 8)) rfl hk
end Go.Proofs.YtfghooojingdhaaDoor
namespace Go.Proofs.YtfghooojingdhaaDoor
open Go Go.QL
set_option maxHeartbeats 3200000
attribute [local irreducible] ACall FnC
theorem run_9 {n : NetT} (ok : NetOK n) {s1 : Nat} {sk : List (W16 × W16)} (hsk : sk.length = n.inn.toNat + n.gates.length) {s2 s3 k' : Nat} {nw : List W16}
    {flt : Nat → FaultT} (hl : LanesOK sk flt 9) (xs : List Int) (hxl : xs.length ≤ 4096) :
    ACall Tryd.prog 71 [.x (.b 900 0), iv .i64 9, sl xs] (sB n s1 sk s2 (dl0 n) s3 k' nw)
      (fun r σ' => ∃ p : Nat × Nat × List W16, r = rowsAV ((List.range 9).map fun l => outsR n (flt l) xs xs.length) ∧ σ' = sB n s1 sk s2 (dl0 n) p.1 p.2.1 p.2.2) := by
  refine ACall_of_AWD hTt Tryd.func71 rfl (by kernel_rfl) (res := [.tmp 6]) rfl Tryd.ntmps71 (by simp) fun w0 K0 B => ?_
  dsimp only [entry]
  repeat' first | with_reducible refine AW_seq ?_ | with_reducible refine AW_block ?_ | ((first | with_reducible refine AW_region hTt ?_ | refine AW_draw hTt hMix (id := 1) 5 true [0, 1, 0, 4, 3, 31] (by kernel_rfl) rfl rfl (by kernel_rfl) ?_ | refine Or.inr ?_ | refine andA ?_ | fail); conv => whnf) | (refine fun hln => ?_; (try rw [List.length_map] at hln); unfold maxLen at hln; conv => whnf) | fail
  refine AW_imp (Imp.freeze 17 (fr' := frR n flt xs 9) (σ' := (15, .box (cellsN 9 0 0)) :: sB n s1 sk s2 (dl0 n) s3 k' nw) rfl ?_ ?_ rfl rfl) ?_
  · exact ⟨⟨_, rfl, .inl rfl⟩, ⟨_, congrArg (fun k : Nat => some (iv .i64 k)) (List.length_map _), .inl rfl⟩, ⟨_, rfl, .inl rfl⟩, ⟨_, rfl, .inl rfl⟩, ⟨_, rfl, .inr ⟨9, rfl, Nat.le_of_ble_eq_true rfl, rfl⟩⟩, ⟨_, rfl, .inl rfl⟩, trivial⟩
  · exact ⟨rfl, rfl, rfl, rfl, rfl, trivial⟩
  refine AW_imp (Imp.nil 600 3 1 (fr' := frR n flt xs 9) (σ' := chN 0 ((15, .box (cellsN 9 0 1)) :: sB n s1 sk s2 (dl0 n) s3 k' nw)) rfl ⟨⟨_, rfl, .inl rfl⟩, ⟨_, rfl, .inl rfl⟩, ⟨_, rfl, .inl rfl⟩, ⟨_, rfl, .inl rfl⟩, ⟨_, rfl, .inl rfl⟩, ⟨_, rfl, .inl rfl⟩, trivial⟩ ?_ rfl rfl) ?_
  · exact ⟨⟨_, rfl, .inr ⟨_, _, rfl, rfl, .inr ⟨rfl, rfl⟩, .inl rfl, .inl rfl, .inl rfl, .inl rfl, .inl rfl, .inl rfl, .inl rfl, .inl rfl, trivial⟩⟩, ⟨_, rfl, .inl rfl⟩, ⟨_, rfl, .inl rfl⟩, ⟨_, rfl, .inl rfl⟩, ⟨_, rfl, .inl rfl⟩, trivial⟩
  refine AW_imp (Imp.nil 601 3 1 (fr' := frR n flt xs 9) (σ' := chN 1 ((15, .box (cellsN 9 0 2)) :: sB n s1 sk s2 (dl0 n) s3 k' nw)) rfl ⟨⟨_, rfl, .inl rfl⟩, ⟨_, rfl, .inl rfl⟩, ⟨_, rfl, .inl rfl⟩, ⟨_, rfl, .inl rfl⟩, ⟨_, rfl, .inl rfl⟩, ⟨_, rfl, .inl rfl⟩, trivial⟩ ?_ rfl rfl) ?_
  · exact ⟨⟨_, rfl, .inl rfl⟩, ⟨_, rfl, .inr ⟨_, _, rfl, rfl, .inl rfl, .inr ⟨rfl, rfl⟩, .inl rfl, .inl rfl, .inl rfl, .inl rfl, .inl rfl, .inl rfl, .inl rfl, trivial⟩⟩, ⟨_, rfl, .inl rfl⟩, ⟨_, rfl, .inl rfl⟩, ⟨_, rfl, .inl rfl⟩, ⟨_, rfl, .inl rfl⟩, trivial⟩
  refine AW_imp (Imp.nil 602 3 1 (fr' := frR n flt xs 9) (σ' := chN 2 ((15, .box (cellsN 9 0 3)) :: sB n s1 sk s2 (dl0 n) s3 k' nw)) rfl ⟨⟨_, rfl, .inl rfl⟩, ⟨_, rfl, .inl rfl⟩, ⟨_, rfl, .inl rfl⟩, ⟨_, rfl, .inl rfl⟩, ⟨_, rfl, .inl rfl⟩, ⟨_, rfl, .inl rfl⟩, trivial⟩ ?_ rfl rfl) ?_
  · exact ⟨⟨_, rfl, .inl rfl⟩, ⟨_, rfl, .inl rfl⟩, ⟨_, rfl, .inr ⟨_, _, rfl, rfl, .inl rfl, .inl rfl, .inr ⟨rfl, rfl⟩, .inl rfl, .inl rfl, .inl rfl, .inl rfl, .inl rfl, .inl rfl, trivial⟩⟩, ⟨_, rfl, .inl rfl⟩, ⟨_, rfl, .inl rfl⟩, ⟨_, rfl, .inl rfl⟩, ⟨_, rfl, .inl rfl⟩, trivial⟩
  refine AW_imp (Imp.nil 603 3 1 (fr' := frR n flt xs 9) (σ' := chN 3 ((15, .box (cellsN 9 0 4)) :: sB n s1 sk s2 (dl0 n) s3 k' nw)) rfl ⟨⟨_, rfl, .inl rfl⟩, ⟨_, rfl, .inl rfl⟩, ⟨_, rfl, .inl rfl⟩, ⟨_, rfl, .inl rfl⟩, ⟨_, rfl, .inl rfl⟩, ⟨_, rfl, .inl rfl⟩, trivial⟩ ?_ rfl rfl) ?_
  · exact ⟨⟨_, rfl, .inl rfl⟩, ⟨_, rfl, .inl rfl⟩, ⟨_, rfl, .inl rfl⟩, ⟨_, rfl, .inr ⟨_, _, rfl, rfl, .inl rfl, .inl rfl, .inl rfl, .inr ⟨rfl, rfl⟩, .inl rfl, .inl rfl, .inl rfl, .inl rfl, .inl rfl, trivial⟩⟩, ⟨_, rfl, .inl rfl⟩, ⟨_, rfl, .inl rfl⟩, ⟨_, rfl, .inl rfl⟩, ⟨_, rfl, .inl rfl⟩, trivial⟩
  refine AW_imp (Imp.nil 604 3 1 (fr' := frR n flt xs 9) (σ' := chN 4 ((15, .box (cellsN 9 0 5)) :: sB n s1 sk s2 (dl0 n) s3 k' nw)) rfl ⟨⟨_, rfl, .inl rfl⟩, ⟨_, rfl, .inl rfl⟩, ⟨_, rfl, .inl rfl⟩, ⟨_, rfl, .inl rfl⟩, ⟨_, rfl, .inl rfl⟩, ⟨_, rfl, .inl rfl⟩, trivial⟩ ?_ rfl rfl) ?_
  · exact ⟨⟨_, rfl, .inl rfl⟩, ⟨_, rfl, .inl rfl⟩, ⟨_, rfl, .inl rfl⟩, ⟨_, rfl, .inl rfl⟩, ⟨_, rfl, .inr ⟨_, _, rfl, rfl, .inl rfl, .inl rfl, .inl rfl, .inl rfl, .inr ⟨rfl, rfl⟩, .inl rfl, .inl rfl, .inl rfl, .inl rfl, trivial⟩⟩, ⟨_, rfl, .inl rfl⟩, ⟨_, rfl, .inl rfl⟩, ⟨_, rfl, .inl rfl⟩, ⟨_, rfl, .inl rfl⟩, trivial⟩
  refine AW_imp (Imp.nil 605 3 1 (fr' := frR n flt xs 9) (σ' := chN 5 ((15, .box (cellsN 9 0 6)) :: sB n s1 sk s2 (dl0 n) s3 k' nw)) rfl ⟨⟨_, rfl, .inl rfl⟩, ⟨_, rfl, .inl rfl⟩, ⟨_, rfl, .inl rfl⟩, ⟨_, rfl, .inl rfl⟩, ⟨_, rfl, .inl rfl⟩, ⟨_, rfl, .inl rfl⟩, trivial⟩ ?_ rfl rfl) ?_
  · exact ⟨⟨_, rfl, .inl rfl⟩, ⟨_, rfl, .inl rfl⟩, ⟨_, rfl, .inl rfl⟩, ⟨_, rfl, .inl rfl⟩, ⟨_, rfl, .inl rfl⟩, ⟨_, rfl, .inr ⟨_, _, rfl, rfl, .inl rfl, .inl rfl, .inl rfl, .inl rfl, .inl rfl, .inr ⟨rfl, rfl⟩, .inl rfl, .inl rfl, .inl rfl, trivial⟩⟩, ⟨_, rfl, .inl rfl⟩, ⟨_, rfl, .inl rfl⟩, ⟨_, rfl, .inl rfl⟩, ⟨_, rfl, .inl rfl⟩, trivial⟩
  refine AW_imp (Imp.nil 606 3 1 (fr' := frR n flt xs 9) (σ' := chN 6 ((15, .box (cellsN 9 0 7)) :: sB n s1 sk s2 (dl0 n) s3 k' nw)) rfl ⟨⟨_, rfl, .inl rfl⟩, ⟨_, rfl, .inl rfl⟩, ⟨_, rfl, .inl rfl⟩, ⟨_, rfl, .inl rfl⟩, ⟨_, rfl, .inl rfl⟩, ⟨_, rfl, .inl rfl⟩, trivial⟩ ?_ rfl rfl) ?_
  · exact ⟨⟨_, rfl, .inl rfl⟩, ⟨_, rfl, .inl rfl⟩, ⟨_, rfl, .inl rfl⟩, ⟨_, rfl, .inl rfl⟩, ⟨_, rfl, .inl rfl⟩, ⟨_, rfl, .inl rfl⟩, ⟨_, rfl, .inr ⟨_, _, rfl, rfl, .inl rfl, .inl rfl, .inl rfl, .inl rfl, .inl rfl, .inl rfl, .inr ⟨rfl, rfl⟩, .inl rfl, .inl rfl, trivial⟩⟩, ⟨_, rfl, .inl rfl⟩, ⟨_, rfl, .inl rfl⟩, ⟨_, rfl, .inl rfl⟩, ⟨_, rfl, .inl rfl⟩, trivial⟩
  refine AW_imp (Imp.nil 607 3 1 (fr' := frR n flt xs 9) (σ' := chN 7 ((15, .box (cellsN 9 0 8)) :: sB n s1 sk s2 (dl0 n) s3 k' nw)) rfl ⟨⟨_, rfl, .inl rfl⟩, ⟨_, rfl, .inl rfl⟩, ⟨_, rfl, .inl rfl⟩, ⟨_, rfl, .inl rfl⟩, ⟨_, rfl, .inl rfl⟩, ⟨_, rfl, .inl rfl⟩, trivial⟩ ?_ rfl rfl) ?_
  · exact ⟨⟨_, rfl, .inl rfl⟩, ⟨_, rfl, .inl rfl⟩, ⟨_, rfl, .inl rfl⟩, ⟨_, rfl, .inl rfl⟩, ⟨_, rfl, .inl rfl⟩, ⟨_, rfl, .inl rfl⟩, ⟨_, rfl, .inl rfl⟩, ⟨_, rfl, .inr ⟨_, _, rfl, rfl, .inl rfl, .inl rfl, .inl rfl, .inl rfl, .inl rfl, .inl rfl, .inl rfl, .inr ⟨rfl, rfl⟩, .inl rfl, trivial⟩⟩, ⟨_, rfl, .inl rfl⟩, ⟨_, rfl, .inl rfl⟩, ⟨_, rfl, .inl rfl⟩, ⟨_, rfl, .inl rfl⟩, trivial⟩
  refine AW_imp (Imp.nil 608 3 1 (fr' := frR n flt xs 9) (σ' := chN 8 ((15, .box (cellsN 9 0 9)) :: sB n s1 sk s2 (dl0 n) s3 k' nw)) rfl ⟨⟨_, rfl, .inl rfl⟩, ⟨_, rfl, .inl rfl⟩, ⟨_, rfl, .inl rfl⟩, ⟨_, rfl, .inl rfl⟩, ⟨_, rfl, .inl rfl⟩, ⟨_, rfl, .inl rfl⟩, trivial⟩ ?_ rfl rfl) ?_
  · exact ⟨⟨_, rfl, .inl rfl⟩, ⟨_, rfl, .inl rfl⟩, ⟨_, rfl, .inl rfl⟩, ⟨_, rfl, .inl rfl⟩, ⟨_, rfl, .inl rfl⟩, ⟨_, rfl, .inl rfl⟩, ⟨_, rfl, .inl rfl⟩, ⟨_, rfl, .inl rfl⟩, ⟨_, rfl, .inr ⟨_, _, rfl, rfl, .inl rfl, .inl rfl, .inl rfl, .inl rfl, .inl rfl, .inl rfl, .inl rfl, .inl rfl, .inr ⟨rfl, rfl⟩, trivial⟩⟩, ⟨_, rfl, .inl rfl⟩, ⟨_, rfl, .inl rfl⟩, ⟨_, rfl, .inl rfl⟩, ⟨_, rfl, .inl rfl⟩, trivial⟩
  refine AW_loop (fun p : Nat × Nat × Nat × List W16 => [(20, iv .i64 p.1), (19, iv .i64 xs.length), (18, sl xs), (7, .x (.sb 15 0 9 9)), (8, sl (stsL n flt xs 9 p.1)), (0, .x (.b 900 0))])
    (fun p => (15, .box [.o 600 (p.1) (p.1), .o 601 (p.1) (p.1), .o 602 (p.1) (p.1), .o 603 (p.1) (p.1), .o 604 (p.1) (p.1), .o 605 (p.1) (p.1), .o 606 (p.1) (p.1), .o 607 (p.1) (p.1), .o 608 (p.1) (p.1)]) :: (600, rwOb n (flt 0) xs (p.1)) :: (601, rwOb n (flt 1) xs (p.1)) :: (602, rwOb n (flt 2) xs (p.1)) :: (603, rwOb n (flt 3) xs (p.1)) :: (604, rwOb n (flt 4) xs (p.1)) :: (605, rwOb n (flt 5) xs (p.1)) :: (606, rwOb n (flt 6) xs (p.1)) :: (607, rwOb n (flt 7) xs (p.1)) :: (608, rwOb n (flt 8) xs (p.1)) :: sB n s1 sk s2 (dl0 n) p.2.1 p.2.2.1 p.2.2.2)
    (fun p => p.1 ≤ xs.length) (fun p => xs.length - p.1) (0, s3, k', nw) (Nat.zero_le _) impA ?_
  rintro ⟨t, a, b, c⟩ ht
  dsimp only at ht ⊢
  rcases Nat.lt_or_ge t xs.length with htl | htl
  · have hbeat := fun s3 k' nw => beat_lanes ok (s1 := s1) hsk (s2 := s2) (s3 := s3) (k' := k') (nw := nw) (k := 9) (by decide) hl xs t xs[t] (getDI htl)
    have hol := otsL_len n flt xs 9 t
    repeat' first | with_reducible refine AW_seq ?_ | with_reducible refine AW_block ?_ | ((first | with_reducible refine AW_skip ?_ | with_reducible refine AW_exit ?_ | with_reducible refine AW_ret ?_ | with_reducible refine AW_region hTt ?_ | fail); conv => whnf) | (exact absurd hb (by omega)) | ((refine ⟨_, (hbeat a b c).frame (asc []) (by repeat (first | exact trivial | refine ⟨rfl, ?_⟩)) rfl (by rintro _ _ ⟨_, rfl, rfl⟩; rfl), ?_⟩); (rintro _ _ ⟨_, _, ⟨_, rfl, rfl⟩, rfl, rfl⟩); conv => whnf) | (refine AW_cond rfl (fun hb => ?_) (fun hb => ?_) <;> first | (replace hb := of_decide_eq_true hb; try simp only [List.length_map] at hb) | (replace hb := of_decide_eq_false hb; try simp only [List.length_map] at hb) | (simp only [List.length_map, bne_iff_ne, ne_eq, beq_iff_eq, bne_eq_false_iff_eq, beq_eq_false_iff_ne, decide_eq_true_eq, decide_eq_false_iff_not, Bool.not_eq_true', Bool.not_eq_false', Int.natCast_inj] at hb) | skip) | ((first | refine andA ?_ | with_reducible refine Exists.intro _ (And.intro (gd_any (And.intro (by omega) (map_get (by omega)))) ?_) | fail); conv => whnf) | (refine fun hln => ?_; (try rw [List.length_map] at hln); unfold maxLen at hln; conv => whnf) | fail
    rename_i pp
    refine AW_loop (fun l : Nat => [(33, iv .i64 l), (32, iv .i64 9), (31, sl (otsL n flt xs 9 t)), (20, iv .i64 t), (19, iv .i64 xs.length), (18, sl xs), (7, .x (.sb 15 0 9 9)), (8, sl (stsL n flt xs 9 (t + 1))), (0, .x (.b 900 0))])
      (fun l => (15, .box [.o 600 (t + bt 0 l) (t + bt 0 l), .o 601 (t + bt 1 l) (t + bt 1 l), .o 602 (t + bt 2 l) (t + bt 2 l), .o 603 (t + bt 3 l) (t + bt 3 l), .o 604 (t + bt 4 l) (t + bt 4 l), .o 605 (t + bt 5 l) (t + bt 5 l), .o 606 (t + bt 6 l) (t + bt 6 l), .o 607 (t + bt 7 l) (t + bt 7 l), .o 608 (t + bt 8 l) (t + bt 8 l)]) :: (600, rwOb n (flt 0) xs (t + bt 0 l)) :: (601, rwOb n (flt 1) xs (t + bt 1 l)) :: (602, rwOb n (flt 2) xs (t + bt 2 l)) :: (603, rwOb n (flt 3) xs (t + bt 3 l)) :: (604, rwOb n (flt 4) xs (t + bt 4 l)) :: (605, rwOb n (flt 5) xs (t + bt 5 l)) :: (606, rwOb n (flt 6) xs (t + bt 6 l)) :: (607, rwOb n (flt 7) xs (t + bt 7 l)) :: (608, rwOb n (flt 8) xs (t + bt 8 l)) :: sB n s1 sk s2 (dl0 n) pp.1 pp.2.1 pp.2.2) (fun l => l ≤ 9) (fun l => 9 - l) 0 (Nat.zero_le _) impA ?_
    intro l hlk
    rcases Nat.lt_or_ge l 9 with hll | hll
    · have hg := ots_at n flt xs t hll
      have e := row_app n (flt l) xs t l
      have hq := bt_self l
      have hz := outsR_len n (flt l) xs (t + bt l l)
      obtain ⟨j, hj⟩ : ∃ j, j = l + 1 := ⟨_, rfl⟩
      have hl' : l = 0 ∨ l = 1 ∨ l = 2 ∨ l = 3 ∨ l = 4 ∨ l = 5 ∨ l = 6 ∨ l = 7 ∨ l = 8 := by omega
      clear hol hbeat ht hlk hll
      rcases hl' with rfl | rfl | rfl | rfl | rfl | rfl | rfl | rfl | rfl
      all_goals
        repeat' first | with_reducible refine AW_seq ?_ | with_reducible refine AW_block ?_ | ((first | with_reducible refine AW_skip ?_ | with_reducible refine AW_region hTt ?_ | with_reducible refine Exists.intro _ (And.intro (gd_any (And.intro (by omega) hg)) ?_) | refine And.intro (gd_any (And.intro (by decide) (by decide))) ?_ | fail); conv => whnf) | ((refine And.intro ?_ ?_; focus (refine ⟨?_, ?_, ?_⟩ <;> simp [chunk, maxLen] <;> omega)); conv => whnf) | (refine AW_cond rfl (fun _ => ?_) (fun hb => absurd hb (by decide))) | ((first | refine ⟨_, wrap_of (by first | omega | (simp only [List.length_map]; omega)), ?_⟩ | refine andA ?_ | fail); conv => whnf) | fail
        exact ⟨j, by omega, by omega, by subst hj; exact impA⟩
    have hle : l = 9 := by omega
    subst hle
    repeat' first | with_reducible refine AW_seq ?_ | ((first | with_reducible refine AW_exit ?_ | with_reducible refine AW_region hTt ?_ | fail); conv => whnf) | (refine AW_cond rfl (fun hb => absurd hb (by decide)) (fun _ => ?_)) | ((refine ⟨_, wrap_of (by first | omega | (simp only [List.length_map]; omega)), ?_⟩); conv => whnf) | fail
    exact ⟨(t + 1, pp.1, pp.2.1, pp.2.2), by show t + 1 ≤ xs.length; omega, by show xs.length - (t + 1) < xs.length - t; omega, impA⟩
  · have hte : t = xs.length := by omega
    subst hte
    repeat' first | with_reducible refine AW_seq ?_ | with_reducible refine AW_block ?_ | ((first | with_reducible refine AW_skip ?_ | with_reducible refine AW_exit ?_ | with_reducible refine AW_ret ?_ | with_reducible refine AW_region hTt ?_ | fail); conv => whnf) | (exact absurd hb (by omega)) | (refine AW_cond rfl (fun hb => ?_) (fun hb => ?_) <;> first | (replace hb := of_decide_eq_true hb; try simp only [List.length_map] at hb) | (replace hb := of_decide_eq_false hb; try simp only [List.length_map] at hb) | (simp only [List.length_map, bne_iff_ne, ne_eq, beq_iff_eq, bne_eq_false_iff_eq, beq_eq_false_iff_ne, decide_eq_true_eq, decide_eq_false_iff_not, Bool.not_eq_true', Bool.not_eq_false', Int.natCast_inj] at hb) | skip) | fail
    refine ⟨_, sB n s1 sk s2 (dl0 n) a b c, ⟨rfl, rfl, rfl, rfl, trivial⟩, rfl, (?_ : _ = some (rowsAV ((List.range 9).map fun l => outsR n (flt l) xs xs.length))), (a, b, c), rfl, rfl⟩
    have hk := keepRows (σ := (15, .box [.o 600 xs.length xs.length, .o 601 xs.length xs.length, .o 602 xs.length xs.length, .o 603 xs.length xs.length, .o 604 xs.length xs.length, .o 605 xs.length xs.length, .o 606 xs.length xs.length, .o 607 xs.length xs.length, .o 608 xs.length xs.length]) :: (600, rwOb n (flt 0) xs xs.length) :: (601, rwOb n (flt 1) xs xs.length) :: (602, rwOb n (flt 2) xs xs.length) :: (603, rwOb n (flt 3) xs xs.length) :: (604, rwOb n (flt 4) xs xs.length) :: (605, rwOb n (flt 5) xs xs.length) :: (606, rwOb n (flt 6) xs xs.length) :: (607, rwOb n (flt 7) xs xs.length) :: (608, rwOb n (flt 8) xs xs.length) :: sB n s1 sk s2 (dl0 n) a b c) (σ' := sB n s1 sk s2 (dl0 n) a b c) (id := 15) (n := 9) (cap := 9) (ps := [PV.s 1 ((outsR n (flt 0) xs xs.length).map iPV), PV.s 1 ((outsR n (flt 1) xs xs.length).map iPV), PV.s 1 ((outsR n (flt 2) xs xs.length).map iPV), PV.s 1 ((outsR n (flt 3) xs xs.length).map iPV), PV.s 1 ((outsR n (flt 4) xs xs.length).map iPV), PV.s 1 ((outsR n (flt 5) xs xs.length).map iPV), PV.s 1 ((outsR n (flt 6) xs xs.length).map iPV), PV.s 1 ((outsR n (flt 7) xs xs.length).map iPV), PV.s 1 ((outsR n (flt 8) xs xs.length).map iPV)]) rfl rfl
      (by repeat' first | exact rfl | refine rowPVs_cons (rowPV_o rfl rfl (by rw [List.length_map, outsR_len])) ?_) rfl
    exact outKeep1 (x := .x (.sb 15 0 9 9)) rfl hk
end Go.Proofs.YtfghooojingdhaaDoor
namespace Go.Proofs.YtfghooojingdhaaDoor
open Go Go.QL
set_option maxHeartbeats 3200000
attribute [local irreducible] ACall FnC
theorem run_10 {n : NetT} (ok : NetOK n) {s1 : Nat} {sk : List (W16 × W16)} (hsk : sk.length = n.inn.toNat + n.gates.length) {s2 s3 k' : Nat} {nw : List W16}
    {flt : Nat → FaultT} (hl : LanesOK sk flt 10) (xs : List Int) (hxl : xs.length ≤ 4096) :
    ACall Tryd.prog 71 [.x (.b 900 0), iv .i64 10, sl xs] (sB n s1 sk s2 (dl0 n) s3 k' nw)
      (fun r σ' => ∃ p : Nat × Nat × List W16, r = rowsAV ((List.range 10).map fun l => outsR n (flt l) xs xs.length) ∧ σ' = sB n s1 sk s2 (dl0 n) p.1 p.2.1 p.2.2) := by
  refine ACall_of_AWD hTt Tryd.func71 rfl (by kernel_rfl) (res := [.tmp 6]) rfl Tryd.ntmps71 (by simp) fun w0 K0 B => ?_
  dsimp only [entry]
  repeat' first | with_reducible refine AW_seq ?_ | with_reducible refine AW_block ?_ | ((first | with_reducible refine AW_region hTt ?_ | refine AW_draw hTt hMix (id := 1) 5 true [0, 1, 0, 4, 3, 31] (by kernel_rfl) rfl rfl (by kernel_rfl) ?_ | refine Or.inr ?_ | refine andA ?_ | fail); conv => whnf) | (refine fun hln => ?_; (try rw [List.length_map] at hln); unfold maxLen at hln; conv => whnf) | fail
  refine AW_imp (Imp.freeze 17 (fr' := frR n flt xs 10) (σ' := (15, .box (cellsN 10 0 0)) :: sB n s1 sk s2 (dl0 n) s3 k' nw) rfl ?_ ?_ rfl rfl) ?_
  · exact ⟨⟨_, rfl, .inl rfl⟩, ⟨_, congrArg (fun k : Nat => some (iv .i64 k)) (List.length_map _), .inl rfl⟩, ⟨_, rfl, .inl rfl⟩, ⟨_, rfl, .inl rfl⟩, ⟨_, rfl, .inr ⟨10, rfl, Nat.le_of_ble_eq_true rfl, rfl⟩⟩, ⟨_, rfl, .inl rfl⟩, trivial⟩
  · exact ⟨rfl, rfl, rfl, rfl, rfl, trivial⟩
  refine AW_imp (Imp.nil 600 3 1 (fr' := frR n flt xs 10) (σ' := chN 0 ((15, .box (cellsN 10 0 1)) :: sB n s1 sk s2 (dl0 n) s3 k' nw)) rfl ⟨⟨_, rfl, .inl rfl⟩, ⟨_, rfl, .inl rfl⟩, ⟨_, rfl, .inl rfl⟩, ⟨_, rfl, .inl rfl⟩, ⟨_, rfl, .inl rfl⟩, ⟨_, rfl, .inl rfl⟩, trivial⟩ ?_ rfl rfl) ?_
  · exact ⟨⟨_, rfl, .inr ⟨_, _, rfl, rfl, .inr ⟨rfl, rfl⟩, .inl rfl, .inl rfl, .inl rfl, .inl rfl, .inl rfl, .inl rfl, .inl rfl, .inl rfl, .inl rfl, trivial⟩⟩, ⟨_, rfl, .inl rfl⟩, ⟨_, rfl, .inl rfl⟩, ⟨_, rfl, .inl rfl⟩, ⟨_, rfl, .inl rfl⟩, trivial⟩
  refine AW_imp (Imp.nil 601 3 1 (fr' := frR n flt xs 10) (σ' := chN 1 ((15, .box (cellsN 10 0 2)) :: sB n s1 sk s2 (dl0 n) s3 k' nw)) rfl ⟨⟨_, rfl, .inl rfl⟩, ⟨_, rfl, .inl rfl⟩, ⟨_, rfl, .inl rfl⟩, ⟨_, rfl, .inl rfl⟩, ⟨_, rfl, .inl rfl⟩, ⟨_, rfl, .inl rfl⟩, trivial⟩ ?_ rfl rfl) ?_
  · exact ⟨⟨_, rfl, .inl rfl⟩, ⟨_, rfl, .inr ⟨_, _, rfl, rfl, .inl rfl, .inr ⟨rfl, rfl⟩, .inl rfl, .inl rfl, .inl rfl, .inl rfl, .inl rfl, .inl rfl, .inl rfl, .inl rfl, trivial⟩⟩, ⟨_, rfl, .inl rfl⟩, ⟨_, rfl, .inl rfl⟩, ⟨_, rfl, .inl rfl⟩, ⟨_, rfl, .inl rfl⟩, trivial⟩
  refine AW_imp (Imp.nil 602 3 1 (fr' := frR n flt xs 10) (σ' := chN 2 ((15, .box (cellsN 10 0 3)) :: sB n s1 sk s2 (dl0 n) s3 k' nw)) rfl ⟨⟨_, rfl, .inl rfl⟩, ⟨_, rfl, .inl rfl⟩, ⟨_, rfl, .inl rfl⟩, ⟨_, rfl, .inl rfl⟩, ⟨_, rfl, .inl rfl⟩, ⟨_, rfl, .inl rfl⟩, trivial⟩ ?_ rfl rfl) ?_
  · exact ⟨⟨_, rfl, .inl rfl⟩, ⟨_, rfl, .inl rfl⟩, ⟨_, rfl, .inr ⟨_, _, rfl, rfl, .inl rfl, .inl rfl, .inr ⟨rfl, rfl⟩, .inl rfl, .inl rfl, .inl rfl, .inl rfl, .inl rfl, .inl rfl, .inl rfl, trivial⟩⟩, ⟨_, rfl, .inl rfl⟩, ⟨_, rfl, .inl rfl⟩, ⟨_, rfl, .inl rfl⟩, ⟨_, rfl, .inl rfl⟩, trivial⟩
  refine AW_imp (Imp.nil 603 3 1 (fr' := frR n flt xs 10) (σ' := chN 3 ((15, .box (cellsN 10 0 4)) :: sB n s1 sk s2 (dl0 n) s3 k' nw)) rfl ⟨⟨_, rfl, .inl rfl⟩, ⟨_, rfl, .inl rfl⟩, ⟨_, rfl, .inl rfl⟩, ⟨_, rfl, .inl rfl⟩, ⟨_, rfl, .inl rfl⟩, ⟨_, rfl, .inl rfl⟩, trivial⟩ ?_ rfl rfl) ?_
  · exact ⟨⟨_, rfl, .inl rfl⟩, ⟨_, rfl, .inl rfl⟩, ⟨_, rfl, .inl rfl⟩, ⟨_, rfl, .inr ⟨_, _, rfl, rfl, .inl rfl, .inl rfl, .inl rfl, .inr ⟨rfl, rfl⟩, .inl rfl, .inl rfl, .inl rfl, .inl rfl, .inl rfl, .inl rfl, trivial⟩⟩, ⟨_, rfl, .inl rfl⟩, ⟨_, rfl, .inl rfl⟩, ⟨_, rfl, .inl rfl⟩, ⟨_, rfl, .inl rfl⟩, trivial⟩
  refine AW_imp (Imp.nil 604 3 1 (fr' := frR n flt xs 10) (σ' := chN 4 ((15, .box (cellsN 10 0 5)) :: sB n s1 sk s2 (dl0 n) s3 k' nw)) rfl ⟨⟨_, rfl, .inl rfl⟩, ⟨_, rfl, .inl rfl⟩, ⟨_, rfl, .inl rfl⟩, ⟨_, rfl, .inl rfl⟩, ⟨_, rfl, .inl rfl⟩, ⟨_, rfl, .inl rfl⟩, trivial⟩ ?_ rfl rfl) ?_
  · exact ⟨⟨_, rfl, .inl rfl⟩, ⟨_, rfl, .inl rfl⟩, ⟨_, rfl, .inl rfl⟩, ⟨_, rfl, .inl rfl⟩, ⟨_, rfl, .inr ⟨_, _, rfl, rfl, .inl rfl, .inl rfl, .inl rfl, .inl rfl, .inr ⟨rfl, rfl⟩, .inl rfl, .inl rfl, .inl rfl, .inl rfl, .inl rfl, trivial⟩⟩, ⟨_, rfl, .inl rfl⟩, ⟨_, rfl, .inl rfl⟩, ⟨_, rfl, .inl rfl⟩, ⟨_, rfl, .inl rfl⟩, trivial⟩
  refine AW_imp (Imp.nil 605 3 1 (fr' := frR n flt xs 10) (σ' := chN 5 ((15, .box (cellsN 10 0 6)) :: sB n s1 sk s2 (dl0 n) s3 k' nw)) rfl ⟨⟨_, rfl, .inl rfl⟩, ⟨_, rfl, .inl rfl⟩, ⟨_, rfl, .inl rfl⟩, ⟨_, rfl, .inl rfl⟩, ⟨_, rfl, .inl rfl⟩, ⟨_, rfl, .inl rfl⟩, trivial⟩ ?_ rfl rfl) ?_
  · exact ⟨⟨_, rfl, .inl rfl⟩, ⟨_, rfl, .inl rfl⟩, ⟨_, rfl, .inl rfl⟩, ⟨_, rfl, .inl rfl⟩, ⟨_, rfl, .inl rfl⟩, ⟨_, rfl, .inr ⟨_, _, rfl, rfl, .inl rfl, .inl rfl, .inl rfl, .inl rfl, .inl rfl, .inr ⟨rfl, rfl⟩, .inl rfl, .inl rfl, .inl rfl, .inl rfl, trivial⟩⟩, ⟨_, rfl, .inl rfl⟩, ⟨_, rfl, .inl rfl⟩, ⟨_, rfl, .inl rfl⟩, ⟨_, rfl, .inl rfl⟩, trivial⟩
  refine AW_imp (Imp.nil 606 3 1 (fr' := frR n flt xs 10) (σ' := chN 6 ((15, .box (cellsN 10 0 7)) :: sB n s1 sk s2 (dl0 n) s3 k' nw)) rfl ⟨⟨_, rfl, .inl rfl⟩, ⟨_, rfl, .inl rfl⟩, ⟨_, rfl, .inl rfl⟩, ⟨_, rfl, .inl rfl⟩, ⟨_, rfl, .inl rfl⟩, ⟨_, rfl, .inl rfl⟩, trivial⟩ ?_ rfl rfl) ?_
  · exact ⟨⟨_, rfl, .inl rfl⟩, ⟨_, rfl, .inl rfl⟩, ⟨_, rfl, .inl rfl⟩, ⟨_, rfl, .inl rfl⟩, ⟨_, rfl, .inl rfl⟩, ⟨_, rfl, .inl rfl⟩, ⟨_, rfl, .inr ⟨_, _, rfl, rfl, .inl rfl, .inl rfl, .inl rfl, .inl rfl, .inl rfl, .inl rfl, .inr ⟨rfl, rfl⟩, .inl rfl, .inl rfl, .inl rfl, trivial⟩⟩, ⟨_, rfl, .inl rfl⟩, ⟨_, rfl, .inl rfl⟩, ⟨_, rfl, .inl rfl⟩, ⟨_, rfl, .inl rfl⟩, trivial⟩
  refine AW_imp (Imp.nil 607 3 1 (fr' := frR n flt xs 10) (σ' := chN 7 ((15, .box (cellsN 10 0 8)) :: sB n s1 sk s2 (dl0 n) s3 k' nw)) rfl ⟨⟨_, rfl, .inl rfl⟩, ⟨_, rfl, .inl rfl⟩, ⟨_, rfl, .inl rfl⟩, ⟨_, rfl, .inl rfl⟩, ⟨_, rfl, .inl rfl⟩, ⟨_, rfl, .inl rfl⟩, trivial⟩ ?_ rfl rfl) ?_
  · exact ⟨⟨_, rfl, .inl rfl⟩, ⟨_, rfl, .inl rfl⟩, ⟨_, rfl, .inl rfl⟩, ⟨_, rfl, .inl rfl⟩, ⟨_, rfl, .inl rfl⟩, ⟨_, rfl, .inl rfl⟩, ⟨_, rfl, .inl rfl⟩, ⟨_, rfl, .inr ⟨_, _, rfl, rfl, .inl rfl, .inl rfl, .inl rfl, .inl rfl, .inl rfl, .inl rfl, .inl rfl, .inr ⟨rfl, rfl⟩, .inl rfl, .inl rfl, trivial⟩⟩, ⟨_, rfl, .inl rfl⟩, ⟨_, rfl, .inl rfl⟩, ⟨_, rfl, .inl rfl⟩, ⟨_, rfl, .inl rfl⟩, trivial⟩
  refine AW_imp (Imp.nil 608 3 1 (fr' := frR n flt xs 10) (σ' := chN 8 ((15, .box (cellsN 10 0 9)) :: sB n s1 sk s2 (dl0 n) s3 k' nw)) rfl ⟨⟨_, rfl, .inl rfl⟩, ⟨_, rfl, .inl rfl⟩, ⟨_, rfl, .inl rfl⟩, ⟨_, rfl, .inl rfl⟩, ⟨_, rfl, .inl rfl⟩, ⟨_, rfl, .inl rfl⟩, trivial⟩ ?_ rfl rfl) ?_
  · exact ⟨⟨_, rfl, .inl rfl⟩, ⟨_, rfl, .inl rfl⟩, ⟨_, rfl, .inl rfl⟩, ⟨_, rfl, .inl rfl⟩, ⟨_, rfl, .inl rfl⟩, ⟨_, rfl, .inl rfl⟩, ⟨_, rfl, .inl rfl⟩, ⟨_, rfl, .inl rfl⟩, ⟨_, rfl, .inr ⟨_, _, rfl, rfl, .inl rfl, .inl rfl, .inl rfl, .inl rfl, .inl rfl, .inl rfl, .inl rfl, .inl rfl, .inr ⟨rfl, rfl⟩, .inl rfl, trivial⟩⟩, ⟨_, rfl, .inl rfl⟩, ⟨_, rfl, .inl rfl⟩, ⟨_, rfl, .inl rfl⟩, ⟨_, rfl, .inl rfl⟩, trivial⟩
  refine AW_imp (Imp.nil 609 3 1 (fr' := frR n flt xs 10) (σ' := chN 9 ((15, .box (cellsN 10 0 10)) :: sB n s1 sk s2 (dl0 n) s3 k' nw)) rfl ⟨⟨_, rfl, .inl rfl⟩, ⟨_, rfl, .inl rfl⟩, ⟨_, rfl, .inl rfl⟩, ⟨_, rfl, .inl rfl⟩, ⟨_, rfl, .inl rfl⟩, ⟨_, rfl, .inl rfl⟩, trivial⟩ ?_ rfl rfl) ?_
  · exact ⟨⟨_, rfl, .inl rfl⟩, ⟨_, rfl, .inl rfl⟩, ⟨_, rfl, .inl rfl⟩, ⟨_, rfl, .inl rfl⟩, ⟨_, rfl, .inl rfl⟩, ⟨_, rfl, .inl rfl⟩, ⟨_, rfl, .inl rfl⟩, ⟨_, rfl, .inl rfl⟩, ⟨_, rfl, .inl rfl⟩, ⟨_, rfl, .inr ⟨_, _, rfl, rfl, .inl rfl, .inl rfl, .inl rfl, .inl rfl, .inl rfl, .inl rfl, .inl rfl, .inl rfl, .inl rfl, .inr ⟨rfl, rfl⟩, trivial⟩⟩, ⟨_, rfl, .inl rfl⟩, ⟨_, rfl, .inl rfl⟩, ⟨_, rfl, .inl rfl⟩, ⟨_, rfl, .inl rfl⟩, trivial⟩
  refine AW_loop (fun p : Nat × Nat × Nat × List W16 => [(20, iv .i64 p.1), (19, iv .i64 xs.length), (18, sl xs), (7, .x (.sb 15 0 10 10)), (8, sl (stsL n flt xs 10 p.1)), (0, .x (.b 900 0))])
    (fun p => (15, .box [.o 600 (p.1) (p.1), .o 601 (p.1) (p.1), .o 602 (p.1) (p.1), .o 603 (p.1) (p.1), .o 604 (p.1) (p.1), .o 605 (p.1) (p.1), .o 606 (p.1) (p.1), .o 607 (p.1) (p.1), .o 608 (p.1) (p.1), .o 609 (p.1) (p.1)]) :: (600, rwOb n (flt 0) xs (p.1)) :: (601, rwOb n (flt 1) xs (p.1)) :: (602, rwOb n (flt 2) xs (p.1)) :: (603, rwOb n (flt 3) xs (p.1)) :: (604, rwOb n (flt 4) xs (p.1)) :: (605, rwOb n (flt 5) xs (p.1)) :: (606, rwOb n (flt 6) xs (p.1)) :: (607, rwOb n (flt 7) xs (p.1)) :: (608, rwOb n (flt 8) xs (p.1)) :: (609, rwOb n (flt 9) xs (p.1)) :: sB n s1 sk s2 (dl0 n) p.2.1 p.2.2.1 p.2.2.2)
    (fun p => p.1 ≤ xs.length) (fun p => xs.length - p.1) (0, s3, k', nw) (Nat.zero_le _) impA ?_
  rintro ⟨t, a, b, c⟩ ht
  dsimp only at ht ⊢
  rcases Nat.lt_or_ge t xs.length with htl | htl
  · have hbeat := fun s3 k' nw => beat_lanes ok (s1 := s1) hsk (s2 := s2) (s3 := s3) (k' := k') (nw := nw) (k := 10) (by decide) hl xs t xs[t] (getDI htl)
    have hol := otsL_len n flt xs 10 t
    repeat' first | with_reducible refine AW_seq ?_ | with_reducible refine AW_block ?_ | ((first | with_reducible refine AW_skip ?_ | with_reducible refine AW_exit ?_ | with_reducible refine AW_ret ?_ | with_reducible refine AW_region hTt ?_ | fail); conv => whnf) | (exact absurd hb (by omega)) | ((refine ⟨_, (hbeat a b c).frame (asc []) (by repeat (first | exact trivial | refine ⟨rfl, ?_⟩)) rfl (by rintro _ _ ⟨_, rfl, rfl⟩; rfl), ?_⟩); (rintro _ _ ⟨_, _, ⟨_, rfl, rfl⟩, rfl, rfl⟩); conv => whnf) | (refine AW_cond rfl (fun hb => ?_) (fun hb => ?_) <;> first | (replace hb := of_decide_eq_true hb; try simp only [List.length_map] at hb) | (replace hb := of_decide_eq_false hb; try simp only [List.length_map] at hb) | (simp only [List.length_map, bne_iff_ne, ne_eq, beq_iff_eq, bne_eq_false_iff_eq, beq_eq_false_iff_ne, decide_eq_true_eq, decide_eq_false_iff_not, Bool.not_eq_true', Bool.not_eq_false', Int.natCast_inj] at hb) | skip) | ((first | refine andA ?_ | with_reducible refine Exists.intro _ (And.intro (gd_any (And.intro (by omega) (map_get (by omega)))) ?_) | fail); conv => whnf) | (refine fun hln => ?_; (try rw [List.length_map] at hln); unfold maxLen at hln; conv => whnf) | fail
    rename_i pp
    refine AW_loop (fun l : Nat => [(33, iv .i64 l), (32, iv .i64 10), (31, sl (otsL n flt xs 10 t)), (20, iv .i64 t), (19, iv .i64 xs.length), (18, sl xs), (7, .x (.sb 15 0 10 10)), (8, sl (stsL n flt xs 10 (t + 1))), (0, .x (.b 900 0))])
      (fun l => (15, .box [.o 600 (t + bt 0 l) (t + bt 0 l), .o 601 (t + bt 1 l) (t + bt 1 l), .o 602 (t + bt 2 l) (t + bt 2 l), .o 603 (t + bt 3 l) (t + bt 3 l), .o 604 (t + bt 4 l) (t + bt 4 l), .o 605 (t + bt 5 l) (t + bt 5 l), .o 606 (t + bt 6 l) (t + bt 6 l), .o 607 (t + bt 7 l) (t + bt 7 l), .o 608 (t + bt 8 l) (t + bt 8 l), .o 609 (t + bt 9 l) (t + bt 9 l)]) :: (600, rwOb n (flt 0) xs (t + bt 0 l)) :: (601, rwOb n (flt 1) xs (t + bt 1 l)) :: (602, rwOb n (flt 2) xs (t + bt 2 l)) :: (603, rwOb n (flt 3) xs (t + bt 3 l)) :: (604, rwOb n (flt 4) xs (t + bt 4 l)) :: (605, rwOb n (flt 5) xs (t + bt 5 l)) :: (606, rwOb n (flt 6) xs (t + bt 6 l)) :: (607, rwOb n (flt 7) xs (t + bt 7 l)) :: (608, rwOb n (flt 8) xs (t + bt 8 l)) :: (609, rwOb n (flt 9) xs (t + bt 9 l)) :: sB n s1 sk s2 (dl0 n) pp.1 pp.2.1 pp.2.2) (fun l => l ≤ 10) (fun l => 10 - l) 0 (Nat.zero_le _) impA ?_
    intro l hlk
    rcases Nat.lt_or_ge l 10 with hll | hll
    · have hg := ots_at n flt xs t hll
      have e := row_app n (flt l) xs t l
      have hq := bt_self l
      have hz := outsR_len n (flt l) xs (t + bt l l)
      obtain ⟨j, hj⟩ : ∃ j, j = l + 1 := ⟨_, rfl⟩
      have hl' : l = 0 ∨ l = 1 ∨ l = 2 ∨ l = 3 ∨ l = 4 ∨ l = 5 ∨ l = 6 ∨ l = 7 ∨ l = 8 ∨ l = 9 := by omega
      clear hol hbeat ht hlk hll
      rcases hl' with rfl | rfl | rfl | rfl | rfl | rfl | rfl | rfl | rfl | rfl
      all_goals
        repeat' first | with_reducible refine AW_seq ?_ | with_reducible refine AW_block ?_ | ((first | with_reducible refine AW_skip ?_ | with_reducible refine AW_region hTt ?_ | with_reducible refine Exists.intro _ (And.intro (gd_any (And.intro (by omega) hg)) ?_) | refine And.intro (gd_any (And.intro (by decide) (by decide))) ?_ | fail); conv => whnf) | ((refine And.intro ?_ ?_; focus (refine ⟨?_, ?_, ?_⟩ <;> simp [chunk, maxLen] <;> omega)); conv => whnf) | (refine AW_cond rfl (fun _ => ?_) (fun hb => absurd hb (by decide))) | ((first | refine ⟨_, wrap_of (by first | omega | (simp only [List.length_map]; omega)), ?_⟩ | refine andA ?_ | fail); conv => whnf) | fail
        exact ⟨j, by omega, by omega, by subst hj; exact impA⟩
    have hle : l = 10 := by omega
    subst hle
    repeat' first | with_reducible refine AW_seq ?_ | ((first | with_reducible refine AW_exit ?_ | with_reducible refine AW_region hTt ?_ | fail); conv => whnf) | (refine AW_cond rfl (fun hb => absurd hb (by decide)) (fun _ => ?_)) | ((refine ⟨_, wrap_of (by first | omega | (simp only [List.length_map]; omega)), ?_⟩); conv => whnf) | fail
    exact ⟨(t + 1, pp.1, pp.2.1, pp.2.2), by show t + 1 ≤ xs.length; omega, by show xs.length - (t + 1) < xs.length - t; omega, impA⟩
  · have hte : t = xs.length := by omega
    subst hte
    repeat' first | with_reducible refine AW_seq ?_ | with_reducible refine AW_block ?_ | ((first | with_reducible refine AW_skip ?_ | with_reducible refine AW_exit ?_ | with_reducible refine AW_ret ?_ | with_reducible refine AW_region hTt ?_ | fail); conv => whnf) | (exact absurd hb (by omega)) | (refine AW_cond rfl (fun hb => ?_) (fun hb => ?_) <;> first | (replace hb := of_decide_eq_true hb; try simp only [List.length_map] at hb) | (replace hb := of_decide_eq_false hb; try simp only [List.length_map] at hb) | (simp only [List.length_map, bne_iff_ne, ne_eq, beq_iff_eq, bne_eq_false_iff_eq, beq_eq_false_iff_ne, decide_eq_true_eq, decide_eq_false_iff_not, Bool.not_eq_true', Bool.not_eq_false', Int.natCast_inj] at hb) | skip) | fail
    refine ⟨_, sB n s1 sk s2 (dl0 n) a b c, ⟨rfl, rfl, rfl, rfl, trivial⟩, rfl, (?_ : _ = some (rowsAV ((List.range 10).map fun l => outsR n (flt l) xs xs.length))), (a, b, c), rfl, rfl⟩
    have hk := keepRows (σ := (15, .box [.o 600 xs.length xs.length, .o 601 xs.length xs.length, .o 602 xs.length xs.length, .o 603 xs.length xs.length, .o 604 xs.length xs.length, .o 605 xs.length xs.length, .o 606 xs.length xs.length, .o 607 xs.length xs.length, .o 608 xs.length xs.length, .o 609 xs.length xs.length]) :: (600, rwOb n (flt 0) xs xs.length) :: (601, rwOb n (flt 1) xs xs.length) :: (602, rwOb n (flt 2) xs xs.length) :: (603, rwOb n (flt 3) xs xs.length) :: (604, rwOb n (flt 4) xs xs.length) :: (605, rwOb n (flt 5) xs xs.length) :: (606, rwOb n (flt 6) xs xs.length) :: (607, rwOb n (flt 7) xs xs.length) :: (608, rwOb n (flt 8) xs xs.length) :: (609, rwOb n (flt 9) xs xs.length) :: sB n s1 sk s2 (dl0 n) a b c) (σ' := sB n s1 sk s2 (dl0 n) a b c) (id := 15) (n := 10) (cap := 10) (ps := [PV.s 1 ((outsR n (flt 0) xs xs.length).map iPV), PV.s 1 ((outsR n (flt 1) xs xs.length).map iPV), PV.s 1 ((outsR n (flt 2) xs xs.length).map iPV), PV.s 1 ((outsR n (flt 3) xs xs.length).map iPV), PV.s 1 ((outsR n (flt 4) xs xs.length).map iPV), PV.s 1 ((outsR n (flt 5) xs xs.length).map iPV), PV.s 1 ((outsR n (flt 6) xs xs.length).map iPV), PV.s 1 ((outsR n (flt 7) xs xs.length).map iPV), PV.s 1 ((outsR n (flt 8) xs xs.length).map iPV), PV.s 1 ((outsR n (flt 9) xs xs.length).map iPV)]) rfl rfl
      (by repeat' first | exact rfl | refine rowPVs_cons (rowPV_o rfl rfl (by rw [List.length_map, outsR_len])) ?_) rfl
    exact outKeep1 (x := .x (.sb 15 0 10 10)) rfl hk
end Go.Proofs.YtfghooojingdhaaDoor
namespace Go.Proofs.YtfghooojingdhaaDoor
open Go Go.QL
set_option maxHeartbeats 3200000
attribute [local irreducible] ACall FnC
theorem run_11 {n : NetT} (ok : NetOK n) {s1 : Nat} {sk : List (W16 × W16)} (hsk : sk.length = n.inn.toNat + n.gates.length) {s2 s3 k' : Nat} {nw : List W16}
    {flt : Nat → FaultT} (hl : LanesOK sk flt 11) (xs : List Int) (hxl : xs.length ≤ 4096) :
    ACall Tryd.prog 71 [.x (.b 900 0), iv .i64 11, sl xs] (sB n s1 sk s2 (dl0 n) s3 k' nw)
      (fun r σ' => ∃ p : Nat × Nat × List W16, r = rowsAV ((List.range 11).map fun l => outsR n (flt l) xs xs.length) ∧ σ' = sB n s1 sk s2 (dl0 n) p.1 p.2.1 p.2.2) := by
  refine ACall_of_AWD hTt Tryd.func71 rfl (by kernel_rfl) (res := [.tmp 6]) rfl Tryd.ntmps71 (by simp) fun w0 K0 B => ?_
  dsimp only [entry]
  repeat' first | with_reducible refine AW_seq ?_ | with_reducible refine AW_block ?_ | ((first | with_reducible refine AW_region hTt ?_ | refine AW_draw hTt hMix (id := 1) 5 true [0, 1, 0, 4, 3, 31] (by kernel_rfl) rfl rfl (by kernel_rfl) ?_ | refine Or.inr ?_ | refine andA ?_ | fail); conv => whnf) | (refine fun hln => ?_; (try rw [List.length_map] at hln); unfold maxLen at hln; conv => whnf) | fail
  refine AW_imp (Imp.freeze 17 (fr' := frR n flt xs 11) (σ' := (15, .box (cellsN 11 0 0)) :: sB n s1 sk s2 (dl0 n) s3 k' nw) rfl ?_ ?_ rfl rfl) ?_
  · exact ⟨⟨_, rfl, .inl rfl⟩, ⟨_, congrArg (fun k : Nat => some (iv .i64 k)) (List.length_map _), .inl rfl⟩, ⟨_, rfl, .inl rfl⟩, ⟨_, rfl, .inl rfl⟩, ⟨_, rfl, .inr ⟨11, rfl, Nat.le_of_ble_eq_true rfl, rfl⟩⟩, ⟨_, rfl, .inl rfl⟩, trivial⟩
  · exact ⟨rfl, rfl, rfl, rfl, rfl, trivial⟩
  refine AW_imp (Imp.nil 600 3 1 (fr' := frR n flt xs 11) (σ' := chN 0 ((15, .box (cellsN 11 0 1)) :: sB n s1 sk s2 (dl0 n) s3 k' nw)) rfl ⟨⟨_, rfl, .inl rfl⟩, ⟨_, rfl, .inl rfl⟩, ⟨_, rfl, .inl rfl⟩, ⟨_, rfl, .inl rfl⟩, ⟨_, rfl, .inl rfl⟩, ⟨_, rfl, .inl rfl⟩, trivial⟩ ?_ rfl rfl) ?_
  · exact ⟨⟨_, rfl, .inr ⟨_, _, rfl, rfl, .inr ⟨rfl, rfl⟩, .inl rfl, .inl rfl, .inl rfl, .inl rfl, .inl rfl, .inl rfl, .inl rfl, .inl rfl, .inl rfl, .inl rfl, trivial⟩⟩, ⟨_, rfl, .inl rfl⟩, ⟨_, rfl, .inl rfl⟩, ⟨_, rfl, .inl rfl⟩, ⟨_, rfl, .inl rfl⟩, trivial⟩
  refine AW_imp (Imp.nil 601 3 1 (fr' := frR n flt xs 11) (σ' := chN 1 ((15, .box (cellsN 11 0 2)) :: sB n s1 sk s2 (dl0 n) s3 k' nw)) rfl ⟨⟨_, rfl, .inl rfl⟩, ⟨_, rfl, .inl rfl⟩, ⟨_, rfl, .inl rfl⟩, ⟨_, rfl, .inl rfl⟩, ⟨_, rfl, .inl rfl⟩, ⟨_, rfl, .inl rfl⟩, trivial⟩ ?_ rfl rfl) ?_
  · exact ⟨⟨_, rfl, .inl rfl⟩, ⟨_, rfl, .inr ⟨_, _, rfl, rfl, .inl rfl, .inr ⟨rfl, rfl⟩, .inl rfl, .inl rfl, .inl rfl, .inl rfl, .inl rfl, .inl rfl, .inl rfl, .inl rfl, .inl rfl, trivial⟩⟩, ⟨_, rfl, .inl rfl⟩, ⟨_, rfl, .inl rfl⟩, ⟨_, rfl, .inl rfl⟩, ⟨_, rfl, .inl rfl⟩, trivial⟩
  refine AW_imp (Imp.nil 602 3 1 (fr' := frR n flt xs 11) (σ' := chN 2 ((15, .box (cellsN 11 0 3)) :: sB n s1 sk s2 (dl0 n) s3 k' nw)) rfl ⟨⟨_, rfl, .inl rfl⟩, ⟨_, rfl, .inl rfl⟩, ⟨_, rfl, .inl rfl⟩, ⟨_, rfl, .inl rfl⟩, ⟨_, rfl, .inl rfl⟩, ⟨_, rfl, .inl rfl⟩, trivial⟩ ?_ rfl rfl) ?_
  · exact ⟨⟨_, rfl, .inl rfl⟩, ⟨_, rfl, .inl rfl⟩, ⟨_, rfl, .inr ⟨_, _, rfl, rfl, .inl rfl, .inl rfl, .inr ⟨rfl, rfl⟩, .inl rfl, .inl rfl, .inl rfl, .inl rfl, .inl rfl, .inl rfl, .inl rfl, .inl rfl, trivial⟩⟩, ⟨_, rfl, .inl rfl⟩, ⟨_, rfl, .inl rfl⟩, ⟨_, rfl, .inl rfl⟩, ⟨_, rfl, .inl rfl⟩, trivial⟩
  refine AW_imp (Imp.nil 603 3 1 (fr' := frR n flt xs 11) (σ' := chN 3 ((15, .box (cellsN 11 0 4)) :: sB n s1 sk s2 (dl0 n) s3 k' nw)) rfl ⟨⟨_, rfl, .inl rfl⟩, ⟨_, rfl, .inl rfl⟩, ⟨_, rfl, .inl rfl⟩, ⟨_, rfl, .inl rfl⟩, ⟨_, rfl, .inl rfl⟩, ⟨_, rfl, .inl rfl⟩, trivial⟩ ?_ rfl rfl) ?_
  · exact ⟨⟨_, rfl, .inl rfl⟩, ⟨_, rfl, .inl rfl⟩, ⟨_, rfl, .inl rfl⟩, ⟨_, rfl, .inr ⟨_, _, rfl, rfl, .inl rfl, .inl rfl, .inl rfl, .inr ⟨rfl, rfl⟩, .inl rfl, .inl rfl, .inl rfl, .inl rfl, .inl rfl, .inl rfl, .inl rfl, trivial⟩⟩, ⟨_, rfl, .inl rfl⟩, ⟨_, rfl, .inl rfl⟩, ⟨_, rfl, .inl rfl⟩, ⟨_, rfl, .inl rfl⟩, trivial⟩
  refine AW_imp (Imp.nil 604 3 1 (fr' := frR n flt xs 11) (σ' := chN 4 ((15, .box (cellsN 11 0 5)) :: sB n s1 sk s2 (dl0 n) s3 k' nw)) rfl ⟨⟨_, rfl, .inl rfl⟩, ⟨_, rfl, .inl rfl⟩, ⟨_, rfl, .inl rfl⟩, ⟨_, rfl, .inl rfl⟩, ⟨_, rfl, .inl rfl⟩, ⟨_, rfl, .inl rfl⟩, trivial⟩ ?_ rfl rfl) ?_
  · exact ⟨⟨_, rfl, .inl rfl⟩, ⟨_, rfl, .inl rfl⟩, ⟨_, rfl, .inl rfl⟩, ⟨_, rfl, .inl rfl⟩, ⟨_, rfl, .inr ⟨_, _, rfl, rfl, .inl rfl, .inl rfl, .inl rfl, .inl rfl, .inr ⟨rfl, rfl⟩, .inl rfl, .inl rfl, .inl rfl, .inl rfl, .inl rfl, .inl rfl, trivial⟩⟩, ⟨_, rfl, .inl rfl⟩, ⟨_, rfl, .inl rfl⟩, ⟨_, rfl, .inl rfl⟩, ⟨_, rfl, .inl rfl⟩, trivial⟩
  refine AW_imp (Imp.nil 605 3 1 (fr' := frR n flt xs 11) (σ' := chN 5 ((15, .box (cellsN 11 0 6)) :: sB n s1 sk s2 (dl0 n) s3 k' nw)) rfl ⟨⟨_, rfl, .inl rfl⟩, ⟨_, rfl, .inl rfl⟩, ⟨_, rfl, .inl rfl⟩, ⟨_, rfl, .inl rfl⟩, ⟨_, rfl, .inl rfl⟩, ⟨_, rfl, .inl rfl⟩, trivial⟩ ?_ rfl rfl) ?_
  · exact ⟨⟨_, rfl, .inl rfl⟩, ⟨_, rfl, .inl rfl⟩, ⟨_, rfl, .inl rfl⟩, ⟨_, rfl, .inl rfl⟩, ⟨_, rfl, .inl rfl⟩, ⟨_, rfl, .inr ⟨_, _, rfl, rfl, .inl rfl, .inl rfl, .inl rfl, .inl rfl, .inl rfl, .inr ⟨rfl, rfl⟩, .inl rfl, .inl rfl, .inl rfl, .inl rfl, .inl rfl, trivial⟩⟩, ⟨_, rfl, .inl rfl⟩, ⟨_, rfl, .inl rfl⟩, ⟨_, rfl, .inl rfl⟩, ⟨_, rfl, .inl rfl⟩, trivial⟩
  refine AW_imp (Imp.nil 606 3 1 (fr' := frR n flt xs 11) (σ' := chN 6 ((15, .box (cellsN 11 0 7)) :: sB n s1 sk s2 (dl0 n) s3 k' nw)) rfl ⟨⟨_, rfl, .inl rfl⟩, ⟨_, rfl, .inl rfl⟩, ⟨_, rfl, .inl rfl⟩, ⟨_, rfl, .inl rfl⟩, ⟨_, rfl, .inl rfl⟩, ⟨_, rfl, .inl rfl⟩, trivial⟩ ?_ rfl rfl) ?_
  · exact ⟨⟨_, rfl, .inl rfl⟩, ⟨_, rfl, .inl rfl⟩, ⟨_, rfl, .inl rfl⟩, ⟨_, rfl, .inl rfl⟩, ⟨_, rfl, .inl rfl⟩, ⟨_, rfl, .inl rfl⟩, ⟨_, rfl, .inr ⟨_, _, rfl, rfl, .inl rfl, .inl rfl, .inl rfl, .inl rfl, .inl rfl, .inl rfl, .inr ⟨rfl, rfl⟩, .inl rfl, .inl rfl, .inl rfl, .inl rfl, trivial⟩⟩, ⟨_, rfl, .inl rfl⟩, ⟨_, rfl, .inl rfl⟩, ⟨_, rfl, .inl rfl⟩, ⟨_, rfl, .inl rfl⟩, trivial⟩
  refine AW_imp (Imp.nil 607 3 1 (fr' := frR n flt xs 11) (σ' := chN 7 ((15, .box (cellsN 11 0 8)) :: sB n s1 sk s2 (dl0 n) s3 k' nw)) rfl ⟨⟨_, rfl, .inl rfl⟩, ⟨_, rfl, .inl rfl⟩, ⟨_, rfl, .inl rfl⟩, ⟨_, rfl, .inl rfl⟩, ⟨_, rfl, .inl rfl⟩, ⟨_, rfl, .inl rfl⟩, trivial⟩ ?_ rfl rfl) ?_
  · exact ⟨⟨_, rfl, .inl rfl⟩, ⟨_, rfl, .inl rfl⟩, ⟨_, rfl, .inl rfl⟩, ⟨_, rfl, .inl rfl⟩, ⟨_, rfl, .inl rfl⟩, ⟨_, rfl, .inl rfl⟩, ⟨_, rfl, .inl rfl⟩, ⟨_, rfl, .inr ⟨_, _, rfl, rfl, .inl rfl, .inl rfl, .inl rfl, .inl rfl, .inl rfl, .inl rfl, .inl rfl, .inr ⟨rfl, rfl⟩, .inl rfl, .inl rfl, .inl rfl, trivial⟩⟩, ⟨_, rfl, .inl rfl⟩, ⟨_, rfl, .inl rfl⟩, ⟨_, rfl, .inl rfl⟩, ⟨_, rfl, .inl rfl⟩, trivial⟩
  refine AW_imp (Imp.nil 608 3 1 (fr' := frR n flt xs 11) (σ' := chN 8 ((15, .box (cellsN 11 0 9)) :: sB n s1 sk s2 (dl0 n) s3 k' nw)) rfl ⟨⟨_, rfl, .inl rfl⟩, ⟨_, rfl, .inl rfl⟩, ⟨_, rfl, .inl rfl⟩, ⟨_, rfl, .inl rfl⟩, ⟨_, rfl, .inl rfl⟩, ⟨_, rfl, .inl rfl⟩, trivial⟩ ?_ rfl rfl) ?_
  · exact ⟨⟨_, rfl, .inl rfl⟩, ⟨_, rfl, .inl rfl⟩, ⟨_, rfl, .inl rfl⟩, ⟨_, rfl, .inl rfl⟩, ⟨_, rfl, .inl rfl⟩, ⟨_, rfl, .inl rfl⟩, ⟨_, rfl, .inl rfl⟩, ⟨_, rfl, .inl rfl⟩, ⟨_, rfl, .inr ⟨_, _, rfl, rfl, .inl rfl, .inl rfl, .inl rfl, .inl rfl, .inl rfl, .inl rfl, .inl rfl, .inl rfl, .inr ⟨rfl, rfl⟩, .inl rfl, .inl rfl, trivial⟩⟩, ⟨_, rfl, .inl rfl⟩, ⟨_, rfl, .inl rfl⟩, ⟨_, rfl, .inl rfl⟩, ⟨_, rfl, .inl rfl⟩, trivial⟩
  refine AW_imp (Imp.nil 609 3 1 (fr' := frR n flt xs 11) (σ' := chN 9 ((15, .box (cellsN 11 0 10)) :: sB n s1 sk s2 (dl0 n) s3 k' nw)) rfl ⟨⟨_, rfl, .inl rfl⟩, ⟨_, rfl, .inl rfl⟩, ⟨_, rfl, .inl rfl⟩, ⟨_, rfl, .inl rfl⟩, ⟨_, rfl, .inl rfl⟩, ⟨_, rfl, .inl rfl⟩, trivial⟩ ?_ rfl rfl) ?_
  · exact ⟨⟨_, rfl, .inl rfl⟩, ⟨_, rfl, .inl rfl⟩, ⟨_, rfl, .inl rfl⟩, ⟨_, rfl, .inl rfl⟩, ⟨_, rfl, .inl rfl⟩, ⟨_, rfl, .inl rfl⟩, ⟨_, rfl, .inl rfl⟩, ⟨_, rfl, .inl rfl⟩, ⟨_, rfl, .inl rfl⟩, ⟨_, rfl, .inr ⟨_, _, rfl, rfl, .inl rfl, .inl rfl, .inl rfl, .inl rfl, .inl rfl, .inl rfl, .inl rfl, .inl rfl, .inl rfl, .inr ⟨rfl, rfl⟩, .inl rfl, trivial⟩⟩, ⟨_, rfl, .inl rfl⟩, ⟨_, rfl, .inl rfl⟩, ⟨_, rfl, .inl rfl⟩, ⟨_, rfl, .inl rfl⟩, trivial⟩
  refine AW_imp (Imp.nil 610 3 1 (fr' := frR n flt xs 11) (σ' := chN 10 ((15, .box (cellsN 11 0 11)) :: sB n s1 sk s2 (dl0 n) s3 k' nw)) rfl ⟨⟨_, rfl, .inl rfl⟩, ⟨_, rfl, .inl rfl⟩, ⟨_, rfl, .inl rfl⟩, ⟨_, rfl, .inl rfl⟩, ⟨_, rfl, .inl rfl⟩, ⟨_, rfl, .inl rfl⟩, trivial⟩ ?_ rfl rfl) ?_
  · exact ⟨⟨_, rfl, .inl rfl⟩, ⟨_, rfl, .inl rfl⟩, ⟨_, rfl, .inl rfl⟩, ⟨_, rfl, .inl rfl⟩, ⟨_, rfl, .inl rfl⟩, ⟨_, rfl, .inl rfl⟩, ⟨_, rfl, .inl rfl⟩, ⟨_, rfl, .inl rfl⟩, ⟨_, rfl, .inl rfl⟩, ⟨_, rfl, .inl rfl⟩, ⟨_, rfl, .inr ⟨_, _, rfl, rfl, .inl rfl, .inl rfl, .inl rfl, .inl rfl, .inl rfl, .inl rfl, .inl rfl, .inl rfl, .inl rfl, .inl rfl, .inr ⟨rfl, rfl⟩, trivial⟩⟩, ⟨_, rfl, .inl rfl⟩, ⟨_, rfl, .inl rfl⟩, ⟨_, rfl, .inl rfl⟩, ⟨_, rfl, .inl rfl⟩, trivial⟩
  refine AW_loop (fun p : Nat × Nat × Nat × List W16 => [(20, iv .i64 p.1), (19, iv .i64 xs.length), (18, sl xs), (7, .x (.sb 15 0 11 11)), (8, sl (stsL n flt xs 11 p.1)), (0, .x (.b 900 0))])
    (fun p => (15, .box [.o 600 (p.1) (p.1), .o 601 (p.1) (p.1), .o 602 (p.1) (p.1), .o 603 (p.1) (p.1), .o 604 (p.1) (p.1), .o 605 (p.1) (p.1), .o 606 (p.1) (p.1), .o 607 (p.1) (p.1), .o 608 (p.1) (p.1), .o 609 (p.1) (p.1), .o 610 (p.1) (p.1)]) :: (600, rwOb n (flt 0) xs (p.1)) :: (601, rwOb n (flt 1) xs (p.1)) :: (602, rwOb n (flt 2) xs (p.1)) :: (603, rwOb n (flt 3) xs (p.1)) :: (604, rwOb n (flt 4) xs (p.1)) :: (605, rwOb n (flt 5) xs (p.1)) :: (606, rwOb n (flt 6) xs (p.1)) :: (607, rwOb n (flt 7) xs (p.1)) :: (608, rwOb n (flt 8) xs (p.1)) :: (609, rwOb n (flt 9) xs (p.1)) :: (610, rwOb n (flt 10) xs (p.1)) :: sB n s1 sk s2 (dl0 n) p.2.1 p.2.2.1 p.2.2.2)
    (fun p => p.1 ≤ xs.length) (fun p => xs.length - p.1) (0, s3, k', nw) (Nat.zero_le _) impA ?_
  rintro ⟨t, a, b, c⟩ ht
  dsimp only at ht ⊢
  rcases Nat.lt_or_ge t xs.length with htl | htl
  · have hbeat := fun s3 k' nw => beat_lanes ok (s1 := s1) hsk (s2 := s2) (s3 := s3) (k' := k') (nw := nw) (k := 11) (by decide) hl xs t xs[t] (getDI htl)
    have hol := otsL_len n flt xs 11 t
    repeat' first | with_reducible refine AW_seq ?_ | with_reducible refine AW_block ?_ | ((first | with_reducible refine AW_skip ?_ | with_reducible refine AW_exit ?_ | with_reducible refine AW_ret ?_ | with_reducible refine AW_region hTt ?_ | fail); conv => whnf) | (exact absurd hb (by omega)) | ((refine ⟨_, (hbeat a b c).frame (asc []) (by repeat (first | exact trivial | refine ⟨rfl, ?_⟩)) rfl (by rintro _ _ ⟨_, rfl, rfl⟩; rfl), ?_⟩); (rintro _ _ ⟨_, _, ⟨_, rfl, rfl⟩, rfl, rfl⟩); conv => whnf) | (refine AW_cond rfl (fun hb => ?_) (fun hb => ?_) <;> first | (replace hb := of_decide_eq_true hb; try simp only [List.length_map] at hb) | (replace hb := of_decide_eq_false hb; try simp only [List.length_map] at hb) | (simp only [List.length_map, bne_iff_ne, ne_eq, beq_iff_eq, bne_eq_false_iff_eq, beq_eq_false_iff_ne, decide_eq_true_eq, decide_eq_false_iff_not, Bool.not_eq_true', Bool.not_eq_false', Int.natCast_inj] at hb) | skip) | ((first | refine andA ?_ | with_reducible refine Exists.intro _ (And.intro (gd_any (And.intro (by omega) (map_get (by omega)))) ?_) | fail); conv => whnf) | (refine fun hln => ?_; (try rw [List.length_map] at hln); unfold maxLen at hln; conv => whnf) | fail
    rename_i pp
    refine AW_loop (fun l : Nat => [(33, iv .i64 l), (32, iv .i64 11), (31, sl (otsL n flt xs 11 t)), (20, iv .i64 t), (19, iv .i64 xs.length), (18, sl xs), (7, .x (.sb 15 0 11 11)), (8, sl (stsL n flt xs 11 (t + 1))), (0, .x (.b 900 0))])
      (fun l => (15, .box [.o 600 (t + bt 0 l) (t + bt 0 l), .o 601 (t + bt 1 l) (t + bt 1 l), .o 602 (t + bt 2 l) (t + bt 2 l), .o 603 (t + bt 3 l) (t + bt 3 l), .o 604 (t + bt 4 l) (t + bt 4 l), .o 605 (t + bt 5 l) (t + bt 5 l), .o 606 (t + bt 6 l) (t + bt 6 l), .o 607 (t + bt 7 l) (t + bt 7 l), .o 608 (t + bt 8 l) (t + bt 8 l), .o 609 (t + bt 9 l) (t + bt 9 l), .o 610 (t + bt 10 l) (t + bt 10 l)]) :: (600, rwOb n (flt 0) xs (t + bt 0 l)) :: (601, rwOb n (flt 1) xs (t + bt 1 l)) :: (602, rwOb n (flt 2) xs (t + bt 2 l)) :: (603, rwOb n (flt 3) xs (t + bt 3 l)) :: (604, rwOb n (flt 4) xs (t + bt 4 l)) :: (605, rwOb n (flt 5) xs (t + bt 5 l)) :: (606, rwOb n (flt 6) xs (t + bt 6 l)) :: (607, rwOb n (flt 7) xs (t + bt 7 l)) :: (608, rwOb n (flt 8) xs (t + bt 8 l)) :: (609, rwOb n (flt 9) xs (t + bt 9 l)) :: (610, rwOb n (flt 10) xs (t + bt 10 l)) :: sB n s1 sk s2 (dl0 n) pp.1 pp.2.1 pp.2.2) (fun l => l ≤ 11) (fun l => 11 - l) 0 (Nat.zero_le _) impA ?_
    intro l hlk
    rcases Nat.lt_or_ge l 11 with hll | hll
    · have hg := ots_at n flt xs t hll
      have e := row_app n (flt l) xs t l
      have hq := bt_self l
      have hz := outsR_len n (flt l) xs (t + bt l l)
      obtain ⟨j, hj⟩ : ∃ j, j = l + 1 := ⟨_, rfl⟩
      have hl' : l = 0 ∨ l = 1 ∨ l = 2 ∨ l = 3 ∨ l = 4 ∨ l = 5 ∨ l = 6 ∨ l = 7 ∨ l = 8 ∨ l = 9 ∨ l = 10 := by omega
      clear hol hbeat ht hlk hll
      rcases hl' with rfl | rfl | rfl | rfl | rfl | rfl | rfl | rfl | rfl | rfl | rfl
      all_goals
        repeat' first | with_reducible refine AW_seq ?_ | with_reducible refine AW_block ?_ | ((first | with_reducible refine AW_skip ?_ | with_reducible refine AW_region hTt ?_ | with_reducible refine Exists.intro _ (And.intro (gd_any (And.intro (by omega) hg)) ?_) | refine And.intro (gd_any (And.intro (by decide) (by decide))) ?_ | fail); conv => whnf) | ((refine And.intro ?_ ?_; focus (refine ⟨?_, ?_, ?_⟩ <;> simp [chunk, maxLen] <;> omega)); conv => whnf) | (refine AW_cond rfl (fun _ => ?_) (fun hb => absurd hb (by decide))) | ((first | refine ⟨_, wrap_of (by first | omega | (simp only [List.length_map]; omega)), ?_⟩ | refine andA ?_ | fail); conv => whnf) | fail
        exact ⟨j, by omega, by omega, by subst hj; exact impA⟩
    have hle : l = 11 := by omega
    subst hle
    repeat' first | with_reducible refine AW_seq ?_ | ((first | with_reducible refine AW_exit ?_ | with_reducible refine AW_region hTt ?_ | fail); conv => whnf) | (refine AW_cond rfl (fun hb => absurd hb (by decide)) (fun _ => ?_)) | ((refine ⟨_, wrap_of (by first | omega | (simp only [List.length_map]; omega)), ?_⟩); conv => whnf) | fail
    exact ⟨(t + 1, pp.1, pp.2.1, pp.2.2), by show t + 1 ≤ xs.length; omega, by show xs.length - (t + 1) < xs.length - t; omega, impA⟩
  · have hte : t = xs.length := by omega
    subst hte
    repeat' first | with_reducible refine AW_seq ?_ | with_reducible refine AW_block ?_ | ((first | with_reducible refine AW_skip ?_ | with_reducible refine AW_exit ?_ | with_reducible refine AW_ret ?_ | with_reducible refine AW_region hTt ?_ | fail); conv => whnf) | (exact absurd hb (by omega)) | (refine AW_cond rfl (fun hb => ?_) (fun hb => ?_) <;> first | (replace hb := of_decide_eq_true hb; try simp only [List.length_map] at hb) | (replace hb := of_decide_eq_false hb; try simp only [List.length_map] at hb) | (simp only [List.length_map, bne_iff_ne, ne_eq, beq_iff_eq, bne_eq_false_iff_eq, beq_eq_false_iff_ne, decide_eq_true_eq, decide_eq_false_iff_not, Bool.not_eq_true', Bool.not_eq_false', Int.natCast_inj] at hb) | skip) | fail
    refine ⟨_, sB n s1 sk s2 (dl0 n) a b c, ⟨rfl, rfl, rfl, rfl, trivial⟩, rfl, (?_ : _ = some (rowsAV ((List.range 11).map fun l => outsR n (flt l) xs xs.length))), (a, b, c), rfl, rfl⟩
    have hk := keepRows (σ := (15, .box [.o 600 xs.length xs.length, .o 601 xs.length xs.length, .o 602 xs.length xs.length, .o 603 xs.length xs.length, .o 604 xs.length xs.length, .o 605 xs.length xs.length, .o 606 xs.length xs.length, .o 607 xs.length xs.length, .o 608 xs.length xs.length, .o 609 xs.length xs.length, .o 610 xs.length xs.length]) :: (600, rwOb n (flt 0) xs xs.length) :: (601, rwOb n (flt 1) xs xs.length) :: (602, rwOb n (flt 2) xs xs.length) :: (603, rwOb n (flt 3) xs xs.length) :: (604, rwOb n (flt 4) xs xs.length) :: (605, rwOb n (flt 5) xs xs.length) :: (606, rwOb n (flt 6) xs xs.length) :: (607, rwOb n (flt 7) xs xs.length) :: (608, rwOb n (flt 8) xs xs.length) :: (609, rwOb n (flt 9) xs xs.length) :: (610, rwOb n (flt 10) xs xs.length) :: sB n s1 sk s2 (dl0 n) a b c) (σ' := sB n s1 sk s2 (dl0 n) a b c) (id := 15) (n := 11) (cap := 11) (ps := [PV.s 1 ((outsR n (flt 0) xs xs.length).map iPV), PV.s 1 ((outsR n (flt 1) xs xs.length).map iPV), PV.s 1 ((outsR n (flt 2) xs xs.length).map iPV), PV.s 1 ((outsR n (flt 3) xs xs.length).map iPV), PV.s 1 ((outsR n (flt 4) xs xs.length).map iPV), PV.s 1 ((outsR n (flt 5) xs xs.length).map iPV), PV.s 1 ((outsR n (flt 6) xs xs.length).map iPV), PV.s 1 ((outsR n (flt 7) xs xs.length).map iPV), PV.s 1 ((outsR n (flt 8) xs xs.length).map iPV), PV.s 1 ((outsR n (flt 9) xs xs.length).map iPV), PV.s 1 ((outsR n (flt 10) xs xs.length).map iPV)]) rfl rfl
      (by repeat' first | exact rfl | refine rowPVs_cons (rowPV_o rfl rfl (by rw [List.length_map, outsR_len])) ?_) rfl
    exact outKeep1 (x := .x (.sb 15 0 11 11)) rfl hk
end Go.Proofs.YtfghooojingdhaaDoor
namespace Go.Proofs.YtfghooojingdhaaDoor
open Go Go.QL
set_option maxHeartbeats 3200000
attribute [local irreducible] ACall FnC
theorem run_12 {n : NetT} (ok : NetOK n) {s1 : Nat} {sk : List (W16 × W16)} (hsk : sk.length = n.inn.toNat + n.gates.length) {s2 s3 k' : Nat} {nw : List W16}
    {flt : Nat → FaultT} (hl : LanesOK sk flt 12) (xs : List Int) (hxl : xs.length ≤ 4096) :
    ACall Tryd.prog 71 [.x (.b 900 0), iv .i64 12, sl xs] (sB n s1 sk s2 (dl0 n) s3 k' nw)
      (fun r σ' => ∃ p : Nat × Nat × List W16, r = rowsAV ((List.range 12).map fun l => outsR n (flt l) xs xs.length) ∧ σ' = sB n s1 sk s2 (dl0 n) p.1 p.2.1 p.2.2) := by
  refine ACall_of_AWD hTt Tryd.func71 rfl (by kernel_rfl) (res := [.tmp 6]) rfl Tryd.ntmps71 (by simp) fun w0 K0 B => ?_
  dsimp only [entry]
  repeat' first | with_reducible refine AW_seq ?_ | with_reducible refine AW_block ?_ | ((first | with_reducible refine AW_region hTt ?_ | refine AW_draw hTt hMix (id := 1) 5 true [0, 1, 0, 4, 3, 31] (by kernel_rfl) rfl rfl (by kernel_rfl) ?_ | refine Or.inr ?_ | refine andA ?_ | fail); conv => whnf) | (refine fun hln => ?_; (try rw [List.length_map] at hln); unfold maxLen at hln; conv => whnf) | fail
  refine AW_imp (Imp.freeze 17 (fr' := frR n flt xs 12) (σ' := (15, .box (cellsN 12 0 0)) :: sB n s1 sk s2 (dl0 n) s3 k' nw) rfl ?_ ?_ rfl rfl) ?_
  · exact ⟨⟨_, rfl, .inl rfl⟩, ⟨_, congrArg (fun k : Nat => some (iv .i64 k)) (List.length_map _), .inl rfl⟩, ⟨_, rfl, .inl rfl⟩, ⟨_, rfl, .inl rfl⟩, ⟨_, rfl, .inr ⟨12, rfl, Nat.le_of_ble_eq_true rfl, rfl⟩⟩, ⟨_, rfl, .inl rfl⟩, trivial⟩
  · exact ⟨rfl, rfl, rfl, rfl, rfl, trivial⟩
  refine AW_imp (Imp.nil 600 3 1 (fr' := frR n flt xs 12) (σ' := chN 0 ((15, .box (cellsN 12 0 1)) :: sB n s1 sk s2 (dl0 n) s3 k' nw)) rfl ⟨⟨_, rfl, .inl rfl⟩, ⟨_, rfl, .inl rfl⟩, ⟨_, rfl, .inl rfl⟩, ⟨_, rfl, .inl rfl⟩, ⟨_, rfl, .inl rfl⟩, ⟨_, rfl, .inl rfl⟩, trivial⟩ ?_ rfl rfl) ?_
  · exact ⟨⟨_, rfl, .inr ⟨_, _, rfl, rfl, .inr ⟨rfl, rfl⟩, .inl rfl, .inl rfl, .inl rfl, .inl rfl, .inl rfl, .inl rfl, .inl rfl, .inl rfl, .inl rfl, .inl rfl, .inl rfl, trivial⟩⟩, ⟨_, rfl, .inl rfl⟩, ⟨_, rfl, .inl rfl⟩, ⟨_, rfl, .inl rfl⟩, ⟨_, rfl, .inl rfl⟩, trivial⟩
  refine AW_imp (Imp.nil 601 3 1 (fr' := frR n flt xs 12) (σ' := chN 1 ((15, .box (cellsN 12 0 2)) :: sB n s1 sk s2 (dl0 n) s3 k' nw)) rfl ⟨⟨_, rfl, .inl rfl⟩, ⟨_, rfl, .inl rfl⟩, ⟨_, rfl, .inl rfl⟩, ⟨_, rfl, .inl rfl⟩, ⟨_, rfl, .inl rfl⟩, ⟨_, rfl, .inl rfl⟩, trivial⟩ ?_ rfl rfl) ?_
  · exact ⟨⟨_, rfl, .inl rfl⟩, ⟨_, rfl, .inr ⟨_, _, rfl, rfl, .inl rfl, .inr ⟨rfl, rfl⟩, .inl rfl, .inl rfl, .inl rfl, .inl rfl, .inl rfl, .inl rfl, .inl rfl, .inl rfl, .inl rfl, .inl rfl, trivial⟩⟩, ⟨_, rfl, .inl rfl⟩, ⟨_, rfl, .inl rfl⟩, ⟨_, rfl, .inl rfl⟩, ⟨_, rfl, .inl rfl⟩, trivial⟩
  refine AW_imp (Imp.nil 602 3 1 (fr' := frR n flt xs 12) (σ' := chN 2 ((15, .box (cellsN 12 0 3)) :: sB n s1 sk s2 (dl0 n) s3 k' nw)) rfl ⟨⟨_, rfl, .inl rfl⟩, ⟨_, rfl, .inl rfl⟩, ⟨_, rfl, .inl rfl⟩, ⟨_, rfl, .inl rfl⟩, ⟨_, rfl, .inl rfl⟩, ⟨_, rfl, .inl rfl⟩, trivial⟩ ?_ rfl rfl) ?_
  · exact ⟨⟨_, rfl, .inl rfl⟩, ⟨_, rfl, .inl rfl⟩, ⟨_, rfl, .inr ⟨_, _, rfl, rfl, .inl rfl, .inl rfl, .inr ⟨rfl, rfl⟩, .inl rfl, .inl rfl, .inl rfl, .inl rfl, .inl rfl, .inl rfl, .inl rfl, .inl rfl, .inl rfl, trivial⟩⟩, ⟨_, rfl, .inl rfl⟩, ⟨_, rfl, .inl rfl⟩, ⟨_, rfl, .inl rfl⟩, ⟨_, rfl, .inl rfl⟩, trivial⟩
  refine AW_imp (Imp.nil 603 3 1 (fr' := frR n flt xs 12) (σ' := chN 3 ((15, .box (cellsN 12 0 4)) :: sB n s1 sk s2 (dl0 n) s3 k' nw)) rfl ⟨⟨_, rfl, .inl rfl⟩, ⟨_, rfl, .inl rfl⟩, ⟨_, rfl, .inl rfl⟩, ⟨_, rfl, .inl rfl⟩, ⟨_, rfl, .inl rfl⟩, ⟨_, rfl, .inl rfl⟩, trivial⟩ ?_ rfl rfl) ?_
  · exact ⟨⟨_, rfl, .inl rfl⟩, ⟨_, rfl, .inl rfl⟩, ⟨_, rfl, .inl rfl⟩, ⟨_, rfl, .inr ⟨_, _, rfl, rfl, .inl rfl, .inl rfl, .inl rfl, .inr ⟨rfl, rfl⟩, .inl rfl, .inl rfl, .inl rfl, .inl rfl, .inl rfl, .inl rfl, .inl rfl, .inl rfl, trivial⟩⟩, ⟨_, rfl, .inl rfl⟩, ⟨_, rfl, .inl rfl⟩, ⟨_, rfl, .inl rfl⟩, ⟨_, rfl, .inl rfl⟩, trivial⟩
  refine AW_imp (Imp.nil 604 3 1 (fr' := frR n flt xs 12) (σ' := chN 4 ((15, .box (cellsN 12 0 5)) :: sB n s1 sk s2 (dl0 n) s3 k' nw)) rfl ⟨⟨_, rfl, .inl rfl⟩, ⟨_, rfl, .inl rfl⟩, ⟨_, rfl, .inl rfl⟩, ⟨_, rfl, .inl rfl⟩, ⟨_, rfl, .inl rfl⟩, ⟨_, rfl, .inl rfl⟩, trivial⟩ ?_ rfl rfl) ?_
  · exact ⟨⟨_, rfl, .inl rfl⟩, ⟨_, rfl, .inl rfl⟩, ⟨_, rfl, .inl rfl⟩, ⟨_, rfl, .inl rfl⟩, ⟨_, rfl, .inr ⟨_, _, rfl, rfl, .inl rfl, .inl rfl, .inl rfl, .inl rfl, .inr ⟨rfl, rfl⟩, .inl rfl, .inl rfl, .inl rfl, .inl rfl, .inl rfl, .inl rfl, .inl rfl, trivial⟩⟩, ⟨_, rfl, .inl rfl⟩, ⟨_, rfl, .inl rfl⟩, ⟨_, rfl, .inl rfl⟩, ⟨_, rfl, .inl rfl⟩, trivial⟩
  refine AW_imp (Imp.nil 605 3 1 (fr' := frR n flt xs 12) (σ' := chN 5 ((15, .box (cellsN 12 0 6)) :: sB n s1 sk s2 (dl0 n) s3 k' nw)) rfl ⟨⟨_, rfl, .inl rfl⟩, ⟨_, rfl, .inl rfl⟩, ⟨_, rfl, .inl rfl⟩, ⟨_, rfl, .inl rfl⟩, ⟨_, rfl, .inl rfl⟩, ⟨_, rfl, .inl rfl⟩, trivial⟩ ?_ rfl rfl) ?_
  · exact ⟨⟨_, rfl, .inl rfl⟩, ⟨_, rfl, .inl rfl⟩, ⟨_, rfl, .inl rfl⟩, ⟨_, rfl, .inl rfl⟩, ⟨_, rfl, .inl rfl⟩, ⟨_, rfl, .inr ⟨_, _, rfl, rfl, .inl rfl, .inl rfl, .inl rfl, .inl rfl, .inl rfl, .inr ⟨rfl, rfl⟩, .inl rfl, .inl rfl, .inl rfl, .inl rfl, .inl rfl, .inl rfl, trivial⟩⟩, ⟨_, rfl, .inl rfl⟩, ⟨_, rfl, .inl rfl⟩, ⟨_, rfl, .inl rfl⟩, ⟨_, rfl, .inl rfl⟩, trivial⟩
  refine AW_imp (Imp.nil 606 3 1 (fr' := frR n flt xs 12) (σ' := chN 6 ((15, .box (cellsN 12 0 7)) :: sB n s1 sk s2 (dl0 n) s3 k' nw)) rfl ⟨⟨_, rfl, .inl rfl⟩, ⟨_, rfl, .inl rfl⟩, ⟨_, rfl, .inl rfl⟩, ⟨_, rfl, .inl rfl⟩, ⟨_, rfl, .inl rfl⟩, ⟨_, rfl, .inl rfl⟩, trivial⟩ ?_ rfl rfl) ?_
  · exact ⟨⟨_, rfl, .inl rfl⟩, ⟨_, rfl, .inl rfl⟩, ⟨_, rfl, .inl rfl⟩, ⟨_, rfl, .inl rfl⟩, ⟨_, rfl, .inl rfl⟩, ⟨_, rfl, .inl rfl⟩, ⟨_, rfl, .inr ⟨_, _, rfl, rfl, .inl rfl, .inl rfl, .inl rfl, .inl rfl, .inl rfl, .inl rfl, .inr ⟨rfl, rfl⟩, .inl rfl, .inl rfl, .inl rfl, .inl rfl, .inl rfl, trivial⟩⟩, ⟨_, rfl, .inl rfl⟩, ⟨_, rfl, .inl rfl⟩, ⟨_, rfl, .inl rfl⟩, ⟨_, rfl, .inl rfl⟩, trivial⟩
  refine AW_imp (Imp.nil 607 3 1 (fr' := frR n flt xs 12) (σ' := chN 7 ((15, .box (cellsN 12 0 8)) :: sB n s1 sk s2 (dl0 n) s3 k' nw)) rfl ⟨⟨_, rfl, .inl rfl⟩, ⟨_, rfl, .inl rfl⟩, ⟨_, rfl, .inl rfl⟩, ⟨_, rfl, .inl rfl⟩, ⟨_, rfl, .inl rfl⟩, ⟨_, rfl, .inl rfl⟩, trivial⟩ ?_ rfl rfl) ?_
  · exact ⟨⟨_, rfl, .inl rfl⟩, ⟨_, rfl, .inl rfl⟩, ⟨_, rfl, .inl rfl⟩, ⟨_, rfl, .inl rfl⟩, ⟨_, rfl, .inl rfl⟩, ⟨_, rfl, .inl rfl⟩, ⟨_, rfl, .inl rfl⟩, ⟨_, rfl, .inr ⟨_, _, rfl, rfl, .inl rfl, .inl rfl, .inl rfl, .inl rfl, .inl rfl, .inl rfl, .inl rfl, .inr ⟨rfl, rfl⟩, .inl rfl, .inl rfl, .inl rfl, .inl rfl, trivial⟩⟩, ⟨_, rfl, .inl rfl⟩, ⟨_, rfl, .inl rfl⟩, ⟨_, rfl, .inl rfl⟩, ⟨_, rfl, .inl rfl⟩, trivial⟩
  refine AW_imp (Imp.nil 608 3 1 (fr' := frR n flt xs 12) (σ' := chN 8 ((15, .box (cellsN 12 0 9)) :: sB n s1 sk s2 (dl0 n) s3 k' nw)) rfl ⟨⟨_, rfl, .inl rfl⟩, ⟨_, rfl, .inl rfl⟩, ⟨_, rfl, .inl rfl⟩, ⟨_, rfl, .inl rfl⟩, ⟨_, rfl, .inl rfl⟩, ⟨_, rfl, .inl rfl⟩, trivial⟩ ?_ rfl rfl) ?_
  · exact ⟨⟨_, rfl, .inl rfl⟩, ⟨_, rfl, .inl rfl⟩, ⟨_, rfl, .inl rfl⟩, ⟨_, rfl, .inl rfl⟩, ⟨_, rfl, .inl rfl⟩, ⟨_, rfl, .inl rfl⟩, ⟨_, rfl, .inl rfl⟩, ⟨_, rfl, .inl rfl⟩, ⟨_, rfl, .inr ⟨_, _, rfl, rfl, .inl rfl, .inl rfl, .inl rfl, .inl rfl, .inl rfl, .inl rfl, .inl rfl, .inl rfl, .inr ⟨rfl, rfl⟩, .inl rfl, .inl rfl, .inl rfl, trivial⟩⟩, ⟨_, rfl, .inl rfl⟩, ⟨_, rfl, .inl rfl⟩, ⟨_, rfl, .inl rfl⟩, ⟨_, rfl, .inl rfl⟩, trivial⟩
  refine AW_imp (Imp.nil 609 3 1 (fr' := frR n flt xs 12) (σ' := chN 9 ((15, .box (cellsN 12 0 10)) :: sB n s1 sk s2 (dl0 n) s3 k' nw)) rfl ⟨⟨_, rfl, .inl rfl⟩, ⟨_, rfl, .inl rfl⟩, ⟨_, rfl, .inl rfl⟩, ⟨_, rfl, .inl rfl⟩, ⟨_, rfl, .inl rfl⟩, ⟨_, rfl, .inl rfl⟩, trivial⟩ ?_ rfl rfl) ?_
  · exact ⟨⟨_, rfl, .inl rfl⟩, ⟨_, rfl, .inl rfl⟩, ⟨_, rfl, .inl rfl⟩, ⟨_, rfl, .inl rfl⟩, ⟨_, rfl, .inl rfl⟩, ⟨_, rfl, .inl rfl⟩, ⟨_, rfl, .inl rfl⟩, ⟨_, rfl, .inl rfl⟩, ⟨_, rfl, .inl rfl⟩, ⟨_, rfl, .inr ⟨_, _, rfl, rfl, .inl rfl, .inl rfl, .inl rfl, .inl rfl, .inl rfl, .inl rfl, .inl rfl, .inl rfl, .inl rfl, .inr ⟨rfl, rfl⟩, .inl rfl, .inl rfl, trivial⟩⟩, ⟨_, rfl, .inl rfl⟩, ⟨_, rfl, .inl rfl⟩, ⟨_, rfl, .inl rfl⟩, ⟨_, rfl, .inl rfl⟩, trivial⟩
  refine AW_imp (Imp.nil 610 3 1 (fr' := frR n flt xs 12) (σ' := chN 10 ((15, .box (cellsN 12 0 11)) :: sB n s1 sk s2 (dl0 n) s3 k' nw)) rfl ⟨⟨_, rfl, .inl rfl⟩, ⟨_, rfl, .inl rfl⟩, ⟨_, rfl, .inl rfl⟩, ⟨_, rfl, .inl rfl⟩, ⟨_, rfl, .inl rfl⟩, ⟨_, rfl, .inl rfl⟩, trivial⟩ ?_ rfl rfl) ?_
  · exact ⟨⟨_, rfl, .inl rfl⟩, ⟨_, rfl, .inl rfl⟩, ⟨_, rfl, .inl rfl⟩, ⟨_, rfl, .inl rfl⟩, ⟨_, rfl, .inl rfl⟩, ⟨_, rfl, .inl rfl⟩, ⟨_, rfl, .inl rfl⟩, ⟨_, rfl, .inl rfl⟩, ⟨_, rfl, .inl rfl⟩, ⟨_, rfl, .inl rfl⟩, ⟨_, rfl, .inr ⟨_, _, rfl, rfl, .inl rfl, .inl rfl, .inl rfl, .inl rfl, .inl rfl, .inl rfl, .inl rfl, .inl rfl, .inl rfl, .inl rfl, .inr ⟨rfl, rfl⟩, .inl rfl, trivial⟩⟩, ⟨_, rfl, .inl rfl⟩, ⟨_, rfl, .inl rfl⟩, ⟨_, rfl, .inl rfl⟩, ⟨_, rfl, .inl rfl⟩, trivial⟩
  refine AW_imp (Imp.nil 611 3 1 (fr' := frR n flt xs 12) (σ' := chN 11 ((15, .box (cellsN 12 0 12)) :: sB n s1 sk s2 (dl0 n) s3 k' nw)) rfl ⟨⟨_, rfl, .inl rfl⟩, ⟨_, rfl, .inl rfl⟩, ⟨_, rfl, .inl rfl⟩, ⟨_, rfl, .inl rfl⟩, ⟨_, rfl, .inl rfl⟩, ⟨_, rfl, .inl rfl⟩, trivial⟩ ?_ rfl rfl) ?_
  · exact ⟨⟨_, rfl, .inl rfl⟩, ⟨_, rfl, .inl rfl⟩, ⟨_, rfl, .inl rfl⟩, ⟨_, rfl, .inl rfl⟩, ⟨_, rfl, .inl rfl⟩, ⟨_, rfl, .inl rfl⟩, ⟨_, rfl, .inl rfl⟩, ⟨_, rfl, .inl rfl⟩, ⟨_, rfl, .inl rfl⟩, ⟨_, rfl, .inl rfl⟩, ⟨_, rfl, .inl rfl⟩, ⟨_, rfl, .inr ⟨_, _, rfl, rfl, .inl rfl, .inl rfl, .inl rfl, .inl rfl, .inl rfl, .inl rfl, .inl rfl, .inl rfl, .inl rfl, .inl rfl, .inl rfl, .inr ⟨rfl, rfl⟩, trivial⟩⟩, ⟨_, rfl, .inl rfl⟩, ⟨_, rfl, .inl rfl⟩, ⟨_, rfl, .inl rfl⟩, ⟨_, rfl, .inl rfl⟩, trivial⟩
  refine AW_loop (fun p : Nat × Nat × Nat × List W16 => [(20, iv .i64 p.1), (19, iv .i64 xs.length), (18, sl xs), (7, .x (.sb 15 0 12 12)), (8, sl (stsL n flt xs 12 p.1)), (0, .x (.b 900 0))])
    (fun p => (15, .box [.o 600 (p.1) (p.1), .o 601 (p.1) (p.1), .o 602 (p.1) (p.1), .o 603 (p.1) (p.1), .o 604 (p.1) (p.1), .o 605 (p.1) (p.1), .o 606 (p.1) (p.1), .o 607 (p.1) (p.1), .o 608 (p.1) (p.1), .o 609 (p.1) (p.1), .o 610 (p.1) (p.1), .o 611 (p.1) (p.1)]) :: (600, rwOb n (flt 0) xs (p.1)) :: (601, rwOb n (flt 1) xs (p.1)) :: (602, rwOb n (flt 2) xs (p.1)) :: (603, rwOb n (flt 3) xs (p.1)) :: (604, rwOb n (flt 4) xs (p.1)) :: (605, rwOb n (flt 5) xs (p.1)) :: (606, rwOb n (flt 6) xs (p.1)) :: (607, rwOb n (flt 7) xs (p.1)) :: (608, rwOb n (flt 8) xs (p.1)) :: (609, rwOb n (flt 9) xs (p.1)) :: (610, rwOb n (flt 10) xs (p.1)) :: (611, rwOb n (flt 11) xs (p.1)) :: sB n s1 sk s2 (dl0 n) p.2.1 p.2.2.1 p.2.2.2)
    (fun p => p.1 ≤ xs.length) (fun p => xs.length - p.1) (0, s3, k', nw) (Nat.zero_le _) impA ?_
  rintro ⟨t, a, b, c⟩ ht
  dsimp only at ht ⊢
  rcases Nat.lt_or_ge t xs.length with htl | htl
  · have hbeat := fun s3 k' nw => beat_lanes ok (s1 := s1) hsk (s2 := s2) (s3 := s3) (k' := k') (nw := nw) (k := 12) (by decide) hl xs t xs[t] (getDI htl)
    have hol := otsL_len n flt xs 12 t
    repeat' first | with_reducible refine AW_seq ?_ | with_reducible refine AW_block ?_ | ((first | with_reducible refine AW_skip ?_ | with_reducible refine AW_exit ?_ | with_reducible refine AW_ret ?_ | with_reducible refine AW_region hTt ?_ | fail); conv => whnf) | (exact absurd hb (by omega)) | ((refine ⟨_, (hbeat a b c).frame (asc []) (by repeat (first | exact trivial | refine ⟨rfl, ?_⟩)) rfl (by rintro _ _ ⟨_, rfl, rfl⟩; rfl), ?_⟩); (rintro _ _ ⟨_, _, ⟨_, rfl, rfl⟩, rfl, rfl⟩); conv => whnf) | (refine AW_cond rfl (fun hb => ?_) (fun hb => ?_) <;> first | (replace hb := of_decide_eq_true hb; try simp only [List.length_map] at hb) | (replace hb := of_decide_eq_false hb; try simp only [List.length_map] at hb) | (simp only [List.length_map, bne_iff_ne, ne_eq, beq_iff_eq, bne_eq_false_iff_eq, beq_eq_false_iff_ne, decide_eq_true_eq, decide_eq_false_iff_not, Bool.not_eq_true', Bool.not_eq_false', Int.natCast_inj] at hb) | skip) | ((first | refine andA ?_ | with_reducible refine Exists.intro _ (And.intro (gd_any (And.intro (by omega) (map_get (by omega)))) ?_) | fail); conv => whnf) | (refine fun hln => ?_; (try rw [List.length_map] at hln); unfold maxLen at hln; conv => whnf) | fail
    rename_i pp
    refine AW_loop (fun l : Nat => [(33, iv .i64 l), (32, iv .i64 12), (31, sl (otsL n flt xs 12 t)), (20, iv .i64 t), (19, iv .i64 xs.length), (18, sl xs), (7, .x (.sb 15 0 12 12)), (8, sl (stsL n flt xs 12 (t + 1))), (0, .x (.b 900 0))])
      (fun l => (15, .box [.o 600 (t + bt 0 l) (t + bt 0 l), .o 601 (t + bt 1 l) (t + bt 1 l), .o 602 (t + bt 2 l) (t + bt 2 l), .o 603 (t + bt 3 l) (t + bt 3 l), .o 604 (t + bt 4 l) (t + bt 4 l), .o 605 (t + bt 5 l) (t + bt 5 l), .o 606 (t + bt 6 l) (t + bt 6 l), .o 607 (t + bt 7 l) (t + bt 7 l), .o 608 (t + bt 8 l) (t + bt 8 l), .o 609 (t + bt 9 l) (t + bt 9 l), .o 610 (t + bt 10 l) (t + bt 10 l), .o 611 (t + bt 11 l) (t + bt 11 l)]) :: (600, rwOb n (flt 0) xs (t + bt 0 l)) :: (601, rwOb n (flt 1) xs (t + bt 1 l)) :: (602, rwOb n (flt 2) xs (t + bt 2 l)) :: (603, rwOb n (flt 3) xs (t + bt 3 l)) :: (604, rwOb n (flt 4) xs (t + bt 4 l)) :: (605, rwOb n (flt 5) xs (t + bt 5 l)) :: (606, rwOb n (flt 6) xs (t + bt 6 l)) :: (607, rwOb n (flt 7) xs (t + bt 7 l)) :: (608, rwOb n (flt 8) xs (t + bt 8 l)) :: (609, rwOb n (flt 9) xs (t + bt 9 l)) :: (610, rwOb n (flt 10) xs (t + bt 10 l)) :: (611, rwOb n (flt 11) xs (t + bt 11 l)) :: sB n s1 sk s2 (dl0 n) pp.1 pp.2.1 pp.2.2) (fun l => l ≤ 12) (fun l => 12 - l) 0 (Nat.zero_le _) impA ?_
    intro l hlk
    rcases Nat.lt_or_ge l 12 with hll | hll
    · have hg := ots_at n flt xs t hll
      have e := row_app n (flt l) xs t l
      have hq := bt_self l
      have hz := outsR_len n (flt l) xs (t + bt l l)
      obtain ⟨j, hj⟩ : ∃ j, j = l + 1 := ⟨_, rfl⟩
      have hl' : l = 0 ∨ l = 1 ∨ l = 2 ∨ l = 3 ∨ l = 4 ∨ l = 5 ∨ l = 6 ∨ l = 7 ∨ l = 8 ∨ l = 9 ∨ l = 10 ∨ l = 11 := by omega
      clear hol hbeat ht hlk hll
      rcases hl' with rfl | rfl | rfl | rfl | rfl | rfl | rfl | rfl | rfl | rfl | rfl | rfl
      all_goals
        repeat' first | with_reducible refine AW_seq ?_ | with_reducible refine AW_block ?_ | ((first | with_reducible refine AW_skip ?_ | with_reducible refine AW_region hTt ?_ | with_reducible refine Exists.intro _ (And.intro (gd_any (And.intro (by omega) hg)) ?_) | refine And.intro (gd_any (And.intro (by decide) (by decide))) ?_ | fail); conv => whnf) | ((refine And.intro ?_ ?_; focus (refine ⟨?_, ?_, ?_⟩ <;> simp [chunk, maxLen] <;> omega)); conv => whnf) | (refine AW_cond rfl (fun _ => ?_) (fun hb => absurd hb (by decide))) | ((first | refine ⟨_, wrap_of (by first | omega | (simp only [List.length_map]; omega)), ?_⟩ | refine andA ?_ | fail); conv => whnf) | fail
        exact ⟨j, by omega, by omega, by subst hj; exact impA⟩
    have hle : l = 12 := by omega
    subst hle
    repeat' first | with_reducible refine AW_seq ?_ | ((first | with_reducible refine AW_exit ?_ | with_reducible refine AW_region hTt ?_ | fail); conv => whnf) | (refine AW_cond rfl (fun hb => absurd hb (by decide)) (fun _ => ?_)) | ((refine ⟨_, wrap_of (by first | omega | (simp only [List.length_map]; omega)), ?_⟩); conv => whnf) | fail
    exact ⟨(t + 1, pp.1, pp.2.1, pp.2.2), by show t + 1 ≤ xs.length; omega, by show xs.length - (t + 1) < xs.length - t; omega, impA⟩
  · have hte : t = xs.length := by omega
    subst hte
    repeat' first | with_reducible refine AW_seq ?_ | with_reducible refine AW_block ?_ | ((first | with_reducible refine AW_skip ?_ | with_reducible refine AW_exit ?_ | with_reducible refine AW_ret ?_ | with_reducible refine AW_region hTt ?_ | fail); conv => whnf) | (exact absurd hb (by omega)) | (refine AW_cond rfl (fun hb => ?_) (fun hb => ?_) <;> first | (replace hb := of_decide_eq_true hb; try simp only [List.length_map] at hb) | (replace hb := of_decide_eq_false hb; try simp only [List.length_map] at hb) | (simp only [List.length_map, bne_iff_ne, ne_eq, beq_iff_eq, bne_eq_false_iff_eq, beq_eq_false_iff_ne, decide_eq_true_eq, decide_eq_false_iff_not, Bool.not_eq_true', Bool.not_eq_false', Int.natCast_inj] at hb) | skip) | fail
    refine ⟨_, sB n s1 sk s2 (dl0 n) a b c, ⟨rfl, rfl, rfl, rfl, trivial⟩, rfl, (?_ : _ = some (rowsAV ((List.range 12).map fun l => outsR n (flt l) xs xs.length))), (a, b, c), rfl, rfl⟩
    have hk := keepRows (σ := (15, .box [.o 600 xs.length xs.length, .o 601 xs.length xs.length, .o 602 xs.length xs.length, .o 603 xs.length xs.length, .o 604 xs.length xs.length, .o 605 xs.length xs.length, .o 606 xs.length xs.length, .o 607 xs.length xs.length, .o 608 xs.length xs.length, .o 609 xs.length xs.length, .o 610 xs.length xs.length, .o 611 xs.length xs.length]) :: (600, rwOb n (flt 0) xs xs.length) :: (601, rwOb n (flt 1) xs xs.length) :: (602, rwOb n (flt 2) xs xs.length) :: (603, rwOb n (flt 3) xs xs.length) :: (604, rwOb n (flt 4) xs xs.length) :: (605, rwOb n (flt 5) xs xs.length) :: (606, rwOb n (flt 6) xs xs.length) :: (607, rwOb n (flt 7) xs xs.length) :: (608, rwOb n (flt 8) xs xs.length) :: (609, rwOb n (flt 9) xs xs.length) :: (610, rwOb n (flt 10) xs xs.length) :: (611, rwOb n (flt 11) xs xs.length) :: sB n s1 sk s2 (dl0 n) a b c) (σ' := sB n s1 sk s2 (dl0 n) a b c) (id := 15) (n := 12) (cap := 12) (ps := [PV.s 1 ((outsR n (flt 0) xs xs.length).map iPV), PV.s 1 ((outsR n (flt 1) xs xs.length).map iPV), PV.s 1 ((outsR n (flt 2) xs xs.length).map iPV), PV.s 1 ((outsR n (flt 3) xs xs.length).map iPV), PV.s 1 ((outsR n (flt 4) xs xs.length).map iPV), PV.s 1 ((outsR n (flt 5) xs xs.length).map iPV), PV.s 1 ((outsR n (flt 6) xs xs.length).map iPV), PV.s 1 ((outsR n (flt 7) xs xs.length).map iPV), PV.s 1 ((outsR n (flt 8) xs xs.length).map iPV), PV.s 1 ((outsR n (flt 9) xs xs.length).map iPV), PV.s 1 ((outsR n (flt 10) xs xs.length).map iPV), PV.s 1 ((outsR n (flt 11) xs xs.length).map iPV)]) rfl rfl
      (by repeat' first | exact rfl | refine rowPVs_cons (rowPV_o rfl rfl (by rw [List.length_map, outsR_len])) ?_) rfl
    exact outKeep1 (x := .x (.sb 15 0 12 12)) rfl hk
end Go.Proofs.YtfghooojingdhaaDoor
namespace Go.Proofs.YtfghooojingdhaaDoor
open Go Go.QL
set_option maxHeartbeats 3200000
attribute [local irreducible] ACall FnC
theorem run_13 {n : NetT} (ok : NetOK n) {s1 : Nat} {sk : List (W16 × W16)} (hsk : sk.length = n.inn.toNat + n.gates.length) {s2 s3 k' : Nat} {nw : List W16}
    {flt : Nat → FaultT} (hl : LanesOK sk flt 13) (xs : List Int) (hxl : xs.length ≤ 4096) :
    ACall Tryd.prog 71 [.x (.b 900 0), iv .i64 13, sl xs] (sB n s1 sk s2 (dl0 n) s3 k' nw)
      (fun r σ' => ∃ p : Nat × Nat × List W16, r = rowsAV ((List.range 13).map fun l => outsR n (flt l) xs xs.length) ∧ σ' = sB n s1 sk s2 (dl0 n) p.1 p.2.1 p.2.2) := by
  refine ACall_of_AWD hTt Tryd.func71 rfl (by kernel_rfl) (res := [.tmp 6]) rfl Tryd.ntmps71 (by simp) fun w0 K0 B => ?_
  dsimp only [entry]
  repeat' first | with_reducible refine AW_seq ?_ | with_reducible refine AW_block ?_ | ((first | with_reducible refine AW_region hTt ?_ | refine AW_draw hTt hMix (id := 1) 5 true [0, 1, 0, 4, 3, 31] (by kernel_rfl) rfl rfl (by kernel_rfl) ?_ | refine Or.inr ?_ | refine andA ?_ | fail); conv => whnf) | (refine fun hln => ?_; (try rw [List.length_map] at hln); unfold maxLen at hln; conv => whnf) | fail
  refine AW_imp (Imp.freeze 17 (fr' := frR n flt xs 13) (σ' := (15, .box (cellsN 13 0 0)) :: sB n s1 sk s2 (dl0 n) s3 k' nw) rfl ?_ ?_ rfl rfl) ?_
  · exact ⟨⟨_, rfl, .inl rfl⟩, ⟨_, congrArg (fun k : Nat => some (iv .i64 k)) (List.length_map _), .inl rfl⟩, ⟨_, rfl, .inl rfl⟩, ⟨_, rfl, .inl rfl⟩, ⟨_, rfl, .inr ⟨13, rfl, Nat.le_of_ble_eq_true rfl, rfl⟩⟩, ⟨_, rfl, .inl rfl⟩, trivial⟩
  · exact ⟨rfl, rfl, rfl, rfl, rfl, trivial⟩
  refine AW_imp (Imp.nil 600 3 1 (fr' := frR n flt xs 13) (σ' := chN 0 ((15, .box (cellsN 13 0 1)) :: sB n s1 sk s2 (dl0 n) s3 k' nw)) rfl ⟨⟨_, rfl, .inl rfl⟩, ⟨_, rfl, .inl rfl⟩, ⟨_, rfl, .inl rfl⟩, ⟨_, rfl, .inl rfl⟩, ⟨_, rfl, .inl rfl⟩, ⟨_, rfl, .inl rfl⟩, trivial⟩ ?_ rfl rfl) ?_
  · exact ⟨⟨_, rfl, .inr ⟨_, _, rfl, rfl, .inr ⟨rfl, rfl⟩, .inl rfl, .inl rfl, .inl rfl, .inl rfl, .inl rfl, .inl rfl, .inl rfl, .inl rfl, .inl rfl, .inl rfl, .inl rfl, .inl rfl, trivial⟩⟩, ⟨_, rfl, .inl rfl⟩, ⟨_, rfl, .inl rfl⟩, ⟨_, rfl, .inl rfl⟩, ⟨_, rfl, .inl rfl⟩, trivial⟩
  refine AW_imp (Imp.nil 601 3 1 (fr' := frR n flt xs 13) (σ' := chN 1 ((15, .box (cellsN 13 0 2)) :: sB n s1 sk s2 (dl0 n) s3 k' nw)) rfl ⟨⟨_, rfl, .inl rfl⟩, ⟨_, rfl, .inl rfl⟩, ⟨_, rfl, .inl rfl⟩, ⟨_, rfl, .inl rfl⟩, ⟨_, rfl, .inl rfl⟩, ⟨_, rfl, .inl rfl⟩, trivial⟩ ?_ rfl rfl) ?_
  · exact ⟨⟨_, rfl, .inl rfl⟩, ⟨_, rfl, .inr ⟨_, _, rfl, rfl, .inl rfl, .inr ⟨rfl, rfl⟩, .inl rfl, .inl rfl, .inl rfl, .inl rfl, .inl rfl, .inl rfl, .inl rfl, .inl rfl, .inl rfl, .inl rfl, .inl rfl, trivial⟩⟩, ⟨_, rfl, .inl rfl⟩, ⟨_, rfl, .inl rfl⟩, ⟨_, rfl, .inl rfl⟩, ⟨_, rfl, .inl rfl⟩, trivial⟩
  refine AW_imp (Imp.nil 602 3 1 (fr' := frR n flt xs 13) (σ' := chN 2 ((15, .box (cellsN 13 0 3)) :: sB n s1 sk s2 (dl0 n) s3 k' nw)) rfl ⟨⟨_, rfl, .inl rfl⟩, ⟨_, rfl, .inl rfl⟩, ⟨_, rfl, .inl rfl⟩, ⟨_, rfl, .inl rfl⟩, ⟨_, rfl, .inl rfl⟩, ⟨_, rfl, .inl rfl⟩, trivial⟩ ?_ rfl rfl) ?_
  · exact ⟨⟨_, rfl, .inl rfl⟩, ⟨_, rfl, .inl rfl⟩, ⟨_, rfl, .inr ⟨_, _, rfl, rfl, .inl rfl, .inl rfl, .inr ⟨rfl, rfl⟩, .inl rfl, .inl rfl, .inl rfl, .inl rfl, .inl rfl, .inl rfl, .inl rfl, .inl rfl, .inl rfl, .inl rfl, trivial⟩⟩, ⟨_, rfl, .inl rfl⟩, ⟨_, rfl, .inl rfl⟩, ⟨_, rfl, .inl rfl⟩, ⟨_, rfl, .inl rfl⟩, trivial⟩
  refine AW_imp (Imp.nil 603 3 1 (fr' := frR n flt xs 13) (σ' := chN 3 ((15, .box (cellsN 13 0 4)) :: sB n s1 sk s2 (dl0 n) s3 k' nw)) rfl ⟨⟨_, rfl, .inl rfl⟩, ⟨_, rfl, .inl rfl⟩, ⟨_, rfl, .inl rfl⟩, ⟨_, rfl, .inl rfl⟩, ⟨_, rfl, .inl rfl⟩, ⟨_, rfl, .inl rfl⟩, trivial⟩ ?_ rfl rfl) ?_
  · exact ⟨⟨_, rfl, .inl rfl⟩, ⟨_, rfl, .inl rfl⟩, ⟨_, rfl, .inl rfl⟩, ⟨_, rfl, .inr ⟨_, _, rfl, rfl, .inl rfl, .inl rfl, .inl rfl, .inr ⟨rfl, rfl⟩, .inl rfl, .inl rfl, .inl rfl, .inl rfl, .inl rfl, .inl rfl, .inl rfl, .inl rfl, .inl rfl, trivial⟩⟩, ⟨_, rfl, .inl rfl⟩, ⟨_, rfl, .inl rfl⟩, ⟨_, rfl, .inl rfl⟩, ⟨_, rfl, .inl rfl⟩, trivial⟩
  refine AW_imp (Imp.nil 604 3 1 (fr' := frR n flt xs 13) (σ' := chN 4 ((15, .box (cellsN 13 0 5)) :: sB n s1 sk s2 (dl0 n) s3 k' nw)) rfl ⟨⟨_, rfl, .inl rfl⟩, ⟨_, rfl, .inl rfl⟩, ⟨_, rfl, .inl rfl⟩, ⟨_, rfl, .inl rfl⟩, ⟨_, rfl, .inl rfl⟩, ⟨_, rfl, .inl rfl⟩, trivial⟩ ?_ rfl rfl) ?_
  · exact ⟨⟨_, rfl, .inl rfl⟩, ⟨_, rfl, .inl rfl⟩, ⟨_, rfl, .inl rfl⟩, ⟨_, rfl, .inl rfl⟩, ⟨_, rfl, .inr ⟨_, _, rfl, rfl, .inl rfl, .inl rfl, .inl rfl, .inl rfl, .inr ⟨rfl, rfl⟩, .inl rfl, .inl rfl, .inl rfl, .inl rfl, .inl rfl, .inl rfl, .inl rfl, .inl rfl, trivial⟩⟩, ⟨_, rfl, .inl rfl⟩, ⟨_, rfl, .inl rfl⟩, ⟨_, rfl, .inl rfl⟩, ⟨_, rfl, .inl rfl⟩, trivial⟩
  refine AW_imp (Imp.nil 605 3 1 (fr' := frR n flt xs 13) (σ' := chN 5 ((15, .box (cellsN 13 0 6)) :: sB n s1 sk s2 (dl0 n) s3 k' nw)) rfl ⟨⟨_, rfl, .inl rfl⟩, ⟨_, rfl, .inl rfl⟩, ⟨_, rfl, .inl rfl⟩, ⟨_, rfl, .inl rfl⟩, ⟨_, rfl, .inl rfl⟩, ⟨_, rfl, .inl rfl⟩, trivial⟩ ?_ rfl rfl) ?_
  · exact ⟨⟨_, rfl, .inl rfl⟩, ⟨_, rfl, .inl rfl⟩, ⟨_, rfl, .inl rfl⟩, ⟨_, rfl, .inl rfl⟩, ⟨_, rfl, .inl rfl⟩, ⟨_, rfl, .inr ⟨_, _, rfl, rfl, .inl rfl, .inl rfl, .inl rfl, .inl rfl, .inl rfl, .inr ⟨rfl, rfl⟩, .inl rfl, .inl rfl, .inl rfl, .inl rfl, .inl rfl, .inl rfl, .inl rfl, trivial⟩⟩, ⟨_, rfl, .inl rfl⟩, ⟨_, rfl, .inl rfl⟩, ⟨_, rfl, .inl rfl⟩, ⟨_, rfl, .inl rfl⟩, trivial⟩
  refine AW_imp (Imp.nil 606 3 1 (fr' := frR n flt xs 13) (σ' := chN 6 ((15, .box (cellsN 13 0 7)) :: sB n s1 sk s2 (dl0 n) s3 k' nw)) rfl ⟨⟨_, rfl, .inl rfl⟩, ⟨_, rfl, .inl rfl⟩, ⟨_, rfl, .inl rfl⟩, ⟨_, rfl, .inl rfl⟩, ⟨_, rfl, .inl rfl⟩, ⟨_, rfl, .inl rfl⟩, trivial⟩ ?_ rfl rfl) ?_
  · exact ⟨⟨_, rfl, .inl rfl⟩, ⟨_, rfl, .inl rfl⟩, ⟨_, rfl, .inl rfl⟩, ⟨_, rfl, .inl rfl⟩, ⟨_, rfl, .inl rfl⟩, ⟨_, rfl, .inl rfl⟩, ⟨_, rfl, .inr ⟨_, _, rfl, rfl, .inl rfl, .inl rfl, .inl rfl, .inl rfl, .inl rfl, .inl rfl, .inr ⟨rfl, rfl⟩, .inl rfl, .inl rfl, .inl rfl, .inl rfl, .inl rfl, .inl rfl, trivial⟩⟩, ⟨_, rfl, .inl rfl⟩, ⟨_, rfl, .inl rfl⟩, ⟨_, rfl, .inl rfl⟩, ⟨_, rfl, .inl rfl⟩, trivial⟩
  refine AW_imp (Imp.nil 607 3 1 (fr' := frR n flt xs 13) (σ' := chN 7 ((15, .box (cellsN 13 0 8)) :: sB n s1 sk s2 (dl0 n) s3 k' nw)) rfl ⟨⟨_, rfl, .inl rfl⟩, ⟨_, rfl, .inl rfl⟩, ⟨_, rfl, .inl rfl⟩, ⟨_, rfl, .inl rfl⟩, ⟨_, rfl, .inl rfl⟩, ⟨_, rfl, .inl rfl⟩, trivial⟩ ?_ rfl rfl) ?_
  · exact ⟨⟨_, rfl, .inl rfl⟩, ⟨_, rfl, .inl rfl⟩, ⟨_, rfl, .inl rfl⟩, ⟨_, rfl, .inl rfl⟩, ⟨_, rfl, .inl rfl⟩, ⟨_, rfl, .inl rfl⟩, ⟨_, rfl, .inl rfl⟩, ⟨_, rfl, .inr ⟨_, _, rfl, rfl, .inl rfl, .inl rfl, .inl rfl, .inl rfl, .inl rfl, .inl rfl, .inl rfl, .inr ⟨rfl, rfl⟩, .inl rfl, .inl rfl, .inl rfl, .inl rfl, .inl rfl, trivial⟩⟩, ⟨_, rfl, .inl rfl⟩, ⟨_, rfl, .inl rfl⟩, ⟨_, rfl, .inl rfl⟩, ⟨_, rfl, .inl rfl⟩, trivial⟩
  refine AW_imp (Imp.nil 608 3 1 (fr' := frR n flt xs 13) (σ' := chN 8 ((15, .box (cellsN 13 0 9)) :: sB n s1 sk s2 (dl0 n) s3 k' nw)) rfl ⟨⟨_, rfl, .inl rfl⟩, ⟨_, rfl, .inl rfl⟩, ⟨_, rfl, .inl rfl⟩, ⟨_, rfl, .inl rfl⟩, ⟨_, rfl, .inl rfl⟩, ⟨_, rfl, .inl rfl⟩, trivial⟩ ?_ rfl rfl) ?_
  · exact ⟨⟨_, rfl, .inl rfl⟩, ⟨_, rfl, .inl rfl⟩, ⟨_, rfl, .inl rfl⟩, ⟨_, rfl, .inl rfl⟩, ⟨_, rfl, .inl rfl⟩, ⟨_, rfl, .inl rfl⟩, ⟨_, rfl, .inl rfl⟩, ⟨_, rfl, .inl rfl⟩, ⟨_, rfl, .inr ⟨_, _, rfl, rfl, .inl rfl, .inl rfl, .inl rfl, .inl rfl, .inl rfl, .inl rfl, .inl rfl, .inl rfl, .inr ⟨rfl, rfl⟩, .inl rfl, .inl rfl, .inl rfl, .inl rfl, trivial⟩⟩, ⟨_, rfl, .inl rfl⟩, ⟨_, rfl, .inl rfl⟩, ⟨_, rfl, .inl rfl⟩, ⟨_, rfl, .inl rfl⟩, trivial⟩
  refine AW_imp (Imp.nil 609 3 1 (fr' := frR n flt xs 13) (σ' := chN 9 ((15, .box (cellsN 13 0 10)) :: sB n s1 sk s2 (dl0 n) s3 k' nw)) rfl ⟨⟨_, rfl, .inl rfl⟩, ⟨_, rfl, .inl rfl⟩, ⟨_, rfl, .inl rfl⟩, ⟨_, rfl, .inl rfl⟩, ⟨_, rfl, .inl rfl⟩, ⟨_, rfl, .inl rfl⟩, trivial⟩ ?_ rfl rfl) ?_
  · exact ⟨⟨_, rfl, .inl rfl⟩, ⟨_, rfl, .inl rfl⟩, ⟨_, rfl, .inl rfl⟩, ⟨_, rfl, .inl rfl⟩, ⟨_, rfl, .inl rfl⟩, ⟨_, rfl, .inl rfl⟩, ⟨_, rfl, .inl rfl⟩, ⟨_, rfl, .inl rfl⟩, ⟨_, rfl, .inl rfl⟩, ⟨_, rfl, .inr ⟨_, _, rfl, rfl, .inl rfl, .inl rfl, .inl rfl, .inl rfl, .inl rfl, .inl rfl, .inl rfl, .inl rfl, .inl rfl, .inr ⟨rfl, rfl⟩, .inl rfl, .inl rfl, .inl rfl, trivial⟩⟩, ⟨_, rfl, .inl rfl⟩, ⟨_, rfl, .inl rfl⟩, ⟨_, rfl, .inl rfl⟩, ⟨_, rfl, .inl rfl⟩, trivial⟩
  refine AW_imp (Imp.nil 610 3 1 (fr' := frR n flt xs 13) (σ' := chN 10 ((15, .box (cellsN 13 0 11)) :: sB n s1 sk s2 (dl0 n) s3 k' nw)) rfl ⟨⟨_, rfl, .inl rfl⟩, ⟨_, rfl, .inl rfl⟩, ⟨_, rfl, .inl rfl⟩, ⟨_, rfl, .inl rfl⟩, ⟨_, rfl, .inl rfl⟩, ⟨_, rfl, .inl rfl⟩, trivial⟩ ?_ rfl rfl) ?_
  · exact ⟨⟨_, rfl, .inl rfl⟩, ⟨_, rfl, .inl rfl⟩, ⟨_, rfl, .inl rfl⟩, ⟨_, rfl, .inl rfl⟩, ⟨_, rfl, .inl rfl⟩, ⟨_, rfl, .inl rfl⟩, ⟨_, rfl, .inl rfl⟩, ⟨_, rfl, .inl rfl⟩, ⟨_, rfl, .inl rfl⟩, ⟨_, rfl, .inl rfl⟩, ⟨_, rfl, .inr ⟨_, _, rfl, rfl, .inl rfl, .inl rfl, .inl rfl, .inl rfl, .inl rfl, .inl rfl, .inl rfl, .inl rfl, .inl rfl, .inl rfl, .inr ⟨rfl, rfl⟩, .inl rfl, .inl rfl, trivial⟩⟩, ⟨_, rfl, .inl rfl⟩, ⟨_, rfl, .inl rfl⟩, ⟨_, rfl, .inl rfl⟩, ⟨_, rfl, .inl rfl⟩, trivial⟩
  refine AW_imp (Imp.nil 611 3 1 (fr' := frR n flt xs 13) (σ' := chN 11 ((15, .box (cellsN 13 0 12)) :: sB n s1 sk s2 (dl0 n) s3 k' nw)) rfl ⟨⟨_, rfl, .inl rfl⟩, ⟨_, rfl, .inl rfl⟩, ⟨_, rfl, .inl rfl⟩, ⟨_, rfl, .inl rfl⟩, ⟨_, rfl, .inl rfl⟩, ⟨_, rfl, .inl rfl⟩, trivial⟩ ?_ rfl rfl) ?_
  · exact ⟨⟨_, rfl, .inl rfl⟩, ⟨_, rfl, .inl rfl⟩, ⟨_, rfl, .inl rfl⟩, ⟨_, rfl, .inl rfl⟩, ⟨_, rfl, .inl rfl⟩, ⟨_, rfl, .inl rfl⟩, ⟨_, rfl, .inl rfl⟩, ⟨_, rfl, .inl rfl⟩, ⟨_, rfl, .inl rfl⟩, ⟨_, rfl, .inl rfl⟩, ⟨_, rfl, .inl rfl⟩, ⟨_, rfl, .inr ⟨_, _, rfl, rfl, .inl rfl, .inl rfl, .inl rfl, .inl rfl, .inl rfl, .inl rfl, .inl rfl, .inl rfl, .inl rfl, .inl rfl, .inl rfl, .inr ⟨rfl, rfl⟩, .inl rfl, trivial⟩⟩, ⟨_, rfl, .inl rfl⟩, ⟨_, rfl, .inl rfl⟩, ⟨_, rfl, .inl rfl⟩, ⟨_, rfl, .inl rfl⟩, trivial⟩
  refine AW_imp (Imp.nil 612 3 1 (fr' := frR n flt xs 13) (σ' := chN 12 ((15, .box (cellsN 13 0 13)) :: sB n s1 sk s2 (dl0 n) s3 k' nw)) rfl ⟨⟨_, rfl, .inl rfl⟩, ⟨_, rfl, .inl rfl⟩, ⟨_, rfl, .inl rfl⟩, ⟨_, rfl, .inl rfl⟩, ⟨_, rfl, .inl rfl⟩, ⟨_, rfl, .inl rfl⟩, trivial⟩ ?_ rfl rfl) ?_
  · exact ⟨⟨_, rfl, .inl rfl⟩, ⟨_, rfl, .inl rfl⟩, ⟨_, rfl, .inl rfl⟩, ⟨_, rfl, .inl rfl⟩, ⟨_, rfl, .inl rfl⟩, ⟨_, rfl, .inl rfl⟩, ⟨_, rfl, .inl rfl⟩, ⟨_, rfl, .inl rfl⟩, ⟨_, rfl, .inl rfl⟩, ⟨_, rfl, .inl rfl⟩, ⟨_, rfl, .inl rfl⟩, ⟨_, rfl, .inl rfl⟩, ⟨_, rfl, .inr ⟨_, _, rfl, rfl, .inl rfl, .inl rfl, .inl rfl, .inl rfl, .inl rfl, .inl rfl, .inl rfl, .inl rfl, .inl rfl, .inl rfl, .inl rfl, .inl rfl, .inr ⟨rfl, rfl⟩, trivial⟩⟩, ⟨_, rfl, .inl rfl⟩, ⟨_, rfl, .inl rfl⟩, ⟨_, rfl, .inl rfl⟩, ⟨_, rfl, .inl rfl⟩, trivial⟩
  refine AW_loop (fun p : Nat × Nat × Nat × List W16 => [(20, iv .i64 p.1), (19, iv .i64 xs.length), (18, sl xs), (7, .x (.sb 15 0 13 13)), (8, sl (stsL n flt xs 13 p.1)), (0, .x (.b 900 0))])
    (fun p => (15, .box [.o 600 (p.1) (p.1), .o 601 (p.1) (p.1), .o 602 (p.1) (p.1), .o 603 (p.1) (p.1), .o 604 (p.1) (p.1), .o 605 (p.1) (p.1), .o 606 (p.1) (p.1), .o 607 (p.1) (p.1), .o 608 (p.1) (p.1), .o 609 (p.1) (p.1), .o 610 (p.1) (p.1), .o 611 (p.1) (p.1), .o 612 (p.1) (p.1)]) :: (600, rwOb n (flt 0) xs (p.1)) :: (601, rwOb n (flt 1) xs (p.1)) :: (602, rwOb n (flt 2) xs (p.1)) :: (603, rwOb n (flt 3) xs (p.1)) :: (604, rwOb n (flt 4) xs (p.1)) :: (605, rwOb n (flt 5) xs (p.1)) :: (606, rwOb n (flt 6) xs (p.1)) :: (607, rwOb n (flt 7) xs (p.1)) :: (608, rwOb n (flt 8) xs (p.1)) :: (609, rwOb n (flt 9) xs (p.1)) :: (610, rwOb n (flt 10) xs (p.1)) :: (611, rwOb n (flt 11) xs (p.1)) :: (612, rwOb n (flt 12) xs (p.1)) :: sB n s1 sk s2 (dl0 n) p.2.1 p.2.2.1 p.2.2.2)
    (fun p => p.1 ≤ xs.length) (fun p => xs.length - p.1) (0, s3, k', nw) (Nat.zero_le _) impA ?_
  rintro ⟨t, a, b, c⟩ ht
  dsimp only at ht ⊢
  rcases Nat.lt_or_ge t xs.length with htl | htl
  · have hbeat := fun s3 k' nw => beat_lanes ok (s1 := s1) hsk (s2 := s2) (s3 := s3) (k' := k') (nw := nw) (k := 13) (by decide) hl xs t xs[t] (getDI htl)
    have hol := otsL_len n flt xs 13 t
    repeat' first | with_reducible refine AW_seq ?_ | with_reducible refine AW_block ?_ | ((first | with_reducible refine AW_skip ?_ | with_reducible refine AW_exit ?_ | with_reducible refine AW_ret ?_ | with_reducible refine AW_region hTt ?_ | fail); conv => whnf) | (exact absurd hb (by omega)) | ((refine ⟨_, (hbeat a b c).frame (asc []) (by repeat (first | exact trivial | refine ⟨rfl, ?_⟩)) rfl (by rintro _ _ ⟨_, rfl, rfl⟩; rfl), ?_⟩); (rintro _ _ ⟨_, _, ⟨_, rfl, rfl⟩, rfl, rfl⟩); conv => whnf) | (refine AW_cond rfl (fun hb => ?_) (fun hb => ?_) <;> first | (replace hb := of_decide_eq_true hb; try simp only [List.length_map] at hb) | (replace hb := of_decide_eq_false hb; try simp only [List.length_map] at hb) | (simp only [List.length_map, bne_iff_ne, ne_eq, beq_iff_eq, bne_eq_false_iff_eq, beq_eq_false_iff_ne, decide_eq_true_eq, decide_eq_false_iff_not, Bool.not_eq_true', Bool.not_eq_false', Int.natCast_inj] at hb) | skip) | ((first | refine andA ?_ | with_reducible refine Exists.intro _ (And.intro (gd_any (And.intro (by omega) (map_get (by omega)))) ?_) | fail); conv => whnf) | (refine fun hln => ?_; (try rw [List.length_map] at hln); unfold maxLen at hln; conv => whnf) | fail
    rename_i pp
    refine AW_loop (fun l : Nat => [(33, iv .i64 l), (32, iv .i64 13), (31, sl (otsL n flt xs 13 t)), (20, iv .i64 t), (19, iv .i64 xs.length), (18, sl xs), (7, .x (.sb 15 0 13 13)), (8, sl (stsL n flt xs 13 (t + 1))), (0, .x (.b 900 0))])
      (fun l => (15, .box [.o 600 (t + bt 0 l) (t + bt 0 l), .o 601 (t + bt 1 l) (t + bt 1 l), .o 602 (t + bt 2 l) (t + bt 2 l), .o 603 (t + bt 3 l) (t + bt 3 l), .o 604 (t + bt 4 l) (t + bt 4 l), .o 605 (t + bt 5 l) (t + bt 5 l), .o 606 (t + bt 6 l) (t + bt 6 l), .o 607 (t + bt 7 l) (t + bt 7 l), .o 608 (t + bt 8 l) (t + bt 8 l), .o 609 (t + bt 9 l) (t + bt 9 l), .o 610 (t + bt 10 l) (t + bt 10 l), .o 611 (t + bt 11 l) (t + bt 11 l), .o 612 (t + bt 12 l) (t + bt 12 l)]) :: (600, rwOb n (flt 0) xs (t + bt 0 l)) :: (601, rwOb n (flt 1) xs (t + bt 1 l)) :: (602, rwOb n (flt 2) xs (t + bt 2 l)) :: (603, rwOb n (flt 3) xs (t + bt 3 l)) :: (604, rwOb n (flt 4) xs (t + bt 4 l)) :: (605, rwOb n (flt 5) xs (t + bt 5 l)) :: (606, rwOb n (flt 6) xs (t + bt 6 l)) :: (607, rwOb n (flt 7) xs (t + bt 7 l)) :: (608, rwOb n (flt 8) xs (t + bt 8 l)) :: (609, rwOb n (flt 9) xs (t + bt 9 l)) :: (610, rwOb n (flt 10) xs (t + bt 10 l)) :: (611, rwOb n (flt 11) xs (t + bt 11 l)) :: (612, rwOb n (flt 12) xs (t + bt 12 l)) :: sB n s1 sk s2 (dl0 n) pp.1 pp.2.1 pp.2.2) (fun l => l ≤ 13) (fun l => 13 - l) 0 (Nat.zero_le _) impA ?_
    intro l hlk
    rcases Nat.lt_or_ge l 13 with hll | hll
    · have hg := ots_at n flt xs t hll
      have e := row_app n (flt l) xs t l
      have hq := bt_self l
      have hz := outsR_len n (flt l) xs (t + bt l l)
      obtain ⟨j, hj⟩ : ∃ j, j = l + 1 := ⟨_, rfl⟩
      have hl' : l = 0 ∨ l = 1 ∨ l = 2 ∨ l = 3 ∨ l = 4 ∨ l = 5 ∨ l = 6 ∨ l = 7 ∨ l = 8 ∨ l = 9 ∨ l = 10 ∨ l = 11 ∨ l = 12 := by omega
      clear hol hbeat ht hlk hll
      rcases hl' with rfl | rfl | rfl | rfl | rfl | rfl | rfl | rfl | rfl | rfl | rfl | rfl | rfl
      all_goals
        repeat' first | with_reducible refine AW_seq ?_ | with_reducible refine AW_block ?_ | ((first | with_reducible refine AW_skip ?_ | with_reducible refine AW_region hTt ?_ | with_reducible refine Exists.intro _ (And.intro (gd_any (And.intro (by omega) hg)) ?_) | refine And.intro (gd_any (And.intro (by decide) (by decide))) ?_ | fail); conv => whnf) | ((refine And.intro ?_ ?_; focus (refine ⟨?_, ?_, ?_⟩ <;> simp [chunk, maxLen] <;> omega)); conv => whnf) | (refine AW_cond rfl (fun _ => ?_) (fun hb => absurd hb (by decide))) | ((first | refine ⟨_, wrap_of (by first | omega | (simp only [List.length_map]; omega)), ?_⟩ | refine andA ?_ | fail); conv => whnf) | fail
        exact ⟨j, by omega, by omega, by subst hj; exact impA⟩
    have hle : l = 13 := by omega
    subst hle
    repeat' first | with_reducible refine AW_seq ?_ | ((first | with_reducible refine AW_exit ?_ | with_reducible refine AW_region hTt ?_ | fail); conv => whnf) | (refine AW_cond rfl (fun hb => absurd hb (by decide)) (fun _ => ?_)) | ((refine ⟨_, wrap_of (by first | omega | (simp only [List.length_map]; omega)), ?_⟩); conv => whnf) | fail
    exact ⟨(t + 1, pp.1, pp.2.1, pp.2.2), by show t + 1 ≤ xs.length; omega, by show xs.length - (t + 1) < xs.length - t; omega, impA⟩
  · have hte : t = xs.length := by omega
    subst hte
    repeat' first | with_reducible refine AW_seq ?_ | with_reducible refine AW_block ?_ | ((first | with_reducible refine AW_skip ?_ | with_reducible refine AW_exit ?_ | with_reducible refine AW_ret ?_ | with_reducible refine AW_region hTt ?_ | fail); conv => whnf) | (exact absurd hb (by omega)) | (refine AW_cond rfl (fun hb => ?_) (fun hb => ?_) <;> first | (replace hb := of_decide_eq_true hb; try simp only [List.length_map] at hb) | (replace hb := of_decide_eq_false hb; try simp only [List.length_map] at hb) | (simp only [List.length_map, bne_iff_ne, ne_eq, beq_iff_eq, bne_eq_false_iff_eq, beq_eq_false_iff_ne, decide_eq_true_eq, decide_eq_false_iff_not, Bool.not_eq_true', Bool.not_eq_false', Int.natCast_inj] at hb) | skip) | fail
    refine ⟨_, sB n s1 sk s2 (dl0 n) a b c, ⟨rfl, rfl, rfl, rfl, trivial⟩, rfl, (?_ : _ = some (rowsAV ((List.range 13).map fun l => outsR n (flt l) xs xs.length))), (a, b, c), rfl, rfl⟩
    have hk := keepRows (σ := (15, .box [.o 600 xs.length xs.length, .o 601 xs.length xs.length, .o 602 xs.length xs.length, .o 603 xs.length xs.length, .o 604 xs.length xs.length, .o 605 xs.length xs.length, .o 606 xs.length xs.length, .o 607 xs.length xs.length, .o 608 xs.length xs.length, .o 609 xs.length xs.length, .o 610 xs.length xs.length, .o 611 xs.length xs.length, .o 612 xs.length xs.length]) :: (600, rwOb n (flt 0) xs xs.length) :: (601, rwOb n (flt 1) xs xs.length) :: (602, rwOb n (flt 2) xs xs.length) :: (603, rwOb n (flt 3) xs xs.length) :: (604, rwOb n (flt 4) xs xs.length) :: (605, rwOb n (flt 5) xs xs.length) :: (606, rwOb n (flt 6) xs xs.length) :: (607, rwOb n (flt 7) xs xs.length) :: (608, rwOb n (flt 8) xs xs.length) :: (609, rwOb n (flt 9) xs xs.length) :: (610, rwOb n (flt 10) xs xs.length) :: (611, rwOb n (flt 11) xs xs.length) :: (612, rwOb n (flt 12) xs xs.length) :: sB n s1 sk s2 (dl0 n) a b c) (σ' := sB n s1 sk s2 (dl0 n) a b c) (id := 15) (n := 13) (cap := 13) (ps := [PV.s 1 ((outsR n (flt 0) xs xs.length).map iPV), PV.s 1 ((outsR n (flt 1) xs xs.length).map iPV), PV.s 1 ((outsR n (flt 2) xs xs.length).map iPV), PV.s 1 ((outsR n (flt 3) xs xs.length).map iPV), PV.s 1 ((outsR n (flt 4) xs xs.length).map iPV), PV.s 1 ((outsR n (flt 5) xs xs.length).map iPV), PV.s 1 ((outsR n (flt 6) xs xs.length).map iPV), PV.s 1 ((outsR n (flt 7) xs xs.length).map iPV), PV.s 1 ((outsR n (flt 8) xs xs.length).map iPV), PV.s 1 ((outsR n (flt 9) xs xs.length).map iPV), PV.s 1 ((outsR n (flt 10) xs xs.length).map iPV), PV.s 1 ((outsR n (flt 11) xs xs.length).map iPV), PV.s 1 ((outsR n (flt 12) xs xs.length).map iPV)]) rfl rfl
      (by repeat' first | exact rfl | refine rowPVs_cons (rowPV_o rfl rfl (by rw [List.length_map, outsR_len])) ?_) rfl
    exact outKeep1 (x := .x (.sb 15 0 13 13)) rfl hk
end Go.Proofs.YtfghooojingdhaaDoor
namespace Go.Proofs.YtfghooojingdhaaDoor
open Go Go.QL
set_option maxHeartbeats 1600000
attribute [local irreducible] ACall FnC
theorem runs_at {k : Nat} (h1 : 1 ≤ k) (h13 : k ≤ 13) : RunsAt k := by
  have : k = 1 ∨ k = 2 ∨ k = 3 ∨ k = 4 ∨ k = 5 ∨ k = 6 ∨ k = 7 ∨ k = 8 ∨ k = 9 ∨ k = 10 ∨ k = 11 ∨ k = 12 ∨ k = 13 := by omega
  intro n ok s1 sk hsk s2 s3 k' nw flt hl xs hxl
  rcases this with rfl | rfl | rfl | rfl | rfl | rfl | rfl | rfl | rfl | rfl | rfl | rfl | rfl
  · exact run_1 ok hsk hl xs hxl
  · exact run_2 ok hsk hl xs hxl
  · exact run_3 ok hsk hl xs hxl
  · exact run_4 ok hsk hl xs hxl
  · exact run_5 ok hsk hl xs hxl
  · exact run_6 ok hsk hl xs hxl
  · exact run_7 ok hsk hl xs hxl
  · exact run_8 ok hsk hl xs hxl
  · exact run_9 ok hsk hl xs hxl
  · exact run_10 ok hsk hl xs hxl
  · exact run_11 ok hsk hl xs hxl
  · exact run_12 ok hsk hl xs hxl
  · exact run_13 ok hsk hl xs hxl
end Go.Proofs.YtfghooojingdhaaDoor
namespace Go.Proofs.YtfghooojingdhaaDoor
open Go Go.QL
set_option maxHeartbeats 3200000
attribute [local irreducible] ACall FnC YC
theorem runs_of (n : NetT) (fs : List FaultT) (ts : List (List Int)) (hc : askedR n fs ts = 0) : RunsAt (fs.length + 1) := by
  have := (AskOK.of hc).fl
  exact runs_at (by omega) (by omega)
end Go.Proofs.YtfghooojingdhaaDoor
namespace Go.Proofs.YtfghooojingdhaaDoor
open Go Go.QL
set_option maxHeartbeats 3200000
attribute [local irreducible] ACall FnC
theorem viewO {σ : Sg} {c e sz st : Nat} {xs : List (List PV)} {n : Nat} (h : lk c σ = some (.chain e sz st xs)) (hn : n = xs.length) : viewSV σ (.o c st n) = some (.d (.s sz xs)) := by
  subst hn
  simp [viewSV, h]
def rowPVb (n : NetT) (fs : List FaultT) (t : List Int) : List PV := [boolsPV (rowR n fs t)]
theorem table_ref (n : NetT) (fs : List FaultT) (ts : List (List Int)) : FnC Tryd.prog 35 [netAV n, faultsAV fs, rowsAV ts] (.t [tableAV (tableR n fs ts).1, iv .i64 (tableR n fs ts).2]) := by
  refine FnC_of_AWL hTt Tryd.func35 rfl (by kernel_rfl) (res := [.tmp 6, .tmp 7]) rfl Tryd.ntmps35 (by simp) fun w0 K0 => ?_
  dsimp only [entry]
  have hask := asked_fn n fs ts
  by_cases hc : askedR n fs ts = 0
  · have h := AskOK.of hc
    rw [show tableR n fs ts = (ts.map fun t => rowR n fs t, 0) from if_pos hc]
    rw [hc] at hask
    have hfl := h.fl
    have htl := h.tl
    repeat' first | with_reducible refine AW_seq ?_ | with_reducible refine AW_block ?_ | ((first | with_reducible refine AW_skip ?_ | with_reducible refine AW_region hTt ?_ | ((refine ⟨_, (hask).call rfl rfl, ?_⟩); (rintro _ _ ⟨rfl, rfl⟩)) | fail); conv => whnf) | (refine AW_cond rfl (fun hb => absurd hb (by decide)) (fun _ => ?_)) | fail
    refine AW_imp (Imp.nil 9 65 1 (fr' := [(9, .x (.o 9 0 0)), (10, iv .i64 0), (3, .x (.b 3 0)), (1, faultsAV fs), (2, rowsAV ts)]) (σ' := [(3, netCells n)]) rfl ?_ ?_ rfl rfl) ?_
    · exact ⟨⟨_, rfl, .inr ⟨rfl, rfl⟩⟩, ⟨_, rfl, .inl rfl⟩, ⟨_, rfl, .inl rfl⟩, ⟨_, rfl, .inl rfl⟩, ⟨_, rfl, .inl rfl⟩, trivial⟩
    · exact ⟨⟨_, rfl, .inl rfl⟩, trivial⟩
    refine AW_loop (fun i : Nat => [(10, iv .i64 i), (9, .x (.o 9 i i)), (3, .x (.b 3 0)), (1, faultsAV fs), (2, rowsAV ts)]) (fun i => [(9, .chain 65 1 i ((ts.take i).map (rowPVb n fs))), (3, netCells n)])
      (fun i => i ≤ ts.length) (fun i => ts.length - i) 0 (Nat.zero_le _) impA ?_
    intro i hi
    have hlen : (ts.take i).length = i := by rw [List.length_take]; omega
    rcases Nat.lt_or_ge i ts.length with hil | hil
    · obtain ⟨t, ht⟩ : ∃ t, ts[i]? = some t := ⟨_, List.getElem?_eq_getElem hil⟩
      have htm := List.mem_of_getElem? ht
      repeat' first | with_reducible refine AW_seq ?_ | with_reducible refine AW_block ?_ | ((first | with_reducible refine AW_skip ?_ | with_reducible refine AW_exit ?_ | with_reducible refine AW_ret ?_ | with_reducible refine AW_region hTt ?_ | fail); conv => whnf) | (exact absurd hb (by omega)) | (refine AW_cond rfl (fun hb => ?_) (fun hb => ?_) <;> first | (replace hb := of_decide_eq_true hb; try simp only [List.length_map] at hb) | (replace hb := of_decide_eq_false hb; try simp only [List.length_map] at hb)) | (refine fun hln => ?_; (try rw [List.length_map] at hln); unfold maxLen at hln; conv => whnf) | fail
      refine AW_imp (Imp.nil 11 4 1 (fr' := [(12, iv .i64 0), (11, .x (.o 11 0 0)), (10, iv .i64 i), (9, .x (.o 9 i i)), (3, .x (.b 3 0)), (1, faultsAV fs), (2, rowsAV ts)]) (σ' := [(9, .chain 65 1 i ((ts.take i).map (rowPVb n fs))), (3, netCells n)]) rfl ?_ ?_ rfl rfl) ?_
      · exact ⟨⟨_, rfl, .inl rfl⟩, ⟨_, rfl, .inr ⟨rfl, rfl⟩⟩, ⟨_, rfl, .inl rfl⟩, ⟨_, rfl, .inl rfl⟩, ⟨_, rfl, .inl rfl⟩, ⟨_, rfl, .inl rfl⟩, ⟨_, rfl, .inl rfl⟩, trivial⟩
      · exact ⟨⟨_, rfl, .inl rfl⟩, ⟨_, rfl, .inl rfl⟩, trivial⟩
      refine AW_loop (fun k : Nat => [(12, iv .i64 k), (11, .x (.o 11 k k)), (10, iv .i64 i), (9, .x (.o 9 i i)), (3, .x (.b 3 0)), (1, faultsAV fs), (2, rowsAV ts)]) (fun k => [(11, .chain 4 1 k ((rowR n (fs.take k) t).map bPV)), (9, .chain 65 1 i ((ts.take i).map (rowPVb n fs))), (3, netCells n)])
        (fun k => k ≤ fs.length) (fun k => fs.length - k) 0 (Nat.zero_le _) impA ?_
      intro k hk
      have hrl : (rowR n (fs.take k) t).length = k := by unfold rowR; rw [List.length_map, List.length_take]; omega
      rcases Nat.lt_or_ge k fs.length with hkl | hkl
      · obtain ⟨f, hf⟩ : ∃ f, fs[k]? = some f := ⟨_, List.getElem?_eq_getElem hkl⟩
        have o1 := h.out fine_ok htm
        have o2 := h.out (faultErr_flt (h.f f (List.mem_of_getElem? hf))) htm
        have hst : ((rowR n (fs.take k) t).map bPV).take k ++ [[PV.v (.bool (!sameInts (oR n fine t) (oR n f t)))]] = (rowR n (fs.take (k + 1)) t).map bPV := by
          rw [List.take_of_length_le (by rw [List.length_map]; omega), List.take_add_one, hf]
          unfold rowR
          rw [List.map_append, List.map_append]; rfl
        clear hlen
        repeat' first | with_reducible refine AW_seq ?_ | with_reducible refine AW_block ?_ | ((first | with_reducible refine AW_skip ?_ | with_reducible refine AW_exit ?_ | with_reducible refine AW_region hTt ?_ | refine AW_draw hTt hMix (id := 12) 21 true [0, 0, 0, 0, 0, 24, 56, 126, 0, 0, 0, 1536, 3584, 0, 0, 24576, 57344, 131070, 262142, 524286, 1048574, 2097151, 4194303] (by kernel_rfl) rfl rfl (by kernel_rfl) ?_ | fail); conv => whnf) | (exact absurd hb (by omega)) | ((first | with_reducible refine Exists.intro _ (And.intro (gd_any (And.intro (by omega) (row_some ht))) ?_) | with_reducible refine Exists.intro _ (And.intro (gd_any (And.intro (by omega) (fault_some hf))) ?_) | refine ⟨_, fun _ => (fine_fn).call rfl rfl, ?_⟩ | refine ⟨_, fun _ => (o1).call rfl rfl, ?_⟩ | refine ⟨_, fun _ => (o2).call rfl rfl, ?_⟩ | refine ⟨_, fun _ => (ints_fn _ _).call rfl rfl, ?_⟩ | fail); conv => whnf) | ((refine And.intro (by refine ⟨?_, ?_, ?_⟩ <;> simp [chunk, maxLen, hrl] <;> omega) ?_); conv => whnf) | (refine AW_cond rfl (fun hb => ?_) (fun hb => ?_) <;> first | (replace hb := of_decide_eq_true hb; try simp only [List.length_map] at hb) | (replace hb := of_decide_eq_false hb; try simp only [List.length_map] at hb)) | ((first | refine ⟨_, wrap_of (by first | omega | (simp only [List.length_map]; omega)), ?_⟩ | refine andA ?_ | fail); conv => whnf) | (refine fun hln => ?_; (try rw [List.length_map] at hln); unfold maxLen at hln; conv => whnf) | fail
        all_goals exact ⟨k + 1, by omega, by omega, impA⟩
      · have hke : k = fs.length := by omega
        subst hke
        rw [List.take_of_length_le (Nat.le_refl _)] at hrl ⊢
        have hfz : AV.x (.d (boolsPV (rowR n fs t))) = .x (.d (.s 1 (((rowR n fs t).map bPV).take fs.length))) := by
          rw [List.take_of_length_le (by rw [List.length_map]; omega)]; rfl
        refine AW_imp (Imp.freeze 11 (fr' := [(12, iv .i64 fs.length), (11, .x (.d (boolsPV (rowR n fs t)))), (10, iv .i64 i), (9, .x (.o 9 i i)), (3, .x (.b 3 0)), (1, faultsAV fs), (2, rowsAV ts)]) (σ' := [(9, .chain 65 1 i ((ts.take i).map (rowPVb n fs))), (3, netCells n)]) rfl ⟨⟨_, rfl, .inl rfl⟩, ⟨_, rfl, .inr ⟨fs.length, rfl, by rw [List.length_map]; omega, hfz⟩⟩, ⟨_, rfl, .inl rfl⟩, ⟨_, rfl, .inl rfl⟩, ⟨_, rfl, .inl rfl⟩, ⟨_, rfl, .inl rfl⟩, ⟨_, rfl, .inl rfl⟩, trivial⟩ ⟨rfl, rfl, trivial⟩ rfl rfl) ?_
        have hst : ((ts.take i).map (rowPVb n fs)).take i ++ [[boolsPV (rowR n fs t)]] = (ts.take (i + 1)).map (rowPVb n fs) := by
          rw [List.take_of_length_le (by rw [List.length_map]; omega), List.take_add_one, ht, List.map_append]; rfl
        repeat' first | with_reducible refine AW_seq ?_ | with_reducible refine AW_block ?_ | ((first | with_reducible refine AW_skip ?_ | with_reducible refine AW_exit ?_ | with_reducible refine AW_region hTt ?_ | refine AW_draw hTt hMix (id := 12) 21 true [0, 0, 0, 0, 0, 24, 56, 126, 0, 0, 0, 1536, 3584, 0, 0, 24576, 57344, 131070, 262142, 524286, 1048574, 2097151, 4194303] (by kernel_rfl) rfl rfl (by kernel_rfl) ?_ | fail); conv => whnf) | (exact absurd hb (by omega)) | ((refine And.intro (by refine ⟨?_, ?_, ?_⟩ <;> simp [chunk, maxLen, hlen] <;> omega) ?_); conv => whnf) | (refine AW_cond rfl (fun hb => ?_) (fun hb => ?_) <;> first | (replace hb := of_decide_eq_true hb; try simp only [List.length_map] at hb) | (replace hb := of_decide_eq_false hb; try simp only [List.length_map] at hb)) | ((first | refine ⟨_, wrap_of (by first | omega | (simp only [List.length_map]; omega)), ?_⟩ | refine andA ?_ | fail); conv => whnf) | (refine fun hln => ?_; (try rw [List.length_map] at hln); unfold maxLen at hln; conv => whnf) | fail
        exact ⟨i + 1, by omega, by omega, impA⟩
    · have hie : i = ts.length := by omega
      subst hie
      repeat' first | with_reducible refine AW_seq ?_ | with_reducible refine AW_block ?_ | ((first | with_reducible refine AW_skip ?_ | with_reducible refine AW_exit ?_ | with_reducible refine AW_ret ?_ | with_reducible refine AW_region hTt ?_ | fail); conv => whnf) | (exact absurd hb (by omega)) | (refine AW_cond rfl (fun hb => ?_) (fun hb => ?_) <;> first | (replace hb := of_decide_eq_true hb; try simp only [List.length_map] at hb) | (replace hb := of_decide_eq_false hb; try simp only [List.length_map] at hb)) | (refine fun hln => ?_; (try rw [List.length_map] at hln); unfold maxLen at hln; conv => whnf) | fail
      refine ⟨.t [tableAV (ts.map fun t => rowR n fs t), iv .i64 0], ?_, LeAV.refl _⟩
      show viewAV _ (.t [.x (.o 9 ts.length ts.length), iv .i64 0]) = _
      simp only [viewAV, viewAVs, viewAV1]
      rw [viewO (σ := [(9, Ob.chain 65 1 ts.length ((ts.take ts.length).map (rowPVb n fs))), (3, netCells n)]) rfl (by rw [List.length_map, hlen]), List.take_of_length_le (Nat.le_refl _)]
      unfold tableAV rowPVb
      rw [List.map_map]; rfl
  · rw [show tableR n fs ts = ([], askedR n fs ts) from if_neg hc]
    repeat' first | with_reducible refine AW_seq ?_ | with_reducible refine AW_block ?_ | ((first | with_reducible refine AW_skip ?_ | with_reducible refine AW_ret ?_ | with_reducible refine AW_region hTt ?_ | fail); conv => whnf) | (exact absurd hb (by omega)) | ((refine ⟨_, (hask).call rfl rfl, ?_⟩); (rintro _ _ ⟨rfl, rfl⟩); conv => whnf) | (refine AW_cond rfl (fun hb => ?_) (fun hb => ?_) <;> first | (replace hb := of_decide_eq_true hb; try simp only [List.length_map] at hb) | (replace hb := of_decide_eq_false hb; try simp only [List.length_map] at hb) | (simp only [List.length_map, bne_iff_ne, ne_eq, beq_iff_eq, bne_eq_false_iff_eq, beq_eq_false_iff_ne, decide_eq_true_eq, decide_eq_false_iff_not, Bool.not_eq_true', Bool.not_eq_false', Int.natCast_inj] at hb)) | fail
    exact ⟨_, rfl, _, rfl, LeAV1.nil 1, LeAV1.refl _, trivial⟩
end Go.Proofs.YtfghooojingdhaaDoor
namespace Go.Proofs.YtfghooojingdhaaDoor
open Go Go.QL
set_option maxHeartbeats 3200000
attribute [local irreducible] ACall FnC YC
theorem gtests_fn (n : NetT) (hi : i64 n.inn) (fs : List FaultT) (ts : List (List Int)) : FnC Tryd.prog 9 [netAV n, faultsAV fs, rowsAV ts] (bv true) := by
  have h1 := ptable_fn n hi fs ts (runs_of n fs ts)
  have h2 := table_ref n fs ts
  have h3 := pfew_fn n hi fs ts (runs_of n fs ts)
  have h4 := few_ref n fs ts
  have h5 := ptell_fn' n hi fs ts (runs_of n fs ts)
  have h6 := tell_ref n fs ts
  generalize tableR n fs ts = c at h1 h2
  obtain ⟨tb, te⟩ := c
  generalize fewR n fs ts = r at h3 h4
  obtain ⟨r, re⟩ := r
  generalize tellR n fs ts = s at h5 h6
  obtain ⟨s, se⟩ := s
  have ht := tables_ref tb tb
  rw [decide_eq_true rfl] at ht
  have i1 := ints_fn r r
  rw [show sameInts r r = true from decide_eq_true rfl] at i1
  have i2 := ints_fn s s
  rw [show sameInts s s = true from decide_eq_true rfl] at i2
  try dsimp only at h1 h2 h3 h4 h5 h6
  refine FnC_of_AW hTt Tryd.func9 rfl (by kernel_rfl) (res := [.tmp 6]) rfl Tryd.ntmps9 (by simp) fun w0 K0 => ?_
  dsimp only [entry]
  repeat' first | with_reducible refine AW_seq ?_ | with_reducible refine AW_block ?_ | with_reducible refine AW_scope ?_ | ((first | with_reducible refine AW_skip ?_ | with_reducible refine AW_label ?_ | with_reducible refine AW_exit ?_ | with_reducible refine AW_ret ?_ | with_reducible refine AW_region hTt ?_ | fail); conv => whnf) | (exact absurd rfl hb) | (exact absurd hb (by decide)) | (exfalso; simp at hb; done) | ((first | ((refine ⟨_, (h1).call rfl rfl, ?_⟩); (rintro _ _ ⟨rfl, rfl⟩)) | refine ⟨_, fun _ => (h1).call rfl rfl, ?_⟩ | refine ⟨_, fun _ _ => (h1).call rfl rfl, ?_⟩ | ((refine ⟨_, (h2).call rfl rfl, ?_⟩); (rintro _ _ ⟨rfl, rfl⟩)) | refine ⟨_, fun _ => (h2).call rfl rfl, ?_⟩ | refine ⟨_, fun _ _ => (h2).call rfl rfl, ?_⟩ | ((refine ⟨_, (h3).call rfl rfl, ?_⟩); (rintro _ _ ⟨rfl, rfl⟩)) | refine ⟨_, fun _ => (h3).call rfl rfl, ?_⟩ | refine ⟨_, fun _ _ => (h3).call rfl rfl, ?_⟩ | ((refine ⟨_, (h4).call rfl rfl, ?_⟩); (rintro _ _ ⟨rfl, rfl⟩)) | refine ⟨_, fun _ => (h4).call rfl rfl, ?_⟩ | refine ⟨_, fun _ _ => (h4).call rfl rfl, ?_⟩ | ((refine ⟨_, (h5).call rfl rfl, ?_⟩); (rintro _ _ ⟨rfl, rfl⟩)) | refine ⟨_, fun _ => (h5).call rfl rfl, ?_⟩ | refine ⟨_, fun _ _ => (h5).call rfl rfl, ?_⟩ | ((refine ⟨_, (h6).call rfl rfl, ?_⟩); (rintro _ _ ⟨rfl, rfl⟩)) | refine ⟨_, fun _ => (h6).call rfl rfl, ?_⟩ | refine ⟨_, fun _ _ => (h6).call rfl rfl, ?_⟩ | ((refine ⟨_, (ht).call rfl rfl, ?_⟩); (rintro _ _ ⟨rfl, rfl⟩)) | refine ⟨_, fun _ => (ht).call rfl rfl, ?_⟩ | refine ⟨_, fun _ _ => (ht).call rfl rfl, ?_⟩ | ((refine ⟨_, (i1).call rfl rfl, ?_⟩); (rintro _ _ ⟨rfl, rfl⟩)) | refine ⟨_, fun _ => (i1).call rfl rfl, ?_⟩ | refine ⟨_, fun _ _ => (i1).call rfl rfl, ?_⟩ | ((refine ⟨_, (i2).call rfl rfl, ?_⟩); (rintro _ _ ⟨rfl, rfl⟩)) | refine ⟨_, fun _ => (i2).call rfl rfl, ?_⟩ | refine ⟨_, fun _ _ => (i2).call rfl rfl, ?_⟩ | ((refine ⟨_, (awake_fn).call rfl rfl, ?_⟩); (rintro _ _ ⟨rfl, rfl⟩)) | refine ⟨_, fun _ => (awake_fn).call rfl rfl, ?_⟩ | refine ⟨_, fun _ _ => (awake_fn).call rfl rfl, ?_⟩ | fail); conv => whnf) | (refine AW_cond rfl (fun _ => ?_) (fun hb => absurd hb (by decide))) | (refine AW_cond rfl (fun hb => absurd hb (by decide)) (fun _ => ?_)) | (refine AW_cond rfl (fun hb => ?_) (fun hb => ?_) <;> first | (replace hb := of_decide_eq_true hb; try simp only [List.length_map] at hb) | (replace hb := of_decide_eq_false hb; try simp only [List.length_map] at hb) | (simp only [List.length_map, bne_iff_ne, ne_eq, beq_iff_eq, bne_eq_false_iff_eq, beq_eq_false_iff_ne, decide_eq_true_eq, decide_eq_false_iff_not, Bool.not_eq_true', Bool.not_eq_false', Int.natCast_inj] at hb) | skip) | ((first | refine ⟨_, wrap_of (by first | omega | (simp only [List.length_map]; omega)), ?_⟩ | refine ⟨IntKind.wrap _ _, rfl, ?_⟩ | refine andA ?_ | with_reducible refine Exists.intro _ (And.intro (gd_any (And.intro (by omega) (map_get (by omega)))) ?_) | with_reducible refine And.intro (gd_any (And.intro (by omega) (And.intro (by first | omega | (simp only [List.length_map]; omega)) (by first | omega | (simp only [List.length_map]; omega) | (simp only [List.length_set, List.length_map]; omega))))) ?_ | with_reducible refine Exists.intro _ (And.intro (gd_any (map_get' (by omega) (by omega))) (And.intro (And.intro (Nat.le_of_ble_eq_true rfl) rfl) ?_)) | with_reducible refine Exists.intro _ (And.intro (gd_any (And.intro (by omega) (map_get' (by omega) (by omega)))) ?_) | with_reducible refine And.intro (And.intro (by omega) (And.intro (by first | omega | (simp only [List.length_map]; omega)) (by first | omega | (simp only [List.length_map, List.length_set]; omega)))) ?_ | with_reducible refine Exists.intro _ (And.intro (map_get' (by omega) (by omega)) (And.intro (Nat.le_of_ble_eq_true rfl) ?_)) | fail); conv => whnf) | ((refine And.intro (by refine ⟨?_, ?_, ?_⟩ <;> simp [chunk, maxLen] <;> omega) ?_); conv => whnf) | (refine fun hln => ?_; (try rw [List.length_map] at hln); unfold maxLen at hln; conv => whnf) | fail
  exact (show ∀ b, b = true → some (bv b) = some (bv true) from fun b h => by rw [h]) _ (by simp)
end Go.Proofs.YtfghooojingdhaaDoor
