/- What the functions that this law reaches return: part 0. No condition. -/
import Derived.Test.YtnpleednkmhhhabDoorB04
set_option linter.all false
namespace Go.Proofs.YtnpleednkmhhhabDoor
open Go Go.QL
set_option maxHeartbeats 1600000
attribute [local irreducible] ACall FnC
theorem plus_fn (x y : R2) (hx : okR x) (hy : okR y) : FnC Tryd.prog 56 [r2AV x, r2AV y] (r2AV (plusP x y)) := by
  obtain ⟨xn, xd⟩ := x
  obtain ⟨yn, yd⟩ := y
  obtain ⟨hx1, hx2, hx3⟩ := hx
  obtain ⟨hy1, hy2, hy3⟩ := hy
  dsimp only at *
  have hr1 := reduce_fn xd yd (by unfold lim; omega) (by unfold lim; omega) (by omega)
  have hg : 0 < Int.gcd xd yd := Int.gcd_pos_of_ne_zero_right xd (by omega)
  have e1 : redP xd yd = (xd / (Int.gcd xd yd : Int), yd / (Int.gcd xd yd : Int)) := if_neg (by omega)
  unfold plusP
  dsimp only
  obtain ⟨v, hv⟩ : (Int.gcd xd yd : Int) ∣ xd := Int.gcd_dvd_left ..
  obtain ⟨u, hu⟩ : (Int.gcd xd yd : Int) ∣ yd := Int.gcd_dvd_right ..
  have ev : xd / (Int.gcd xd yd : Int) = v := by
    conv => lhs; lhs; rw [hv]
    exact Int.mul_ediv_cancel_left _ (by omega)
  have eu : yd / (Int.gcd xd yd : Int) = u := by
    conv => lhs; lhs; rw [hu]
    exact Int.mul_ediv_cancel_left _ (by omega)
  rw [e1, ev, eu] at hr1
  rw [ev, eu]
  clear e1 ev eu
  generalize (Int.gcd xd yd) = g at *
  have hv0 : 0 < v := by
    rcases Int.lt_or_le 0 v with h | h
    · exact h
    · have := Int.mul_nonneg (show (0 : Int) ≤ (g : Int) by omega) (show 0 ≤ -v by omega)
      rw [Int.mul_neg] at this; omega
  have hu0 : 0 < u := by
    rcases Int.lt_or_le 0 u with h | h
    · exact h
    · have := Int.mul_nonneg (show (0 : Int) ≤ (g : Int) by omega) (show 0 ≤ -u by omega)
      rw [Int.mul_neg] at this; omega
  have hvx : v ≤ xd := by
    have := Int.mul_le_mul_of_nonneg_right (show (1 : Int) ≤ (g : Int) by omega) (show 0 ≤ v by omega)
    omega
  have huy : u ≤ yd := by
    have := Int.mul_le_mul_of_nonneg_right (show (1 : Int) ≤ (g : Int) by omega) (show 0 ≤ u by omega)
    omega
  have hgx : (g : Int) ≤ xd := by
    have := Int.mul_le_mul_of_nonneg_left (show (1 : Int) ≤ v by omega) (show 0 ≤ (g : Int) by omega)
    omega
  have dg : xd.tdiv v = g := by rw [hv]; exact Int.mul_tdiv_cancel _ (by omega)
  have du : yd.tdiv g = u := by rw [hu]; exact Int.mul_tdiv_cancel_left _ (by omega)
  have dv : xd.tdiv g = v := by rw [hv]; exact Int.mul_tdiv_cancel_left _ (by omega)
  have m1 := mul_bd (a := xn) (b := u) (A := 1000000000000) (B := 100000) (by omega) (by omega)
  have m2 := mul_bd (a := yn) (b := v) (A := 1000000000000) (B := 100000) (by omega) (by omega)
  have m3 := mul_bd (a := v) (b := yd) (A := 100000) (B := 100000) (by omega) (by omega)
  have m4 : 0 < v * yd := Int.mul_pos hv0 hy2
  have hr2 := reduce_fn (xn * u + yn * v) (v * yd) (by unfold lim; omega) (by unfold lim; omega) (by omega)
  have w1 : IntKind.i64.wrap (xd.tdiv v) = g := by rw [dg]; exact wrap_of (by omega)
  have w2 : IntKind.i64.wrap (yd.tdiv g) = u := by rw [du]; exact wrap_of (by omega)
  have w3 : IntKind.i64.wrap (xd.tdiv g) = v := by rw [dv]; exact wrap_of (by omega)
  have w4 : IntKind.i64.wrap (xn * u) = xn * u := wrap_of (by omega)
  have w5 : IntKind.i64.wrap (yn * v) = yn * v := wrap_of (by omega)
  have w6 : IntKind.i64.wrap (v * yd) = v * yd := wrap_of (by omega)
  have w7 : IntKind.i64.wrap (xn * u + yn * v) = xn * u + yn * v := wrap_of (by omega)
  have hv1 : v ≠ 0 := by omega
  have hg1 : (g : Int) ≠ 0 := by omega
  generalize redP (xn * u + yn * v) (v * yd) = R at hr2 ⊢
  clear hv hu
  dsimp only [r2AV] at hr1 hr2 ⊢
  refine FnC_of_AW hTt Tryd.func56 rfl (by kernel_rfl) (res := [.cell 4 105]) rfl Tryd.ntmps56 (by simp) fun w0 K0 => ?_
  dsimp only [entry]
  repeat' first | with_reducible refine AW_seq ?_ | with_reducible refine AW_block ?_ | with_reducible refine AW_scope ?_ | ((first | with_reducible refine AW_skip ?_ | with_reducible refine AW_label ?_ | with_reducible refine AW_exit ?_ | with_reducible refine AW_ret ?_ | with_reducible refine AW_region hTt ?_ | refine AW_draw hTt hMix (id := 1) 8 false [0, 1, 0, 4, 0, 16, 60, 124, 255, 511] (by kernel_rfl) rfl rfl (by kernel_rfl) ?_ | refine AW_draw hTt hMix (id := 2) 22 false [0, 1, 0, 4, 0, 28, 63, 0, 128, 0, 512, 0, 3584, 8064, 16383, 0, 32768, 0, 229376, 0, 524288, 2064384, 4194303, 8388607] (by kernel_rfl) rfl rfl (by kernel_rfl) ?_ | refine LateGo.mk ⟨_, rfl, ?_⟩ | refine LateGo.mk ⟨.x .j, rfl, ?_⟩ | ((refine ⟨_, (hr1).call rfl rfl, ?_⟩); (rintro _ _ ⟨rfl, rfl⟩)) | refine ⟨_, fun _ => (hr1).call rfl rfl, ?_⟩ | refine ⟨_, fun _ _ => (hr1).call rfl rfl, ?_⟩ | ((refine ⟨_, (hr2).call rfl rfl, ?_⟩); (rintro _ _ ⟨rfl, rfl⟩)) | refine ⟨_, fun _ => (hr2).call rfl rfl, ?_⟩ | refine ⟨_, fun _ _ => (hr2).call rfl rfl, ?_⟩ | refine And.intro (gd_none hv1) ?_ | refine And.intro (gd_none hg1) ?_ | refine ⟨_, w1, ?_⟩ | refine ⟨_, w2, ?_⟩ | refine ⟨_, w3, ?_⟩ | refine ⟨_, w4, ?_⟩ | refine ⟨_, w5, ?_⟩ | refine ⟨_, w6, ?_⟩ | refine ⟨_, w7, ?_⟩ | fail); conv => whnf) | (refine AW_cond rfl (fun _ => ?_) (fun hb => absurd (show true = false from hb) (by decide))) | (refine AW_cond rfl (fun hb => absurd (show false = true from hb) (by decide)) (fun _ => ?_)) | (refine AW_cond rfl (fun _ => ?_) (fun hb => absurd hb (by decide))) | (refine AW_cond rfl (fun hb => absurd hb (by decide)) (fun _ => ?_)) | (refine AW_cond rfl (fun hb => ?_) (fun hb => ?_) <;> first | (replace hb := of_decide_eq_true hb; try simp only [List.length_map] at hb) | (replace hb := of_decide_eq_false hb; try simp only [List.length_map] at hb) | (simp only [List.length_map, bne_iff_ne, ne_eq, beq_iff_eq, bne_eq_false_iff_eq, beq_eq_false_iff_ne, decide_eq_true_eq, decide_eq_false_iff_not, Bool.not_eq_true', Bool.not_eq_false', Int.natCast_inj] at hb) | skip) | ((first | refine ⟨_, wrap_of (by first | omega | (simp only [List.length_map]; omega)), ?_⟩ | refine ⟨IntKind.wrap _ _, rfl, ?_⟩ | refine andA ?_ | with_reducible refine Exists.intro _ (And.intro (gd_any (And.intro (by omega) (map_get (by omega)))) ?_) | with_reducible refine And.intro (gd_any (And.intro (by omega) (And.intro (by first | omega | (simp only [List.length_map]; omega)) (by first | omega | (simp only [List.length_map]; omega) | (simp only [List.length_set, List.length_map]; omega))))) ?_ | with_reducible refine Exists.intro _ (And.intro (gd_any (map_get' (by omega) (by omega))) (And.intro (And.intro (Nat.le_of_ble_eq_true rfl) rfl) ?_)) | with_reducible refine Exists.intro _ (And.intro (gd_any (And.intro (by omega) (map_get' (by omega) (by omega)))) ?_) | with_reducible refine And.intro (And.intro (by omega) (And.intro (by first | omega | (simp only [List.length_map]; omega)) (by first | omega | (simp only [List.length_map, List.length_set]; omega)))) ?_ | with_reducible refine Exists.intro _ (And.intro (map_get' (by omega) (by omega)) (And.intro (Nat.le_of_ble_eq_true rfl) ?_)) | fail); conv => whnf) | ((refine And.intro (by refine ⟨?_, ?_, ?_⟩ <;> simp [chunk, maxLen] <;> omega) ?_); conv => whnf) | (refine fun hln => ?_; (try rw [List.length_map] at hln); unfold maxLen at hln; conv => whnf) | fail
  rfl
end Go.Proofs.YtnpleednkmhhhabDoor
namespace Go.Proofs.YtnpleednkmhhhabDoor
open Go Go.QL
set_option maxHeartbeats 1600000
attribute [local irreducible] ACall FnC YC
theorem area_join {p : List Int} (hp : pOK p) {a b : Int} (ha : -10 ≤ a ∧ a ≤ 10) (hb : -10 ≤ b ∧ b ≤ 10) : FnC Tryd.prog 55 [.x (.f (.func 56) [] []), r2sAV ((0, 1) :: areaL p a b p.length)] (r2AV ((areaL p a b p.length).foldl plusP (0, 1))) := by
  refine join_fn _ plusP (0, 1) _ (by rw [areaL_len]; have := hp.1; omega) fun i hi => ?_
  rw [areaL_len] at hi
  have h5 := hp.1
  have e1 : (areaL p a b p.length).take i = areaL p a b i := by
    unfold areaL
    rw [← List.map_take, List.take_range]
    congr 2; omega
  have e2 : (areaL p a b p.length)[i]'(by rw [areaL_len]; exact hi) = areaPart p a b i := by simp [areaL]
  rw [e1, e2]
  exact plus_fn _ _ (vb_okR (V := (i : Int) * 20000000) (D := fac i) (area_vb hp ha hb i (by omega)) (by omega) (by omega) (by have := fac_le (show i ≤ 5 by omega); omega)) (vb_okR (V := 20000000) (D := 5) (areaPart_vb hp ha hb i (by omega)) (by omega) (by omega) (by omega))
theorem area_fn (p : List Int) (a b : Int) : FnC Tryd.prog 22 [sl p, iv .i64 a, iv .i64 b] (.t [r2AV (areaP p a b).1, iv .i64 (areaP p a b).2]) := by
  have o1 := check_fn p
  have o2 := judge_fn a b
  have o3 := or_fn [checkE p, judgeE a b]
  unfold areaP
  by_cases he : firstNZ [checkE p, judgeE a b] ≠ 0
  · rw [if_pos he]
    generalize firstNZ [checkE p, judgeE a b] = e at *
    refine FnC_of_AW hTt Tryd.func22 rfl (by kernel_rfl) (res := [.cell 6 63, .tmp 7]) rfl Tryd.ntmps22 (by simp) fun w0 K0 => ?_
    dsimp only [entry]
    repeat' first | with_reducible refine AW_seq ?_ | with_reducible refine AW_block ?_ | with_reducible refine AW_scope ?_ | ((first | with_reducible refine AW_skip ?_ | with_reducible refine AW_label ?_ | with_reducible refine AW_exit ?_ | with_reducible refine AW_ret ?_ | with_reducible refine AW_region hTt ?_ | ((refine ⟨_, (o1).call rfl rfl, ?_⟩); (rintro _ _ ⟨rfl, rfl⟩)) | refine ⟨_, fun _ => (o1).call rfl rfl, ?_⟩ | refine ⟨_, fun _ _ => (o1).call rfl rfl, ?_⟩ | ((refine ⟨_, (o2).call rfl rfl, ?_⟩); (rintro _ _ ⟨rfl, rfl⟩)) | refine ⟨_, fun _ => (o2).call rfl rfl, ?_⟩ | refine ⟨_, fun _ _ => (o2).call rfl rfl, ?_⟩ | ((refine ⟨_, (o3).call rfl rfl, ?_⟩); (rintro _ _ ⟨rfl, rfl⟩)) | refine ⟨_, fun _ => (o3).call rfl rfl, ?_⟩ | refine ⟨_, fun _ _ => (o3).call rfl rfl, ?_⟩ | fail); conv => whnf) | (exfalso; exact he hb) | (refine AW_cond rfl (fun _ => ?_) (fun hb => absurd (show true = false from hb) (by decide))) | (refine AW_cond rfl (fun hb => absurd (show false = true from hb) (by decide)) (fun _ => ?_)) | (refine AW_cond rfl (fun _ => ?_) (fun hb => absurd hb (by decide))) | (refine AW_cond rfl (fun hb => absurd hb (by decide)) (fun _ => ?_)) | (refine AW_cond rfl (fun hb => ?_) (fun hb => ?_) <;> first | (replace hb := of_decide_eq_true hb; try simp only [List.length_map] at hb) | (replace hb := of_decide_eq_false hb; try simp only [List.length_map] at hb) | (simp only [List.length_map, bne_iff_ne, ne_eq, beq_iff_eq, bne_eq_false_iff_eq, beq_eq_false_iff_ne, decide_eq_true_eq, decide_eq_false_iff_not, Bool.not_eq_true', Bool.not_eq_false', Int.natCast_inj] at hb) | skip) | ((first | refine ⟨_, wrap_of (by first | omega | (simp only [List.length_map]; omega)), ?_⟩ | refine ⟨IntKind.wrap _ _, rfl, ?_⟩ | refine andA ?_ | with_reducible refine Exists.intro _ (And.intro (gd_any (And.intro (by omega) (map_get (by omega)))) ?_) | with_reducible refine And.intro (gd_any (And.intro (by omega) (And.intro (by first | omega | (simp only [List.length_map]; omega)) (by first | omega | (simp only [List.length_map]; omega) | (simp only [List.length_set, List.length_map]; omega))))) ?_ | with_reducible refine Exists.intro _ (And.intro (gd_any (map_get' (by omega) (by omega))) (And.intro (And.intro (Nat.le_of_ble_eq_true rfl) rfl) ?_)) | with_reducible refine Exists.intro _ (And.intro (gd_any (And.intro (by omega) (map_get' (by omega) (by omega)))) ?_) | with_reducible refine And.intro (And.intro (by omega) (And.intro (by first | omega | (simp only [List.length_map]; omega)) (by first | omega | (simp only [List.length_map, List.length_set]; omega)))) ?_ | with_reducible refine Exists.intro _ (And.intro (map_get' (by omega) (by omega)) (And.intro (Nat.le_of_ble_eq_true rfl) ?_)) | fail); conv => whnf) | ((refine And.intro (by refine ⟨?_, ?_, ?_⟩ <;> simp [chunk, maxLen] <;> omega) ?_); conv => whnf) | (refine fun hln => ?_; (try rw [List.length_map] at hln); unfold maxLen at hln; conv => whnf) | fail
    rfl
  · rw [if_neg he]
    obtain ⟨h1, h2⟩ := firstNZ_two he
    have he0 : firstNZ [checkE p, judgeE a b] = 0 := by simpa using he
    obtain ⟨hp, hp1⟩ := check_pOK h1
    obtain ⟨ha, hb, hab⟩ := judge_ok h2
    rw [he0] at o3
    have o4 := whole_fn 0
    have hj := area_join hp ha hb
    have hnum := fun j h => area_num hp ha hb j h
    have hbnd : ∀ j, j ≤ 6 → (-1000000 ≤ b ^ j ∧ b ^ j ≤ 1000000) ∧ (-1000000 ≤ a ^ j ∧ a ^ j ≤ 1000000) := fun j h => by
      have q1 := pow_bd ha j
      have q2 := pow_bd hb j
      have q3 := ten_le h
      omega
    have hp5 := hp.1
    have hal := areaL_len p a b
    clear he he0 h1 h2 hp
    generalize (areaL p a b p.length).foldl plusP (0, 1) = R at hj
    refine FnC_of_AW hTt Tryd.func22 rfl (by kernel_rfl) (res := [.cell 6 63, .tmp 7]) rfl Tryd.ntmps22 (by simp) fun w0 K0 => ?_
    dsimp only [entry]
    repeat' first | with_reducible refine AW_seq ?_ | with_reducible refine AW_block ?_ | with_reducible refine AW_scope ?_ | ((first | with_reducible refine AW_skip ?_ | with_reducible refine AW_label ?_ | with_reducible refine AW_exit ?_ | with_reducible refine AW_ret ?_ | with_reducible refine AW_region hTt ?_ | ((refine ⟨_, (o1).call rfl rfl, ?_⟩); (rintro _ _ ⟨rfl, rfl⟩)) | refine ⟨_, fun _ => (o1).call rfl rfl, ?_⟩ | refine ⟨_, fun _ _ => (o1).call rfl rfl, ?_⟩ | ((refine ⟨_, (o2).call rfl rfl, ?_⟩); (rintro _ _ ⟨rfl, rfl⟩)) | refine ⟨_, fun _ => (o2).call rfl rfl, ?_⟩ | refine ⟨_, fun _ _ => (o2).call rfl rfl, ?_⟩ | ((refine ⟨_, (o3).call rfl rfl, ?_⟩); (rintro _ _ ⟨rfl, rfl⟩)) | refine ⟨_, fun _ => (o3).call rfl rfl, ?_⟩ | refine ⟨_, fun _ _ => (o3).call rfl rfl, ?_⟩ | ((refine ⟨_, (o4).call rfl rfl, ?_⟩); (rintro _ _ ⟨rfl, rfl⟩)) | refine ⟨_, fun _ => (o4).call rfl rfl, ?_⟩ | refine ⟨_, fun _ _ => (o4).call rfl rfl, ?_⟩ | fail); conv => whnf) | (refine AW_cond rfl (fun _ => ?_) (fun hb => absurd (show true = false from hb) (by decide))) | (refine AW_cond rfl (fun hb => absurd (show false = true from hb) (by decide)) (fun _ => ?_)) | (refine AW_cond rfl (fun _ => ?_) (fun hb => absurd hb (by decide))) | (refine AW_cond rfl (fun hb => absurd hb (by decide)) (fun _ => ?_)) | (refine AW_cond rfl (fun hb => ?_) (fun hb => ?_) <;> first | (replace hb := of_decide_eq_true hb; try simp only [List.length_map] at hb) | (replace hb := of_decide_eq_false hb; try simp only [List.length_map] at hb) | (simp only [List.length_map, bne_iff_ne, ne_eq, beq_iff_eq, bne_eq_false_iff_eq, beq_eq_false_iff_ne, decide_eq_true_eq, decide_eq_false_iff_not, Bool.not_eq_true', Bool.not_eq_false', Int.natCast_inj] at hb) | skip) | ((first | refine ⟨_, wrap_of (by first | omega | (simp only [List.length_map]; omega)), ?_⟩ | refine ⟨IntKind.wrap _ _, rfl, ?_⟩ | refine andA ?_ | with_reducible refine Exists.intro _ (And.intro (gd_any (And.intro (by omega) (map_get (by omega)))) ?_) | with_reducible refine And.intro (gd_any (And.intro (by omega) (And.intro (by first | omega | (simp only [List.length_map]; omega)) (by first | omega | (simp only [List.length_map]; omega) | (simp only [List.length_set, List.length_map]; omega))))) ?_ | with_reducible refine Exists.intro _ (And.intro (gd_any (map_get' (by omega) (by omega))) (And.intro (And.intro (Nat.le_of_ble_eq_true rfl) rfl) ?_)) | with_reducible refine Exists.intro _ (And.intro (gd_any (And.intro (by omega) (map_get' (by omega) (by omega)))) ?_) | with_reducible refine And.intro (And.intro (by omega) (And.intro (by first | omega | (simp only [List.length_map]; omega)) (by first | omega | (simp only [List.length_map, List.length_set]; omega)))) ?_ | with_reducible refine Exists.intro _ (And.intro (map_get' (by omega) (by omega)) (And.intro (Nat.le_of_ble_eq_true rfl) ?_)) | fail); conv => whnf) | ((refine And.intro (by refine ⟨?_, ?_, ?_⟩ <;> simp [chunk, maxLen] <;> omega) ?_); conv => whnf) | (refine fun hln => ?_; (try rw [List.length_map] at hln); unfold maxLen at hln; conv => whnf) | fail
    clear o1 o2 o3 o4
    refine AW_loop (fun i : Nat => [(31, iv .i64 i), (30, iv .i64 p.length), (29, sl p), (9, .x (.o 26 i (i + 1))), (10, iv .i64 (b ^ (i + 1))), (11, iv .i64 (a ^ (i + 1))), (1, iv .i64 a), (2, iv .i64 b), (6, .x (.b 6 0))])
      (fun i => [(26, .chain 105 2 i (((0, 1) :: areaL p a b i).map r2PV)), (6, .box [.d (.v (.int .i64 0)), .d (.v (.int .i64 0))])])
      (fun i => i ≤ p.length) (fun i => p.length - i) 0 (Nat.zero_le _) (Imp.forget (by repeat' (first | exact trivial | refine And.intro ?_ ?_ | exact ivE (Int.pow_succ _ 0 |>.symm ▸ by simp) | rfl | exact ivE (by first | omega | (simp only [List.length_map, List.length_append, List.length_singleton] <;> omega)) | exact oE (by first | omega | (simp only [List.length_map, List.length_append, List.length_singleton] <;> omega)))) (by repeat' (first | exact trivial | refine And.intro ?_ ?_ | exact ivE (Int.pow_succ _ 0 |>.symm ▸ by simp) | rfl | exact ivE (by first | omega | (simp only [List.length_map, List.length_append, List.length_singleton] <;> omega)) | exact oE (by first | omega | (simp only [List.length_map, List.length_append, List.length_singleton] <;> omega)))) (by kernel_rfl) (by kernel_rfl) (by kernel_rfl)) ?_
    intro i hi
    rcases Nat.lt_or_ge i p.length with hil | hil
    · obtain ⟨q1, q2⟩ := hnum i (by omega)
      obtain ⟨q3, q4⟩ := hbnd (i + 1) (by omega)
      obtain ⟨q5, q6⟩ := hbnd (i + 1 + 1) (by omega)
      have hget : p.getD i 0 = p[i] := by rw [List.getD_eq_getElem?_getD, List.getElem?_eq_getElem hil]; rfl
      have hs := areaL_succ p a b i
      have hlen := hal i
      unfold areaPart at hs
      rw [hget] at q2 hs
      have hr := reduce_fn (p[i] * (b ^ (i + 1) - a ^ (i + 1))) ((i : Int) + 1) (by unfold lim; omega) (by unfold lim; omega) (by omega)
      have e5 : b ^ (i + 1) * b = b ^ (i + 1 + 1) := (Int.pow_succ ..).symm
      have e6 : a ^ (i + 1) * a = a ^ (i + 1 + 1) := (Int.pow_succ ..).symm
      have w1 : IntKind.i64.wrap (b ^ (i + 1) - a ^ (i + 1)) = b ^ (i + 1) - a ^ (i + 1) := wrap_of (by omega)
      have w2 : IntKind.i64.wrap (p[i] * (b ^ (i + 1) - a ^ (i + 1))) = p[i] * (b ^ (i + 1) - a ^ (i + 1)) := wrap_of (by omega)
      have w3 : IntKind.i64.wrap (b ^ (i + 1) * b) = b ^ (i + 1 + 1) := by rw [e5]; exact wrap_of (by omega)
      have w4 : IntKind.i64.wrap (a ^ (i + 1) * a) = a ^ (i + 1 + 1) := by rw [e6]; exact wrap_of (by omega)
      generalize redP (p[i] * (b ^ (i + 1) - a ^ (i + 1))) ((i : Int) + 1) = x at hr hs
      have hch : (((0, 1) :: areaL p a b i).map r2PV).take (i + 1) ++ [r2PV x] = ((0, 1) :: areaL p a b (i + 1)).map r2PV := by
        rw [hs, List.take_of_length_le (by rw [List.length_map, List.length_cons, hlen]; exact Nat.le_refl _), ← List.cons_append, List.map_append]; rfl
      have hcl : (((0, 1) :: areaL p a b i).map r2PV).length = i + 1 := by rw [List.length_map, List.length_cons, hlen]
      clear hj hnum hbnd hal hs e5 e6
      repeat' first | with_reducible refine AW_seq ?_ | with_reducible refine AW_block ?_ | with_reducible refine AW_scope ?_ | ((first | with_reducible refine AW_skip ?_ | with_reducible refine AW_label ?_ | with_reducible refine AW_exit ?_ | with_reducible refine AW_ret ?_ | with_reducible refine AW_region hTt ?_ | fail); conv => whnf) | (exact absurd hb_1 (by omega)) | (exact absurd hb (by omega)) | ((first | ((refine ⟨_, (hr).call rfl rfl, ?_⟩); (rintro _ _ ⟨rfl, rfl⟩)) | refine ⟨_, fun _ => (hr).call rfl rfl, ?_⟩ | refine ⟨_, fun _ _ => (hr).call rfl rfl, ?_⟩ | refine ⟨_, w1, ?_⟩ | refine ⟨_, w2, ?_⟩ | refine ⟨_, w3, ?_⟩ | refine ⟨_, w4, ?_⟩ | fail); conv => whnf) | ((refine And.intro (by rw [hcl]; refine ⟨?_, ?_, ?_⟩ <;> simp [chunk, maxLen] <;> omega) ?_); conv => whnf) | (refine AW_cond rfl (fun _ => ?_) (fun hb => absurd (show true = false from hb) (by decide))) | (refine AW_cond rfl (fun hb => absurd (show false = true from hb) (by decide)) (fun _ => ?_)) | (refine AW_cond rfl (fun _ => ?_) (fun hb => absurd hb (by decide))) | (refine AW_cond rfl (fun hb => absurd hb (by decide)) (fun _ => ?_)) | (refine AW_cond rfl (fun hb => ?_) (fun hb => ?_) <;> first | (replace hb := of_decide_eq_true hb; try simp only [List.length_map] at hb) | (replace hb := of_decide_eq_false hb; try simp only [List.length_map] at hb) | (simp only [List.length_map, bne_iff_ne, ne_eq, beq_iff_eq, bne_eq_false_iff_eq, beq_eq_false_iff_ne, decide_eq_true_eq, decide_eq_false_iff_not, Bool.not_eq_true', Bool.not_eq_false', Int.natCast_inj] at hb) | skip) | ((first | refine ⟨_, wrap_of (by first | omega | (simp only [List.length_map]; omega)), ?_⟩ | refine ⟨IntKind.wrap _ _, rfl, ?_⟩ | refine andA ?_ | with_reducible refine Exists.intro _ (And.intro (gd_any (And.intro (by omega) (map_get (by omega)))) ?_) | with_reducible refine And.intro (gd_any (And.intro (by omega) (And.intro (by first | omega | (simp only [List.length_map]; omega)) (by first | omega | (simp only [List.length_map]; omega) | (simp only [List.length_set, List.length_map]; omega))))) ?_ | with_reducible refine Exists.intro _ (And.intro (gd_any (map_get' (by omega) (by omega))) (And.intro (And.intro (Nat.le_of_ble_eq_true rfl) rfl) ?_)) | with_reducible refine Exists.intro _ (And.intro (gd_any (And.intro (by omega) (map_get' (by omega) (by omega)))) ?_) | with_reducible refine And.intro (And.intro (by omega) (And.intro (by first | omega | (simp only [List.length_map]; omega)) (by first | omega | (simp only [List.length_map, List.length_set]; omega)))) ?_ | with_reducible refine Exists.intro _ (And.intro (map_get' (by omega) (by omega)) (And.intro (Nat.le_of_ble_eq_true rfl) ?_)) | fail); conv => whnf) | ((refine And.intro (by refine ⟨?_, ?_, ?_⟩ <;> simp [chunk, maxLen] <;> omega) ?_); conv => whnf) | (refine fun hln => ?_; (try rw [List.length_map] at hln); unfold maxLen at hln; conv => whnf) | fail
      exact ⟨i + 1, hil, by omega, (Imp.forget (by repeat' (first | exact trivial | refine And.intro ?_ ?_ | exact congrArg (fun xs : List (List PV) => some (Ob.chain 105 2 (i + 1) xs)) hch | rfl | exact ivE (by first | omega | (simp only [List.length_map, List.length_append, List.length_singleton] <;> omega)) | exact oE (by first | omega | (simp only [List.length_map, List.length_append, List.length_singleton] <;> omega)))) (by repeat' (first | exact trivial | refine And.intro ?_ ?_ | exact congrArg (fun xs : List (List PV) => some (Ob.chain 105 2 (i + 1) xs)) hch | rfl | exact ivE (by first | omega | (simp only [List.length_map, List.length_append, List.length_singleton] <;> omega)) | exact oE (by first | omega | (simp only [List.length_map, List.length_append, List.length_singleton] <;> omega)))) (by kernel_rfl) (by kernel_rfl) (by kernel_rfl))⟩
    · obtain rfl : i = p.length := by omega
      have hle : p.length + 1 ≤ (((0, 1) :: areaL p a b p.length).map r2PV).length := by rw [List.length_map, List.length_cons, hal]; exact Nat.le_refl _
      have hfz : r2sAV ((0, 1) :: areaL p a b p.length) = .x (.d (.s 2 ((((0, 1) :: areaL p a b p.length).map r2PV).take (p.length + 1)))) := by
        rw [List.take_of_length_le (by rw [List.length_map, List.length_cons, hal]; exact Nat.le_refl _)]; rfl
      clear hnum hbnd hal
      repeat' first | ((refine AW_imp (Imp.freeze 26 (fr' := [(9, r2sAV ((0, 1) :: areaL p a b p.length)), (6, .x (.b 6 0))]) (σ' := [(6, .box [.d (.v (.int .i64 0)), .d (.v (.int .i64 0))])]) rfl ⟨⟨_, rfl, .inr ⟨_, rfl, hle, hfz⟩⟩, ⟨_, rfl, .inl rfl⟩, trivial⟩ ⟨rfl, trivial⟩ rfl rfl) (AW_region (id := 12) hTt ?_)); conv => whnf) | with_reducible refine AW_seq ?_ | with_reducible refine AW_block ?_ | with_reducible refine AW_scope ?_ | ((first | with_reducible refine AW_skip ?_ | with_reducible refine AW_label ?_ | with_reducible refine AW_exit ?_ | with_reducible refine AW_ret ?_ | with_reducible refine AW_region hTt ?_ | fail); conv => whnf) | (exact absurd hb (by omega)) | ((first | ((refine ⟨_, (hj).call rfl rfl, ?_⟩); (rintro _ _ ⟨rfl, rfl⟩)) | refine ⟨_, fun _ => (hj).call rfl rfl, ?_⟩ | refine ⟨_, fun _ _ => (hj).call rfl rfl, ?_⟩ | fail); conv => whnf) | (refine AW_cond rfl (fun _ => ?_) (fun hb => absurd (show true = false from hb) (by decide))) | (refine AW_cond rfl (fun hb => absurd (show false = true from hb) (by decide)) (fun _ => ?_)) | (refine AW_cond rfl (fun _ => ?_) (fun hb => absurd hb (by decide))) | (refine AW_cond rfl (fun hb => absurd hb (by decide)) (fun _ => ?_)) | (refine AW_cond rfl (fun hb => ?_) (fun hb => ?_) <;> first | (replace hb := of_decide_eq_true hb; try simp only [List.length_map] at hb) | (replace hb := of_decide_eq_false hb; try simp only [List.length_map] at hb) | (simp only [List.length_map, bne_iff_ne, ne_eq, beq_iff_eq, bne_eq_false_iff_eq, beq_eq_false_iff_ne, decide_eq_true_eq, decide_eq_false_iff_not, Bool.not_eq_true', Bool.not_eq_false', Int.natCast_inj] at hb) | skip) | ((first | refine ⟨_, wrap_of (by first | omega | (simp only [List.length_map]; omega)), ?_⟩ | refine ⟨IntKind.wrap _ _, rfl, ?_⟩ | refine andA ?_ | with_reducible refine Exists.intro _ (And.intro (gd_any (And.intro (by omega) (map_get (by omega)))) ?_) | with_reducible refine And.intro (gd_any (And.intro (by omega) (And.intro (by first | omega | (simp only [List.length_map]; omega)) (by first | omega | (simp only [List.length_map]; omega) | (simp only [List.length_set, List.length_map]; omega))))) ?_ | with_reducible refine Exists.intro _ (And.intro (gd_any (map_get' (by omega) (by omega))) (And.intro (And.intro (Nat.le_of_ble_eq_true rfl) rfl) ?_)) | with_reducible refine Exists.intro _ (And.intro (gd_any (And.intro (by omega) (map_get' (by omega) (by omega)))) ?_) | with_reducible refine And.intro (And.intro (by omega) (And.intro (by first | omega | (simp only [List.length_map]; omega)) (by first | omega | (simp only [List.length_map, List.length_set]; omega)))) ?_ | with_reducible refine Exists.intro _ (And.intro (map_get' (by omega) (by omega)) (And.intro (Nat.le_of_ble_eq_true rfl) ?_)) | fail); conv => whnf) | ((refine And.intro (by refine ⟨?_, ?_, ?_⟩ <;> simp [chunk, maxLen] <;> omega) ?_); conv => whnf) | (refine fun hln => ?_; (try rw [List.length_map] at hln); unfold maxLen at hln; conv => whnf) | fail
      rfl
end Go.Proofs.YtnpleednkmhhhabDoor
namespace Go.Proofs.YtnpleednkmhhhabDoor
open Go Go.QL
set_option maxHeartbeats 1600000
def k4 : List Int := [1, 6, 240, 1200]
def gN (m : Int) : Int := m / 1200 + m % 1200 / 240 + m % 240 / 6 + m % 6
def gK (m : Int) : Int := if m < 6 then 0 else if m < 240 then 1 else if m < 1200 then 2 else 3
theorem gN_1 {m : Int} (h : 1 ≤ m) : gN m ≤ gN (m - 1) + 1 ∧ (m < 6 → gN (m - 1) + 1 = gN m) ∧ gN (m - 1) ≤ m - 1 := by unfold gN; omega
theorem gN_6 {m : Int} (h : 6 ≤ m) : gN m ≤ gN (m - 6) + 1 ∧ (m < 240 → gN (m - 6) + 1 = gN m) := by unfold gN; omega
theorem gN_240 {m : Int} (h : 240 ≤ m) : gN m ≤ gN (m - 240) + 1 ∧ (m < 1200 → gN (m - 240) + 1 = gN m) := by unfold gN; omega
theorem gN_1200 {m : Int} (h : 1200 ≤ m) : gN (m - 1200) + 1 = gN m := by unfold gN; omega
theorem bg_cons (W : List R2) (m v : Int) (r : List Int) (k : Nat) (b : R2) : bestGo W m (v :: r) k b = if m < v then b else bestGo W m r (k + 1) (if (W.getD (m - v).toNat (0, 0)).1 + 1 ≤ b.1 then ((W.getD (m - v).toNat (0, 0)).1 + 1, (k : Int)) else b) := rfl
theorem bg_nil (W : List R2) (m : Int) (k : Nat) (b : R2) : bestGo W m [] k b = b := rfl
theorem ways_k4 : ∀ j, waysR k4 j = (List.range (j + 1)).map fun (i : Nat) => (gN i, gK i)
  | 0 => rfl
  | j + 1 => by
    have hg : ∀ t : Int, 0 ≤ t → t ≤ j → ((List.range (j + 1)).map fun (i : Nat) => (gN i, gK i)).getD t.toNat (0, 0) = (gN t, gK t) := fun t h1 h2 => by
      rw [List.getD_eq_getElem?_getD, List.getElem?_map, List.getElem?_range (by omega)]
      show (gN (t.toNat : Int), gK (t.toNat : Int)) = _
      rw [Int.toNat_of_nonneg h1]
    rw [waysR, ways_k4 j, List.range_succ (n := j + 1), List.map_append]
    congr 1
    show [_] = [_]
    congr 1
    show _ = (gN ((j + 1 : Nat) : Int), gK ((j + 1 : Nat) : Int))
    rw [show ((j + 1 : Nat) : Int) = (j : Int) + 1 by omega]
    unfold k4
    generalize hW : ((List.range (j + 1)).map fun (i : Nat) => (gN i, gK i)) = W at *
    obtain ⟨a1, a2, a3⟩ := gN_1 (m := (j : Int) + 1) (by omega)
    rw [bg_cons, if_neg (show ¬ (j : Int) + 1 < 1 by omega), hg ((j : Int) + 1 - 1) (by omega) (by omega)]
    rw [if_pos (show (gN ((j : Int) + 1 - 1), gK ((j : Int) + 1 - 1)).1 + 1 ≤ ((j : Int) + 2, (0 : Int)).1 by dsimp only; omega), bg_cons]
    dsimp only
    by_cases h6 : (j : Int) + 1 < 6
    · rw [if_pos h6, a2 h6]; unfold gK; rw [if_pos h6]; rfl
    · rw [if_neg h6, hg ((j : Int) + 1 - 6) (by omega) (by omega)]
      obtain ⟨b1, b2⟩ := gN_6 (m := (j : Int) + 1) (by omega)
      rw [bg_cons]
      dsimp only
      generalize gN ((j : Int) + 1 - 6) = x6 at *
      generalize gN ((j : Int) + 1 - 1) = x1 at *
      by_cases h240 : (j : Int) + 1 < 240
      · rw [if_pos h240, if_pos (by have := b2 h240; omega), b2 h240]; unfold gK; rw [if_neg h6, if_pos h240]; rfl
      · rw [if_neg h240, hg ((j : Int) + 1 - 240) (by omega) (by omega)]
        obtain ⟨c1, c2⟩ := gN_240 (m := (j : Int) + 1) (by omega)
        rw [bg_cons]
        dsimp only
        generalize gN ((j : Int) + 1 - 240) = x240 at *
        by_cases h1200 : (j : Int) + 1 < 1200
        · rw [if_pos h1200]
          have := c2 h1200
          rw [if_pos (by split <;> dsimp only <;> omega), this]; unfold gK; rw [if_neg h6, if_neg h240, if_pos h1200]; rfl
        · rw [if_neg h1200, hg ((j : Int) + 1 - 1200) (by omega) (by omega)]
          have d1 := gN_1200 (m := (j : Int) + 1) (by omega)
          rw [bg_nil]
          dsimp only
          rw [if_pos (by split <;> (try split) <;> dsimp only <;> omega), d1]; unfold gK; rw [if_neg h6, if_neg h240, if_neg h1200]; rfl
theorem wayAt_k4 (n : Nat) : wayAt k4 n = (gN n, gK n) := by
  unfold wayAt
  rw [ways_k4, List.getD_eq_getElem?_getD, List.getElem?_map, List.getElem?_range (by omega)]; rfl
def spendK : Nat → Int → List Int → List Int
  | 0, _, m => m
  | f + 1, n, m => if 0 < n then spendK f (n - k4.getD (gK n).toNat 0) (m.set (gK n).toNat (m.getD (gK n).toNat 0 + 1)) else m
theorem spendK_eq : ∀ f n m, spend k4 f n m = spendK f n m
  | 0, _, _ => rfl
  | f + 1, n, m => by
    simp only [spend, spendK]
    split
    · rw [wayAt_k4]
      dsimp only
      rw [Int.toNat_of_nonneg (by omega), spendK_eq f]
    · rfl
theorem coins4 : coinsOf k4 4350 = [0, 5, 3, 3] := by
  unfold coinsOf
  rw [spendK_eq]
  decide +kernel
theorem v_coins4 : coinsP [1, 6, 240, 1200] [4350] = ([[0, 5, 3, 3]], 0) := by
  unfold coinsP
  rw [if_neg (by decide), if_neg (by decide), if_neg (by decide), if_neg (by decide), if_neg (by decide), if_neg (by decide)]
  show ([coinsOf k4 4350], (0 : Int)) = _
  rw [coins4]
end Go.Proofs.YtnpleednkmhhhabDoor
namespace Go.Proofs.YtnpleednkmhhhabDoor
open Go Go.QL
set_option maxHeartbeats 40000000
attribute [local irreducible] ACall FnC YC
theorem v_p1 : printP (-1, 2) 0 = ([45, 49], 0) := by decide +kernel
theorem v_p2 : printP (-1, 300) 2 = ([48, 46, 48, 48], 0) := by decide +kernel
theorem v_area : areaP [-2, 0, 1] 0 3 = ((3, 1), 0) := by decide +kernel
theorem lknown_fn : FnC Tryd.prog 9 [] (bv true) := by
  have s1 := print_fn (-1, 2) 0
  have s2 := print_fn (-1, 300) 2
  have s3 := area_fn [-2, 0, 1] 0 3
  have s4 := coins_fn [1, 6, 240, 1200] [4350]
  rw [v_p1] at s1; rw [v_p2] at s2; rw [v_area] at s3; rw [v_coins4] at s4
  have e5 := ints_fn [0, 5, 3, 3] [0, 5, 3, 3]
  rw [decide_eq_true rfl] at e5
  have ha := awake_fn
  refine FnC_of_AW hTt Tryd.func9 rfl (by kernel_rfl) (res := [.tmp 0]) rfl Tryd.ntmps9 (by simp) fun w0 K0 => ?_
  dsimp only [entry]
  repeat' first | with_reducible refine AW_seq ?_ | with_reducible refine AW_block ?_ | with_reducible refine AW_scope ?_ | ((first | with_reducible refine AW_skip ?_ | with_reducible refine AW_label ?_ | with_reducible refine AW_exit ?_ | with_reducible refine AW_ret ?_ | with_reducible refine AW_region hTt ?_ | ((refine ⟨_, (s1).call rfl rfl, ?_⟩); (rintro _ _ ⟨rfl, rfl⟩)) | refine ⟨_, fun _ => (s1).call rfl rfl, ?_⟩ | refine ⟨_, fun _ _ => (s1).call rfl rfl, ?_⟩ | ((refine ⟨_, (s2).call rfl rfl, ?_⟩); (rintro _ _ ⟨rfl, rfl⟩)) | refine ⟨_, fun _ => (s2).call rfl rfl, ?_⟩ | refine ⟨_, fun _ _ => (s2).call rfl rfl, ?_⟩ | ((refine ⟨_, (s3).call rfl rfl, ?_⟩); (rintro _ _ ⟨rfl, rfl⟩)) | refine ⟨_, fun _ => (s3).call rfl rfl, ?_⟩ | refine ⟨_, fun _ _ => (s3).call rfl rfl, ?_⟩ | ((refine ⟨_, (s4).call rfl rfl, ?_⟩); (rintro _ _ ⟨rfl, rfl⟩)) | refine ⟨_, fun _ => (s4).call rfl rfl, ?_⟩ | refine ⟨_, fun _ _ => (s4).call rfl rfl, ?_⟩ | refine ⟨_, gd_any ⟨by decide, rfl⟩, ?_⟩ | ((refine ⟨_, (e5).call rfl rfl, ?_⟩); (rintro _ _ ⟨rfl, rfl⟩)) | refine ⟨_, fun _ => (e5).call rfl rfl, ?_⟩ | refine ⟨_, fun _ _ => (e5).call rfl rfl, ?_⟩ | ((refine ⟨_, (ha).call rfl rfl, ?_⟩); (rintro _ _ ⟨rfl, rfl⟩)) | refine ⟨_, fun _ => (ha).call rfl rfl, ?_⟩ | refine ⟨_, fun _ _ => (ha).call rfl rfl, ?_⟩ | fail); conv => whnf) | (refine AW_cond rfl (fun _ => ?_) (fun hb => absurd (show true = false from hb) (by decide))) | (refine AW_cond rfl (fun hb => absurd (show false = true from hb) (by decide)) (fun _ => ?_)) | (refine AW_cond rfl (fun _ => ?_) (fun hb => absurd hb (by decide))) | (refine AW_cond rfl (fun hb => absurd hb (by decide)) (fun _ => ?_)) | (refine AW_cond rfl (fun hb => ?_) (fun hb => ?_) <;> first | (replace hb := of_decide_eq_true hb; try simp only [List.length_map] at hb) | (replace hb := of_decide_eq_false hb; try simp only [List.length_map] at hb) | (simp only [List.length_map, bne_iff_ne, ne_eq, beq_iff_eq, bne_eq_false_iff_eq, beq_eq_false_iff_ne, decide_eq_true_eq, decide_eq_false_iff_not, Bool.not_eq_true', Bool.not_eq_false', Int.natCast_inj] at hb) | skip) | ((first | refine ⟨_, wrap_of (by first | omega | (simp only [List.length_map]; omega)), ?_⟩ | refine ⟨IntKind.wrap _ _, rfl, ?_⟩ | refine andA ?_ | with_reducible refine Exists.intro _ (And.intro (gd_any (And.intro (by omega) (map_get (by omega)))) ?_) | with_reducible refine And.intro (gd_any (And.intro (by omega) (And.intro (by first | omega | (simp only [List.length_map]; omega)) (by first | omega | (simp only [List.length_map]; omega) | (simp only [List.length_set, List.length_map]; omega))))) ?_ | with_reducible refine Exists.intro _ (And.intro (gd_any (map_get' (by omega) (by omega))) (And.intro (And.intro (Nat.le_of_ble_eq_true rfl) rfl) ?_)) | with_reducible refine Exists.intro _ (And.intro (gd_any (And.intro (by omega) (map_get' (by omega) (by omega)))) ?_) | with_reducible refine And.intro (And.intro (by omega) (And.intro (by first | omega | (simp only [List.length_map]; omega)) (by first | omega | (simp only [List.length_map, List.length_set]; omega)))) ?_ | with_reducible refine Exists.intro _ (And.intro (map_get' (by omega) (by omega)) (And.intro (Nat.le_of_ble_eq_true rfl) ?_)) | fail); conv => whnf) | ((refine And.intro (by refine ⟨?_, ?_, ?_⟩ <;> simp [chunk, maxLen] <;> omega) ?_); conv => whnf) | (refine fun hln => ?_; (try rw [List.length_map] at hln); unfold maxLen at hln; conv => whnf) | fail
  first
    | kernel_rfl
    | exact congrArg (fun b => some (bv b)) (by decide +kernel)
end Go.Proofs.YtnpleednkmhhhabDoor
