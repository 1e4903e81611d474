/- What the functions that this law reaches return: part 0. No condition. -/
import Derived.Test.YtfghooojingdhaaDoorB05
set_option linter.all false
namespace Go.Proofs.YtfghooojingdhaaDoor
open Go Go.QL
def bytesAV (l : List Int) : AV := .x (.d (.s 1 (l.map fun n => [.v (.int .u8 n)])))
end Go.Proofs.YtfghooojingdhaaDoor
namespace Go.Proofs.YtfghooojingdhaaDoor
open Go Go.QL
set_option maxHeartbeats 3200000
attribute [local irreducible] ACall FnC YC
def addI (a b : Int) (i : Nat) : List Int := (List.range i).map fun (j : Nat) => a / 2 ^ j % 2 + 2 * (b / 2 ^ j % 2)
def addO (a b : Int) (i : Nat) : List Int := (List.range i).map fun (j : Nat) => (a + b) / 2 ^ j % 2
theorem addI_len (a b : Int) (i : Nat) : (addI a b i).length = i := by simp [addI]
theorem addO_len (a b : Int) (i : Nat) : (addO a b i).length = i := by simp [addO]
theorem addI_succ (a b : Int) (i : Nat) : addI a b (i + 1) = addI a b i ++ [a / 2 ^ i % 2 + 2 * (b / 2 ^ i % 2)] := by simp [addI, List.range_succ]
theorem addO_succ (a b : Int) (i : Nat) : addO a b (i + 1) = addO a b i ++ [(a + b) / 2 ^ i % 2] := by simp [addO, List.range_succ]
theorem addI_get (a b : Int) {i m : Nat} (h : i < m) : (addI a b m).getD i 0 = a / 2 ^ i % 2 + 2 * (b / 2 ^ i % 2) := by
  simp [addI, List.getD_eq_getElem?_getD, h]
theorem add_beat {c x y : Int} (hc : c = 0 ∨ c = 1) (hx : x = 0 ∨ x = 1) (hy : y = 0 ∨ y = 1) : beatR adder fine c (x + 2 * y) = ((x + y + c) / 2, (x + y + c) % 2) := by
  rcases hc with rfl | rfl <;> rcases hx with rfl | rfl <;> rcases hy with rfl | rfl <;> kernel_rfl
theorem half (a : Int) (u : Nat) : a / 2 ^ (u + 1) = a / 2 ^ u / 2 := by
  rw [Int.pow_succ, Int.ediv_ediv_of_nonneg (Int.le_of_lt (Int.pow_pos (by decide)))]
theorem add_state (a b : Int) (m : Nat) : ∀ u, u ≤ m → stR adder fine (addI a b m) u = (a + b) / 2 ^ u - a / 2 ^ u - b / 2 ^ u ∧
    ((a + b) / 2 ^ u - a / 2 ^ u - b / 2 ^ u = 0 ∨ (a + b) / 2 ^ u - a / 2 ^ u - b / 2 ^ u = 1)
  | 0, _ => by simp [stR]; omega
  | u + 1, h => by
    obtain ⟨h1, h2⟩ := add_state a b m u (by omega)
    have hb := add_beat (c := (a + b) / 2 ^ u - a / 2 ^ u - b / 2 ^ u) (x := a / 2 ^ u % 2) (y := b / 2 ^ u % 2) h2 (by omega) (by omega)
    have hs : stR adder fine (addI a b m) (u + 1) = (a / 2 ^ u % 2 + b / 2 ^ u % 2 + ((a + b) / 2 ^ u - a / 2 ^ u - b / 2 ^ u)) / 2 := by
      simp only [stR]
      rw [h1, addI_get a b (by omega), hb]
    rw [hs, half, half, half]
    constructor <;> omega
theorem add_outs (a b : Int) (m : Nat) : outsR adder fine (addI a b m) m = addO a b m := by
  unfold outsR addO
  apply List.map_congr_left
  intro u hu
  have hu := List.mem_range.1 hu
  obtain ⟨h1, h2⟩ := add_state a b m u (by omega)
  rw [h1, addI_get a b hu, add_beat h2 (by omega) (by omega)]
  dsimp only
  omega
theorem firstOut_ok (last : Int) : ∀ (l : List Int) (k : Nat), (∀ i (h : i < l.length), inB l[i] 0 last = true) → firstOut last l k = none
  | [], _, _ => rfl
  | x :: r, k, h => by
    have h0 : inB x 0 last = true := h 0 (by simp)
    have ih := firstOut_ok last r (k + 1) fun i hi => h (i + 1) (by simpa using hi)
    simp only [firstOut, h0]
    exact ih
theorem insErr_zero {n : NetT} {xs : List Int} (hl : xs.length ≤ 32) (h : InsOK n xs) : insErr n xs = 0 := by
  unfold insErr
  rw [if_neg (by omega)]
  unfold firstBad
  rw [firstOut_ok _ _ _ fun i hi => inB_iff.2 (h i hi)]
  rfl
theorem add_run (a b : Int) (m : Nat) (hm : m ≤ 32) : runR adder (addI a b m) = (addO a b m, 0) := by
  have hi : insErr adder (addI a b m) = 0 := by
    refine insErr_zero (by rw [addI_len]; omega) fun i h => ?_
    rw [addI_len] at h
    have e : (addI a b m)[i]'(by rw [addI_len]; exact h) = a / 2 ^ i % 2 + 2 * (b / 2 ^ i % 2) := by
      rw [← addI_get a b h, getDI]
    rw [e]
    have : topIn adder = 3 := by kernel_rfl
    omega
  unfold runR
  rw [if_pos ex_chk, if_pos hi, addI_len, add_outs]
end Go.Proofs.YtfghooojingdhaaDoor
namespace Go.Proofs.YtfghooojingdhaaDoor
open Go Go.QL
set_option maxHeartbeats 3200000
attribute [local irreducible] ACall FnC YC
theorem take_get (xs : List Int) {k u : Nat} (h : u < k) : (xs.take k).getD u 0 = xs.getD u 0 := by
  rw [List.getD_eq_getElem?_getD, List.getD_eq_getElem?_getD, List.getElem?_take_of_lt h]
theorem st_take (n : NetT) (f : FaultT) (xs : List Int) (k : Nat) : ∀ u, u ≤ k → stR n f (xs.take k) u = stR n f xs u
  | 0, _ => rfl
  | u + 1, h => by
    simp only [stR]
    rw [st_take n f xs k u (by omega), take_get xs (by omega)]
theorem outs_take (n : NetT) (f : FaultT) (xs : List Int) {k : Nat} (hk : k ≤ xs.length) : outsR n f (xs.take k) (xs.take k).length = (outsR n f xs xs.length).take k := by
  have hl : (xs.take k).length = k := by rw [List.length_take]; omega
  rw [hl]
  unfold outsR
  rw [← List.map_take, List.take_range, Nat.min_eq_left hk]
  apply List.map_congr_left
  intro u hu
  have hu := List.mem_range.1 hu
  rw [st_take n f xs k u (by omega), take_get xs hu]
theorem ins_take {n : NetT} {xs : List Int} (h : insErr n xs = 0) (k : Nat) : insErr n (xs.take k) = 0 := by
  obtain ⟨h1, h2⟩ := insErr_ok h
  refine insErr_zero (by rw [List.length_take]; omega) fun i hi => ?_
  rw [List.length_take] at hi
  rw [List.getElem_take]
  exact h2 i (by omega)
theorem run_zero {n : NetT} {xs : List Int} (hc : (checkR n).2.2 = 0) (h : insErr n xs = 0) : runR n xs = (outsR n fine xs xs.length, 0) := by unfold runR; rw [if_pos hc, if_pos h]
theorem run_cases (n : NetT) (xs : List Int) : ((checkR n).2.2 = 0 ∧ insErr n xs = 0) ∨ ∃ e, e ≠ 0 ∧ runR n xs = ([], e) := by
  by_cases hc : (checkR n).2.2 = 0
  · by_cases hi : insErr n xs = 0
    · exact .inl ⟨hc, hi⟩
    · exact .inr ⟨_, hi, by unfold runR; rw [if_pos hc, if_neg hi]⟩
  · exact .inr ⟨_, hc, by unfold runR; rw [if_neg hc]⟩
theorem step_at {n : NetT} {xs : List Int} (hc : (checkR n).2.2 = 0) (h : insErr n xs = 0) {i : Nat} {x : Int} (hx : xs[i]? = some x) :
    stepR n (stR n fine xs i) x = (stR n fine xs (i + 1), (beatR n fine (stR n fine xs i) (xs.getD i 0)).2, 0) := by
  have ok := NetOK.of hc
  obtain ⟨_, h2⟩ := insErr_ok h
  have hst := stR_lt ok fine_ok xs i
  have hi : i < xs.length := (List.getElem?_eq_some_iff.1 hx).1
  have hv : xs[i] = x := by rw [List.getElem?_eq_getElem hi] at hx; exact Option.some.inj hx
  have hb := h2 i hi
  rw [hv] at hb
  have hg : xs.getD i 0 = x := by rw [getDI hi, hv]
  unfold stepR
  rw [if_pos hc, if_pos ⟨inB_iff.2 (by omega), inB_iff.2 hb⟩]
  simp only [stR]
  rw [hg]
theorem gcut_fn (n : NetT) (hi : i64 n.inn) (xs : List Int) (k : Int) (hk : 0 ≤ k ∧ k < 256) : FnC Tryd.prog 6 [netAV n, sl xs, iv .u8 k] (bv true) := by
  have hrun := prun_fn n hi xs
  rcases run_cases n xs with ⟨hc, hin⟩ | ⟨e, he, hre⟩
  · have ok := NetOK.of hc
    obtain ⟨hl32, hok⟩ := insErr_ok hin
    rw [run_zero hc hin] at hrun
    obtain ⟨j, hj⟩ : ∃ j : Nat, k % ((xs.length : Int) + 1) = j := ⟨(k % ((xs.length : Int) + 1)).toNat, by have := Int.emod_nonneg k (show ((xs.length : Int) + 1) ≠ 0 by omega); omega⟩
    have hjl : j ≤ xs.length := by have := Int.emod_lt_of_pos k (show (0 : Int) < (xs.length : Int) + 1 by omega); omega
    have hlm : (xs.map fun n => [PV.v (.int .i64 n)]).length = xs.length := List.length_map _
    have hmod : k.tmod (((xs.map fun n => [PV.v (.int .i64 n)]).length : Int) + 1) = j := by rw [Int.tmod_eq_emod_of_nonneg (by omega), hlm]; exact hj
    have hearly : FnC Tryd.prog 28 [netAV n, .x (.d (.s 1 (((xs.map fun n => [PV.v (.int .i64 n)]).take ((j : Int)).toNat).drop (0 : Int).toNat)))] (outE ((outsR n fine xs xs.length).take j, 0)) := by
      have h := prun_fn n hi (xs.take j)
      rw [run_zero hc (ins_take hin j), outs_take n fine xs hjl] at h
      have e : (((xs.map fun n => [PV.v (.int .i64 n)]).take ((j : Int)).toNat).drop (0 : Int).toNat) = (xs.take j).map fun n => [PV.v (.int .i64 n)] := by
        rw [Int.toNat_natCast, Int.toNat_zero, List.drop_zero, List.map_take]
      rw [e]; exact h
    have hcmp := ints_fn (outsR n fine xs xs.length) (outsR n fine xs xs.length)
    rw [show sameInts (outsR n fine xs xs.length) (outsR n fine xs xs.length) = true from decide_eq_true rfl] at hcmp
    have hcmp2 : FnC Tryd.prog 25 [sl ((outsR n fine xs xs.length).take j), .x (.d (.s 1 ((((outsR n fine xs xs.length).map fun n => [PV.v (.int .i64 n)]).take ((j : Int)).toNat).drop (0 : Int).toNat)))] (bv true) := by
      have h := ints_fn ((outsR n fine xs xs.length).take j) ((outsR n fine xs xs.length).take j)
      rw [show sameInts ((outsR n fine xs xs.length).take j) ((outsR n fine xs xs.length).take j) = true from decide_eq_true rfl] at h
      have e : ((((outsR n fine xs xs.length).map fun n => [PV.v (.int .i64 n)]).take ((j : Int)).toNat).drop (0 : Int).toNat) = ((outsR n fine xs xs.length).take j).map fun n => [PV.v (.int .i64 n)] := by
        rw [Int.toNat_natCast, Int.toNat_zero, List.drop_zero, List.map_take]
      rw [e]; exact h
    refine FnC_of_AW hTt Tryd.func6 rfl (by kernel_rfl) (res := [.tmp 6]) rfl Tryd.ntmps6 (by simp) fun w0 K0 => ?_
    dsimp only [entry]
    repeat' first | with_reducible refine AW_seq ?_ | with_reducible refine AW_block ?_ | with_reducible refine AW_scope ?_ | ((first | with_reducible refine AW_skip ?_ | with_reducible refine AW_label ?_ | with_reducible refine AW_exit ?_ | with_reducible refine AW_ret ?_ | with_reducible refine AW_region hTt ?_ | refine AW_draw hTt hMix (id := 9) 13 false [0, 0, 0, 0, 12, 28, 63, 127, 255, 255, 255, 511, 3071, 8191] (by kernel_rfl) rfl rfl (by kernel_rfl) ?_ | refine AW_draw hTt hMix (id := 14) 9 false [0, 0, 0, 6, 15, 31, 63, 63, 127, 511] (by kernel_rfl) rfl rfl (by kernel_rfl) ?_ | refine LateGo.mk ⟨_, rfl, ?_⟩ | refine LateGo.mk ⟨.x .j, rfl, ?_⟩ | fail); conv => whnf) | (exact absurd trivial hb) | (exact absurd rfl hb) | ((first | ((refine ⟨_, (hrun).call rfl rfl, ?_⟩); (rintro _ _ ⟨rfl, rfl⟩)) | refine ⟨_, fun _ => (hrun).call rfl rfl, ?_⟩ | refine ⟨_, fun _ _ => (hrun).call rfl rfl, ?_⟩ | fail); conv => whnf) | (refine AW_cond rfl (fun _ => ?_) (fun hb => absurd hb (by decide))) | (refine AW_cond rfl (fun hb => absurd hb (by decide)) (fun _ => ?_)) | (refine AW_cond rfl (fun hb => ?_) (fun hb => ?_) <;> first | (replace hb := of_decide_eq_true hb; try simp only [List.length_map] at hb) | (replace hb := of_decide_eq_false hb; try simp only [List.length_map] at hb) | (simp only [List.length_map, bne_iff_ne, ne_eq, beq_iff_eq, bne_eq_false_iff_eq, beq_eq_false_iff_ne, decide_eq_true_eq, decide_eq_false_iff_not, Bool.not_eq_true', Bool.not_eq_false', Int.natCast_inj] at hb) | skip) | ((first | refine ⟨_, wrap_of (by first | omega | (simp only [List.length_map]; omega)), ?_⟩ | refine ⟨IntKind.wrap _ _, rfl, ?_⟩ | fail); conv => whnf) | ((refine And.intro (by first | exact trivial | rfl | exact gd_self | exact gd_any (by omega) | exact fun h => h | decide | (constructor <;> simp [chunk, maxLen]; done) | (intro h; simpa using h)) ?_); conv => whnf) | ((first | with_reducible refine Exists.intro _ (And.intro (gd_any (And.intro (by omega) (map_get (by omega)))) ?_) | with_reducible refine And.intro (gd_any (And.intro (by omega) (And.intro (by first | omega | (simp only [List.length_map]; omega)) (by first | omega | (simp only [List.length_map]; omega) | (simp only [List.length_set, List.length_map]; omega))))) ?_ | with_reducible refine Exists.intro _ (And.intro (gd_any (map_get' (by omega) (by omega))) (And.intro (And.intro (Nat.le_of_ble_eq_true rfl) rfl) ?_)) | with_reducible refine Exists.intro _ (And.intro (gd_any (And.intro (by omega) (map_get' (by omega) (by omega)))) ?_) | with_reducible refine And.intro (And.intro (by omega) (And.intro (by first | omega | (simp only [List.length_map]; omega)) (by first | omega | (simp only [List.length_map, List.length_set]; omega)))) ?_ | with_reducible refine Exists.intro _ (And.intro (map_get' (by omega) (by omega)) (And.intro (Nat.le_of_ble_eq_true rfl) ?_)) | fail); conv => whnf) | ((refine And.intro (by refine ⟨?_, ?_, ?_⟩ <;> simp [chunk, maxLen] <;> omega) ?_); conv => whnf) | (refine fun hln => ?_; (try rw [List.length_map] at hln); unfold maxLen at hln; conv => whnf) | fail
    refine AW_imp (Imp.nil 10 3 1 (fr' := [(11, iv .i64 0), (9, iv .i64 0), (10, .x (.o 10 0 0)), (3, .x (.b 3 0)), (1, sl xs), (2, iv .u8 k), (7, sl (outsR n fine xs xs.length))]) (σ' := [(3, netCells n)]) rfl ?_ ⟨⟨_, rfl, .inl rfl⟩, trivial⟩ rfl rfl) ?_
    · exact ⟨⟨_, rfl, .inl rfl⟩, ⟨_, rfl, .inl rfl⟩, ⟨_, rfl, .inr ⟨rfl, rfl⟩⟩, ⟨_, rfl, .inl rfl⟩, ⟨_, rfl, .inl rfl⟩, ⟨_, rfl, .inl rfl⟩, ⟨_, rfl, .inl rfl⟩, trivial⟩
    refine AW_loop (fun i : Nat => [(11, iv .i64 i), (9, iv .i64 (stR n fine xs i)), (10, .x (.o 10 i i)), (3, .x (.b 3 0)), (1, sl xs), (2, iv .u8 k), (7, sl (outsR n fine xs xs.length))])
      (fun i => [(10, .chain 3 1 i ((outsR n fine xs i).map iPV)), (3, netCells n)]) (fun i => i ≤ xs.length) (fun i => xs.length - i) 0 (Nat.zero_le _) (Imp.forget (by repeat' (first | exact trivial | refine And.intro ?_ ?_ | rfl | exact ivE (by first | omega | (simp only [List.length_map, List.length_append, List.length_singleton] <;> omega)) | exact oE (by first | omega | (simp only [List.length_map, List.length_append, List.length_singleton] <;> omega)))) (by repeat' (first | exact trivial | refine And.intro ?_ ?_ | rfl | exact ivE (by first | omega | (simp only [List.length_map, List.length_append, List.length_singleton] <;> omega)) | exact oE (by first | omega | (simp only [List.length_map, List.length_append, List.length_singleton] <;> omega)))) (by kernel_rfl) (by kernel_rfl) (by kernel_rfl)) ?_
    intro i hil'
    rcases Nat.lt_or_ge i xs.length with hil | hil
    · obtain ⟨x, hx⟩ : ∃ x, xs[i]? = some x := ⟨_, List.getElem?_eq_getElem hil⟩
      have hstep := pstep_fn n hi (stR n fine xs i) x
      have hst := stR_lt ok fine_ok xs i
      have hp := pow32 ok.hd
      rw [step_eq n _ _ ⟨by omega, by omega⟩, step_at hc hin hx] at hstep
      have l1 := outsR_len n fine xs i
      have e1 : ((outsR n fine xs i).map iPV).take i ++ [[PV.v (.int .i64 (beatR n fine (stR n fine xs i) (xs.getD i 0)).2)]] = (outsR n fine xs (i + 1)).map iPV := by
        rw [outsR_succ, List.map_append, List.take_of_length_le (by simp [l1])]; rfl
      clear hrun hearly hcmp hcmp2 hmod hok
      generalize hst' : stR n fine xs (i + 1) = st' at hstep
      generalize (beatR n fine (stR n fine xs i) (xs.getD i 0)).2 = o at hstep e1
      repeat' first | with_reducible refine AW_seq ?_ | with_reducible refine AW_block ?_ | with_reducible refine AW_scope ?_ | ((first | with_reducible refine AW_skip ?_ | with_reducible refine AW_label ?_ | with_reducible refine AW_exit ?_ | with_reducible refine AW_ret ?_ | with_reducible refine AW_region hTt ?_ | refine AW_draw hTt hMix (id := 9) 13 false [0, 0, 0, 0, 12, 28, 63, 127, 255, 255, 255, 511, 3071, 8191] (by kernel_rfl) rfl rfl (by kernel_rfl) ?_ | refine AW_draw hTt hMix (id := 14) 9 false [0, 0, 0, 6, 15, 31, 63, 63, 127, 511] (by kernel_rfl) rfl rfl (by kernel_rfl) ?_ | refine LateGo.mk ⟨_, rfl, ?_⟩ | refine LateGo.mk ⟨.x .j, rfl, ?_⟩ | fail); conv => whnf) | (exact absurd hb (by omega)) | (exact absurd trivial hb) | (exact absurd rfl hb) | ((first | with_reducible refine Exists.intro _ (And.intro (gd_any (And.intro (by omega) (map_some hx))) ?_) | ((refine ⟨_, (hstep).call rfl rfl, ?_⟩); (rintro _ _ ⟨rfl, rfl⟩)) | refine ⟨_, fun _ => (hstep).call rfl rfl, ?_⟩ | refine ⟨_, fun _ _ => (hstep).call rfl rfl, ?_⟩ | fail); conv => whnf) | ((refine And.intro (by refine ⟨?_, ?_, ?_⟩ <;> simp [chunk, maxLen] <;> omega) ?_); conv => whnf) | (refine AW_cond rfl (fun _ => ?_) (fun hb => absurd hb (by decide))) | (refine AW_cond rfl (fun hb => absurd hb (by decide)) (fun _ => ?_)) | (refine AW_cond rfl (fun hb => ?_) (fun hb => ?_) <;> first | (replace hb := of_decide_eq_true hb; try simp only [List.length_map] at hb) | (replace hb := of_decide_eq_false hb; try simp only [List.length_map] at hb) | (simp only [List.length_map, bne_iff_ne, ne_eq, beq_iff_eq, bne_eq_false_iff_eq, beq_eq_false_iff_ne, decide_eq_true_eq, decide_eq_false_iff_not, Bool.not_eq_true', Bool.not_eq_false', Int.natCast_inj] at hb) | skip) | ((first | refine ⟨_, wrap_of (by first | omega | (simp only [List.length_map]; omega)), ?_⟩ | refine ⟨IntKind.wrap _ _, rfl, ?_⟩ | fail); conv => whnf) | ((refine And.intro (by first | exact trivial | rfl | exact gd_self | exact gd_any (by omega) | exact fun h => h | decide | (constructor <;> simp [chunk, maxLen]; done) | (intro h; simpa using h)) ?_); conv => whnf) | ((first | with_reducible refine Exists.intro _ (And.intro (gd_any (And.intro (by omega) (map_get (by omega)))) ?_) | with_reducible refine And.intro (gd_any (And.intro (by omega) (And.intro (by first | omega | (simp only [List.length_map]; omega)) (by first | omega | (simp only [List.length_map]; omega) | (simp only [List.length_set, List.length_map]; omega))))) ?_ | with_reducible refine Exists.intro _ (And.intro (gd_any (map_get' (by omega) (by omega))) (And.intro (And.intro (Nat.le_of_ble_eq_true rfl) rfl) ?_)) | with_reducible refine Exists.intro _ (And.intro (gd_any (And.intro (by omega) (map_get' (by omega) (by omega)))) ?_) | with_reducible refine And.intro (And.intro (by omega) (And.intro (by first | omega | (simp only [List.length_map]; omega)) (by first | omega | (simp only [List.length_map, List.length_set]; omega)))) ?_ | with_reducible refine Exists.intro _ (And.intro (map_get' (by omega) (by omega)) (And.intro (Nat.le_of_ble_eq_true rfl) ?_)) | fail); conv => whnf) | ((refine And.intro (by refine ⟨?_, ?_, ?_⟩ <;> simp [chunk, maxLen] <;> omega) ?_); conv => whnf) | (refine fun hln => ?_; (try rw [List.length_map] at hln); unfold maxLen at hln; conv => whnf) | fail
      exact ⟨i + 1, hil, by omega, (Imp.forget (by repeat' (first | exact trivial | refine And.intro ?_ ?_ | exact chE e1 | exact ivE hst'.symm | rfl | exact ivE (by first | omega | (simp only [List.length_map, List.length_append, List.length_singleton] <;> omega)) | exact oE (by first | omega | (simp only [List.length_map, List.length_append, List.length_singleton] <;> omega)))) (by repeat' (first | exact trivial | refine And.intro ?_ ?_ | exact chE e1 | exact ivE hst'.symm | rfl | exact ivE (by first | omega | (simp only [List.length_map, List.length_append, List.length_singleton] <;> omega)) | exact oE (by first | omega | (simp only [List.length_map, List.length_append, List.length_singleton] <;> omega)))) (by kernel_rfl) (by kernel_rfl) (by kernel_rfl))⟩
    · have hie : i = xs.length := by omega
      subst hie
      have l1 := outsR_len n fine xs xs.length
      have f1 : PV.s 1 (((outsR n fine xs xs.length).map iPV).take xs.length) = intsPV (outsR n fine xs xs.length) := by rw [List.take_of_length_le (by simp [l1])]; rfl
      refine AW_imp (Imp.freeze 10 (fr' := [(11, iv .i64 xs.length), (10, sl (outsR n fine xs xs.length)), (3, .x (.b 3 0)), (1, sl xs), (2, iv .u8 k), (7, sl (outsR n fine xs xs.length))]) (σ' := [(3, netCells n)]) rfl
        ⟨⟨_, rfl, .inl rfl⟩, ⟨_, rfl, .inr ⟨xs.length, rfl, by simp [l1], congrArg (fun x => AV.x (.d x)) f1.symm⟩⟩, ⟨_, rfl, .inl rfl⟩, ⟨_, rfl, .inl rfl⟩, ⟨_, rfl, .inl rfl⟩, ⟨_, rfl, .inl rfl⟩, trivial⟩ ⟨rfl, trivial⟩ rfl rfl) ?_
      have hlo : ((outsR n fine xs xs.length).map fun n => [PV.v (.int .i64 n)]).length = xs.length := by rw [List.length_map, l1]
      generalize outsR n fine xs xs.length = os at *
      repeat' first | with_reducible refine AW_seq ?_ | with_reducible refine AW_block ?_ | with_reducible refine AW_scope ?_ | ((first | with_reducible refine AW_skip ?_ | with_reducible refine AW_label ?_ | with_reducible refine AW_exit ?_ | with_reducible refine AW_ret ?_ | with_reducible refine AW_region hTt ?_ | refine AW_draw hTt hMix (id := 9) 13 false [0, 0, 0, 0, 12, 28, 63, 127, 255, 255, 255, 511, 3071, 8191] (by kernel_rfl) rfl rfl (by kernel_rfl) ?_ | refine AW_draw hTt hMix (id := 14) 9 false [0, 0, 0, 6, 15, 31, 63, 63, 127, 511] (by kernel_rfl) rfl rfl (by kernel_rfl) ?_ | refine LateGo.mk ⟨_, rfl, ?_⟩ | refine LateGo.mk ⟨.x .j, rfl, ?_⟩ | fail); conv => whnf) | (exact absurd hb (by omega)) | (exact absurd trivial hb) | (exact absurd rfl hb) | ((first | refine And.intro (gd_none (by omega)) ?_ | refine ⟨_, hmod, ?_⟩ | refine And.intro (gd_any (by omega)) ?_ | ((refine ⟨_, (hearly).call rfl rfl, ?_⟩); (rintro _ _ ⟨rfl, rfl⟩)) | refine ⟨_, fun _ => (hearly).call rfl rfl, ?_⟩ | refine ⟨_, fun _ _ => (hearly).call rfl rfl, ?_⟩ | ((refine ⟨_, (hcmp).call rfl rfl, ?_⟩); (rintro _ _ ⟨rfl, rfl⟩)) | refine ⟨_, fun _ => (hcmp).call rfl rfl, ?_⟩ | refine ⟨_, fun _ _ => (hcmp).call rfl rfl, ?_⟩ | ((refine ⟨_, (hcmp2).call rfl rfl, ?_⟩); (rintro _ _ ⟨rfl, rfl⟩)) | refine ⟨_, fun _ => (hcmp2).call rfl rfl, ?_⟩ | refine ⟨_, fun _ _ => (hcmp2).call rfl rfl, ?_⟩ | ((refine ⟨_, (awake_fn).call rfl rfl, ?_⟩); (rintro _ _ ⟨rfl, rfl⟩)) | refine ⟨_, fun _ => (awake_fn).call rfl rfl, ?_⟩ | refine ⟨_, fun _ _ => (awake_fn).call rfl rfl, ?_⟩ | fail); conv => whnf) | (refine AW_cond rfl (fun _ => ?_) (fun hb => absurd hb (by decide))) | (refine AW_cond rfl (fun hb => absurd hb (by decide)) (fun _ => ?_)) | (refine AW_cond rfl (fun hb => ?_) (fun hb => ?_) <;> first | (replace hb := of_decide_eq_true hb; try simp only [List.length_map] at hb) | (replace hb := of_decide_eq_false hb; try simp only [List.length_map] at hb) | (simp only [List.length_map, bne_iff_ne, ne_eq, beq_iff_eq, bne_eq_false_iff_eq, beq_eq_false_iff_ne, decide_eq_true_eq, decide_eq_false_iff_not, Bool.not_eq_true', Bool.not_eq_false', Int.natCast_inj] at hb) | skip) | ((first | refine ⟨_, wrap_of (by first | omega | (simp only [List.length_map]; omega)), ?_⟩ | refine ⟨IntKind.wrap _ _, rfl, ?_⟩ | fail); conv => whnf) | ((refine And.intro (by first | exact trivial | rfl | exact gd_self | exact gd_any (by omega) | exact fun h => h | decide | (constructor <;> simp [chunk, maxLen]; done) | (intro h; simpa using h)) ?_); conv => whnf) | ((first | with_reducible refine Exists.intro _ (And.intro (gd_any (And.intro (by omega) (map_get (by omega)))) ?_) | with_reducible refine And.intro (gd_any (And.intro (by omega) (And.intro (by first | omega | (simp only [List.length_map]; omega)) (by first | omega | (simp only [List.length_map]; omega) | (simp only [List.length_set, List.length_map]; omega))))) ?_ | with_reducible refine Exists.intro _ (And.intro (gd_any (map_get' (by omega) (by omega))) (And.intro (And.intro (Nat.le_of_ble_eq_true rfl) rfl) ?_)) | with_reducible refine Exists.intro _ (And.intro (gd_any (And.intro (by omega) (map_get' (by omega) (by omega)))) ?_) | with_reducible refine And.intro (And.intro (by omega) (And.intro (by first | omega | (simp only [List.length_map]; omega)) (by first | omega | (simp only [List.length_map, List.length_set]; omega)))) ?_ | with_reducible refine Exists.intro _ (And.intro (map_get' (by omega) (by omega)) (And.intro (Nat.le_of_ble_eq_true rfl) ?_)) | fail); conv => whnf) | ((refine And.intro (by refine ⟨?_, ?_, ?_⟩ <;> simp [chunk, maxLen] <;> omega) ?_); conv => whnf) | (refine fun hln => ?_; (try rw [List.length_map] at hln); unfold maxLen at hln; conv => whnf) | fail
      exact (show ∀ b, b = true → some (bv b) = some (bv true) from fun b h => by rw [h]) _ (by simp)
  · rw [hre] at hrun
    refine FnC_of_AW hTt Tryd.func6 rfl (by kernel_rfl) (res := [.tmp 6]) rfl Tryd.ntmps6 (by simp) fun w0 K0 => ?_
    dsimp only [entry]
    repeat' first | with_reducible refine AW_seq ?_ | with_reducible refine AW_block ?_ | with_reducible refine AW_scope ?_ | ((first | with_reducible refine AW_skip ?_ | with_reducible refine AW_label ?_ | with_reducible refine AW_exit ?_ | with_reducible refine AW_ret ?_ | with_reducible refine AW_region hTt ?_ | refine AW_draw hTt hMix (id := 9) 13 false [0, 0, 0, 0, 12, 28, 63, 127, 255, 255, 255, 511, 3071, 8191] (by kernel_rfl) rfl rfl (by kernel_rfl) ?_ | refine AW_draw hTt hMix (id := 14) 9 false [0, 0, 0, 6, 15, 31, 63, 63, 127, 511] (by kernel_rfl) rfl rfl (by kernel_rfl) ?_ | refine LateGo.mk ⟨_, rfl, ?_⟩ | refine LateGo.mk ⟨.x .j, rfl, ?_⟩ | fail); conv => whnf) | (exact absurd hb he) | ((first | ((refine ⟨_, (hrun).call rfl rfl, ?_⟩); (rintro _ _ ⟨rfl, rfl⟩)) | refine ⟨_, fun _ => (hrun).call rfl rfl, ?_⟩ | refine ⟨_, fun _ _ => (hrun).call rfl rfl, ?_⟩ | ((refine ⟨_, (awake_fn).call rfl rfl, ?_⟩); (rintro _ _ ⟨rfl, rfl⟩)) | refine ⟨_, fun _ => (awake_fn).call rfl rfl, ?_⟩ | refine ⟨_, fun _ _ => (awake_fn).call rfl rfl, ?_⟩ | fail); conv => whnf) | (refine AW_cond rfl (fun _ => ?_) (fun hb => absurd hb (by decide))) | (refine AW_cond rfl (fun hb => absurd hb (by decide)) (fun _ => ?_)) | (refine AW_cond rfl (fun hb => ?_) (fun hb => ?_) <;> first | (replace hb := of_decide_eq_true hb; try simp only [List.length_map] at hb) | (replace hb := of_decide_eq_false hb; try simp only [List.length_map] at hb) | (simp only [List.length_map, bne_iff_ne, ne_eq, beq_iff_eq, bne_eq_false_iff_eq, beq_eq_false_iff_ne, decide_eq_true_eq, decide_eq_false_iff_not, Bool.not_eq_true', Bool.not_eq_false', Int.natCast_inj] at hb) | skip) | ((first | refine ⟨_, wrap_of (by first | omega | (simp only [List.length_map]; omega)), ?_⟩ | refine ⟨IntKind.wrap _ _, rfl, ?_⟩ | fail); conv => whnf) | ((refine And.intro (by first | exact trivial | rfl | exact gd_self | exact gd_any (by omega) | exact fun h => h | decide | (constructor <;> simp [chunk, maxLen]; done) | (intro h; simpa using h)) ?_); conv => whnf) | ((first | with_reducible refine Exists.intro _ (And.intro (gd_any (And.intro (by omega) (map_get (by omega)))) ?_) | with_reducible refine And.intro (gd_any (And.intro (by omega) (And.intro (by first | omega | (simp only [List.length_map]; omega)) (by first | omega | (simp only [List.length_map]; omega) | (simp only [List.length_set, List.length_map]; omega))))) ?_ | with_reducible refine Exists.intro _ (And.intro (gd_any (map_get' (by omega) (by omega))) (And.intro (And.intro (Nat.le_of_ble_eq_true rfl) rfl) ?_)) | with_reducible refine Exists.intro _ (And.intro (gd_any (And.intro (by omega) (map_get' (by omega) (by omega)))) ?_) | with_reducible refine And.intro (And.intro (by omega) (And.intro (by first | omega | (simp only [List.length_map]; omega)) (by first | omega | (simp only [List.length_map, List.length_set]; omega)))) ?_ | with_reducible refine Exists.intro _ (And.intro (map_get' (by omega) (by omega)) (And.intro (Nat.le_of_ble_eq_true rfl) ?_)) | fail); conv => whnf) | ((refine And.intro (by refine ⟨?_, ?_, ?_⟩ <;> simp [chunk, maxLen] <;> omega) ?_); conv => whnf) | (refine fun hln => ?_; (try rw [List.length_map] at hln); unfold maxLen at hln; conv => whnf) | fail
    exact (show ∀ b, b = true → some (bv b) = some (bv true) from fun b h => by rw [h]) _ (by simp)
end Go.Proofs.YtfghooojingdhaaDoor
