/- What the functions that this law reaches return: part 0. No condition. -/
import Derived.Test.YtnpleednkmhhhabDoorB04
set_option linter.all false
namespace Go.Proofs.YtnpleednkmhhhabDoor
open Go Go.QL
set_option maxHeartbeats 1600000
theorem bg_le (W : List R2) (m : Int) : ∀ (r : List Int) (k : Nat) (b : R2), (bestGo W m r k b).1 ≤ b.1
  | [], _, _ => Int.le_refl _
  | v :: r, k, b => by
    simp only [bestGo]
    split
    · exact Int.le_refl _
    · refine Int.le_trans (bg_le W m r (k + 1) _) ?_
      split
      · assumption
      · exact Int.le_refl _
theorem bg_all (W : List R2) (m : Int) : ∀ (r : List Int) (k : Nat) (b : R2), (∀ i, i + 1 < r.length → r.getD i 0 < r.getD (i + 1) 0) → ∀ i, i < r.length → r.getD i 0 ≤ m → (bestGo W m r k b).1 ≤ (W.getD (m - r.getD i 0).toNat (0, 0)).1 + 1
  | [], _, _, _, i, h, _ => absurd h (Nat.not_lt_zero _)
  | v :: r, k, b, hs, i, hi, hv => by
    have hge : ∀ j, j < (v :: r).length → v ≤ (v :: r).getD j 0 := fun j => by
      induction j with
      | zero => intro _; exact Int.le_refl _
      | succ j ih => intro h; have := hs j h; have := ih (by omega); omega
    have h0 := hge i hi
    simp only [bestGo]
    rw [if_neg (by omega)]
    cases i with
    | zero =>
      refine Int.le_trans (bg_le W m r (k + 1) _) ?_
      show (if _ then _ else _ : R2).1 ≤ (W.getD (m - v).toNat (0, 0)).1 + 1
      split
      · exact Int.le_refl _
      · omega
    | succ i =>
      exact bg_all W m r (k + 1) _ (fun j hj => hs (j + 1) (by rw [List.length_cons]; omega)) i (by rw [List.length_cons] at hi; omega) hv
theorem bg_is (W : List R2) (m : Int) : ∀ (r : List Int) (k : Nat) (b : R2), bestGo W m r k b = b ∨ ∃ i, i < r.length ∧ r.getD i 0 ≤ m ∧ bestGo W m r k b = ((W.getD (m - r.getD i 0).toNat (0, 0)).1 + 1, ((k + i : Nat) : Int))
  | [], _, _ => .inl rfl
  | v :: r, k, b => by
    simp only [bestGo]
    by_cases hm : m < v
    · rw [if_pos hm]; exact .inl rfl
    · rw [if_neg hm]
      rcases bg_is W m r (k + 1) (if (W.getD (m - v).toNat (0, 0)).1 + 1 ≤ b.1 then ((W.getD (m - v).toNat (0, 0)).1 + 1, (k : Int)) else b) with h | ⟨i, hi, hv, h⟩
      · rw [h]
        split
        · exact .inr ⟨0, by rw [List.length_cons]; omega, by show v ≤ m; omega, rfl⟩
        · exact .inl rfl
      · exact .inr ⟨i + 1, by rw [List.length_cons]; omega, hv, by rw [h]; exact congrArg _ (congrArg _ (by omega))⟩
structure CoinOK (vs : List Int) : Prop where
  len : 1 ≤ vs.length ∧ vs.length ≤ 10
  rng : ∀ v ∈ vs, 1 ≤ v ∧ v ≤ 10000
  one : vs.getD 0 0 = 1
  asc : ∀ i, i + 1 < vs.length → vs.getD i 0 < vs.getD (i + 1) 0
theorem getD_in {vs : List Int} {i : Nat} (h : i < vs.length) : vs.getD i 0 ∈ vs := by
  rw [List.getD_eq_getElem?_getD, List.getElem?_eq_getElem h]; exact List.getElem_mem _
theorem way_is {vs : List Int} (h : CoinOK vs) : ∀ n : Nat, (0 ≤ (wayAt vs n).1 ∧ (wayAt vs n).1 ≤ n) ∧
    (0 < n → (∃ i, i < vs.length ∧ vs.getD i 0 ≤ n ∧ wayAt vs n = ((wayAt vs (n - (vs.getD i 0).toNat)).1 + 1, (i : Int))) ∧
      ∀ i, i < vs.length → vs.getD i 0 ≤ n → (wayAt vs n).1 ≤ (wayAt vs (n - (vs.getD i 0).toNat)).1 + 1)
  | 0 => ⟨(show (0 : Int) ≤ 0 ∧ (0 : Int) ≤ ((0 : Nat) : Int) from ⟨by decide, by decide⟩), fun h => absurd h (Nat.lt_irrefl _)⟩
  | n + 1 => by
    have hW : ∀ i, i < vs.length → vs.getD i 0 ≤ ((n + 1 : Nat) : Int) → ((waysR vs n).getD (((n : Int) + 1) - vs.getD i 0).toNat (0, 0)) = wayAt vs (n + 1 - (vs.getD i 0).toNat) := fun i hi hv => by
      have := h.rng _ (getD_in hi)
      rw [show (((n : Int) + 1) - vs.getD i 0).toNat = n + 1 - (vs.getD i 0).toNat by omega]
      exact wayAt_eq vs (by omega)
    have e : wayAt vs (n + 1) = bestGo (waysR vs n) ((n : Int) + 1) vs 0 ((n : Int) + 2, 0) := by
      unfold wayAt
      rw [waysR, List.getD_eq_getElem?_getD, List.getElem?_append_right (by rw [waysR_len]; exact Nat.le_refl _), waysR_len, Nat.sub_self]
      rfl
    have hall := bg_all (waysR vs n) ((n : Int) + 1) vs 0 ((n : Int) + 2, 0) h.asc
    have his := bg_is (waysR vs n) ((n : Int) + 1) vs 0 ((n : Int) + 2, 0)
    rw [← e] at hall his
    have h1 := hall 0 (by have := h.len; omega) (by rw [h.one]; omega)
    have hw0 := hW 0 (by have := h.len; omega) (by rw [h.one]; omega)
    rw [hw0, h.one] at h1
    have ih := (way_is h n).1
    have h1 : (wayAt vs (n + 1)).1 ≤ (wayAt vs n).1 + 1 := h1
    have hex : ∃ i, i < vs.length ∧ vs.getD i 0 ≤ ((n + 1 : Nat) : Int) ∧ wayAt vs (n + 1) = ((wayAt vs (n + 1 - (vs.getD i 0).toNat)).1 + 1, (i : Int)) := by
      rcases his with hb | ⟨i, hi, hv, hb⟩
      · rw [hb] at h1
        dsimp only at h1
        omega
      · refine ⟨i, hi, by omega, ?_⟩
        rw [hW i hi (by omega), Nat.zero_add] at hb
        exact hb
    refine ⟨?_, fun _ => ⟨hex, fun i hi hv => ?_⟩⟩
    · obtain ⟨i, hi, hv, hb⟩ := hex
      have hr := h.rng _ (getD_in hi)
      have := (way_is h (n + 1 - (vs.getD i 0).toNat)).1
      rw [hb] at h1 ⊢
      dsimp only at h1 ⊢
      omega
    · have := hall i hi (by omega)
      rw [hW i hi hv] at this
      exact this
termination_by n => n
decreasing_by
  all_goals first | omega | (have := h.rng _ (getD_in hi); omega)
def valC (vs m : List Int) : Nat → Int
  | 0 => 0
  | k + 1 => valC vs m k + m.getD k 0 * vs.getD k 0
def cntC (m : List Int) : Nat → Int
  | 0 => 0
  | k + 1 => cntC m k + m.getD k 0
theorem getD_set {m : List Int} {i k : Nat} {x : Int} (hi : i < m.length) : (m.set i x).getD k 0 = if i = k then x else m.getD k 0 := by
  rw [List.getD_eq_getElem?_getD, List.getD_eq_getElem?_getD, List.getElem?_set]
  split
  · rename_i e; subst e; first | rfl | (rw [if_pos hi]; rfl)
  · rfl
theorem val_set (vs : List Int) {m : List Int} {i : Nat} (hi : i < m.length) : ∀ k, valC vs (m.set i (m.getD i 0 + 1)) k = valC vs m k + (if i < k then vs.getD i 0 else 0)
  | 0 => by simp [valC]
  | k + 1 => by
    simp only [valC]
    rw [val_set vs hi k, getD_set hi]
    by_cases e : i = k
    · subst e
      rw [if_pos rfl, if_neg (Nat.lt_irrefl _), if_pos (Nat.lt_succ_self _), Int.add_mul, Int.one_mul]; omega
    · rw [if_neg e]
      by_cases h : i < k
      · rw [if_pos h, if_pos (by omega)]; omega
      · rw [if_neg h, if_neg (by omega)]; omega
theorem cnt_set {m : List Int} {i : Nat} (hi : i < m.length) : ∀ k, cntC (m.set i (m.getD i 0 + 1)) k = cntC m k + (if i < k then 1 else 0)
  | 0 => by simp [cntC]
  | k + 1 => by
    simp only [cntC]
    rw [cnt_set hi k, getD_set hi]
    by_cases e : i = k
    · subst e
      rw [if_pos rfl, if_neg (Nat.lt_irrefl _), if_pos (Nat.lt_succ_self _)]; omega
    · rw [if_neg e]
      by_cases h : i < k
      · rw [if_pos h, if_pos (by omega)]; omega
      · rw [if_neg h, if_neg (by omega)]; omega
theorem spend_is {vs : List Int} (h : CoinOK vs) : ∀ (f : Nat) (n : Int) (m : List Int), 0 ≤ n → n ≤ f → m.length = vs.length → (∀ j, 0 ≤ m.getD j 0 ∧ m.getD j 0 + n ≤ 10000) →
    valC vs (spend vs f n m) vs.length = valC vs m vs.length + n ∧ cntC (spend vs f n m) vs.length = cntC m vs.length + (wayAt vs n.toNat).1 ∧ ∀ j, 0 ≤ (spend vs f n m).getD j 0 ∧ (spend vs f n m).getD j 0 ≤ 10000
  | 0, n, m, h0, hn, hl, hb => by
    obtain rfl : n = 0 := by omega
    exact ⟨(Int.add_zero _).symm, (Int.add_zero _).symm, fun j => by have := hb j; exact ⟨this.1, by show m.getD j 0 ≤ 10000; omega⟩⟩
  | f + 1, n, m, h0, hn, hl, hb => by
    simp only [spend]
    by_cases hp : 0 < n
    · rw [if_pos hp]
      obtain ⟨i, hi, hv, hw⟩ := ((way_is h n.toNat).2 (by omega)).1
      have hr := h.rng _ (getD_in hi)
      rw [hw]
      dsimp only
      rw [Int.toNat_natCast]
      have ih := spend_is h f (n - vs.getD i 0) (m.set i (m.getD i 0 + 1)) (by omega) (by omega) (by rw [List.length_set]; exact hl) (fun j => by
        rw [getD_set (by omega)]
        split
        · rename_i e; subst e; have := hb i; omega
        · have := hb j; omega)
      rw [val_set vs (by omega), cnt_set (by omega), if_pos hi, if_pos hi] at ih
      rw [show (n - vs.getD i 0).toNat = n.toNat - (vs.getD i 0).toNat by omega] at ih
      refine ⟨by rw [ih.1]; omega, by rw [ih.2.1]; omega, ih.2.2⟩
    · rw [if_neg hp]
      obtain rfl : n = 0 := by omega
      exact ⟨(Int.add_zero _).symm, (Int.add_zero _).symm, fun j => by have := hb j; exact ⟨this.1, by omega⟩⟩
theorem zero_is (vs : List Int) (n : Nat) : ∀ k, valC vs (List.replicate n 0) k = 0 ∧ cntC (List.replicate n 0) k = 0
  | 0 => ⟨rfl, rfl⟩
  | k + 1 => by
    have ih := zero_is vs n k
    have e : (List.replicate n (0 : Int)).getD k 0 = 0 := by
      rw [List.getD_eq_getElem?_getD, List.getElem?_replicate]; split <;> rfl
    simp only [valC, cntC]
    rw [ih.1, ih.2, e]; simp
theorem coins_are {vs : List Int} (h : CoinOK vs) {n : Int} (h0 : 0 ≤ n) (h1 : n ≤ 10000) :
    (coinsOf vs n).length = vs.length ∧ valC vs (coinsOf vs n) vs.length = n ∧ cntC (coinsOf vs n) vs.length = (wayAt vs n.toNat).1 ∧ ∀ j, 0 ≤ (coinsOf vs n).getD j 0 ∧ (coinsOf vs n).getD j 0 ≤ 10000 := by
  have hz := zero_is vs vs.length vs.length
  have hs := spend_is h n.toNat n (List.replicate vs.length 0) h0 (by omega) (List.length_replicate) (fun j => by
    have e : (List.replicate vs.length (0 : Int)).getD j 0 = 0 := by
      rw [List.getD_eq_getElem?_getD, List.getElem?_replicate]; split <;> rfl
    rw [e]; omega)
  rw [hz.1, hz.2] at hs
  refine ⟨by unfold coinsOf; rw [spend_len, List.length_replicate], by have := hs.1; unfold coinsOf; omega, by have := hs.2.1; unfold coinsOf; omega, hs.2.2⟩
theorem other_step {vs : List Int} (h : CoinOK vs) {n : Int} {i : Nat} (hi : i < vs.length) (h0 : 0 ≤ n) (hv : vs.getD i 0 ≤ n) : (wayAt vs n.toNat).1 ≤ (wayAt vs (n - vs.getD i 0).toNat).1 + 1 := by
  have hr := h.rng _ (getD_in hi)
  have := ((way_is h n.toNat).2 (by omega)).2 i hi (by omega)
  rw [show (n - vs.getD i 0).toNat = n.toNat - (vs.getD i 0).toNat by omega]
  exact this
theorem coinsP_cases (vs am : List Int) : ((coinsP vs am).2 ≠ 0 ∧ (coinsP vs am).1 = []) ∨ (CoinOK vs ∧ am.length ≤ 40 ∧ (∀ a ∈ am, 0 ≤ a ∧ a ≤ 10000) ∧ coinsP vs am = (am.map (coinsOf vs), 0)) := by
  unfold coinsP
  split
  · exact .inl ⟨by decide, rfl⟩
  split
  · exact .inl ⟨by decide, rfl⟩
  split
  · exact .inl ⟨by decide, rfl⟩
  split
  · exact .inl ⟨by decide, rfl⟩
  split
  · exact .inl ⟨by decide, rfl⟩
  split
  · exact .inl ⟨by decide, rfl⟩
  rename_i h1 h2 h3 h4 h5 h6
  have h1 := outL_false.1 (by simpa using h1) _ (List.mem_singleton.2 rfl)
  refine .inr ⟨⟨by omega, outL_false.1 (by simpa using h2), by simpa using h3, fun i hi => ?_⟩, by omega, outL_false.1 (by simpa using h6), rfl⟩
  have hA : ascBad vs = false := by simpa using h4
  unfold ascBad at hA
  have := (List.any_eq_false.1 hA) i (List.mem_range.2 (by omega))
  simpa using this
end Go.Proofs.YtnpleednkmhhhabDoor
namespace Go.Proofs.YtnpleednkmhhhabDoor
open Go Go.QL
set_option maxHeartbeats 1600000
attribute [local irreducible] ACall FnC YC
theorem in_eq {lo hi n : Int} : (bif decide (n ≥ lo) then decide (n ≤ hi) else false) = !outB lo hi n := by
  cases h : outB lo hi n with
  | false => have := outB_false.1 h; simp [this.1, this.2]
  | true =>
    have : ¬ (lo ≤ n ∧ n ≤ hi) := fun e => by rw [outB_false.2 e] at h; cases h
    cases h1 : decide (n ≥ lo) with
    | false => rfl
    | true => have := of_decide_eq_true h1; simp; omega
theorem rin_fn (n lo hi : Int) : FnC Tryd.prog 61 [iv .i64 n, iv .i64 lo, iv .i64 hi] (bv (!outB lo hi n)) := by
  rw [← in_eq]
  refine FnC_of_AW hTt Tryd.func61 rfl (by kernel_rfl) (res := [.tmp 6]) rfl Tryd.ntmps61 (by simp) fun w0 K0 => ?_
  dsimp only [entry]
  repeat' first | with_reducible refine AW_seq ?_ | ((first | with_reducible refine AW_ret ?_ | with_reducible refine AW_region hTt ?_ | refine andA ?_ | fail); conv => whnf) | fail
  rfl
theorem rall_fn (l : List Int) (hi : Int) (h : -4611686018427387904 ≤ hi ∧ hi ≤ 4611686018427387904) : FnC Tryd.prog 46 [sl l, iv .i64 hi] (bv (!outL (-hi) hi l)) := by
  have hll : (l.map (fun n : Int => [PV.v (.int .i64 n)])).length = l.length := List.length_map _
  rw [← Int.zero_sub hi]
  have hin := fun n => rin_fn n (0 - hi) hi
  refine FnC_of_AW hTt Tryd.func46 rfl (by kernel_rfl) (res := [.tmp 4]) rfl Tryd.ntmps46 (by simp) fun w0 K0 => ?_
  dsimp only [entry]
  repeat' first | with_reducible refine AW_seq ?_ | with_reducible refine AW_block ?_ | ((with_reducible refine AW_region hTt ?_); conv => whnf) | fail
  refine AW_loop (fun i : Nat => [(5, iv .i64 i), (0, sl l), (1, iv .i64 hi)]) (fun _ => [])
    (fun i => i ≤ l.length ∧ ∀ j (h1 : j < l.length), j < i → outB (0 - hi) hi l[j] = false) (fun i => l.length - i) 0 ⟨Nat.zero_le _, fun j _ h => absurd h (Nat.not_lt_zero _)⟩ impA ?_
  rintro i ⟨hi1, hz⟩
  rcases Nat.lt_or_ge i l.length with hil | hil
  · have ho := hin l[i]
    generalize hb0 : outB (0 - hi) hi l[i] = b at ho
    cases b with
    | true =>
      have hr : outL (0 - hi) hi l = true := List.any_eq_true.2 ⟨_, List.getElem_mem hil, hb0⟩
      rw [hr]
      clear hin hz hb0 hr
      repeat' first | with_reducible refine AW_seq ?_ | with_reducible refine AW_block ?_ | ((first | with_reducible refine AW_skip ?_ | with_reducible refine AW_exit ?_ | with_reducible refine AW_ret ?_ | with_reducible refine AW_region hTt ?_ | fail); conv => whnf) | (exact absurd hb (by omega)) | ((refine ⟨_, (ho).call rfl rfl, ?_⟩); (rintro _ _ ⟨rfl, rfl⟩); conv => whnf) | (refine AW_cond rfl (fun _ => ?_) (fun hb => absurd (show true = false from hb) (by decide))) | (refine AW_cond rfl (fun hb => ?_) (fun hb => ?_) <;> first | (replace hb := of_decide_eq_true hb; try simp only [List.length_map] at hb) | (replace hb := of_decide_eq_false hb; try simp only [List.length_map] at hb)) | ((first | refine ⟨_, wrap_of (by first | omega | (simp only [List.length_map]; omega)), ?_⟩ | refine andA ?_ | with_reducible refine Exists.intro _ (And.intro (gd_any (And.intro (by omega) (map_get (by omega)))) ?_) | fail); conv => whnf) | (refine fun hln => ?_; (try rw [List.length_map] at hln); unfold maxLen at hln; conv => whnf) | fail
      rfl
    | false =>
      clear hin
      repeat' first | with_reducible refine AW_seq ?_ | with_reducible refine AW_block ?_ | ((first | with_reducible refine AW_skip ?_ | with_reducible refine AW_exit ?_ | with_reducible refine AW_ret ?_ | with_reducible refine AW_region hTt ?_ | fail); conv => whnf) | (exact absurd hb (by omega)) | ((refine ⟨_, (ho).call rfl rfl, ?_⟩); (rintro _ _ ⟨rfl, rfl⟩); conv => whnf) | (refine AW_cond rfl (fun hb => absurd (show false = true from hb) (by decide)) (fun _ => ?_)) | (refine AW_cond rfl (fun hb => ?_) (fun hb => ?_) <;> first | (replace hb := of_decide_eq_true hb; try simp only [List.length_map] at hb) | (replace hb := of_decide_eq_false hb; try simp only [List.length_map] at hb)) | ((first | refine ⟨_, wrap_of (by first | omega | (simp only [List.length_map]; omega)), ?_⟩ | refine andA ?_ | with_reducible refine Exists.intro _ (And.intro (gd_any (And.intro (by omega) (map_get (by omega)))) ?_) | fail); conv => whnf) | (refine fun hln => ?_; (try rw [List.length_map] at hln); unfold maxLen at hln; conv => whnf) | fail
      exact ⟨i + 1, ⟨by omega, fun j h1 h3 => by
        by_cases e : j = i
        · subst e; exact hb0
        · exact hz j h1 (by omega)⟩, by omega, impA⟩
  · have hr : outL (0 - hi) hi l = false := outL_false.2 fun n hn => by
      obtain ⟨j, hj, rfl⟩ := List.getElem_of_mem hn
      exact outB_false.1 (hz j hj (by omega))
    rw [hr]
    repeat' first | with_reducible refine AW_seq ?_ | with_reducible refine AW_block ?_ | ((first | with_reducible refine AW_skip ?_ | with_reducible refine AW_exit ?_ | with_reducible refine AW_ret ?_ | with_reducible refine AW_region hTt ?_ | fail); conv => whnf) | (exact absurd hb (by omega)) | (refine AW_cond rfl (fun hb => ?_) (fun hb => ?_) <;> first | (replace hb := of_decide_eq_true hb; try simp only [List.length_map] at hb) | (replace hb := of_decide_eq_false hb; try simp only [List.length_map] at hb)) | (refine fun hln => ?_; (try rw [List.length_map] at hln); unfold maxLen at hln; conv => whnf) | fail
    rfl
theorem size_fn (n : Int) (h : lim n) : FnC Tryd.prog 13 [iv .i64 n] (iv .i64 (n.natAbs : Int)) := by
  unfold lim at h
  have w0 : IntKind.i64.wrap (0 - n) = -n := by rw [Int.zero_sub]; exact wrap_of (by omega)
  refine FnC_of_AW hTt Tryd.func13 rfl (by kernel_rfl) (res := [.tmp 2]) rfl Tryd.ntmps13 (by simp) fun w0 K0 => ?_
  dsimp only [entry]
  repeat' first | with_reducible refine AW_seq ?_ | ((first | with_reducible refine AW_ret ?_ | with_reducible refine AW_region hTt ?_ | refine ⟨_, wrap_of (by first | omega | (simp only [List.length_map]; omega)), ?_⟩ | fail); conv => whnf) | fail
  exact congrArg (fun x : Int => some (iv .i64 x)) (show (if 0 - n > n then 0 - n else n) = _ by split <;> omega)
theorem power_fn (x : Int) (n : Nat) (hn : n ≤ 1000) (h : ∀ k, k ≤ n → lim (x ^ k)) : FnC Tryd.prog 58 [iv .i64 x, iv .i64 n] (iv .i64 (x ^ n)) := by
  refine FnC_of_AW hTt Tryd.func58 rfl (by kernel_rfl) (res := [.tmp 4]) rfl Tryd.ntmps58 (by simp) fun w0 K0 => ?_
  dsimp only [entry]
  repeat' first | with_reducible refine AW_seq ?_ | with_reducible refine AW_block ?_ | ((with_reducible refine AW_region hTt ?_); conv => whnf) | fail
  refine AW_loop (fun i : Nat => [(6, iv .i64 i), (5, iv .i64 (x ^ i)), (0, iv .i64 x), (1, iv .i64 n)]) (fun _ => [])
    (fun i => i ≤ n) (fun i => n - i) 0 (Nat.zero_le _) (Imp.forget (by repeat' (first | exact trivial | refine And.intro ?_ ?_ | exact ivE (Int.pow_zero x).symm | rfl | exact ivE (by first | omega | (simp only [List.length_map, List.length_append, List.length_singleton] <;> omega)) | exact oE (by first | omega | (simp only [List.length_map, List.length_append, List.length_singleton] <;> omega)))) (by repeat' (first | exact trivial | refine And.intro ?_ ?_ | exact ivE (Int.pow_zero x).symm | rfl | exact ivE (by first | omega | (simp only [List.length_map, List.length_append, List.length_singleton] <;> omega)) | exact oE (by first | omega | (simp only [List.length_map, List.length_append, List.length_singleton] <;> omega)))) (by kernel_rfl) (by kernel_rfl) (by kernel_rfl)) ?_
  intro i hi
  rcases Nat.lt_or_ge i n with hil | hil
  · have w0 : IntKind.i64.wrap (x ^ i * x) = x ^ (i + 1) := by
      have e : x ^ (i + 1) = x ^ i * x := Int.pow_succ x i
      have := h (i + 1) hil
      rw [e] at this ⊢
      unfold lim at this
      exact wrap_of (by omega)
    clear h
    repeat' first | with_reducible refine AW_seq ?_ | with_reducible refine AW_block ?_ | ((first | with_reducible refine AW_skip ?_ | with_reducible refine AW_exit ?_ | with_reducible refine AW_ret ?_ | with_reducible refine AW_region hTt ?_ | fail); conv => whnf) | (exact absurd hb (by omega)) | ((refine ⟨_, w0, ?_⟩); conv => whnf) | (refine AW_cond rfl (fun hb => ?_) (fun hb => ?_) <;> first | (replace hb := of_decide_eq_true hb; try simp only [List.length_map] at hb) | (replace hb := of_decide_eq_false hb; try simp only [List.length_map] at hb)) | ((refine ⟨_, wrap_of (by first | omega | (simp only [List.length_map]; omega)), ?_⟩); conv => whnf) | fail
    exact ⟨i + 1, by omega, by omega, impA⟩
  · obtain rfl : i = n := by omega
    repeat' first | with_reducible refine AW_seq ?_ | with_reducible refine AW_block ?_ | ((first | with_reducible refine AW_skip ?_ | with_reducible refine AW_exit ?_ | with_reducible refine AW_ret ?_ | with_reducible refine AW_region hTt ?_ | fail); conv => whnf) | (exact absurd hb (by omega)) | (refine AW_cond rfl (fun hb => ?_) (fun hb => ?_) <;> first | (replace hb := of_decide_eq_true hb; try simp only [List.length_map] at hb) | (replace hb := of_decide_eq_false hb; try simp only [List.length_map] at hb)) | fail
    rfl
theorem poly_fn (p : List Int) : FnC Tryd.prog 78 [sl p] (iv .i64 (checkE p)) := by
  have hll : (p.map (fun n : Int => [PV.v (.int .i64 n)])).length = p.length := List.length_map _
  have h1 := rin_fn ((p.map (fun n : Int => [PV.v (.int .i64 n)])).length : Int) 1 5
  have h2 := rall_fn p 100 (by decide)
  unfold checkE
  rw [outL_one, ← hll]
  generalize outB 1 5 ((p.map (fun n : Int => [PV.v (.int .i64 n)])).length : Int) = b1 at h1
  rw [show (-100 : Int) = -100 from rfl] at h2
  generalize outL (-100) 100 p = b2 at h2
  cases b1 <;> cases b2 <;> (
    refine FnC_of_AW hTt Tryd.func78 rfl (by kernel_rfl) (res := [.tmp 2]) rfl Tryd.ntmps78 (by simp) fun w0 K0 => ?_
    dsimp only [entry]
    repeat' first | with_reducible refine AW_seq ?_ | ((first | with_reducible refine AW_skip ?_ | with_reducible refine AW_ret ?_ | with_reducible refine AW_region hTt ?_ | ((refine ⟨_, (h1).call rfl rfl, ?_⟩); (rintro _ _ ⟨rfl, rfl⟩)) | ((refine ⟨_, (h2).call rfl rfl, ?_⟩); (rintro _ _ ⟨rfl, rfl⟩)) | fail); conv => whnf) | (refine AW_cond rfl (fun _ => ?_) (fun hb => absurd (show true = false from hb) (by decide))) | (refine AW_cond rfl (fun hb => absurd (show false = true from hb) (by decide)) (fun _ => ?_)) | (refine fun hln => ?_; (try rw [List.length_map] at hln); unfold maxLen at hln; conv => whnf) | fail
    rfl)
theorem interval_fn (a b : Int) : FnC Tryd.prog 79 [iv .i64 a, iv .i64 b] (iv .i64 (judgeE a b)) := by
  have h1 := rin_fn a (-10) 10
  have h2 := rin_fn b (-10) 10
  unfold judgeE
  rw [show outL (-10) 10 [a, b] = (outB (-10) 10 a || outB (-10) 10 b) by unfold outL; simp]
  generalize outB (-10) 10 a = b1 at h1
  generalize outB (-10) 10 b = b2 at h2
  cases b1 <;> cases b2 <;> by_cases hba : b ≤ a <;> simp only [hba, Bool.or_true, Bool.or_false, Bool.or_self, if_true, if_false, ite_true, ite_false, reduceIte] <;> (
    refine FnC_of_AW hTt Tryd.func79 rfl (by kernel_rfl) (res := [.tmp 4]) rfl Tryd.ntmps79 (by simp) fun w0 K0 => ?_
    dsimp only [entry]
    repeat' first | with_reducible refine AW_seq ?_ | ((first | with_reducible refine AW_skip ?_ | with_reducible refine AW_ret ?_ | with_reducible refine AW_region hTt ?_ | fail); conv => whnf) | (exact absurd hb (by omega)) | ((first | ((refine ⟨_, (h1).call rfl rfl, ?_⟩); (rintro _ _ ⟨rfl, rfl⟩)) | refine ⟨_, fun _ => (h2).call rfl rfl, ?_⟩ | fail); conv => whnf) | (refine AW_cond rfl (fun _ => ?_) (fun hb => absurd (show true = false from hb) (by decide))) | (refine AW_cond rfl (fun hb => absurd (show false = true from hb) (by decide)) (fun _ => ?_)) | (refine AW_cond rfl (fun hb => ?_) (fun hb => ?_) <;> first | (replace hb := of_decide_eq_true hb; try simp only [List.length_map] at hb) | (replace hb := of_decide_eq_false hb; try simp only [List.length_map] at hb)) | ((refine andA ?_); conv => whnf) | fail
    rfl)
end Go.Proofs.YtnpleednkmhhhabDoor
namespace Go.Proofs.YtnpleednkmhhhabDoor
open Go Go.QL
set_option maxHeartbeats 1600000
attribute [local irreducible] ACall FnC YC
theorem outO1 {tt : TT} {a : Tmp} {fr : Fr} {σ : Sg} {c st n : Nat} {e : TypeId} {sz : Nat} {xs : List (List PV)} (h1 : lk a fr = some (.x (.o c st n))) (h3 : lk c σ = some (.chain e sz st xs)) (h4 : n ≤ xs.length) :
    outcome tt [.tmp a] fr σ = some (.x (.d (.s sz (xs.take n)))) := by
  simp [outcome, resAVs, resAV, h1, viewAV, viewAVs, viewAV1, viewSV, h3, h4]
theorem leS1 {sz : Nat} {xs ys : List (List PV)} (h : xs = ys) : LeAV (.x (.d (.s sz xs))) (.x (.d (.s sz ys))) := by
  rw [h]; exact LeAV.refl _
theorem rdiff_fn (l : List Int) (hl : l.length ≤ 1000) (hbd : ∀ x ∈ l, -1000000000000 ≤ x ∧ x ≤ 1000000000000) : ∀ k : Nat, k ≤ 10 → FnC Tryd.prog 47 [sl l, iv .i64 k] (sl (diffR k l)) := by
  intro k
  induction k with
  | zero =>
    intro _
    refine FnC_of_AWL hTt Tryd.func47 rfl (by kernel_rfl) (res := [.tmp 4]) rfl Tryd.ntmps47 (by simp) fun w0 K0 => ?_
    dsimp only [entry]
    repeat' first | with_reducible refine AW_seq ?_ | ((first | with_reducible refine AW_ret ?_ | with_reducible refine AW_region hTt ?_ | fail); conv => whnf) | (refine AW_cond rfl (fun _ => ?_) (fun hb => absurd (show true = false from hb) (by decide))) | ((refine andA ?_); conv => whnf) | ((refine And.intro (by refine ⟨?_, ?_, ?_⟩ <;> simp [chunk, maxLen] <;> omega) ?_); conv => whnf) | fail
    exact ⟨_, outO1 rfl rfl (by show 0 + (l.map _).length ≤ ([] ++ l.map _).length; rw [List.nil_append, Nat.zero_add]; exact Nat.le_refl _), leS1 (by show ([] ++ l.map _).take (0 + (l.map _).length) = l.map _; rw [List.nil_append, Nat.zero_add, List.take_length])⟩
  | succ k ih =>
    intro hk
    have ih := ih (by omega)
    have hzl := diffR_len l k
    have hzb := diffR_bd hbd k
    have hpw : (2 : Int) ^ k ≤ 1024 ∧ 0 < (2 : Int) ^ k := by
      have : k = 0 ∨ k = 1 ∨ k = 2 ∨ k = 3 ∨ k = 4 ∨ k = 5 ∨ k = 6 ∨ k = 7 ∨ k = 8 ∨ k = 9 := by omega
      rcases this with rfl | rfl | rfl | rfl | rfl | rfl | rfl | rfl | rfl | rfl <;> decide
    show FnC _ _ _ (sl (dif (diffR k l)))
    generalize diffR k l = z at *
    have hzB : ∀ x ∈ z, -1024000000000000 ≤ x ∧ x ≤ 1024000000000000 := fun x hx => by
      have := hzb x hx
      have h2 : (2 : Int) ^ k * 1000000000000 ≤ 1024 * 1000000000000 := Int.mul_le_mul_of_nonneg_right hpw.1 (by decide)
      omega
    clear hzb hpw hbd
    have hll : (z.map (fun n : Int => [PV.v (.int .i64 n)])).length = z.length := List.length_map _
    have wk : IntKind.i64.wrap (((k + 1 : Nat) : Int) - 1) = (k : Int) := by rw [show ((k + 1 : Nat) : Int) - 1 = k by omega]; exact wrap_of (by omega)
    refine FnC_of_AWL hTt Tryd.func47 rfl (by kernel_rfl) (res := [.tmp 4]) rfl Tryd.ntmps47 (by simp) fun w0 K0 => ?_
    dsimp only [entry]
    repeat' first | with_reducible refine AW_seq ?_ | with_reducible refine AW_block ?_ | ((first | with_reducible refine AW_skip ?_ | with_reducible refine AW_region hTt ?_ | refine ⟨_, wk, ?_⟩ | ((refine ⟨_, (ih).call rfl rfl, ?_⟩); (rintro _ _ ⟨rfl, rfl⟩)) | fail); conv => whnf) | (refine AW_cond rfl (fun hb => absurd (show false = true from hb) (by decide)) (fun _ => ?_)) | fail
    refine AW_imp (Imp.nil 900 3 1 (fr' := [(6, iv .i64 1), (5, .x (.o 900 0 0)), (0, sl z)]) (σ' := []) rfl ?_ ?_ rfl rfl) ?_
    · exact ⟨⟨_, rfl, .inl rfl⟩, ⟨_, rfl, .inr ⟨rfl, rfl⟩⟩, ⟨_, rfl, .inl rfl⟩, trivial⟩
    · exact trivial
    clear ih wk
    have hdl := dif_len z
    have hdt : ∀ i, i ≤ z.length - 1 → (((dif z).take i).map iPV).length = i := fun i hi => by rw [List.length_map, List.length_take]; omega
    refine AW_loop (fun i : Nat => [(6, iv .i64 ((i : Int) + 1)), (5, .x (.o 900 i i)), (0, sl z)]) (fun i => [(900, .chain 3 1 i (((dif z).take i).map iPV))])
      (fun i => i ≤ z.length - 1) (fun i => z.length - 1 - i) 0 (Nat.zero_le _) impA ?_
    intro i hi
    have hcl := hdt i hi
    rcases Nat.lt_or_ge (i + 1) z.length with hil | hil
    · have g0 := hzB _ (getD_mem (show i < z.length by omega))
      have g1 := hzB _ (getD_mem hil)
      have e0 : z[((i : Int) + 1 - 1).toNat]? = some (z.getD i 0) := by
        rw [show ((i : Int) + 1 - 1).toNat = i by omega, List.getD_eq_getElem?_getD, List.getElem?_eq_getElem (by omega)]; rfl
      have e1 : z[((i : Int) + 1).toNat]? = some (z.getD (i + 1) 0) := by
        rw [show ((i : Int) + 1).toNat = i + 1 by omega, List.getD_eq_getElem?_getD, List.getElem?_eq_getElem (by omega)]; rfl
      have hnx : (((dif z).take i).map iPV).take i ++ [iPV (z.getD (i + 1) 0 - z.getD i 0)] = ((dif z).take (i + 1)).map iPV := by
        rw [List.take_of_length_le (by omega), List.take_add_one, dif_get hil, List.map_append]; rfl
      generalize z.getD (i + 1) 0 = y1 at *
      generalize z.getD i 0 = y0 at *
      clear hzB hdt
      repeat' first | with_reducible refine AW_seq ?_ | with_reducible refine AW_block ?_ | ((first | with_reducible refine AW_skip ?_ | with_reducible refine AW_exit ?_ | with_reducible refine AW_ret ?_ | with_reducible refine AW_region hTt ?_ | refine AW_draw hTt hMix (id := 8) 12 true [0, 0, 0, 6, 14, 0, 0, 64, 224, 480, 1022, 2046, 4095, 8191] (by kernel_rfl) rfl rfl (by kernel_rfl) ?_ | fail); conv => whnf) | (exact absurd hb (by omega)) | ((first | with_reducible refine Exists.intro _ (And.intro (gd_any (And.intro (by omega) (map_some' e0))) ?_) | with_reducible refine Exists.intro _ (And.intro (gd_any (And.intro (by omega) (map_some' e1))) ?_) | fail); conv => whnf) | ((refine And.intro (by rw [hcl]; refine ⟨?_, ?_, ?_⟩ <;> simp [chunk, maxLen] <;> omega) ?_); conv => whnf) | (refine AW_cond rfl (fun hb => ?_) (fun hb => ?_) <;> first | (replace hb := of_decide_eq_true hb; try simp only [List.length_map] at hb) | (replace hb := of_decide_eq_false hb; try simp only [List.length_map] at hb) | (simp only [List.length_map, bne_iff_ne, ne_eq, beq_iff_eq, bne_eq_false_iff_eq, beq_eq_false_iff_ne, decide_eq_true_eq, decide_eq_false_iff_not, Bool.not_eq_true', Bool.not_eq_false', Int.natCast_inj] at hb) | skip) | ((first | refine ⟨_, wrap_of (by first | omega | (simp only [List.length_map]; omega)), ?_⟩ | refine andA ?_ | fail); conv => whnf) | (refine fun hln => ?_; (try rw [List.length_map] at hln); unfold maxLen at hln; conv => whnf) | fail
      exact ⟨i + 1, by omega, by omega, (Imp.forget (by repeat' (first | exact trivial | refine And.intro ?_ ?_ | exact congrArg (fun xs : List (List PV) => some (Ob.chain 3 1 (i + 1) xs)) hnx | rfl | exact ivE (by first | omega | (simp only [List.length_map, List.length_append, List.length_singleton] <;> omega)) | exact oE (by first | omega | (simp only [List.length_map, List.length_append, List.length_singleton] <;> omega)))) (by repeat' (first | exact trivial | refine And.intro ?_ ?_ | exact congrArg (fun xs : List (List PV) => some (Ob.chain 3 1 (i + 1) xs)) hnx | rfl | exact ivE (by first | omega | (simp only [List.length_map, List.length_append, List.length_singleton] <;> omega)) | exact oE (by first | omega | (simp only [List.length_map, List.length_append, List.length_singleton] <;> omega)))) (by kernel_rfl) (by kernel_rfl) (by kernel_rfl))⟩
    · repeat' first | with_reducible refine AW_seq ?_ | with_reducible refine AW_block ?_ | ((first | with_reducible refine AW_skip ?_ | with_reducible refine AW_exit ?_ | with_reducible refine AW_ret ?_ | with_reducible refine AW_region hTt ?_ | refine AW_draw hTt hMix (id := 8) 12 true [0, 0, 0, 6, 14, 0, 0, 64, 224, 480, 1022, 2046, 4095, 8191] (by kernel_rfl) rfl rfl (by kernel_rfl) ?_ | fail); conv => whnf) | (exact absurd hb (by omega)) | (refine AW_cond rfl (fun hb => ?_) (fun hb => ?_) <;> first | (replace hb := of_decide_eq_true hb; try simp only [List.length_map] at hb) | (replace hb := of_decide_eq_false hb; try simp only [List.length_map] at hb) | (simp only [List.length_map, bne_iff_ne, ne_eq, beq_iff_eq, bne_eq_false_iff_eq, beq_eq_false_iff_ne, decide_eq_true_eq, decide_eq_false_iff_not, Bool.not_eq_true', Bool.not_eq_false', Int.natCast_inj] at hb) | skip) | (refine fun hln => ?_; (try rw [List.length_map] at hln); unfold maxLen at hln; conv => whnf) | fail
      exact ⟨_, outO1 rfl rfl (by omega), leS1 (by rw [List.take_of_length_le (by omega), List.take_of_length_le (by omega)])⟩
theorem with_fn (l : List Int) (hl : l.length ≤ 1000) (i : Nat) (hi : i < l.length) (v : Int) : FnC Tryd.prog 16 [sl l, iv .i64 i, iv .i64 v] (sl (l.set i v)) := by
  refine FnC_of_AWL hTt Tryd.func16 rfl (by kernel_rfl) (res := [.tmp 6]) rfl Tryd.ntmps16 (by simp) fun w0 K0 => ?_
  dsimp only [entry]
  have hel : ([] ++ l.map (fun n : Int => [PV.v (.int .i64 n)]))[i]? = some [PV.v (.int .i64 l[i])] := by rw [List.nil_append, List.getElem?_map, List.getElem?_eq_getElem hi]; rfl
  repeat' first | with_reducible refine AW_seq ?_ | ((first | with_reducible refine AW_ret ?_ | with_reducible refine AW_region hTt ?_ | refine ⟨_, hel, Nat.le_refl _, ?_⟩ | refine andA ?_ | fail); conv => whnf) | ((refine And.intro (by refine ⟨?_, ?_, ?_⟩ <;> simp [chunk, maxLen] <;> omega) ?_); conv => whnf) | fail
  exact ⟨_, outO1 rfl rfl (by show 0 + (l.map _).length ≤ (([] ++ l.map _).set _ _).length; rw [List.length_set, List.nil_append, Nat.zero_add]; exact Nat.le_refl _), leS1 (by
    show (([] ++ l.map (fun n : Int => [PV.v (.int .i64 n)])).set i [PV.v (.int .i64 v)]).take (0 + (l.map _).length) = (l.set i v).map (fun n : Int => [PV.v (.int .i64 n)])
    rw [List.nil_append, Nat.zero_add, List.take_of_length_le (by rw [List.length_set]; exact Nat.le_refl _), List.map_set])⟩
theorem smooth_fn (l : List Int) (hl : l.length ≤ 1000) (hbd : ∀ x ∈ l, -1000000000000 ≤ x ∧ x ≤ 1000000000000) (k : Nat) (hk : k ≤ 9) : FnC Tryd.prog 17 [sl l, iv .i64 k] (bv (!outL 0 0 (diffR (k + 1) l))) := by
  have h1 := rdiff_fn l hl hbd (k + 1) (by omega)
  have h2 := rall_fn (diffR (k + 1) l) 0 (by decide)
  rw [Int.neg_zero] at h2
  have wk : IntKind.i64.wrap ((k : Int) + 1) = ((k + 1 : Nat) : Int) := wrap_of (by omega)
  refine FnC_of_AW hTt Tryd.func17 rfl (by kernel_rfl) (res := [.tmp 4]) rfl Tryd.ntmps17 (by simp) fun w0 K0 => ?_
  dsimp only [entry]
  repeat' first | with_reducible refine AW_seq ?_ | ((first | with_reducible refine AW_ret ?_ | with_reducible refine AW_region hTt ?_ | refine ⟨_, wk, ?_⟩ | ((refine ⟨_, (h1).call rfl rfl, ?_⟩); (rintro _ _ ⟨rfl, rfl⟩)) | ((refine ⟨_, (h2).call rfl rfl, ?_⟩); (rintro _ _ ⟨rfl, rfl⟩)) | fail); conv => whnf) | fail
  rfl
end Go.Proofs.YtnpleednkmhhhabDoor
namespace Go.Proofs.YtnpleednkmhhhabDoor
open Go Go.QL
set_option maxHeartbeats 1600000
attribute [local irreducible] ACall FnC YC
theorem pow_bdG {x B : Int} (h : -B ≤ x ∧ x ≤ B) : ∀ k : Nat, -(B ^ k) ≤ x ^ k ∧ x ^ k ≤ B ^ k
  | 0 => by simp
  | k + 1 => by
    have := mul_bd (pow_bdG h k) h
    rw [Int.pow_succ, Int.pow_succ]; exact this
def atS (p : List Int) (num den : Int) : Nat → Int
  | 0 => 0
  | k + 1 => atS p num den k + p.getD k 0 * num ^ k * den ^ (p.length - 1 - k)
theorem valS_2 (p : List Int) (num den : Int) : ∀ j, (valS p num den j).2 = den ^ j
  | 0 => by simp [valS]
  | j + 1 => by simp only [valS]; rw [valS_2 p num den j, Int.pow_succ]
theorem valS_at (p : List Int) (num den : Int) : ∀ j, j ≤ p.length → (valS p num den j).1 * num ^ (p.length - j) + atS p num den (p.length - j) = atS p num den p.length
  | 0, _ => by simp [valS]
  | j + 1, h => by
    have ih := valS_at p num den j (by omega)
    rw [← ih]
    obtain ⟨m, hm⟩ : ∃ m, p.length - (j + 1) = m := ⟨_, rfl⟩
    rw [hm, show p.length - j = m + 1 by omega]
    simp only [valS, atS]
    rw [valS_2, show p.length - 1 - j = m by omega, show p.length - 1 - m = j by omega, Int.pow_succ, Int.add_mul]
    have e1 : (valS p num den j).1 * num * num ^ m = (valS p num den j).1 * (num ^ m * num) := by rw [Int.mul_assoc, Int.mul_comm num]
    have e2 : p.getD m 0 * den ^ j * num ^ m = p.getD m 0 * num ^ m * den ^ j := by rw [Int.mul_assoc, Int.mul_comm (den ^ j), ← Int.mul_assoc]
    rw [e1, e2]; omega
theorem val_at (p : List Int) (num den : Int) : valP p num den = atS p num den p.length := by
  have := valS_at p num den p.length (Nat.le_refl _)
  rw [Nat.sub_self] at this
  simp only [atS, Int.pow_zero, Int.mul_one, Int.add_zero] at this
  exact this
theorem at_bd {p : List Int} (hp : pOK p) {num den : Int} (hn : -4000 ≤ num ∧ num ≤ 4000) (hd : -4000 ≤ den ∧ den ≤ 4000) {k : Nat} (hk : k < p.length) :
    lim (p.getD k 0 * num ^ k) ∧ (-25600000000000000 ≤ p.getD k 0 * num ^ k * den ^ (p.length - 1 - k) ∧ p.getD k 0 * num ^ k * den ^ (p.length - 1 - k) ≤ 25600000000000000) := by
  have hc := hp.get k
  have h1 := pow_bdG hn k
  have h2 := pow_bdG hd (p.length - 1 - k)
  have h5 := hp.1
  have m1 := mul_bd (A := 100) hc h1
  have m2 := mul_bd m1 h2
  have e : (100 : Int) * 4000 ^ k * 4000 ^ (p.length - 1 - k) = 100 * 4000 ^ (p.length - 1) := by
    rw [Int.mul_assoc, ← Int.pow_add, show k + (p.length - 1 - k) = p.length - 1 by omega]
  rw [e] at m2
  have l1 : p.length - 1 = 0 ∨ p.length - 1 = 1 ∨ p.length - 1 = 2 ∨ p.length - 1 = 3 ∨ p.length - 1 = 4 := by omega
  have b2 : (100 : Int) * 4000 ^ (p.length - 1) ≤ 25600000000000000 := by
    rcases l1 with e | e | e | e | e <;> rw [e] <;> decide
  have l2 : k = 0 ∨ k = 1 ∨ k = 2 ∨ k = 3 ∨ k = 4 := by omega
  have b1 : (100 : Int) * 4000 ^ k ≤ 25600000000000000 := by
    rcases l2 with e | e | e | e | e <;> rw [e] <;> decide
  unfold lim
  omega
theorem atS_bd {p : List Int} (hp : pOK p) {num den : Int} (hn : -4000 ≤ num ∧ num ≤ 4000) (hd : -4000 ≤ den ∧ den ≤ 4000) : ∀ k, k ≤ p.length → -((k : Int) * 25600000000000000) ≤ atS p num den k ∧ atS p num den k ≤ (k : Int) * 25600000000000000
  | 0, _ => by simp [atS]
  | k + 1, h => by
    have ih := atS_bd hp hn hd k (by omega)
    have := (at_bd hp hn hd (k := k) (by omega)).2
    simp only [atS]
    omega
theorem at_fn {p : List Int} (hp : pOK p) {num den : Int} (hn : -4000 ≤ num ∧ num ≤ 4000) (hd : -4000 ≤ den ∧ den ≤ 4000) : FnC Tryd.prog 37 [sl p, iv .i64 num, iv .i64 den] (iv .i64 (valP p num den)) := by
  have hll : (p.map (fun n : Int => [PV.v (.int .i64 n)])).length = p.length := List.length_map _
  have h5 := hp.1
  have hlimp : ∀ (x : Int), -4000 ≤ x ∧ x ≤ 4000 → ∀ n : Nat, n ≤ 4 → ∀ k, k ≤ n → lim (x ^ k) := fun x hx n hn4 k hk => by
    have := pow_bdG hx k
    have l2 : k = 0 ∨ k = 1 ∨ k = 2 ∨ k = 3 ∨ k = 4 := by omega
    have b1 : (4000 : Int) ^ k ≤ 256000000000000 := by
      rcases l2 with e | e | e | e | e <;> rw [e] <;> decide
    unfold lim; omega
  rw [val_at]
  refine FnC_of_AW hTt Tryd.func37 rfl (by kernel_rfl) (res := [.tmp 6]) rfl Tryd.ntmps37 (by simp) fun w0 K0 => ?_
  dsimp only [entry]
  repeat' first | with_reducible refine AW_seq ?_ | with_reducible refine AW_block ?_ | ((with_reducible refine AW_region hTt ?_); conv => whnf) | fail
  refine AW_loop (fun i : Nat => [(8, iv .i64 i), (7, iv .i64 (atS p num den i)), (0, sl p), (1, iv .i64 num), (2, iv .i64 den)]) (fun _ => [])
    (fun i => i ≤ p.length) (fun i => p.length - i) 0 (Nat.zero_le _) impA ?_
  intro i hi
  rcases Nat.lt_or_ge i p.length with hil | hil
  · have q1 := power_fn num i (by omega) (hlimp num hn i (by omega))
    have q2 := power_fn den (p.length - 1 - i) (by omega) (hlimp den hd _ (by omega))
    rw [show ((p.length - 1 - i : Nat) : Int) = ((p.map (fun n : Int => [PV.v (.int .i64 n)])).length : Int) - 1 - (i : Int) by omega] at q2
    obtain ⟨b1, b2⟩ := at_bd hp hn hd hil
    have b3 := atS_bd hp hn hd i (by omega)
    have e1 : p[i]? = some (p.getD i 0) := by rw [List.getD_eq_getElem?_getD, List.getElem?_eq_getElem hil]; rfl
    have hnx : atS p num den (i + 1) = atS p num den i + p.getD i 0 * num ^ i * den ^ (p.length - 1 - i) := rfl
    unfold lim at b1
    generalize p.getD i 0 = c at *
    generalize num ^ i = x at *
    generalize den ^ (p.length - 1 - i) = y at *
    have k1 : IntKind.i64.wrap (c * x) = c * x := wrap_of (by omega)
    have k2 : IntKind.i64.wrap (c * x * y) = c * x * y := wrap_of (by omega)
    have k3 : IntKind.i64.wrap (atS p num den i + c * x * y) = atS p num den (i + 1) := by rw [hnx]; exact wrap_of (by omega)
    generalize hT : atS p num den (i + 1) = T1 at *
    generalize atS p num den i = T0 at *
    clear hlimp hp b3 b1 b2 hnx
    repeat' first | with_reducible refine AW_seq ?_ | with_reducible refine AW_block ?_ | ((first | with_reducible refine AW_skip ?_ | with_reducible refine AW_exit ?_ | with_reducible refine AW_ret ?_ | with_reducible refine AW_region hTt ?_ | refine AW_draw hTt hMix (id := 5) 17 false [0, 0, 0, 6, 14, 0, 0, 96, 254, 0, 0, 1024, 3072, 0, 15360, 32480, 65534, 131071, 262143] (by kernel_rfl) rfl rfl (by kernel_rfl) ?_ | fail); conv => whnf) | (exact absurd hb (by omega)) | ((first | with_reducible refine Exists.intro _ (And.intro (gd_any (And.intro (by omega) (map_some e1))) ?_) | refine ⟨_, fun _ => (q1).call rfl rfl, ?_⟩ | refine ⟨_, fun _ => (q2).call rfl rfl, ?_⟩ | refine ⟨_, k1, ?_⟩ | refine ⟨_, k2, ?_⟩ | refine ⟨_, k3, ?_⟩ | fail); conv => whnf) | (refine AW_cond rfl (fun hb => ?_) (fun hb => ?_) <;> first | (replace hb := of_decide_eq_true hb; try simp only [List.length_map] at hb) | (replace hb := of_decide_eq_false hb; try simp only [List.length_map] at hb) | (simp only [List.length_map, bne_iff_ne, ne_eq, beq_iff_eq, bne_eq_false_iff_eq, beq_eq_false_iff_ne, decide_eq_true_eq, decide_eq_false_iff_not, Bool.not_eq_true', Bool.not_eq_false', Int.natCast_inj] at hb) | skip) | ((first | refine ⟨_, wrap_of (by first | omega | (simp only [List.length_map]; omega)), ?_⟩ | refine andA ?_ | fail); conv => whnf) | (refine fun hln => ?_; (try rw [List.length_map] at hln); unfold maxLen at hln; conv => whnf) | fail
    subst hT
    exact ⟨i + 1, by omega, by omega, impA⟩
  · obtain rfl : i = p.length := by omega
    repeat' first | with_reducible refine AW_seq ?_ | with_reducible refine AW_block ?_ | ((first | with_reducible refine AW_skip ?_ | with_reducible refine AW_exit ?_ | with_reducible refine AW_ret ?_ | with_reducible refine AW_region hTt ?_ | refine AW_draw hTt hMix (id := 5) 17 false [0, 0, 0, 6, 14, 0, 0, 96, 254, 0, 0, 1024, 3072, 0, 15360, 32480, 65534, 131071, 262143] (by kernel_rfl) rfl rfl (by kernel_rfl) ?_ | fail); conv => whnf) | (exact absurd hb (by omega)) | (refine AW_cond rfl (fun hb => ?_) (fun hb => ?_) <;> first | (replace hb := of_decide_eq_true hb; try simp only [List.length_map] at hb) | (replace hb := of_decide_eq_false hb; try simp only [List.length_map] at hb) | (simp only [List.length_map, bne_iff_ne, ne_eq, beq_iff_eq, bne_eq_false_iff_eq, beq_eq_false_iff_ne, decide_eq_true_eq, decide_eq_false_iff_not, Bool.not_eq_true', Bool.not_eq_false', Int.natCast_inj] at hb) | skip) | (refine fun hln => ?_; (try rw [List.length_map] at hln); unfold maxLen at hln; conv => whnf) | fail
    rfl
end Go.Proofs.YtnpleednkmhhhabDoor
namespace Go.Proofs.YtnpleednkmhhhabDoor
open Go Go.QL
set_option maxHeartbeats 1600000
attribute [local irreducible] ACall FnC YC
theorem reduced_fn (n d : Int) (hn : lim n) (hd : lim d) (h0 : d ≠ 0) : FnC Tryd.prog 28 [iv .i64 n, iv .i64 d] (r2AV (redP n d)) := by
  have z1 := size_fn n hn
  have z2 := size_fn d hd
  have key : ∀ c : Int, c.natAbs = Int.gcd n d → decide (c < 0) = decide (d < 0) → lim (n.tdiv c) ∧ lim (d.tdiv c) ∧ c ≠ 0 ∧ (n.tdiv c, d.tdiv c) = redP n d := by
    intro c h1 h2
    have hg0 : 0 < Int.gcd n d := Int.gcd_pos_of_ne_zero_right n h0
    have h3 := Int.natAbs_tdiv_le_natAbs n c
    have h4 := Int.natAbs_tdiv_le_natAbs d c
    unfold lim at *
    exact ⟨by omega, by omega, by omega, tdiv_gcd h0 h1 h2⟩
  have hgg : Int.gcd (n.natAbs : Int) (d.natAbs : Int) = Int.gcd n d := by unfold Int.gcd; simp
  have hln1 : (n.natAbs : Int) ≤ 4611686018427387904 := by unfold lim at hn; omega
  have hln2 : (d.natAbs : Int) ≤ 4611686018427387904 := by unfold lim at hd; omega
  refine FnC_of_AW hTt Tryd.func28 rfl (by kernel_rfl) (res := [.cell 4 63]) rfl Tryd.ntmps28 (by simp) fun w0 K0 => ?_
  dsimp only [entry]
  repeat' first | with_reducible refine AW_seq ?_ | with_reducible refine AW_block ?_ | ((first | with_reducible refine AW_region hTt ?_ | ((refine ⟨_, (z1).call rfl rfl, ?_⟩); (rintro _ _ ⟨rfl, rfl⟩)) | ((refine ⟨_, (z2).call rfl rfl, ?_⟩); (rintro _ _ ⟨rfl, rfl⟩)) | fail); conv => whnf) | fail
  clear z1 z2
  refine AW_loop (fun p : Int × Int => [(6, iv .i64 p.2), (5, iv .i64 p.1), (0, iv .i64 n), (1, iv .i64 d), (4, .x (.b 4 0))]) (fun _ => [(4, .box [.d (.v (.int .i64 0)), .d (.v (.int .i64 0))])])
    (fun p => 0 ≤ p.1 ∧ p.1 ≤ 4611686018427387904 ∧ 0 ≤ p.2 ∧ p.2 ≤ 4611686018427387904 ∧ Int.gcd p.1 p.2 = Int.gcd n d) (fun p => p.2.natAbs) ((n.natAbs : Int), (d.natAbs : Int)) ⟨by show (0 : Int) ≤ (n.natAbs : Int); omega, hln1, by show (0 : Int) ≤ (d.natAbs : Int); omega, hln2, hgg⟩ impA ?_
  rintro ⟨a, b⟩ ⟨ha0, ha, hb0, hbl, hg⟩
  dsimp only at ha0 ha hb0 hbl hg ⊢
  clear hgg hln1 hln2
  by_cases hz : b = 0
  · subst hz
    rw [Int.gcd_zero_right] at hg
    by_cases hs : d < 0
    · obtain ⟨k1, k2, k3, k4⟩ := key (-a) (by omega) (by rw [decide_eq_true hs]; have := Int.gcd_pos_of_ne_zero_right n h0; exact decide_eq_true (by omega))
      rw [← k4]
      unfold lim at k1 k2
      clear key hg k4
      have w0 : IntKind.i64.wrap (0 - a) = -a := by rw [Int.zero_sub]; exact wrap_of (by omega)
      have w1 : IntKind.i64.wrap (n.tdiv (-a)) = n.tdiv (-a) := wrap_of (by omega)
      have w2 : IntKind.i64.wrap (d.tdiv (-a)) = d.tdiv (-a) := wrap_of (by omega)
      repeat' first | with_reducible refine AW_seq ?_ | ((first | with_reducible refine AW_skip ?_ | with_reducible refine AW_exit ?_ | with_reducible refine AW_ret ?_ | with_reducible refine AW_region hTt ?_ | refine AW_draw hTt hMix (id := 6) 6 false [0, 0, 3, 0, 0, 24, 63, 127] (by kernel_rfl) rfl rfl (by kernel_rfl) ?_ | fail); conv => whnf) | (exact absurd hb (by omega)) | ((first | refine And.intro (gd_none k3) ?_ | refine ⟨_, w0, ?_⟩ | refine ⟨_, w1, ?_⟩ | refine ⟨_, w2, ?_⟩ | fail); conv => whnf) | (refine AW_cond rfl (fun hb => absurd (show false = true from hb) (by decide)) (fun _ => ?_)) | (refine AW_cond rfl (fun hb => ?_) (fun hb => ?_) <;> first | (replace hb := of_decide_eq_true hb; try simp only [List.length_map] at hb) | (replace hb := of_decide_eq_false hb; try simp only [List.length_map] at hb) | (simp only [List.length_map, bne_iff_ne, ne_eq, beq_iff_eq, bne_eq_false_iff_eq, beq_eq_false_iff_ne, decide_eq_true_eq, decide_eq_false_iff_not, Bool.not_eq_true', Bool.not_eq_false', Int.natCast_inj] at hb) | skip) | ((refine andA ?_); conv => whnf) | fail
      rfl
    · obtain ⟨k1, k2, k3, k4⟩ := key a hg (by rw [decide_eq_false hs]; exact decide_eq_false (by omega))
      rw [← k4]
      unfold lim at k1 k2
      clear key hg k4
      have w1 : IntKind.i64.wrap (n.tdiv a) = n.tdiv a := wrap_of (by omega)
      have w2 : IntKind.i64.wrap (d.tdiv a) = d.tdiv a := wrap_of (by omega)
      repeat' first | with_reducible refine AW_seq ?_ | ((first | with_reducible refine AW_skip ?_ | with_reducible refine AW_exit ?_ | with_reducible refine AW_ret ?_ | with_reducible refine AW_region hTt ?_ | refine AW_draw hTt hMix (id := 6) 6 false [0, 0, 3, 0, 0, 24, 63, 127] (by kernel_rfl) rfl rfl (by kernel_rfl) ?_ | fail); conv => whnf) | (exact absurd hb (by omega)) | ((first | refine And.intro (gd_none k3) ?_ | refine ⟨_, w1, ?_⟩ | refine ⟨_, w2, ?_⟩ | fail); conv => whnf) | (refine AW_cond rfl (fun hb => absurd (show false = true from hb) (by decide)) (fun _ => ?_)) | (refine AW_cond rfl (fun hb => ?_) (fun hb => ?_) <;> first | (replace hb := of_decide_eq_true hb; try simp only [List.length_map] at hb) | (replace hb := of_decide_eq_false hb; try simp only [List.length_map] at hb) | (simp only [List.length_map, bne_iff_ne, ne_eq, beq_iff_eq, bne_eq_false_iff_eq, beq_eq_false_iff_ne, decide_eq_true_eq, decide_eq_false_iff_not, Bool.not_eq_true', Bool.not_eq_false', Int.natCast_inj] at hb) | skip) | ((refine andA ?_); conv => whnf) | fail
      rfl
  · have hm0 := Int.emod_nonneg a hz
    have hm1 := Int.emod_lt_of_pos a (show 0 < b by omega)
    have ht : a.tmod b = a % b := Int.tmod_eq_emod_of_nonneg ha0
    have hgm : Int.gcd b (a.tmod b) = Int.gcd n d := by rw [gcd_tmod]; exact hg
    rw [ht] at hgm
    have w0 : IntKind.i64.wrap (a.tmod b) = a % b := by rw [ht]; exact wrap_of (by omega)
    clear key
    repeat' first | with_reducible refine AW_seq ?_ | with_reducible refine AW_block ?_ | ((first | with_reducible refine AW_skip ?_ | with_reducible refine AW_exit ?_ | with_reducible refine AW_region hTt ?_ | refine AW_draw hTt hMix (id := 3) 5 false [0, 0, 0, 6, 3, 31] (by kernel_rfl) rfl rfl (by kernel_rfl) ?_ | fail); conv => whnf) | (exact absurd hb (by omega)) | ((first | refine And.intro (gd_none hz) ?_ | refine ⟨a % b, ht, ?_⟩ | fail); conv => whnf) | (refine AW_cond rfl (fun hb => ?_) (fun hb => ?_) <;> first | (replace hb := of_decide_eq_true hb; try simp only [List.length_map] at hb) | (replace hb := of_decide_eq_false hb; try simp only [List.length_map] at hb) | (simp only [List.length_map, bne_iff_ne, ne_eq, beq_iff_eq, bne_eq_false_iff_eq, beq_eq_false_iff_ne, decide_eq_true_eq, decide_eq_false_iff_not, Bool.not_eq_true', Bool.not_eq_false', Int.natCast_inj] at hb) | skip) | ((refine andA ?_); conv => whnf) | fail
    exact ⟨(b, a % b), ⟨hb0, hbl, hm0, by show a % b ≤ 4611686018427387904; omega, hgm⟩, by show (a % b).natAbs < b.natAbs; omega, impA⟩
def sysE (s : SysT) : Int := if longE s = true then 3 else if rangeE s = true then 7 else 0
theorem sysE_1 {s : SysT} (h : outB 1 4 (s.rows.length : Int) = true) : sysE s = 3 := by
  have : longE s = true := by unfold longE; rw [outL_one, h]; rfl
  unfold sysE; rw [if_pos this]
theorem sysE_2 {s : SysT} (h : s.right.length ≠ s.rows.length) : sysE s = 3 := by
  have : longE s = true := by unfold longE; rw [decide_eq_true h]; simp
  unfold sysE; rw [if_pos this]
theorem sysE_3 {s : SysT} {i : Nat} (hi : i < s.rows.length) (h : s.rows[i].length ≠ s.rows.length) : sysE s = 3 := by
  have : longE s = true := by
    unfold longE
    rw [List.any_eq_true.2 ⟨_, List.getElem_mem hi, decide_eq_true h⟩]; simp
  unfold sysE; rw [if_pos this]
theorem sysE_4 {s : SysT} (h1 : outB 1 4 (s.rows.length : Int) = false) (h2 : s.right.length = s.rows.length) (h3 : ∀ j (h : j < s.rows.length), j < s.rows.length → s.rows[j].length = s.rows.length) :
    sysE s = if (!outL (-10000) 10000 s.right && !(s.rows.take s.rows.length).any (outL (-100) 100)) = true then 0 else 7 := by
  have : longE s = false := by
    unfold longE
    rw [outL_one, h1, decide_eq_false (by simpa using h2), Bool.or_false, Bool.false_or, List.any_eq_false]
    intro r hr
    obtain ⟨j, hj, rfl⟩ := List.getElem_of_mem hr
    simpa using h3 j hj hj
  unfold sysE
  rw [if_neg (by rw [this]; decide), List.take_length]
  unfold rangeE
  cases outL (-10000) 10000 s.right <;> cases s.rows.any (outL (-100) 100) <;> rfl
end Go.Proofs.YtnpleednkmhhhabDoor
namespace Go.Proofs.YtnpleednkmhhhabDoor
open Go Go.QL
set_option maxHeartbeats 1600000
attribute [local irreducible] ACall FnC
theorem plus_fn (x y : R2) (hx : okR x) (hy : okR y) : FnC Tryd.prog 56 [r2AV x, r2AV y] (r2AV (plusP x y)) := by
  obtain ⟨xn, xd⟩ := x
  obtain ⟨yn, yd⟩ := y
  obtain ⟨hx1, hx2, hx3⟩ := hx
  obtain ⟨hy1, hy2, hy3⟩ := hy
  dsimp only at *
  have hr1 := reduce_fn xd yd (by unfold lim; omega) (by unfold lim; omega) (by omega)
  have hg : 0 < Int.gcd xd yd := Int.gcd_pos_of_ne_zero_right xd (by omega)
  have e1 : redP xd yd = (xd / (Int.gcd xd yd : Int), yd / (Int.gcd xd yd : Int)) := if_neg (by omega)
  unfold plusP
  dsimp only
  obtain ⟨v, hv⟩ : (Int.gcd xd yd : Int) ∣ xd := Int.gcd_dvd_left ..
  obtain ⟨u, hu⟩ : (Int.gcd xd yd : Int) ∣ yd := Int.gcd_dvd_right ..
  have ev : xd / (Int.gcd xd yd : Int) = v := by
    conv => lhs; lhs; rw [hv]
    exact Int.mul_ediv_cancel_left _ (by omega)
  have eu : yd / (Int.gcd xd yd : Int) = u := by
    conv => lhs; lhs; rw [hu]
    exact Int.mul_ediv_cancel_left _ (by omega)
  rw [e1, ev, eu] at hr1
  rw [ev, eu]
  clear e1 ev eu
  generalize (Int.gcd xd yd) = g at *
  have hv0 : 0 < v := by
    rcases Int.lt_or_le 0 v with h | h
    · exact h
    · have := Int.mul_nonneg (show (0 : Int) ≤ (g : Int) by omega) (show 0 ≤ -v by omega)
      rw [Int.mul_neg] at this; omega
  have hu0 : 0 < u := by
    rcases Int.lt_or_le 0 u with h | h
    · exact h
    · have := Int.mul_nonneg (show (0 : Int) ≤ (g : Int) by omega) (show 0 ≤ -u by omega)
      rw [Int.mul_neg] at this; omega
  have hvx : v ≤ xd := by
    have := Int.mul_le_mul_of_nonneg_right (show (1 : Int) ≤ (g : Int) by omega) (show 0 ≤ v by omega)
    omega
  have huy : u ≤ yd := by
    have := Int.mul_le_mul_of_nonneg_right (show (1 : Int) ≤ (g : Int) by omega) (show 0 ≤ u by omega)
    omega
  have hgx : (g : Int) ≤ xd := by
    have := Int.mul_le_mul_of_nonneg_left (show (1 : Int) ≤ v by omega) (show 0 ≤ (g : Int) by omega)
    omega
  have dg : xd.tdiv v = g := by rw [hv]; exact Int.mul_tdiv_cancel _ (by omega)
  have du : yd.tdiv g = u := by rw [hu]; exact Int.mul_tdiv_cancel_left _ (by omega)
  have dv : xd.tdiv g = v := by rw [hv]; exact Int.mul_tdiv_cancel_left _ (by omega)
  have m1 := mul_bd (a := xn) (b := u) (A := 1000000000000) (B := 100000) (by omega) (by omega)
  have m2 := mul_bd (a := yn) (b := v) (A := 1000000000000) (B := 100000) (by omega) (by omega)
  have m3 := mul_bd (a := v) (b := yd) (A := 100000) (B := 100000) (by omega) (by omega)
  have m4 : 0 < v * yd := Int.mul_pos hv0 hy2
  have hr2 := reduce_fn (xn * u + yn * v) (v * yd) (by unfold lim; omega) (by unfold lim; omega) (by omega)
  have w1 : IntKind.i64.wrap (xd.tdiv v) = g := by rw [dg]; exact wrap_of (by omega)
  have w2 : IntKind.i64.wrap (yd.tdiv g) = u := by rw [du]; exact wrap_of (by omega)
  have w3 : IntKind.i64.wrap (xd.tdiv g) = v := by rw [dv]; exact wrap_of (by omega)
  have w4 : IntKind.i64.wrap (xn * u) = xn * u := wrap_of (by omega)
  have w5 : IntKind.i64.wrap (yn * v) = yn * v := wrap_of (by omega)
  have w6 : IntKind.i64.wrap (v * yd) = v * yd := wrap_of (by omega)
  have w7 : IntKind.i64.wrap (xn * u + yn * v) = xn * u + yn * v := wrap_of (by omega)
  have hv1 : v ≠ 0 := by omega
  have hg1 : (g : Int) ≠ 0 := by omega
  generalize redP (xn * u + yn * v) (v * yd) = R at hr2 ⊢
  clear hv hu
  dsimp only [r2AV] at hr1 hr2 ⊢
  refine FnC_of_AW hTt Tryd.func56 rfl (by kernel_rfl) (res := [.cell 4 105]) rfl Tryd.ntmps56 (by simp) fun w0 K0 => ?_
  dsimp only [entry]
  repeat' first | with_reducible refine AW_seq ?_ | with_reducible refine AW_block ?_ | with_reducible refine AW_scope ?_ | ((first | with_reducible refine AW_skip ?_ | with_reducible refine AW_label ?_ | with_reducible refine AW_exit ?_ | with_reducible refine AW_ret ?_ | with_reducible refine AW_region hTt ?_ | refine AW_draw hTt hMix (id := 1) 8 false [0, 1, 0, 4, 0, 16, 60, 124, 255, 511] (by kernel_rfl) rfl rfl (by kernel_rfl) ?_ | refine AW_draw hTt hMix (id := 2) 22 false [0, 1, 0, 4, 0, 28, 63, 0, 128, 0, 512, 0, 3584, 8064, 16383, 0, 32768, 0, 229376, 0, 524288, 2064384, 4194303, 8388607] (by kernel_rfl) rfl rfl (by kernel_rfl) ?_ | refine LateGo.mk ⟨_, rfl, ?_⟩ | refine LateGo.mk ⟨.x .j, rfl, ?_⟩ | ((refine ⟨_, (hr1).call rfl rfl, ?_⟩); (rintro _ _ ⟨rfl, rfl⟩)) | refine ⟨_, fun _ => (hr1).call rfl rfl, ?_⟩ | refine ⟨_, fun _ _ => (hr1).call rfl rfl, ?_⟩ | ((refine ⟨_, (hr2).call rfl rfl, ?_⟩); (rintro _ _ ⟨rfl, rfl⟩)) | refine ⟨_, fun _ => (hr2).call rfl rfl, ?_⟩ | refine ⟨_, fun _ _ => (hr2).call rfl rfl, ?_⟩ | refine And.intro (gd_none hv1) ?_ | refine And.intro (gd_none hg1) ?_ | refine ⟨_, w1, ?_⟩ | refine ⟨_, w2, ?_⟩ | refine ⟨_, w3, ?_⟩ | refine ⟨_, w4, ?_⟩ | refine ⟨_, w5, ?_⟩ | refine ⟨_, w6, ?_⟩ | refine ⟨_, w7, ?_⟩ | fail); conv => whnf) | (refine AW_cond rfl (fun _ => ?_) (fun hb => absurd (show true = false from hb) (by decide))) | (refine AW_cond rfl (fun hb => absurd (show false = true from hb) (by decide)) (fun _ => ?_)) | (refine AW_cond rfl (fun _ => ?_) (fun hb => absurd hb (by decide))) | (refine AW_cond rfl (fun hb => absurd hb (by decide)) (fun _ => ?_)) | (refine AW_cond rfl (fun hb => ?_) (fun hb => ?_) <;> first | (replace hb := of_decide_eq_true hb; try simp only [List.length_map] at hb) | (replace hb := of_decide_eq_false hb; try simp only [List.length_map] at hb) | (simp only [List.length_map, bne_iff_ne, ne_eq, beq_iff_eq, bne_eq_false_iff_eq, beq_eq_false_iff_ne, decide_eq_true_eq, decide_eq_false_iff_not, Bool.not_eq_true', Bool.not_eq_false', Int.natCast_inj] at hb) | skip) | ((first | refine ⟨_, wrap_of (by first | omega | (simp only [List.length_map]; omega)), ?_⟩ | refine ⟨IntKind.wrap _ _, rfl, ?_⟩ | refine andA ?_ | with_reducible refine Exists.intro _ (And.intro (gd_any (And.intro (by omega) (map_get (by omega)))) ?_) | with_reducible refine And.intro (gd_any (And.intro (by omega) (And.intro (by first | omega | (simp only [List.length_map]; omega)) (by first | omega | (simp only [List.length_map]; omega) | (simp only [List.length_set, List.length_map]; omega))))) ?_ | with_reducible refine Exists.intro _ (And.intro (gd_any (map_get' (by omega) (by omega))) (And.intro (And.intro (Nat.le_of_ble_eq_true rfl) rfl) ?_)) | with_reducible refine Exists.intro _ (And.intro (gd_any (And.intro (by omega) (map_get' (by omega) (by omega)))) ?_) | with_reducible refine And.intro (And.intro (by omega) (And.intro (by first | omega | (simp only [List.length_map]; omega)) (by first | omega | (simp only [List.length_map, List.length_set]; omega)))) ?_ | with_reducible refine Exists.intro _ (And.intro (map_get' (by omega) (by omega)) (And.intro (Nat.le_of_ble_eq_true rfl) ?_)) | fail); conv => whnf) | ((refine And.intro (by refine ⟨?_, ?_, ?_⟩ <;> simp [chunk, maxLen] <;> omega) ?_); conv => whnf) | (refine fun hln => ?_; (try rw [List.length_map] at hln); unfold maxLen at hln; conv => whnf) | fail
  rfl
end Go.Proofs.YtnpleednkmhhhabDoor
namespace Go.Proofs.YtnpleednkmhhhabDoor
open Go Go.QL
set_option maxHeartbeats 1600000
attribute [local irreducible] ACall FnC YC
theorem area_join {p : List Int} (hp : pOK p) {a b : Int} (ha : -10 ≤ a ∧ a ≤ 10) (hb : -10 ≤ b ∧ b ≤ 10) : FnC Tryd.prog 55 [.x (.f (.func 56) [] []), r2sAV ((0, 1) :: areaL p a b p.length)] (r2AV ((areaL p a b p.length).foldl plusP (0, 1))) := by
  refine join_fn _ plusP (0, 1) _ (by rw [areaL_len]; have := hp.1; omega) fun i hi => ?_
  rw [areaL_len] at hi
  have h5 := hp.1
  have e1 : (areaL p a b p.length).take i = areaL p a b i := by
    unfold areaL
    rw [← List.map_take, List.take_range]
    congr 2; omega
  have e2 : (areaL p a b p.length)[i]'(by rw [areaL_len]; exact hi) = areaPart p a b i := by simp [areaL]
  rw [e1, e2]
  exact plus_fn _ _ (vb_okR (V := (i : Int) * 20000000) (D := fac i) (area_vb hp ha hb i (by omega)) (by omega) (by omega) (by have := fac_le (show i ≤ 5 by omega); omega)) (vb_okR (V := 20000000) (D := 5) (areaPart_vb hp ha hb i (by omega)) (by omega) (by omega) (by omega))
theorem area_fn (p : List Int) (a b : Int) : FnC Tryd.prog 22 [sl p, iv .i64 a, iv .i64 b] (.t [r2AV (areaP p a b).1, iv .i64 (areaP p a b).2]) := by
  have o1 := check_fn p
  have o2 := judge_fn a b
  have o3 := or_fn [checkE p, judgeE a b]
  unfold areaP
  by_cases he : firstNZ [checkE p, judgeE a b] ≠ 0
  · rw [if_pos he]
    generalize firstNZ [checkE p, judgeE a b] = e at *
    refine FnC_of_AW hTt Tryd.func22 rfl (by kernel_rfl) (res := [.cell 6 63, .tmp 7]) rfl Tryd.ntmps22 (by simp) fun w0 K0 => ?_
    dsimp only [entry]
    repeat' first | with_reducible refine AW_seq ?_ | with_reducible refine AW_block ?_ | with_reducible refine AW_scope ?_ | ((first | with_reducible refine AW_skip ?_ | with_reducible refine AW_label ?_ | with_reducible refine AW_exit ?_ | with_reducible refine AW_ret ?_ | with_reducible refine AW_region hTt ?_ | ((refine ⟨_, (o1).call rfl rfl, ?_⟩); (rintro _ _ ⟨rfl, rfl⟩)) | refine ⟨_, fun _ => (o1).call rfl rfl, ?_⟩ | refine ⟨_, fun _ _ => (o1).call rfl rfl, ?_⟩ | ((refine ⟨_, (o2).call rfl rfl, ?_⟩); (rintro _ _ ⟨rfl, rfl⟩)) | refine ⟨_, fun _ => (o2).call rfl rfl, ?_⟩ | refine ⟨_, fun _ _ => (o2).call rfl rfl, ?_⟩ | ((refine ⟨_, (o3).call rfl rfl, ?_⟩); (rintro _ _ ⟨rfl, rfl⟩)) | refine ⟨_, fun _ => (o3).call rfl rfl, ?_⟩ | refine ⟨_, fun _ _ => (o3).call rfl rfl, ?_⟩ | fail); conv => whnf) | (exfalso; exact he hb) | (refine AW_cond rfl (fun _ => ?_) (fun hb => absurd (show true = false from hb) (by decide))) | (refine AW_cond rfl (fun hb => absurd (show false = true from hb) (by decide)) (fun _ => ?_)) | (refine AW_cond rfl (fun _ => ?_) (fun hb => absurd hb (by decide))) | (refine AW_cond rfl (fun hb => absurd hb (by decide)) (fun _ => ?_)) | (refine AW_cond rfl (fun hb => ?_) (fun hb => ?_) <;> first | (replace hb := of_decide_eq_true hb; try simp only [List.length_map] at hb) | (replace hb := of_decide_eq_false hb; try simp only [List.length_map] at hb) | (simp only [List.length_map, bne_iff_ne, ne_eq, beq_iff_eq, bne_eq_false_iff_eq, beq_eq_false_iff_ne, decide_eq_true_eq, decide_eq_false_iff_not, Bool.not_eq_true', Bool.not_eq_false', Int.natCast_inj] at hb) | skip) | ((first | refine ⟨_, wrap_of (by first | omega | (simp only [List.length_map]; omega)), ?_⟩ | refine ⟨IntKind.wrap _ _, rfl, ?_⟩ | refine andA ?_ | with_reducible refine Exists.intro _ (And.intro (gd_any (And.intro (by omega) (map_get (by omega)))) ?_) | with_reducible refine And.intro (gd_any (And.intro (by omega) (And.intro (by first | omega | (simp only [List.length_map]; omega)) (by first | omega | (simp only [List.length_map]; omega) | (simp only [List.length_set, List.length_map]; omega))))) ?_ | with_reducible refine Exists.intro _ (And.intro (gd_any (map_get' (by omega) (by omega))) (And.intro (And.intro (Nat.le_of_ble_eq_true rfl) rfl) ?_)) | with_reducible refine Exists.intro _ (And.intro (gd_any (And.intro (by omega) (map_get' (by omega) (by omega)))) ?_) | with_reducible refine And.intro (And.intro (by omega) (And.intro (by first | omega | (simp only [List.length_map]; omega)) (by first | omega | (simp only [List.length_map, List.length_set]; omega)))) ?_ | with_reducible refine Exists.intro _ (And.intro (map_get' (by omega) (by omega)) (And.intro (Nat.le_of_ble_eq_true rfl) ?_)) | fail); conv => whnf) | ((refine And.intro (by refine ⟨?_, ?_, ?_⟩ <;> simp [chunk, maxLen] <;> omega) ?_); conv => whnf) | (refine fun hln => ?_; (try rw [List.length_map] at hln); unfold maxLen at hln; conv => whnf) | fail
    rfl
  · rw [if_neg he]
    obtain ⟨h1, h2⟩ := firstNZ_two he
    have he0 : firstNZ [checkE p, judgeE a b] = 0 := by simpa using he
    obtain ⟨hp, hp1⟩ := check_pOK h1
    obtain ⟨ha, hb, hab⟩ := judge_ok h2
    rw [he0] at o3
    have o4 := whole_fn 0
    have hj := area_join hp ha hb
    have hnum := fun j h => area_num hp ha hb j h
    have hbnd : ∀ j, j ≤ 6 → (-1000000 ≤ b ^ j ∧ b ^ j ≤ 1000000) ∧ (-1000000 ≤ a ^ j ∧ a ^ j ≤ 1000000) := fun j h => by
      have q1 := pow_bd ha j
      have q2 := pow_bd hb j
      have q3 := ten_le h
      omega
    have hp5 := hp.1
    have hal := areaL_len p a b
    clear he he0 h1 h2 hp
    generalize (areaL p a b p.length).foldl plusP (0, 1) = R at hj
    refine FnC_of_AW hTt Tryd.func22 rfl (by kernel_rfl) (res := [.cell 6 63, .tmp 7]) rfl Tryd.ntmps22 (by simp) fun w0 K0 => ?_
    dsimp only [entry]
    repeat' first | with_reducible refine AW_seq ?_ | with_reducible refine AW_block ?_ | with_reducible refine AW_scope ?_ | ((first | with_reducible refine AW_skip ?_ | with_reducible refine AW_label ?_ | with_reducible refine AW_exit ?_ | with_reducible refine AW_ret ?_ | with_reducible refine AW_region hTt ?_ | ((refine ⟨_, (o1).call rfl rfl, ?_⟩); (rintro _ _ ⟨rfl, rfl⟩)) | refine ⟨_, fun _ => (o1).call rfl rfl, ?_⟩ | refine ⟨_, fun _ _ => (o1).call rfl rfl, ?_⟩ | ((refine ⟨_, (o2).call rfl rfl, ?_⟩); (rintro _ _ ⟨rfl, rfl⟩)) | refine ⟨_, fun _ => (o2).call rfl rfl, ?_⟩ | refine ⟨_, fun _ _ => (o2).call rfl rfl, ?_⟩ | ((refine ⟨_, (o3).call rfl rfl, ?_⟩); (rintro _ _ ⟨rfl, rfl⟩)) | refine ⟨_, fun _ => (o3).call rfl rfl, ?_⟩ | refine ⟨_, fun _ _ => (o3).call rfl rfl, ?_⟩ | ((refine ⟨_, (o4).call rfl rfl, ?_⟩); (rintro _ _ ⟨rfl, rfl⟩)) | refine ⟨_, fun _ => (o4).call rfl rfl, ?_⟩ | refine ⟨_, fun _ _ => (o4).call rfl rfl, ?_⟩ | fail); conv => whnf) | (refine AW_cond rfl (fun _ => ?_) (fun hb => absurd (show true = false from hb) (by decide))) | (refine AW_cond rfl (fun hb => absurd (show false = true from hb) (by decide)) (fun _ => ?_)) | (refine AW_cond rfl (fun _ => ?_) (fun hb => absurd hb (by decide))) | (refine AW_cond rfl (fun hb => absurd hb (by decide)) (fun _ => ?_)) | (refine AW_cond rfl (fun hb => ?_) (fun hb => ?_) <;> first | (replace hb := of_decide_eq_true hb; try simp only [List.length_map] at hb) | (replace hb := of_decide_eq_false hb; try simp only [List.length_map] at hb) | (simp only [List.length_map, bne_iff_ne, ne_eq, beq_iff_eq, bne_eq_false_iff_eq, beq_eq_false_iff_ne, decide_eq_true_eq, decide_eq_false_iff_not, Bool.not_eq_true', Bool.not_eq_false', Int.natCast_inj] at hb) | skip) | ((first | refine ⟨_, wrap_of (by first | omega | (simp only [List.length_map]; omega)), ?_⟩ | refine ⟨IntKind.wrap _ _, rfl, ?_⟩ | refine andA ?_ | with_reducible refine Exists.intro _ (And.intro (gd_any (And.intro (by omega) (map_get (by omega)))) ?_) | with_reducible refine And.intro (gd_any (And.intro (by omega) (And.intro (by first | omega | (simp only [List.length_map]; omega)) (by first | omega | (simp only [List.length_map]; omega) | (simp only [List.length_set, List.length_map]; omega))))) ?_ | with_reducible refine Exists.intro _ (And.intro (gd_any (map_get' (by omega) (by omega))) (And.intro (And.intro (Nat.le_of_ble_eq_true rfl) rfl) ?_)) | with_reducible refine Exists.intro _ (And.intro (gd_any (And.intro (by omega) (map_get' (by omega) (by omega)))) ?_) | with_reducible refine And.intro (And.intro (by omega) (And.intro (by first | omega | (simp only [List.length_map]; omega)) (by first | omega | (simp only [List.length_map, List.length_set]; omega)))) ?_ | with_reducible refine Exists.intro _ (And.intro (map_get' (by omega) (by omega)) (And.intro (Nat.le_of_ble_eq_true rfl) ?_)) | fail); conv => whnf) | ((refine And.intro (by refine ⟨?_, ?_, ?_⟩ <;> simp [chunk, maxLen] <;> omega) ?_); conv => whnf) | (refine fun hln => ?_; (try rw [List.length_map] at hln); unfold maxLen at hln; conv => whnf) | fail
    clear o1 o2 o3 o4
    refine AW_loop (fun i : Nat => [(31, iv .i64 i), (30, iv .i64 p.length), (29, sl p), (9, .x (.o 26 i (i + 1))), (10, iv .i64 (b ^ (i + 1))), (11, iv .i64 (a ^ (i + 1))), (1, iv .i64 a), (2, iv .i64 b), (6, .x (.b 6 0))])
      (fun i => [(26, .chain 105 2 i (((0, 1) :: areaL p a b i).map r2PV)), (6, .box [.d (.v (.int .i64 0)), .d (.v (.int .i64 0))])])
      (fun i => i ≤ p.length) (fun i => p.length - i) 0 (Nat.zero_le _) (Imp.forget (by repeat' (first | exact trivial | refine And.intro ?_ ?_ | exact ivE (Int.pow_succ _ 0 |>.symm ▸ by simp) | rfl | exact ivE (by first | omega | (simp only [List.length_map, List.length_append, List.length_singleton] <;> omega)) | exact oE (by first | omega | (simp only [List.length_map, List.length_append, List.length_singleton] <;> omega)))) (by repeat' (first | exact trivial | refine And.intro ?_ ?_ | exact ivE (Int.pow_succ _ 0 |>.symm ▸ by simp) | rfl | exact ivE (by first | omega | (simp only [List.length_map, List.length_append, List.length_singleton] <;> omega)) | exact oE (by first | omega | (simp only [List.length_map, List.length_append, List.length_singleton] <;> omega)))) (by kernel_rfl) (by kernel_rfl) (by kernel_rfl)) ?_
    intro i hi
    rcases Nat.lt_or_ge i p.length with hil | hil
    · obtain ⟨q1, q2⟩ := hnum i (by omega)
      obtain ⟨q3, q4⟩ := hbnd (i + 1) (by omega)
      obtain ⟨q5, q6⟩ := hbnd (i + 1 + 1) (by omega)
      have hget : p.getD i 0 = p[i] := by rw [List.getD_eq_getElem?_getD, List.getElem?_eq_getElem hil]; rfl
      have hs := areaL_succ p a b i
      have hlen := hal i
      unfold areaPart at hs
      rw [hget] at q2 hs
      have hr := reduce_fn (p[i] * (b ^ (i + 1) - a ^ (i + 1))) ((i : Int) + 1) (by unfold lim; omega) (by unfold lim; omega) (by omega)
      have e5 : b ^ (i + 1) * b = b ^ (i + 1 + 1) := (Int.pow_succ ..).symm
      have e6 : a ^ (i + 1) * a = a ^ (i + 1 + 1) := (Int.pow_succ ..).symm
      have w1 : IntKind.i64.wrap (b ^ (i + 1) - a ^ (i + 1)) = b ^ (i + 1) - a ^ (i + 1) := wrap_of (by omega)
      have w2 : IntKind.i64.wrap (p[i] * (b ^ (i + 1) - a ^ (i + 1))) = p[i] * (b ^ (i + 1) - a ^ (i + 1)) := wrap_of (by omega)
      have w3 : IntKind.i64.wrap (b ^ (i + 1) * b) = b ^ (i + 1 + 1) := by rw [e5]; exact wrap_of (by omega)
      have w4 : IntKind.i64.wrap (a ^ (i + 1) * a) = a ^ (i + 1 + 1) := by rw [e6]; exact wrap_of (by omega)
      generalize redP (p[i] * (b ^ (i + 1) - a ^ (i + 1))) ((i : Int) + 1) = x at hr hs
      have hch : (((0, 1) :: areaL p a b i).map r2PV).take (i + 1) ++ [r2PV x] = ((0, 1) :: areaL p a b (i + 1)).map r2PV := by
        rw [hs, List.take_of_length_le (by rw [List.length_map, List.length_cons, hlen]; exact Nat.le_refl _), ← List.cons_append, List.map_append]; rfl
      have hcl : (((0, 1) :: areaL p a b i).map r2PV).length = i + 1 := by rw [List.length_map, List.length_cons, hlen]
      clear hj hnum hbnd hal hs e5 e6
      repeat' first | with_reducible refine AW_seq ?_ | with_reducible refine AW_block ?_ | with_reducible refine AW_scope ?_ | ((first | with_reducible refine AW_skip ?_ | with_reducible refine AW_label ?_ | with_reducible refine AW_exit ?_ | with_reducible refine AW_ret ?_ | with_reducible refine AW_region hTt ?_ | fail); conv => whnf) | (exact absurd hb_1 (by omega)) | (exact absurd hb (by omega)) | ((first | ((refine ⟨_, (hr).call rfl rfl, ?_⟩); (rintro _ _ ⟨rfl, rfl⟩)) | refine ⟨_, fun _ => (hr).call rfl rfl, ?_⟩ | refine ⟨_, fun _ _ => (hr).call rfl rfl, ?_⟩ | refine ⟨_, w1, ?_⟩ | refine ⟨_, w2, ?_⟩ | refine ⟨_, w3, ?_⟩ | refine ⟨_, w4, ?_⟩ | fail); conv => whnf) | ((refine And.intro (by rw [hcl]; refine ⟨?_, ?_, ?_⟩ <;> simp [chunk, maxLen] <;> omega) ?_); conv => whnf) | (refine AW_cond rfl (fun _ => ?_) (fun hb => absurd (show true = false from hb) (by decide))) | (refine AW_cond rfl (fun hb => absurd (show false = true from hb) (by decide)) (fun _ => ?_)) | (refine AW_cond rfl (fun _ => ?_) (fun hb => absurd hb (by decide))) | (refine AW_cond rfl (fun hb => absurd hb (by decide)) (fun _ => ?_)) | (refine AW_cond rfl (fun hb => ?_) (fun hb => ?_) <;> first | (replace hb := of_decide_eq_true hb; try simp only [List.length_map] at hb) | (replace hb := of_decide_eq_false hb; try simp only [List.length_map] at hb) | (simp only [List.length_map, bne_iff_ne, ne_eq, beq_iff_eq, bne_eq_false_iff_eq, beq_eq_false_iff_ne, decide_eq_true_eq, decide_eq_false_iff_not, Bool.not_eq_true', Bool.not_eq_false', Int.natCast_inj] at hb) | skip) | ((first | refine ⟨_, wrap_of (by first | omega | (simp only [List.length_map]; omega)), ?_⟩ | refine ⟨IntKind.wrap _ _, rfl, ?_⟩ | refine andA ?_ | with_reducible refine Exists.intro _ (And.intro (gd_any (And.intro (by omega) (map_get (by omega)))) ?_) | with_reducible refine And.intro (gd_any (And.intro (by omega) (And.intro (by first | omega | (simp only [List.length_map]; omega)) (by first | omega | (simp only [List.length_map]; omega) | (simp only [List.length_set, List.length_map]; omega))))) ?_ | with_reducible refine Exists.intro _ (And.intro (gd_any (map_get' (by omega) (by omega))) (And.intro (And.intro (Nat.le_of_ble_eq_true rfl) rfl) ?_)) | with_reducible refine Exists.intro _ (And.intro (gd_any (And.intro (by omega) (map_get' (by omega) (by omega)))) ?_) | with_reducible refine And.intro (And.intro (by omega) (And.intro (by first | omega | (simp only [List.length_map]; omega)) (by first | omega | (simp only [List.length_map, List.length_set]; omega)))) ?_ | with_reducible refine Exists.intro _ (And.intro (map_get' (by omega) (by omega)) (And.intro (Nat.le_of_ble_eq_true rfl) ?_)) | fail); conv => whnf) | ((refine And.intro (by refine ⟨?_, ?_, ?_⟩ <;> simp [chunk, maxLen] <;> omega) ?_); conv => whnf) | (refine fun hln => ?_; (try rw [List.length_map] at hln); unfold maxLen at hln; conv => whnf) | fail
      exact ⟨i + 1, hil, by omega, (Imp.forget (by repeat' (first | exact trivial | refine And.intro ?_ ?_ | exact congrArg (fun xs : List (List PV) => some (Ob.chain 105 2 (i + 1) xs)) hch | rfl | exact ivE (by first | omega | (simp only [List.length_map, List.length_append, List.length_singleton] <;> omega)) | exact oE (by first | omega | (simp only [List.length_map, List.length_append, List.length_singleton] <;> omega)))) (by repeat' (first | exact trivial | refine And.intro ?_ ?_ | exact congrArg (fun xs : List (List PV) => some (Ob.chain 105 2 (i + 1) xs)) hch | rfl | exact ivE (by first | omega | (simp only [List.length_map, List.length_append, List.length_singleton] <;> omega)) | exact oE (by first | omega | (simp only [List.length_map, List.length_append, List.length_singleton] <;> omega)))) (by kernel_rfl) (by kernel_rfl) (by kernel_rfl))⟩
    · obtain rfl : i = p.length := by omega
      have hle : p.length + 1 ≤ (((0, 1) :: areaL p a b p.length).map r2PV).length := by rw [List.length_map, List.length_cons, hal]; exact Nat.le_refl _
      have hfz : r2sAV ((0, 1) :: areaL p a b p.length) = .x (.d (.s 2 ((((0, 1) :: areaL p a b p.length).map r2PV).take (p.length + 1)))) := by
        rw [List.take_of_length_le (by rw [List.length_map, List.length_cons, hal]; exact Nat.le_refl _)]; rfl
      clear hnum hbnd hal
      repeat' first | ((refine AW_imp (Imp.freeze 26 (fr' := [(9, r2sAV ((0, 1) :: areaL p a b p.length)), (6, .x (.b 6 0))]) (σ' := [(6, .box [.d (.v (.int .i64 0)), .d (.v (.int .i64 0))])]) rfl ⟨⟨_, rfl, .inr ⟨_, rfl, hle, hfz⟩⟩, ⟨_, rfl, .inl rfl⟩, trivial⟩ ⟨rfl, trivial⟩ rfl rfl) (AW_region (id := 12) hTt ?_)); conv => whnf) | with_reducible refine AW_seq ?_ | with_reducible refine AW_block ?_ | with_reducible refine AW_scope ?_ | ((first | with_reducible refine AW_skip ?_ | with_reducible refine AW_label ?_ | with_reducible refine AW_exit ?_ | with_reducible refine AW_ret ?_ | with_reducible refine AW_region hTt ?_ | fail); conv => whnf) | (exact absurd hb (by omega)) | ((first | ((refine ⟨_, (hj).call rfl rfl, ?_⟩); (rintro _ _ ⟨rfl, rfl⟩)) | refine ⟨_, fun _ => (hj).call rfl rfl, ?_⟩ | refine ⟨_, fun _ _ => (hj).call rfl rfl, ?_⟩ | fail); conv => whnf) | (refine AW_cond rfl (fun _ => ?_) (fun hb => absurd (show true = false from hb) (by decide))) | (refine AW_cond rfl (fun hb => absurd (show false = true from hb) (by decide)) (fun _ => ?_)) | (refine AW_cond rfl (fun _ => ?_) (fun hb => absurd hb (by decide))) | (refine AW_cond rfl (fun hb => absurd hb (by decide)) (fun _ => ?_)) | (refine AW_cond rfl (fun hb => ?_) (fun hb => ?_) <;> first | (replace hb := of_decide_eq_true hb; try simp only [List.length_map] at hb) | (replace hb := of_decide_eq_false hb; try simp only [List.length_map] at hb) | (simp only [List.length_map, bne_iff_ne, ne_eq, beq_iff_eq, bne_eq_false_iff_eq, beq_eq_false_iff_ne, decide_eq_true_eq, decide_eq_false_iff_not, Bool.not_eq_true', Bool.not_eq_false', Int.natCast_inj] at hb) | skip) | ((first | refine ⟨_, wrap_of (by first | omega | (simp only [List.length_map]; omega)), ?_⟩ | refine ⟨IntKind.wrap _ _, rfl, ?_⟩ | refine andA ?_ | with_reducible refine Exists.intro _ (And.intro (gd_any (And.intro (by omega) (map_get (by omega)))) ?_) | with_reducible refine And.intro (gd_any (And.intro (by omega) (And.intro (by first | omega | (simp only [List.length_map]; omega)) (by first | omega | (simp only [List.length_map]; omega) | (simp only [List.length_set, List.length_map]; omega))))) ?_ | with_reducible refine Exists.intro _ (And.intro (gd_any (map_get' (by omega) (by omega))) (And.intro (And.intro (Nat.le_of_ble_eq_true rfl) rfl) ?_)) | with_reducible refine Exists.intro _ (And.intro (gd_any (And.intro (by omega) (map_get' (by omega) (by omega)))) ?_) | with_reducible refine And.intro (And.intro (by omega) (And.intro (by first | omega | (simp only [List.length_map]; omega)) (by first | omega | (simp only [List.length_map, List.length_set]; omega)))) ?_ | with_reducible refine Exists.intro _ (And.intro (map_get' (by omega) (by omega)) (And.intro (Nat.le_of_ble_eq_true rfl) ?_)) | fail); conv => whnf) | ((refine And.intro (by refine ⟨?_, ?_, ?_⟩ <;> simp [chunk, maxLen] <;> omega) ?_); conv => whnf) | (refine fun hln => ?_; (try rw [List.length_map] at hln); unfold maxLen at hln; conv => whnf) | fail
      rfl
end Go.Proofs.YtnpleednkmhhhabDoor
namespace Go.Proofs.YtnpleednkmhhhabDoor
open Go Go.QL
set_option maxHeartbeats 1600000
attribute [local irreducible] ACall FnC YC
theorem asked_fn (p : List Int) (a b : Int) : FnC Tryd.prog 57 [sl p, iv .i64 a, iv .i64 b] (iv .i64 (if checkE p = 0 then judgeE a b else checkE p)) := by
  have h1 := poly_fn p
  have h2 := interval_fn a b
  generalize checkE p = e at *
  generalize judgeE a b = f at *
  by_cases he : e = 0
  · subst he
    rw [if_pos rfl]
    refine FnC_of_AW hTt Tryd.func57 rfl (by kernel_rfl) (res := [.tmp 6]) rfl Tryd.ntmps57 (by simp) fun w0 K0 => ?_
    dsimp only [entry]
    repeat' first | with_reducible refine AW_seq ?_ | with_reducible refine AW_block ?_ | with_reducible refine AW_scope ?_ | ((first | with_reducible refine AW_skip ?_ | with_reducible refine AW_label ?_ | with_reducible refine AW_exit ?_ | with_reducible refine AW_ret ?_ | with_reducible refine AW_region hTt ?_ | ((refine ⟨_, (h1).call rfl rfl, ?_⟩); (rintro _ _ ⟨rfl, rfl⟩)) | refine ⟨_, fun _ => (h1).call rfl rfl, ?_⟩ | refine ⟨_, fun _ _ => (h1).call rfl rfl, ?_⟩ | ((refine ⟨_, (h2).call rfl rfl, ?_⟩); (rintro _ _ ⟨rfl, rfl⟩)) | refine ⟨_, fun _ => (h2).call rfl rfl, ?_⟩ | refine ⟨_, fun _ _ => (h2).call rfl rfl, ?_⟩ | fail); conv => whnf) | (refine AW_cond rfl (fun _ => ?_) (fun hb => absurd (show true = false from hb) (by decide))) | (refine AW_cond rfl (fun hb => absurd (show false = true from hb) (by decide)) (fun _ => ?_)) | (refine AW_cond rfl (fun _ => ?_) (fun hb => absurd hb (by decide))) | (refine AW_cond rfl (fun hb => absurd hb (by decide)) (fun _ => ?_)) | (refine AW_cond rfl (fun hb => ?_) (fun hb => ?_) <;> first | (replace hb := of_decide_eq_true hb; try simp only [List.length_map] at hb) | (replace hb := of_decide_eq_false hb; try simp only [List.length_map] at hb) | (simp only [List.length_map, bne_iff_ne, ne_eq, beq_iff_eq, bne_eq_false_iff_eq, beq_eq_false_iff_ne, decide_eq_true_eq, decide_eq_false_iff_not, Bool.not_eq_true', Bool.not_eq_false', Int.natCast_inj] at hb) | skip) | ((first | refine ⟨_, wrap_of (by first | omega | (simp only [List.length_map]; omega)), ?_⟩ | refine ⟨IntKind.wrap _ _, rfl, ?_⟩ | refine andA ?_ | with_reducible refine Exists.intro _ (And.intro (gd_any (And.intro (by omega) (map_get (by omega)))) ?_) | with_reducible refine And.intro (gd_any (And.intro (by omega) (And.intro (by first | omega | (simp only [List.length_map]; omega)) (by first | omega | (simp only [List.length_map]; omega) | (simp only [List.length_set, List.length_map]; omega))))) ?_ | with_reducible refine Exists.intro _ (And.intro (gd_any (map_get' (by omega) (by omega))) (And.intro (And.intro (Nat.le_of_ble_eq_true rfl) rfl) ?_)) | with_reducible refine Exists.intro _ (And.intro (gd_any (And.intro (by omega) (map_get' (by omega) (by omega)))) ?_) | with_reducible refine And.intro (And.intro (by omega) (And.intro (by first | omega | (simp only [List.length_map]; omega)) (by first | omega | (simp only [List.length_map, List.length_set]; omega)))) ?_ | with_reducible refine Exists.intro _ (And.intro (map_get' (by omega) (by omega)) (And.intro (Nat.le_of_ble_eq_true rfl) ?_)) | fail); conv => whnf) | ((refine And.intro (by refine ⟨?_, ?_, ?_⟩ <;> simp [chunk, maxLen] <;> omega) ?_); conv => whnf) | (refine fun hln => ?_; (try rw [List.length_map] at hln); unfold maxLen at hln; conv => whnf) | fail
    rfl
  · rw [if_neg he]
    refine FnC_of_AW hTt Tryd.func57 rfl (by kernel_rfl) (res := [.tmp 6]) rfl Tryd.ntmps57 (by simp) fun w0 K0 => ?_
    dsimp only [entry]
    repeat' first | with_reducible refine AW_seq ?_ | with_reducible refine AW_block ?_ | with_reducible refine AW_scope ?_ | ((first | with_reducible refine AW_skip ?_ | with_reducible refine AW_label ?_ | with_reducible refine AW_exit ?_ | with_reducible refine AW_ret ?_ | with_reducible refine AW_region hTt ?_ | fail); conv => whnf) | (exact absurd hb he) | ((first | ((refine ⟨_, (h1).call rfl rfl, ?_⟩); (rintro _ _ ⟨rfl, rfl⟩)) | refine ⟨_, fun _ => (h1).call rfl rfl, ?_⟩ | refine ⟨_, fun _ _ => (h1).call rfl rfl, ?_⟩ | ((refine ⟨_, (h2).call rfl rfl, ?_⟩); (rintro _ _ ⟨rfl, rfl⟩)) | refine ⟨_, fun _ => (h2).call rfl rfl, ?_⟩ | refine ⟨_, fun _ _ => (h2).call rfl rfl, ?_⟩ | fail); conv => whnf) | (refine AW_cond rfl (fun _ => ?_) (fun hb => absurd (show true = false from hb) (by decide))) | (refine AW_cond rfl (fun hb => absurd (show false = true from hb) (by decide)) (fun _ => ?_)) | (refine AW_cond rfl (fun _ => ?_) (fun hb => absurd hb (by decide))) | (refine AW_cond rfl (fun hb => absurd hb (by decide)) (fun _ => ?_)) | (refine AW_cond rfl (fun hb => ?_) (fun hb => ?_) <;> first | (replace hb := of_decide_eq_true hb; try simp only [List.length_map] at hb) | (replace hb := of_decide_eq_false hb; try simp only [List.length_map] at hb) | (simp only [List.length_map, bne_iff_ne, ne_eq, beq_iff_eq, bne_eq_false_iff_eq, beq_eq_false_iff_ne, decide_eq_true_eq, decide_eq_false_iff_not, Bool.not_eq_true', Bool.not_eq_false', Int.natCast_inj] at hb) | skip) | ((first | refine ⟨_, wrap_of (by first | omega | (simp only [List.length_map]; omega)), ?_⟩ | refine ⟨IntKind.wrap _ _, rfl, ?_⟩ | refine andA ?_ | with_reducible refine Exists.intro _ (And.intro (gd_any (And.intro (by omega) (map_get (by omega)))) ?_) | with_reducible refine And.intro (gd_any (And.intro (by omega) (And.intro (by first | omega | (simp only [List.length_map]; omega)) (by first | omega | (simp only [List.length_map]; omega) | (simp only [List.length_set, List.length_map]; omega))))) ?_ | with_reducible refine Exists.intro _ (And.intro (gd_any (map_get' (by omega) (by omega))) (And.intro (And.intro (Nat.le_of_ble_eq_true rfl) rfl) ?_)) | with_reducible refine Exists.intro _ (And.intro (gd_any (And.intro (by omega) (map_get' (by omega) (by omega)))) ?_) | with_reducible refine And.intro (And.intro (by omega) (And.intro (by first | omega | (simp only [List.length_map]; omega)) (by first | omega | (simp only [List.length_map, List.length_set]; omega)))) ?_ | with_reducible refine Exists.intro _ (And.intro (map_get' (by omega) (by omega)) (And.intro (Nat.le_of_ble_eq_true rfl) ?_)) | fail); conv => whnf) | ((refine And.intro (by refine ⟨?_, ?_, ?_⟩ <;> simp [chunk, maxLen] <;> omega) ?_); conv => whnf) | (refine fun hln => ?_; (try rw [List.length_map] at hln); unfold maxLen at hln; conv => whnf) | fail
    rfl
end Go.Proofs.YtnpleednkmhhhabDoor
namespace Go.Proofs.YtnpleednkmhhhabDoor
open Go Go.QL
set_option maxHeartbeats 1600000
attribute [local irreducible] ACall FnC YC
def areaS (p : List Int) (a b : Int) : Nat → Int
  | 0 => 0
  | k + 1 => areaS p a b k + p.getD k 0 * (b ^ (k + 1) - a ^ (k + 1)) * (60 : Int).tdiv ((k : Int) + 1)
def rareaP (p : List Int) (a b : Int) : R2 × Int :=
  if (if checkE p = 0 then judgeE a b else checkE p) ≠ 0 then ((0, 0), (if checkE p = 0 then judgeE a b else checkE p)) else (redP (areaS p a b p.length) 60, 0)
theorem six_q {k : Nat} (h : k < 5) : 0 ≤ (60 : Int).tdiv ((k : Int) + 1) ∧ (60 : Int).tdiv ((k : Int) + 1) ≤ 60 := by
  match k, h with
  | 0, _ | 1, _ | 2, _ | 3, _ | 4, _ => decide
  | k + 5, h => omega
theorem areaS_part {p : List Int} (hp : pOK p) {a b : Int} (ha : -10 ≤ a ∧ a ≤ 10) (hb : -10 ≤ b ∧ b ≤ 10) {k : Nat} (hk : k < 5) :
    (-100000 ≤ b ^ (k + 1) ∧ b ^ (k + 1) ≤ 100000) ∧ (-100000 ≤ a ^ (k + 1) ∧ a ^ (k + 1) ≤ 100000) ∧ (-20000000 ≤ p.getD k 0 * (b ^ (k + 1) - a ^ (k + 1)) ∧ p.getD k 0 * (b ^ (k + 1) - a ^ (k + 1)) ≤ 20000000) ∧
    (-1200000000 ≤ p.getD k 0 * (b ^ (k + 1) - a ^ (k + 1)) * (60 : Int).tdiv ((k : Int) + 1) ∧ p.getD k 0 * (b ^ (k + 1) - a ^ (k + 1)) * (60 : Int).tdiv ((k : Int) + 1) ≤ 1200000000) := by
  have q1 := pow_bd ha (k + 1)
  have q2 := pow_bd hb (k + 1)
  have q3 := ten_le5 (n := k + 1) (by omega)
  have q4 := six_q hk
  have m1 := mul_bd (A := 100) (B := 200000) (hp.get k) (b := b ^ (k + 1) - a ^ (k + 1)) (by omega)
  have m2 := mul_bd (A := 20000000) (B := 60) (a := p.getD k 0 * (b ^ (k + 1) - a ^ (k + 1))) (b := (60 : Int).tdiv ((k : Int) + 1)) (by omega) (by omega)
  omega
theorem areaS_bd {p : List Int} (hp : pOK p) {a b : Int} (ha : -10 ≤ a ∧ a ≤ 10) (hb : -10 ≤ b ∧ b ≤ 10) : ∀ k : Nat, k ≤ 5 → -((k : Int) * 1200000000) ≤ areaS p a b k ∧ areaS p a b k ≤ (k : Int) * 1200000000
  | 0, _ => by simp [areaS]
  | k + 1, h => by
    have ih := areaS_bd hp ha hb k (by omega)
    have := (areaS_part hp ha hb (k := k) (by omega)).2.2.2
    simp only [areaS]
    omega
theorem rarea_fn (p : List Int) (a b : Int) : FnC Tryd.prog 23 [sl p, iv .i64 a, iv .i64 b] (.t [r2AV (rareaP p a b).1, iv .i64 (rareaP p a b).2]) := by
  have o1 := asked_fn p a b
  have hc : (if checkE p = 0 then judgeE a b else checkE p) = 0 → pOK p ∧ judgeE a b = 0 := fun h => by
    by_cases e : checkE p = 0
    · rw [if_pos e] at h; exact ⟨(check_pOK e).1, h⟩
    · rw [if_neg e] at h; exact absurd h e
  unfold rareaP
  generalize (if checkE p = 0 then judgeE a b else checkE p) = e at *
  by_cases he : e = 0
  · subst he
    rw [if_neg (by decide)]
    obtain ⟨hp, hj⟩ := hc rfl
    obtain ⟨ha, hb', hab⟩ := judge_ok hj
    have h5 := hp.1
    have hll : (p.map (fun n : Int => [PV.v (.int .i64 n)])).length = p.length := List.length_map _
    have hfin := areaS_bd hp ha hb' p.length (by omega)
    have hr := reduced_fn (areaS p a b p.length) 60 (by unfold lim; omega) (by unfold lim; omega) (by decide)
    have hlimp : ∀ (x : Int), -10 ≤ x ∧ x ≤ 10 → ∀ n : Nat, n ≤ 5 → ∀ k, k ≤ n → lim (x ^ k) := fun x hx n hn4 k hk => by
      have := pow_bd hx k
      have := ten_le5 (n := k) (by omega)
      unfold lim; omega
    generalize redP (areaS p a b p.length) 60 = R at *
    refine FnC_of_AW hTt Tryd.func23 rfl (by kernel_rfl) (res := [.cell 6 63, .tmp 7]) rfl Tryd.ntmps23 (by simp) fun w0 K0 => ?_
    dsimp only [entry]
    repeat' first | with_reducible refine AW_seq ?_ | with_reducible refine AW_block ?_ | with_reducible refine AW_scope ?_ | ((first | with_reducible refine AW_skip ?_ | with_reducible refine AW_label ?_ | with_reducible refine AW_exit ?_ | with_reducible refine AW_ret ?_ | with_reducible refine AW_region hTt ?_ | refine AW_draw hTt hMix (id := 8) 19 false [0, 0, 0, 6, 14, 0, 0, 64, 224, 0, 0, 1024, 4064, 8160, 16382, 0, 32768, 98304, 262142, 524287, 1048575] (by kernel_rfl) rfl rfl (by kernel_rfl) ?_ | refine LateGo.mk ⟨_, rfl, ?_⟩ | refine LateGo.mk ⟨.x .j, rfl, ?_⟩ | ((refine ⟨_, (o1).call rfl rfl, ?_⟩); (rintro _ _ ⟨rfl, rfl⟩)) | refine ⟨_, fun _ => (o1).call rfl rfl, ?_⟩ | refine ⟨_, fun _ _ => (o1).call rfl rfl, ?_⟩ | fail); conv => whnf) | (refine AW_cond rfl (fun _ => ?_) (fun hb => absurd (show true = false from hb) (by decide))) | (refine AW_cond rfl (fun hb => absurd (show false = true from hb) (by decide)) (fun _ => ?_)) | (refine AW_cond rfl (fun _ => ?_) (fun hb => absurd hb (by decide))) | (refine AW_cond rfl (fun hb => absurd hb (by decide)) (fun _ => ?_)) | (refine AW_cond rfl (fun hb => ?_) (fun hb => ?_) <;> first | (replace hb := of_decide_eq_true hb; try simp only [List.length_map] at hb) | (replace hb := of_decide_eq_false hb; try simp only [List.length_map] at hb) | (simp only [List.length_map, bne_iff_ne, ne_eq, beq_iff_eq, bne_eq_false_iff_eq, beq_eq_false_iff_ne, decide_eq_true_eq, decide_eq_false_iff_not, Bool.not_eq_true', Bool.not_eq_false', Int.natCast_inj] at hb) | skip) | ((first | refine ⟨_, wrap_of (by first | omega | (simp only [List.length_map]; omega)), ?_⟩ | refine ⟨IntKind.wrap _ _, rfl, ?_⟩ | refine andA ?_ | with_reducible refine Exists.intro _ (And.intro (gd_any (And.intro (by omega) (map_get (by omega)))) ?_) | with_reducible refine And.intro (gd_any (And.intro (by omega) (And.intro (by first | omega | (simp only [List.length_map]; omega)) (by first | omega | (simp only [List.length_map]; omega) | (simp only [List.length_set, List.length_map]; omega))))) ?_ | with_reducible refine Exists.intro _ (And.intro (gd_any (map_get' (by omega) (by omega))) (And.intro (And.intro (Nat.le_of_ble_eq_true rfl) rfl) ?_)) | with_reducible refine Exists.intro _ (And.intro (gd_any (And.intro (by omega) (map_get' (by omega) (by omega)))) ?_) | with_reducible refine And.intro (And.intro (by omega) (And.intro (by first | omega | (simp only [List.length_map]; omega)) (by first | omega | (simp only [List.length_map, List.length_set]; omega)))) ?_ | with_reducible refine Exists.intro _ (And.intro (map_get' (by omega) (by omega)) (And.intro (Nat.le_of_ble_eq_true rfl) ?_)) | fail); conv => whnf) | ((refine And.intro (by refine ⟨?_, ?_, ?_⟩ <;> simp [chunk, maxLen] <;> omega) ?_); conv => whnf) | (refine fun hln => ?_; (try rw [List.length_map] at hln); unfold maxLen at hln; conv => whnf) | fail
    refine AW_loop (fun i : Nat => [(10, iv .i64 i), (9, iv .i64 (areaS p a b i)), (0, sl p), (1, iv .i64 a), (2, iv .i64 b), (6, .x (.b 6 0))])
      (fun _ => [(6, .box [.d (.v (.int .i64 0)), .d (.v (.int .i64 0))])]) (fun i => i ≤ p.length) (fun i => p.length - i) 0 (Nat.zero_le _) impA ?_
    intro i hi
    rcases Nat.lt_or_ge i p.length with hil | hil
    · have q1 := power_fn b (i + 1) (by omega) (hlimp b hb' (i + 1) (by omega))
      have q2 := power_fn a (i + 1) (by omega) (hlimp a ha _ (by omega))
      rw [show ((i + 1 : Nat) : Int) = (i : Int) + 1 by omega] at q1 q2
      obtain ⟨b1, b2, b3, b4⟩ := areaS_part hp ha hb' (k := i) (by omega)
      have b5 := areaS_bd hp ha hb' i (by omega)
      have b6 := six_q (k := i) (by omega)
      have e1 : p[i]? = some (p.getD i 0) := by rw [List.getD_eq_getElem?_getD, List.getElem?_eq_getElem hil]; rfl
      have hnx : areaS p a b (i + 1) = areaS p a b i + p.getD i 0 * (b ^ (i + 1) - a ^ (i + 1)) * (60 : Int).tdiv ((i : Int) + 1) := rfl
      generalize p.getD i 0 = c at *
      generalize b ^ (i + 1) = x at *
      generalize a ^ (i + 1) = y at *
      generalize hq : (60 : Int).tdiv ((i : Int) + 1) = q at *
      have k0 : IntKind.i64.wrap ((60 : Int).tdiv ((i : Int) + 1)) = q := by rw [hq]; exact wrap_of (by omega)
      clear hq
      have k1 : IntKind.i64.wrap (c * (x - y)) = c * (x - y) := wrap_of (by omega)
      have k2 : IntKind.i64.wrap (c * (x - y) * q) = c * (x - y) * q := wrap_of (by omega)
      have k3 : IntKind.i64.wrap (areaS p a b i + c * (x - y) * q) = areaS p a b (i + 1) := by rw [hnx]; exact wrap_of (by omega)
      have k4 : (i : Int) + 1 ≠ 0 := by omega
      generalize hT : areaS p a b (i + 1) = T1 at *
      generalize areaS p a b i = T0 at *
      clear hlimp hp b3 b4 b5 hnx hc hfin hj o1 hr
      repeat' first | with_reducible refine AW_seq ?_ | with_reducible refine AW_block ?_ | with_reducible refine AW_scope ?_ | ((first | with_reducible refine AW_skip ?_ | with_reducible refine AW_label ?_ | with_reducible refine AW_exit ?_ | with_reducible refine AW_ret ?_ | with_reducible refine AW_region hTt ?_ | refine AW_draw hTt hMix (id := 8) 19 false [0, 0, 0, 6, 14, 0, 0, 64, 224, 0, 0, 1024, 4064, 8160, 16382, 0, 32768, 98304, 262142, 524287, 1048575] (by kernel_rfl) rfl rfl (by kernel_rfl) ?_ | refine LateGo.mk ⟨_, rfl, ?_⟩ | refine LateGo.mk ⟨.x .j, rfl, ?_⟩ | fail); conv => whnf) | (exact absurd hb (by omega)) | ((first | with_reducible refine Exists.intro _ (And.intro (gd_any (And.intro (by omega) (map_some e1))) ?_) | ((refine ⟨_, (q1).call rfl rfl, ?_⟩); (rintro _ _ ⟨rfl, rfl⟩)) | refine ⟨_, fun _ => (q1).call rfl rfl, ?_⟩ | refine ⟨_, fun _ _ => (q1).call rfl rfl, ?_⟩ | ((refine ⟨_, (q2).call rfl rfl, ?_⟩); (rintro _ _ ⟨rfl, rfl⟩)) | refine ⟨_, fun _ => (q2).call rfl rfl, ?_⟩ | refine ⟨_, fun _ _ => (q2).call rfl rfl, ?_⟩ | refine And.intro (gd_none k4) ?_ | refine ⟨_, k0, ?_⟩ | refine ⟨_, k1, ?_⟩ | refine ⟨_, k2, ?_⟩ | refine ⟨_, k3, ?_⟩ | fail); conv => whnf) | (refine AW_cond rfl (fun _ => ?_) (fun hb => absurd (show true = false from hb) (by decide))) | (refine AW_cond rfl (fun hb => absurd (show false = true from hb) (by decide)) (fun _ => ?_)) | (refine AW_cond rfl (fun _ => ?_) (fun hb => absurd hb (by decide))) | (refine AW_cond rfl (fun hb => absurd hb (by decide)) (fun _ => ?_)) | (refine AW_cond rfl (fun hb => ?_) (fun hb => ?_) <;> first | (replace hb := of_decide_eq_true hb; try simp only [List.length_map] at hb) | (replace hb := of_decide_eq_false hb; try simp only [List.length_map] at hb) | (simp only [List.length_map, bne_iff_ne, ne_eq, beq_iff_eq, bne_eq_false_iff_eq, beq_eq_false_iff_ne, decide_eq_true_eq, decide_eq_false_iff_not, Bool.not_eq_true', Bool.not_eq_false', Int.natCast_inj] at hb) | skip) | ((first | refine ⟨_, wrap_of (by first | omega | (simp only [List.length_map]; omega)), ?_⟩ | refine ⟨IntKind.wrap _ _, rfl, ?_⟩ | refine andA ?_ | with_reducible refine Exists.intro _ (And.intro (gd_any (And.intro (by omega) (map_get (by omega)))) ?_) | with_reducible refine And.intro (gd_any (And.intro (by omega) (And.intro (by first | omega | (simp only [List.length_map]; omega)) (by first | omega | (simp only [List.length_map]; omega) | (simp only [List.length_set, List.length_map]; omega))))) ?_ | with_reducible refine Exists.intro _ (And.intro (gd_any (map_get' (by omega) (by omega))) (And.intro (And.intro (Nat.le_of_ble_eq_true rfl) rfl) ?_)) | with_reducible refine Exists.intro _ (And.intro (gd_any (And.intro (by omega) (map_get' (by omega) (by omega)))) ?_) | with_reducible refine And.intro (And.intro (by omega) (And.intro (by first | omega | (simp only [List.length_map]; omega)) (by first | omega | (simp only [List.length_map, List.length_set]; omega)))) ?_ | with_reducible refine Exists.intro _ (And.intro (map_get' (by omega) (by omega)) (And.intro (Nat.le_of_ble_eq_true rfl) ?_)) | fail); conv => whnf) | ((refine And.intro (by refine ⟨?_, ?_, ?_⟩ <;> simp [chunk, maxLen] <;> omega) ?_); conv => whnf) | (refine fun hln => ?_; (try rw [List.length_map] at hln); unfold maxLen at hln; conv => whnf) | fail
      subst hT
      exact ⟨i + 1, by omega, by omega, impA⟩
    · obtain rfl : i = p.length := by omega
      repeat' first | with_reducible refine AW_seq ?_ | with_reducible refine AW_block ?_ | with_reducible refine AW_scope ?_ | ((first | with_reducible refine AW_skip ?_ | with_reducible refine AW_label ?_ | with_reducible refine AW_exit ?_ | with_reducible refine AW_ret ?_ | with_reducible refine AW_region hTt ?_ | refine AW_draw hTt hMix (id := 8) 19 false [0, 0, 0, 6, 14, 0, 0, 64, 224, 0, 0, 1024, 4064, 8160, 16382, 0, 32768, 98304, 262142, 524287, 1048575] (by kernel_rfl) rfl rfl (by kernel_rfl) ?_ | refine LateGo.mk ⟨_, rfl, ?_⟩ | refine LateGo.mk ⟨.x .j, rfl, ?_⟩ | fail); conv => whnf) | (exact absurd hb (by omega)) | ((first | ((refine ⟨_, (hr).call rfl rfl, ?_⟩); (rintro _ _ ⟨rfl, rfl⟩)) | refine ⟨_, fun _ => (hr).call rfl rfl, ?_⟩ | refine ⟨_, fun _ _ => (hr).call rfl rfl, ?_⟩ | fail); conv => whnf) | (refine AW_cond rfl (fun _ => ?_) (fun hb => absurd (show true = false from hb) (by decide))) | (refine AW_cond rfl (fun hb => absurd (show false = true from hb) (by decide)) (fun _ => ?_)) | (refine AW_cond rfl (fun _ => ?_) (fun hb => absurd hb (by decide))) | (refine AW_cond rfl (fun hb => absurd hb (by decide)) (fun _ => ?_)) | (refine AW_cond rfl (fun hb => ?_) (fun hb => ?_) <;> first | (replace hb := of_decide_eq_true hb; try simp only [List.length_map] at hb) | (replace hb := of_decide_eq_false hb; try simp only [List.length_map] at hb) | (simp only [List.length_map, bne_iff_ne, ne_eq, beq_iff_eq, bne_eq_false_iff_eq, beq_eq_false_iff_ne, decide_eq_true_eq, decide_eq_false_iff_not, Bool.not_eq_true', Bool.not_eq_false', Int.natCast_inj] at hb) | skip) | ((first | refine ⟨_, wrap_of (by first | omega | (simp only [List.length_map]; omega)), ?_⟩ | refine ⟨IntKind.wrap _ _, rfl, ?_⟩ | refine andA ?_ | with_reducible refine Exists.intro _ (And.intro (gd_any (And.intro (by omega) (map_get (by omega)))) ?_) | with_reducible refine And.intro (gd_any (And.intro (by omega) (And.intro (by first | omega | (simp only [List.length_map]; omega)) (by first | omega | (simp only [List.length_map]; omega) | (simp only [List.length_set, List.length_map]; omega))))) ?_ | with_reducible refine Exists.intro _ (And.intro (gd_any (map_get' (by omega) (by omega))) (And.intro (And.intro (Nat.le_of_ble_eq_true rfl) rfl) ?_)) | with_reducible refine Exists.intro _ (And.intro (gd_any (And.intro (by omega) (map_get' (by omega) (by omega)))) ?_) | with_reducible refine And.intro (And.intro (by omega) (And.intro (by first | omega | (simp only [List.length_map]; omega)) (by first | omega | (simp only [List.length_map, List.length_set]; omega)))) ?_ | with_reducible refine Exists.intro _ (And.intro (map_get' (by omega) (by omega)) (And.intro (Nat.le_of_ble_eq_true rfl) ?_)) | fail); conv => whnf) | ((refine And.intro (by refine ⟨?_, ?_, ?_⟩ <;> simp [chunk, maxLen] <;> omega) ?_); conv => whnf) | (refine fun hln => ?_; (try rw [List.length_map] at hln); unfold maxLen at hln; conv => whnf) | fail
      rfl
  · rw [if_pos he]
    refine FnC_of_AW hTt Tryd.func23 rfl (by kernel_rfl) (res := [.cell 6 63, .tmp 7]) rfl Tryd.ntmps23 (by simp) fun w0 K0 => ?_
    dsimp only [entry]
    repeat' first | with_reducible refine AW_seq ?_ | with_reducible refine AW_block ?_ | with_reducible refine AW_scope ?_ | ((first | with_reducible refine AW_skip ?_ | with_reducible refine AW_label ?_ | with_reducible refine AW_exit ?_ | with_reducible refine AW_ret ?_ | with_reducible refine AW_region hTt ?_ | refine AW_draw hTt hMix (id := 8) 19 false [0, 0, 0, 6, 14, 0, 0, 64, 224, 0, 0, 1024, 4064, 8160, 16382, 0, 32768, 98304, 262142, 524287, 1048575] (by kernel_rfl) rfl rfl (by kernel_rfl) ?_ | refine LateGo.mk ⟨_, rfl, ?_⟩ | refine LateGo.mk ⟨.x .j, rfl, ?_⟩ | ((refine ⟨_, (o1).call rfl rfl, ?_⟩); (rintro _ _ ⟨rfl, rfl⟩)) | refine ⟨_, fun _ => (o1).call rfl rfl, ?_⟩ | refine ⟨_, fun _ _ => (o1).call rfl rfl, ?_⟩ | fail); conv => whnf) | (exact absurd hb he) | (refine AW_cond rfl (fun _ => ?_) (fun hb => absurd (show true = false from hb) (by decide))) | (refine AW_cond rfl (fun hb => absurd (show false = true from hb) (by decide)) (fun _ => ?_)) | (refine AW_cond rfl (fun _ => ?_) (fun hb => absurd hb (by decide))) | (refine AW_cond rfl (fun hb => absurd hb (by decide)) (fun _ => ?_)) | (refine AW_cond rfl (fun hb => ?_) (fun hb => ?_) <;> first | (replace hb := of_decide_eq_true hb; try simp only [List.length_map] at hb) | (replace hb := of_decide_eq_false hb; try simp only [List.length_map] at hb) | (simp only [List.length_map, bne_iff_ne, ne_eq, beq_iff_eq, bne_eq_false_iff_eq, beq_eq_false_iff_ne, decide_eq_true_eq, decide_eq_false_iff_not, Bool.not_eq_true', Bool.not_eq_false', Int.natCast_inj] at hb) | skip) | ((first | refine ⟨_, wrap_of (by first | omega | (simp only [List.length_map]; omega)), ?_⟩ | refine ⟨IntKind.wrap _ _, rfl, ?_⟩ | refine andA ?_ | with_reducible refine Exists.intro _ (And.intro (gd_any (And.intro (by omega) (map_get (by omega)))) ?_) | with_reducible refine And.intro (gd_any (And.intro (by omega) (And.intro (by first | omega | (simp only [List.length_map]; omega)) (by first | omega | (simp only [List.length_map]; omega) | (simp only [List.length_set, List.length_map]; omega))))) ?_ | with_reducible refine Exists.intro _ (And.intro (gd_any (map_get' (by omega) (by omega))) (And.intro (And.intro (Nat.le_of_ble_eq_true rfl) rfl) ?_)) | with_reducible refine Exists.intro _ (And.intro (gd_any (And.intro (by omega) (map_get' (by omega) (by omega)))) ?_) | with_reducible refine And.intro (And.intro (by omega) (And.intro (by first | omega | (simp only [List.length_map]; omega)) (by first | omega | (simp only [List.length_map, List.length_set]; omega)))) ?_ | with_reducible refine Exists.intro _ (And.intro (map_get' (by omega) (by omega)) (And.intro (Nat.le_of_ble_eq_true rfl) ?_)) | fail); conv => whnf) | ((refine And.intro (by refine ⟨?_, ?_, ?_⟩ <;> simp [chunk, maxLen] <;> omega) ?_); conv => whnf) | (refine fun hln => ?_; (try rw [List.length_map] at hln); unfold maxLen at hln; conv => whnf) | fail
    rfl
end Go.Proofs.YtnpleednkmhhhabDoor
namespace Go.Proofs.YtnpleednkmhhhabDoor
open Go Go.QL
set_option maxHeartbeats 1600000
def redQ (x : R2) : Prop := 0 < x.2 ∧ Int.gcd x.1 x.2 = 1
theorem redP_red {n d : Int} (h : d ≠ 0) : redQ (redP n d) := by
  refine ⟨(redP_pos h).1, ?_⟩
  have hg : 0 < Int.gcd n d := Int.gcd_pos_of_ne_zero_right n h
  have h1 : Int.gcd (n / (Int.gcd n d : Int)) (d / (Int.gcd n d : Int)) = 1 := Int.gcd_ediv_gcd_ediv_gcd hg
  unfold redP
  split
  · show Int.gcd (-_) (-_) = 1
    rw [Int.gcd_neg, Int.neg_gcd]; exact h1
  · exact h1
theorem red_dvd {a b c : Int} (hc : Int.gcd a b = 1) (h : b ∣ a * c) : b ∣ c := by
  have h1 : b.natAbs ∣ a.natAbs * c.natAbs := by rw [← Int.natAbs_mul]; exact Int.natAbs_dvd_natAbs.2 h
  have h2 : Nat.Coprime b.natAbs a.natAbs := by
    have : Nat.gcd a.natAbs b.natAbs = 1 := hc
    rw [Nat.gcd_comm] at this
    exact this
  exact Int.natAbs_dvd_natAbs.1 (h2.dvd_of_dvd_mul_left h1)
theorem red_eq {x y : R2} (hx : redQ x) (hy : redQ y) (h : x.1 * y.2 = y.1 * x.2) : x = y := by
  have h1 : x.2 ∣ y.2 := red_dvd hx.2 ⟨y.1, by rw [h]; exact Int.mul_comm ..⟩
  have h2 : y.2 ∣ x.2 := red_dvd hy.2 ⟨x.1, by rw [← h]; exact Int.mul_comm ..⟩
  have h3 : x.2 = y.2 := by
    have := Int.le_of_dvd hy.1 h1
    have := Int.le_of_dvd hx.1 h2
    omega
  obtain ⟨a, b⟩ := x
  obtain ⟨c, d⟩ := y
  dsimp only at *
  subst h3
  have : a = c := Int.eq_of_mul_eq_mul_right (by have := hx.1; dsimp only at this; omega) h
  rw [this]
def val60 (N : Int) (x : R2) : Prop := x.1 * 60 = N * x.2
theorem plus_red {x y : R2} (hx : 0 < x.2) (hy : 0 < y.2) : redQ (plusP x y) ∧ ∀ N M, val60 N x → val60 M y → val60 (N + M) (plusP x y) := by
  have hg : 0 < Int.gcd x.2 y.2 := Int.gcd_pos_of_ne_zero_right _ (by omega)
  obtain ⟨u, hu⟩ : (Int.gcd x.2 y.2 : Int) ∣ x.2 := Int.gcd_dvd_left ..
  obtain ⟨v, hv⟩ : (Int.gcd x.2 y.2 : Int) ∣ y.2 := Int.gcd_dvd_right ..
  unfold plusP val60
  obtain ⟨a, b⟩ := x
  obtain ⟨c, d⟩ := y
  dsimp only at *
  generalize hgg : (Int.gcd b d : Int) = g at *
  have hg0 : 0 < g := by omega
  have e1 : b / g = u := by rw [hu]; exact Int.mul_ediv_cancel_left _ (by omega)
  have e2 : d / g = v := by rw [hv]; exact Int.mul_ediv_cancel_left _ (by omega)
  rw [e1, e2]
  have hu0 : u ≠ 0 := fun e => by rw [e] at hu; omega
  have hv0 : v ≠ 0 := fun e => by rw [e] at hv; omega
  have hne : u * d ≠ 0 := Int.mul_ne_zero hu0 (by omega)
  refine ⟨redP_red hne, fun N M h1 h2 => ?_⟩
  have hval := redP_val (n := a * v + c * u) (d := u * d) hne
  generalize redP (a * v + c * u) (u * d) = R at *
  refine Int.eq_of_mul_eq_mul_right hne ?_
  subst hv
  subst hu
  clear hgg hg hx hy e1 e2 hne
  grind
def areaN (p : List Int) (a b : Int) : Nat → Int
  | 0 => 0
  | k + 1 => areaN p a b k + p.getD k 0 * (b ^ (k + 1) - a ^ (k + 1)) * (60 / ((k : Int) + 1))
theorem areaN_add (p : List Int) (a b c : Int) : ∀ k, areaN p a b k + areaN p b c k = areaN p a c k
  | 0 => rfl
  | k + 1 => by
    have ih := areaN_add p a b c k
    simp only [areaN]
    rw [← ih]
    generalize areaN p a b k = x
    generalize areaN p b c k = y
    generalize a ^ (k + 1) = A
    generalize b ^ (k + 1) = B
    generalize c ^ (k + 1) = C
    generalize p.getD k 0 = q
    generalize (60 : Int) / ((k : Int) + 1) = t
    grind
theorem areaN_neg (p : List Int) (a b : Int) : ∀ k, areaN (p.map fun n => -n) a b k = -areaN p a b k
  | 0 => rfl
  | k + 1 => by
    simp only [areaN]
    rw [areaN_neg p a b k]
    have : (p.map fun n => -n).getD k 0 = -p.getD k 0 := by
      rw [List.getD_eq_getElem?_getD, List.getD_eq_getElem?_getD, List.getElem?_map]
      cases p[k]? <;> simp
    rw [this, Int.neg_mul, Int.neg_mul, Int.neg_add]
theorem part_red (p : List Int) (a b : Int) (k : Nat) (hk : k < 5) : 0 < (areaPart p a b k).2 ∧ val60 (p.getD k 0 * (b ^ (k + 1) - a ^ (k + 1)) * (60 / ((k : Int) + 1))) (areaPart p a b k) := by
  unfold areaPart val60
  have hne : (k : Int) + 1 ≠ 0 := by omega
  have hval := redP_val (n := p.getD k 0 * (b ^ (k + 1) - a ^ (k + 1))) hne
  refine ⟨(redP_pos hne).1, ?_⟩
  have h60 : ((k : Int) + 1) * (60 / ((k : Int) + 1)) = 60 := by
    have : k = 0 ∨ k = 1 ∨ k = 2 ∨ k = 3 ∨ k = 4 := by omega
    rcases this with rfl | rfl | rfl | rfl | rfl <;> decide
  generalize redP (p.getD k 0 * (b ^ (k + 1) - a ^ (k + 1))) ((k : Int) + 1) = R at *
  generalize p.getD k 0 * (b ^ (k + 1) - a ^ (k + 1)) = n at *
  generalize (60 : Int) / ((k : Int) + 1) = t at *
  generalize (k : Int) + 1 = d at *
  rw [← h60]
  grind
theorem area_red (p : List Int) (a b : Int) : ∀ k, k ≤ 5 → redQ ((areaL p a b k).foldl plusP (0, 1)) ∧ val60 (areaN p a b k) ((areaL p a b k).foldl plusP (0, 1))
  | 0, _ => (show redQ ((0 : Int), (1 : Int)) ∧ val60 0 ((0 : Int), (1 : Int)) from ⟨⟨by decide, by decide⟩, rfl⟩)
  | k + 1, hk => by
    obtain ⟨h1, h2⟩ := area_red p a b k (by omega)
    obtain ⟨h3, h4⟩ := part_red p a b k (by omega)
    rw [areaL_succ, List.foldl_append]
    obtain ⟨h5, h6⟩ := plus_red h1.1 h3
    exact ⟨h5, h6 _ _ h2 h4⟩
theorem joined_plain (p : List Int) (a b c : Int) (hp : p.length ≤ 5) :
    redP (((areaL p a b p.length).foldl plusP (0, 1)).1 * ((areaL p b c p.length).foldl plusP (0, 1)).2 + ((areaL p b c p.length).foldl plusP (0, 1)).1 * ((areaL p a b p.length).foldl plusP (0, 1)).2) (((areaL p a b p.length).foldl plusP (0, 1)).2 * ((areaL p b c p.length).foldl plusP (0, 1)).2) = (areaL p a c p.length).foldl plusP (0, 1) := by
  obtain ⟨r1, v1⟩ := area_red p a b p.length hp
  obtain ⟨r2, v2⟩ := area_red p b c p.length hp
  obtain ⟨r3, v3⟩ := area_red p a c p.length hp
  rw [← areaN_add p a b c] at v3
  generalize (areaL p a b p.length).foldl plusP (0, 1) = A at *
  generalize (areaL p b c p.length).foldl plusP (0, 1) = B at *
  generalize (areaL p a c p.length).foldl plusP (0, 1) = C at *
  generalize areaN p a b p.length = N at *
  generalize areaN p b c p.length = M at *
  have hne : A.2 * B.2 ≠ 0 := Int.mul_ne_zero (by have := r1.1; omega) (by have := r2.1; omega)
  refine red_eq (redP_red hne) r3 ?_
  have hval := redP_val (n := A.1 * B.2 + B.1 * A.2) hne
  generalize redP (A.1 * B.2 + B.1 * A.2) (A.2 * B.2) = R at *
  unfold val60 at *
  have hne2 : A.2 * B.2 * 60 ≠ 0 := Int.mul_ne_zero hne (by decide)
  refine Int.eq_of_mul_eq_mul_right hne2 ?_
  clear r1 r2 r3 hne hne2
  grind
theorem neg_plain (p : List Int) (a c : Int) (hp : p.length ≤ 5) :
    (areaL (p.map fun n => -n) a c p.length).foldl plusP (0, 1) = (-((areaL p a c p.length).foldl plusP (0, 1)).1, ((areaL p a c p.length).foldl plusP (0, 1)).2) := by
  obtain ⟨r1, v1⟩ := area_red p a c p.length hp
  obtain ⟨r2, v2⟩ := area_red (p.map fun n => -n) a c p.length hp
  rw [areaN_neg] at v2
  generalize (areaL p a c p.length).foldl plusP (0, 1) = C at *
  generalize (areaL (p.map fun n => -n) a c p.length).foldl plusP (0, 1) = D at *
  generalize areaN p a c p.length = N at *
  refine red_eq r2 ⟨r1.1, by dsimp only; rw [Int.neg_gcd]; exact r1.2⟩ ?_
  unfold val60 at *
  dsimp only
  refine Int.eq_of_mul_eq_mul_right (show (60 : Int) ≠ 0 by decide) ?_
  clear r1 r2
  grind
theorem areaP_ok {p : List Int} {a b : Int} (h : (areaP p a b).2 = 0) : pOK p ∧ 1 ≤ p.length ∧ ((-10 ≤ a ∧ a ≤ 10) ∧ (-10 ≤ b ∧ b ≤ 10) ∧ a < b) ∧ areaP p a b = ((areaL p a b p.length).foldl plusP (0, 1), 0) := by
  unfold areaP at *
  by_cases he : firstNZ [checkE p, judgeE a b] ≠ 0
  · rw [if_pos he] at h; exact absurd h he
  · rw [if_neg he]
    obtain ⟨h1, h2⟩ := firstNZ_two he
    exact ⟨(check_pOK h1).1, (check_pOK h1).2, judge_ok h2, rfl⟩
theorem areaP_is {p : List Int} {a b : Int} (hp : pOK p) (h1 : 1 ≤ p.length) (ha : -10 ≤ a ∧ a ≤ 10) (hb : -10 ≤ b ∧ b ≤ 10) (hab : a < b) : areaP p a b = ((areaL p a b p.length).foldl plusP (0, 1), 0) := by
  have e1 : checkE p = 0 := by
    unfold checkE
    rw [if_neg, if_neg]
    · rw [outL_false.2 (fun x hx => hp.2 x hx)]; decide
    · rw [outL_false.2 (fun x hx => by rw [List.mem_singleton] at hx; subst hx; have := hp.1; omega)]; decide
  have e2 : judgeE a b = 0 := by
    unfold judgeE
    rw [if_neg, if_neg (by omega)]
    rw [outL_false.2 (fun x hx => by
      rcases List.mem_cons.1 hx with rfl | hx
      · exact ha
      · rw [List.mem_singleton] at hx; subst hx; exact hb)]
    decide
  unfold areaP
  rw [e1, e2, if_neg (by decide)]
theorem area_bd {p : List Int} (hp : pOK p) {a b : Int} (ha : -10 ≤ a ∧ a ≤ 10) (hb : -10 ≤ b ∧ b ≤ 10) : (-20000000000 ≤ ((areaL p a b p.length).foldl plusP (0, 1)).1 ∧ ((areaL p a b p.length).foldl plusP (0, 1)).1 ≤ 20000000000) ∧ 0 < ((areaL p a b p.length).foldl plusP (0, 1)).2 ∧ ((areaL p a b p.length).foldl plusP (0, 1)).2 ≤ 120 := by
  have h := area_vb hp ha hb p.length hp.1
  rw [show areaL p a b p.length = areaL p a b p.length from rfl] at h
  have hf := fac_le hp.1
  have h5 := hp.1
  generalize (areaL p a b p.length).foldl plusP (0, 1) = R at *
  obtain ⟨⟨q1, q2⟩, q3, q4⟩ := h
  have := mul_bd (a := (p.length : Int) * 20000000) (b := R.2) (A := 100000000) (B := 120) (by omega) (by omega)
  exact ⟨by omega, q3, by omega⟩
end Go.Proofs.YtnpleednkmhhhabDoor
namespace Go.Proofs.YtnpleednkmhhhabDoor
open Go Go.QL
set_option maxHeartbeats 1600000
theorem redP_dvd {n d : Int} : (redP n d).1 ∣ n ∧ (redP n d).2 ∣ d := by
  have h1 : (Int.gcd n d : Int) ∣ n := Int.gcd_dvd_left ..
  have h2 : (Int.gcd n d : Int) ∣ d := Int.gcd_dvd_right ..
  have k1 : n / (Int.gcd n d : Int) ∣ n := ⟨_, (Int.ediv_mul_cancel h1).symm⟩
  have k2 : d / (Int.gcd n d : Int) ∣ d := ⟨_, (Int.ediv_mul_cancel h2).symm⟩
  unfold redP
  split
  · exact ⟨Int.neg_dvd.2 k1, Int.neg_dvd.2 k2⟩
  · exact ⟨k1, k2⟩
theorem cop_dvd {a b c d : Int} (h : Int.gcd a b = 1) (h1 : c ∣ a) (h2 : d ∣ b) : Int.gcd c d = 1 := by
  have h : Nat.Coprime a.natAbs b.natAbs := h
  have k1 : Nat.Coprime c.natAbs b.natAbs := Nat.Coprime.coprime_dvd_left (Int.natAbs_dvd_natAbs.2 h1) h
  exact Nat.Coprime.coprime_dvd_right (Int.natAbs_dvd_natAbs.2 h2) k1
theorem cop_mul {a b c d : Int} (h1 : Int.gcd a c = 1) (h2 : Int.gcd a d = 1) (h3 : Int.gcd b c = 1) (h4 : Int.gcd b d = 1) : Int.gcd (a * b) (c * d) = 1 := by
  show Nat.Coprime (a * b).natAbs (c * d).natAbs
  rw [Int.natAbs_mul, Int.natAbs_mul]
  exact Nat.Coprime.mul_right (Nat.Coprime.mul_left h1 h3) (Nat.Coprime.mul_left h2 h4)
def valQ (n d : Int) (x : R2) : Prop := x.1 * d = n * x.2
theorem valQ_eq {x y : R2} {n d : Int} (hx : redQ x) (hy : redQ y) (hd : d ≠ 0) (h1 : valQ n d x) (h2 : valQ n d y) : x = y := by
  refine red_eq hx hy (Int.eq_of_mul_eq_mul_right hd ?_)
  unfold valQ at *
  clear hx hy hd
  grind
theorem times_red {x y : R2} (hx : redQ x) (hy : redQ y) : redQ (timesP x y) ∧ ∀ {n d m e : Int}, valQ n d x → valQ m e y → valQ (n * m) (d * e) (timesP x y) := by
  have hx0 := hx.1
  have hy0 := hy.1
  have a1 := redP_red (n := x.1) (d := y.2) (by omega)
  have a2 := redP_red (n := y.1) (d := x.2) (by omega)
  have d1 := redP_dvd (n := x.1) (d := y.2)
  have d2 := redP_dvd (n := y.1) (d := x.2)
  have v1 := redP_val (n := x.1) (d := y.2) (by omega)
  have v2 := redP_val (n := y.1) (d := x.2) (by omega)
  unfold timesP
  generalize redP x.1 y.2 = A at *
  generalize redP y.1 x.2 = B at *
  refine ⟨⟨Int.mul_pos a1.1 a2.1, cop_mul a1.2 (cop_dvd hx.2 d1.1 d2.2) (cop_dvd hy.2 d2.1 d1.2) a2.2⟩, fun {n d m e} h1 h2 => ?_⟩
  have hne : x.2 * y.2 ≠ 0 := Int.mul_ne_zero (by omega) (by omega)
  unfold valQ at *
  show A.1 * B.1 * (d * e) = n * m * (A.2 * B.2)
  refine Int.eq_of_mul_eq_mul_right hne ?_
  clear a1 a2 d1 d2 hx hy hx0 hy0 hne
  obtain ⟨x1, x2⟩ := x
  obtain ⟨y1, y2⟩ := y
  obtain ⟨A1, A2⟩ := A
  obtain ⟨B1, B2⟩ := B
  dsimp only at *
  have e1 : A1 * B1 * (d * e) * (x2 * y2) = (A1 * y2) * (B1 * x2) * (d * e) := by grind
  have e2 : n * m * (A2 * B2) * (x2 * y2) = (n * x2) * (m * y2) * (A2 * B2) := by grind
  rw [e1, e2, v1, v2, ← h1, ← h2]
  grind
theorem redQ_one (w : Int) : redQ (w, 1) := ⟨show (0 : Int) < 1 by decide, Int.gcd_one_right w⟩
theorem valQ_one (w : Int) : valQ w 1 (w, 1) := rfl
theorem strips_area (S w pw : Int) (h : pw ≠ 0) : timesP (redP S pw) (w, 1) = redP (S * w) pw := by
  obtain ⟨r, v⟩ := times_red (redP_red (n := S) h) (redQ_one w)
  have v := v (redP_val h) (valQ_one w)
  rw [Int.mul_one] at v
  exact valQ_eq r (redP_red h) h v (redP_val h)
theorem strips_bound (w bt d : Int) (h : d ≠ 0) : [(w, 1), (w, 1), redP bt d].foldl timesP (w, 1) = redP (w ^ 3 * bt) d := by
  obtain ⟨r1, v1⟩ := times_red (redQ_one w) (redQ_one w)
  obtain ⟨r2, v2⟩ := times_red r1 (redQ_one w)
  obtain ⟨r3, v3⟩ := times_red r2 (redP_red (n := bt) h)
  have v := v3 (v2 (v1 (valQ_one w) (valQ_one w)) (valQ_one w)) (redP_val h)
  rw [show w * w * w = w ^ 3 by grind, show (1 : Int) * 1 * 1 * d = d by omega] at v
  exact valQ_eq r3 (redP_red h) h v (redP_val h)
def rstripsP (p : List Int) (a b N : Int) : R2 × R2 × Int :=
  if (if checkE p = 0 then judgeE a b else checkE p) ≠ 0 then ((0, 0), (0, 0), (if checkE p = 0 then judgeE a b else checkE p))
  else if outB 1 20 N = true then ((0, 0), (0, 0), 7)
  else (redP (sumS p a b N (N.toNat + 1) * (b - a)) (2 * N * N ^ (p.length - 1)),
    redP ((b - a) ^ 3 * (bentS p (mostS a b) (p.length - 2)).1) (12 * N * N), 0)
theorem asked_eq (p : List Int) (a b : Int) : firstNZ [checkE p, judgeE a b] = (if checkE p = 0 then judgeE a b else checkE p) := by
  simp only [firstNZ]
  by_cases h : checkE p = 0
  · rw [if_neg (by simpa using h), if_pos h]
    by_cases h2 : judgeE a b = 0
    · rw [if_neg (by simpa using h2), h2]
    · rw [if_pos h2]
  · rw [if_pos h, if_neg h]
theorem strips_eq (p : List Int) (a b N : Int) : rstripsP p a b N = stripsP p a b N := by
  unfold rstripsP stripsP
  rw [asked_eq, outL_one]
  generalize (if checkE p = 0 then judgeE a b else checkE p) = e
  by_cases h1 : e ≠ 0
  · rw [if_pos h1, if_pos h1]
  · rw [if_neg h1, if_neg h1]
    by_cases h2 : outB 1 20 N = true
    · rw [if_pos h2, if_pos h2]
    · rw [if_neg h2, if_neg h2]
      have hN := outB_false.1 (show outB 1 20 N = false by simpa using h2)
      have hp : N ^ (p.length - 1) ≠ 0 := Int.pow_ne_zero (by omega)
      rw [strips_area _ _ _ (Int.mul_ne_zero (by omega) hp), strips_bound _ _ _ (Int.mul_ne_zero (by omega) (by omega))]
theorem areaS_N (p : List Int) (a b : Int) : ∀ k, areaS p a b k = areaN p a b k
  | 0 => rfl
  | k + 1 => by
    simp only [areaS, areaN]
    rw [areaS_N p a b k, Int.tdiv_eq_ediv_of_nonneg (by decide)]
theorem area_eq60 (p : List Int) (a b : Int) (h : p.length ≤ 5) : (areaL p a b p.length).foldl plusP (0, 1) = redP (areaN p a b p.length) 60 := by
  obtain ⟨r, v⟩ := area_red p a b p.length h
  exact valQ_eq r (redP_red (by decide)) (show (60 : Int) ≠ 0 by decide) v (redP_val (by decide))
theorem area_eq (p : List Int) (a b : Int) : rareaP p a b = areaP p a b := by
  unfold rareaP areaP
  rw [asked_eq]
  by_cases h1 : checkE p = 0
  · rw [if_pos h1]
    by_cases h2 : judgeE a b ≠ 0
    · rw [if_pos h2, if_pos h2]
    · rw [if_neg h2, if_neg h2, area_eq60 p a b (check_pOK h1).1.1, areaS_N]
  · rw [if_neg h1, if_pos h1, if_pos h1]
end Go.Proofs.YtnpleednkmhhhabDoor
namespace Go.Proofs.YtnpleednkmhhhabDoor
open Go Go.QL
set_option maxHeartbeats 3200000
attribute [local irreducible] ACall FnC YC Imp
theorem bent_2 (p : List Int) (m : Int) : ∀ j, (bentS p m j).2 = m ^ j
  | 0 => by show (1 : Int) = m ^ 0; rw [Int.pow_zero]
  | j + 1 => by show (bentS p m j).2 * m = _; rw [bent_2 p m j, Int.pow_succ]
theorem most_is (a b : Int) : (if (b.natAbs : Int) > (a.natAbs : Int) then (b.natAbs : Int) else (a.natAbs : Int)) = mostS a b := by
  unfold mostS mx
  split <;> split <;> split <;> split <;> omega
theorem mx_nat (c : Int) : (c.natAbs : Int) = mx c (-c) := by unfold mx; split <;> omega
theorem rstrips_fn (p : List Int) (a b N : Int) : FnC Tryd.prog 25 [sl p, iv .i64 a, iv .i64 b, iv .i64 N] (.t [r2AV (rstripsP p a b N).1, r2AV (rstripsP p a b N).2.1, iv .i64 (rstripsP p a b N).2.2]) := by
  have o1 := asked_fn p a b
  have o2 := rin_fn N 1 20
  have hc : (if checkE p = 0 then judgeE a b else checkE p) = 0 → checkE p = 0 ∧ judgeE a b = 0 := fun h => by
    by_cases e : checkE p = 0
    · rw [if_pos e] at h; exact ⟨e, h⟩
    · rw [if_neg e] at h; exact absurd h e
  have tf : ¬ (true = false) := by decide
  have ft : ¬ (false = true) := by decide
  unfold rstripsP
  generalize (if checkE p = 0 then judgeE a b else checkE p) = e at *
  by_cases he : e ≠ 0
  · rw [if_pos he]
    have hN : (bif e == 0 then !!outB 1 20 N else false) = false := by simp [he]
    refine FnC_of_AW hTt Tryd.func25 rfl (by kernel_rfl) (res := [.cell 8 63, .cell 9 63, .tmp 10]) rfl Tryd.ntmps25 (by simp) fun w0 K0 => ?_
    dsimp only [entry]
    repeat' first | with_reducible refine AW_seq ?_ | with_reducible refine AW_block ?_ | ((first | with_reducible refine AW_skip ?_ | with_reducible refine AW_ret ?_ | with_reducible refine AW_region hTt ?_ | ((refine ⟨_, (o1).call rfl rfl, ?_⟩); (rintro _ _ ⟨rfl, rfl⟩)) | refine ⟨_, fun _ => (o2).call rfl rfl, ?_⟩ | fail); conv => whnf) | (exact absurd (hN.symm.trans hb) ft) | (exact absurd hb he) | (refine AW_cond rfl (fun hb => ?_) (fun hb => ?_) <;> first | (replace hb := of_decide_eq_true hb; try simp only [List.length_map] at hb) | (replace hb := of_decide_eq_false hb; try simp only [List.length_map] at hb) | (simp only [List.length_map, bne_iff_ne, ne_eq, beq_iff_eq, bne_eq_false_iff_eq, beq_eq_false_iff_ne, decide_eq_true_eq, decide_eq_false_iff_not, Bool.not_eq_true', Bool.not_eq_false', Int.natCast_inj] at hb) | skip) | ((refine andA ?_); conv => whnf) | fail
    rfl
  · rw [if_neg he]
    have he : e = 0 := by simpa using he
    obtain ⟨hc1, hc2⟩ := hc he
    subst he
    obtain ⟨hp, hp1⟩ := check_pOK hc1
    obtain ⟨ha, hbb, hab⟩ := judge_ok hc2
    clear hc hc1 hc2
    by_cases hn : outB 1 20 N = true
    · rw [if_pos hn]
      rw [hn] at o2
      refine FnC_of_AW hTt Tryd.func25 rfl (by kernel_rfl) (res := [.cell 8 63, .cell 9 63, .tmp 10]) rfl Tryd.ntmps25 (by simp) fun w0 K0 => ?_
      dsimp only [entry]
      repeat' first | with_reducible refine AW_seq ?_ | ((first | with_reducible refine AW_ret ?_ | with_reducible refine AW_region hTt ?_ | ((refine ⟨_, (o1).call rfl rfl, ?_⟩); (rintro _ _ ⟨rfl, rfl⟩)) | refine ⟨_, fun _ => (o2).call rfl rfl, ?_⟩ | fail); conv => whnf) | (refine AW_cond rfl (fun _ => ?_) (fun hb => absurd (show true = false from hb) (by decide))) | ((refine andA ?_); conv => whnf) | fail
      rfl
    · rw [if_neg hn]
      have hn : outB 1 20 N = false := by simpa using hn
      rw [hn] at o2
      have hN := outB_false.1 hn
      clear hn
      have hp5 := hp.1
      have hll : (p.map (fun n : Int => [PV.v (.int .i64 n)])).length = p.length := List.length_map _
      refine FnC_of_AW hTt Tryd.func25 rfl (by kernel_rfl) (res := [.cell 8 63, .cell 9 63, .tmp 10]) rfl Tryd.ntmps25 (by simp) fun w0 K0 => ?_
      dsimp only [entry]
      repeat' first | with_reducible refine AW_seq ?_ | with_reducible refine AW_block ?_ | ((first | with_reducible refine AW_skip ?_ | with_reducible refine AW_region hTt ?_ | ((refine ⟨_, (o1).call rfl rfl, ?_⟩); (rintro _ _ ⟨rfl, rfl⟩)) | refine ⟨_, fun _ => (o2).call rfl rfl, ?_⟩ | fail); conv => whnf) | (refine AW_cond rfl (fun hb => absurd (show false = true from hb) (by decide)) (fun _ => ?_)) | ((refine andA ?_); conv => whnf) | fail
      clear o1 o2
      refine AW_loop (fun i : Nat => [(13, iv .i64 i), (12, iv .i64 (sumS p a b N i)), (0, sl p), (1, iv .i64 a), (2, iv .i64 b), (3, iv .i64 N), (8, .x (.b 8 0)), (9, .x (.b 9 0))])
        (fun _ => sgZ) (fun i => (i : Int) ≤ N + 1) (fun i => (N + 1).toNat - i) 0 (by omega) impA ?_
      intro i hi
      rcases Int.lt_or_le (i : Int) (N + 1) with hil | hil
      · obtain ⟨q1, q2, q3⟩ := sum_arg ha hbb hab hN i (by omega)
        have hv := at_fn hp (num := a * N + i * (b - a)) (den := N) (by omega) (by omega)
        have hvr := valP_600 hp (num := a * N + i * (b - a)) (den := N) (by omega) (by omega)
        have hsr := sumS_bd hp ha hbb hab hN i (by omega)
        have hsn : sumS p a b N (i + 1) = if 0 < (i : Int) ∧ (i : Int) < N then sumS p a b N i + valP p (a * N + i * (b - a)) N + valP p (a * N + i * (b - a)) N else sumS p a b N i + valP p (a * N + i * (b - a)) N := rfl
        have w1 : IntKind.i64.wrap (a * N) = a * N := wrap_of (by omega)
        have w2 : IntKind.i64.wrap (i * (b - a)) = i * (b - a) := wrap_of (by omega)
        generalize valP p (a * N + i * (b - a)) N = y at *
        generalize hS1 : sumS p a b N (i + 1) = S1 at hsn
        generalize sumS p a b N i = S at *
        clear hp
        by_cases hin : 0 < (i : Int) ∧ (i : Int) < N
        · rw [if_pos hin] at hsn
          obtain ⟨hin1, hin2⟩ := hin
          have hcnd : (bif decide (0 < (i : Int)) then decide ((i : Int) < N) else false) = true := by rw [decide_eq_true hin1, decide_eq_true hin2]; rfl
          repeat' first | with_reducible refine AW_seq ?_ | with_reducible refine AW_block ?_ | ((first | with_reducible refine AW_skip ?_ | with_reducible refine AW_exit ?_ | with_reducible refine AW_region hTt ?_ | fail); conv => whnf) | (exact absurd hb (by omega)) | (exact absurd (hcnd.symm.trans hb) tf) | ((first | ((refine ⟨_, (hv).call rfl rfl, ?_⟩); (rintro _ _ ⟨rfl, rfl⟩)) | refine ⟨_, w1, ?_⟩ | refine ⟨_, w2, ?_⟩ | fail); conv => whnf) | (refine AW_cond rfl (fun hb => ?_) (fun hb => ?_) <;> first | (replace hb := of_decide_eq_true hb; try simp only [List.length_map] at hb) | (replace hb := of_decide_eq_false hb; try simp only [List.length_map] at hb) | (simp only [List.length_map, bne_iff_ne, ne_eq, beq_iff_eq, bne_eq_false_iff_eq, beq_eq_false_iff_ne, decide_eq_true_eq, decide_eq_false_iff_not, Bool.not_eq_true', Bool.not_eq_false', Int.natCast_inj] at hb) | skip) | ((first | refine ⟨_, wrap_of (by first | omega | (simp only [List.length_map]; omega)), ?_⟩ | refine andA ?_ | fail); conv => whnf) | fail
          refine ⟨i + 1, by omega, by omega, ?_⟩
          rw [hS1, hsn]
          exact impA
        · rw [if_neg hin] at hsn
          have hcnd : (bif decide (0 < (i : Int)) then decide ((i : Int) < N) else false) = false := by
            cases hd : decide (0 < (i : Int)) with
            | false => rfl
            | true => exact decide_eq_false fun h => hin ⟨of_decide_eq_true hd, h⟩
          repeat' first | with_reducible refine AW_seq ?_ | with_reducible refine AW_block ?_ | ((first | with_reducible refine AW_skip ?_ | with_reducible refine AW_exit ?_ | with_reducible refine AW_region hTt ?_ | fail); conv => whnf) | (exact absurd hb (by omega)) | (exact absurd (hcnd.symm.trans hb) ft) | ((first | ((refine ⟨_, (hv).call rfl rfl, ?_⟩); (rintro _ _ ⟨rfl, rfl⟩)) | refine ⟨_, w1, ?_⟩ | refine ⟨_, w2, ?_⟩ | fail); conv => whnf) | (refine AW_cond rfl (fun hb => ?_) (fun hb => ?_) <;> first | (replace hb := of_decide_eq_true hb; try simp only [List.length_map] at hb) | (replace hb := of_decide_eq_false hb; try simp only [List.length_map] at hb) | (simp only [List.length_map, bne_iff_ne, ne_eq, beq_iff_eq, bne_eq_false_iff_eq, beq_eq_false_iff_ne, decide_eq_true_eq, decide_eq_false_iff_not, Bool.not_eq_true', Bool.not_eq_false', Int.natCast_inj] at hb) | skip) | ((first | refine ⟨_, wrap_of (by first | omega | (simp only [List.length_map]; omega)), ?_⟩ | refine andA ?_ | fail); conv => whnf) | fail
          refine ⟨i + 1, by omega, by omega, ?_⟩
          rw [hS1, hsn]
          exact impA
      · obtain rfl : i = N.toNat + 1 := by omega
        have hsr := sumS_bd hp ha hbb hab hN (N.toNat + 1) (by omega)
        have hm := mostS_rng ha hbb
        have q1 := pow20 hN (p.length - 1) (by omega)
        have c1 := power_fn N (p.length - 1) (by omega) (fun k hk => by have := pow20 hN k (by omega); unfold lim; omega)
        rw [show ((p.length - 1 : Nat) : Int) = ((p.map (fun n : Int => [PV.v (.int .i64 n)])).length : Int) - 1 by omega] at c1
        have mp := mul_bd (a := 2 * N) (b := N ^ (p.length - 1)) (A := 40) (B := 160000) (by omega) (by omega)
        have mp' := Int.mul_pos (a := 2 * N) (b := N ^ (p.length - 1)) (by omega) (by omega)
        have ms := mul_bd (a := sumS p a b N (N.toNat + 1)) (b := b - a) (A := 2940000000000000) (B := 20) (by omega) (by omega)
        have c2 := reduced_fn (sumS p a b N (N.toNat + 1) * (b - a)) (2 * N * N ^ (p.length - 1)) (by unfold lim; omega) (by unfold lim; omega) (by omega)
        have z1 := size_fn a (by unfold lim; omega)
        have z2 := size_fn b (by unfold lim; omega)
        have hms := most_is a b
        generalize redP (sumS p a b N (N.toNat + 1) * (b - a)) (2 * N * N ^ (p.length - 1)) = R1 at *
        generalize sumS p a b N (N.toNat + 1) = S at *
        generalize N ^ (p.length - 1) = D at *
        have w1 : IntKind.i64.wrap (S * (b - a)) = S * (b - a) := wrap_of (by omega)
        have w2 : IntKind.i64.wrap (2 * N * D) = 2 * N * D := wrap_of (by omega)
        have hbent := bent_bd hp hm
        repeat' first | with_reducible refine AW_seq ?_ | with_reducible refine AW_block ?_ | ((first | with_reducible refine AW_skip ?_ | with_reducible refine AW_exit ?_ | with_reducible refine AW_region hTt ?_ | fail); conv => whnf) | (exact absurd hb (by omega)) | ((first | ((refine ⟨_, (c1).call rfl rfl, ?_⟩); (rintro _ _ ⟨rfl, rfl⟩)) | ((refine ⟨_, (c2).call rfl rfl, ?_⟩); (rintro _ _ ⟨rfl, rfl⟩)) | ((refine ⟨_, (z1).call rfl rfl, ?_⟩); (rintro _ _ ⟨rfl, rfl⟩)) | ((refine ⟨_, (z2).call rfl rfl, ?_⟩); (rintro _ _ ⟨rfl, rfl⟩)) | refine ⟨_, w1, ?_⟩ | refine ⟨_, w2, ?_⟩ | fail); conv => whnf) | (refine AW_cond rfl (fun hb => ?_) (fun hb => ?_) <;> first | (replace hb := of_decide_eq_true hb; try simp only [List.length_map] at hb) | (replace hb := of_decide_eq_false hb; try simp only [List.length_map] at hb) | (simp only [List.length_map, bne_iff_ne, ne_eq, beq_iff_eq, bne_eq_false_iff_eq, beq_eq_false_iff_ne, decide_eq_true_eq, decide_eq_false_iff_not, Bool.not_eq_true', Bool.not_eq_false', Int.natCast_inj] at hb) | skip) | ((refine ⟨_, wrap_of (by first | omega | (simp only [List.length_map]; omega)), ?_⟩); conv => whnf) | (refine fun hln => ?_; (try rw [List.length_map] at hln); unfold maxLen at hln; conv => whnf) | fail
        clear c1 c2 z1 z2 w1 w2 mp mp' ms
        refine AW_loop (fun j : Nat => [(18, iv .i64 ((j : Int) + 2)), (16, iv .i64 (bentS p (mostS a b) j).1), (17, iv .i64 (mostS a b)), (0, sl p), (1, iv .i64 a), (2, iv .i64 b), (3, iv .i64 N), (8, .x (.b 8 0)), (9, .x (.b 9 0)), (15, .x (.b 15 0))])
          (fun _ => (15, .box [.d (.v (.int .i64 R1.1)), .d (.v (.int .i64 R1.2))]) :: sgZ) (fun j => j ≤ p.length - 2) (fun j => p.length - j) 0 (Nat.zero_le _) (Imp.forget (by repeat' (first | exact trivial | refine And.intro ?_ ?_ | exact ivE hms | rfl | exact ivE (by first | omega | (simp only [List.length_map, List.length_append, List.length_singleton] <;> omega)) | exact oE (by first | omega | (simp only [List.length_map, List.length_append, List.length_singleton] <;> omega)))) (by repeat' (first | exact trivial | refine And.intro ?_ ?_ | exact ivE hms | rfl | exact ivE (by first | omega | (simp only [List.length_map, List.length_append, List.length_singleton] <;> omega)) | exact oE (by first | omega | (simp only [List.length_map, List.length_append, List.length_singleton] <;> omega)))) (by kernel_rfl) (by kernel_rfl) (by kernel_rfl)) ?_
        clear hms
        intro j hj
        rcases Nat.lt_or_ge (j + 2) p.length with hjl | hjl
        · obtain ⟨k1, k2⟩ := hbent j (by omega)
          obtain ⟨k3, k4⟩ := hbent (j + 1) (by omega)
          have hc := hp.get (j + 2)
          have hel : p[((j : Int) + 2).toNat]? = some (p.getD (j + 2) 0) := by
            rw [show ((j : Int) + 2).toNat = j + 2 by omega, List.getD_eq_getElem?_getD, List.getElem?_eq_getElem (by omega)]; rfl
          have e1 : bentS p (mostS a b) (j + 1) = ((bentS p (mostS a b) j).1 + mx (p.getD (j + 2) 0) (-p.getD (j + 2) 0) * ((j : Int) + 2) * ((j : Int) + 2 - 1) * (bentS p (mostS a b) j).2, (bentS p (mostS a b) j).2 * mostS a b) := rfl
          have h5 : (10 : Int) ^ j ≤ 100 := by
            match j, hjl with
            | 0, _ | 1, _ | 2, _ => decide
            | j + 3, h => omega
          have h3 : 0 ≤ mx (p.getD (j + 2) 0) (-p.getD (j + 2) 0) ∧ mx (p.getD (j + 2) 0) (-p.getD (j + 2) 0) ≤ 100 := by unfold mx; split <;> omega
          have z3 := size_fn (p.getD (j + 2) 0) (by unfold lim; omega)
          rw [mx_nat] at z3
          have c3 := power_fn (mostS a b) j (by omega) (fun k hk => by have := pow_bd (b := mostS a b) (by omega) k; have := ten_le (n := k) (by omega); unfold lim; omega)
          rw [← bent_2 p (mostS a b) j, show (j : Int) = (j : Int) + 2 - 2 by omega] at c3
          generalize hB1 : bentS p (mostS a b) (j + 1) = B1 at *
          generalize p.getD (j + 2) 0 = c at *
          generalize bentS p (mostS a b) j = B at *
          obtain ⟨b1, b2⟩ := B
          dsimp only at *
          have m1 := mul_bd (a := mx c (-c)) (b := (j : Int) + 2) (A := 100) (B := 4) (by omega) (by omega)
          have m2 := mul_bd (a := mx c (-c) * ((j : Int) + 2)) (b := (j : Int) + 2 - 1) (A := 400) (B := 3) (by omega) (by omega)
          have m3 := mul_bd (a := mx c (-c) * ((j : Int) + 2) * ((j : Int) + 2 - 1)) (b := b2) (A := 1200) (B := 100) (by omega) (by omega)
          rw [e1] at k3 k4
          dsimp only at k3 k4
          have w1 : IntKind.i64.wrap (mx c (-c) * ((j : Int) + 2)) = mx c (-c) * ((j : Int) + 2) := wrap_of (by omega)
          have w2 : IntKind.i64.wrap (mx c (-c) * ((j : Int) + 2) * ((j : Int) + 2 - 1)) = mx c (-c) * ((j : Int) + 2) * ((j : Int) + 2 - 1) := wrap_of (by omega)
          have w3 : IntKind.i64.wrap (mx c (-c) * ((j : Int) + 2) * ((j : Int) + 2 - 1) * b2) = mx c (-c) * ((j : Int) + 2) * ((j : Int) + 2 - 1) * b2 := wrap_of (by omega)
          have w4 : IntKind.i64.wrap (b1 + mx c (-c) * ((j : Int) + 2) * ((j : Int) + 2 - 1) * b2) = b1 + mx c (-c) * ((j : Int) + 2) * ((j : Int) + 2 - 1) * b2 := wrap_of (by omega)
          clear hbent hp
          generalize mx c (-c) = mc at *
          repeat' first | with_reducible refine AW_seq ?_ | with_reducible refine AW_block ?_ | ((first | with_reducible refine AW_skip ?_ | with_reducible refine AW_exit ?_ | with_reducible refine AW_region hTt ?_ | refine AW_draw hTt hMix (id := 20) 12 false [0, 0, 0, 6, 14, 0, 62, 0, 128, 0, 896, 2046, 4095, 8191, 16383] (by kernel_rfl) rfl rfl (by kernel_rfl) ?_ | fail); conv => whnf) | (exact absurd hb (by omega)) | ((first | with_reducible refine Exists.intro _ (And.intro (gd_any (And.intro (by omega) (map_some' hel))) ?_) | ((refine ⟨_, (z3).call rfl rfl, ?_⟩); (rintro _ _ ⟨rfl, rfl⟩)) | ((refine ⟨_, (c3).call rfl rfl, ?_⟩); (rintro _ _ ⟨rfl, rfl⟩)) | refine ⟨_, w1, ?_⟩ | refine ⟨_, w2, ?_⟩ | refine ⟨_, w3, ?_⟩ | refine ⟨_, w4, ?_⟩ | fail); conv => whnf) | (refine AW_cond rfl (fun hb => ?_) (fun hb => ?_) <;> first | (replace hb := of_decide_eq_true hb; try simp only [List.length_map] at hb) | (replace hb := of_decide_eq_false hb; try simp only [List.length_map] at hb) | (simp only [List.length_map, bne_iff_ne, ne_eq, beq_iff_eq, bne_eq_false_iff_eq, beq_eq_false_iff_ne, decide_eq_true_eq, decide_eq_false_iff_not, Bool.not_eq_true', Bool.not_eq_false', Int.natCast_inj] at hb) | skip) | ((first | refine ⟨_, wrap_of (by first | omega | (simp only [List.length_map]; omega)), ?_⟩ | refine andA ?_ | fail); conv => whnf) | (refine fun hln => ?_; (try rw [List.length_map] at hln); unfold maxLen at hln; conv => whnf) | fail
          refine ⟨j + 1, by omega, by omega, ?_⟩
          rw [hB1, e1]
          exact impA
        · obtain rfl : j = p.length - 2 := by omega
          obtain ⟨k1, k2⟩ := hbent (p.length - 2) (by omega)
          have nn := mul_bd (a := N) (b := N) (A := 20) (B := 20) (by omega) (by omega)
          have nn' := Int.mul_pos (a := N) (b := N) (by omega) (by omega)
          have e12 : 12 * N * N = 12 * (N * N) := Int.mul_assoc ..
          have w1 : IntKind.i64.wrap (12 * N * N) = 12 * N * N := wrap_of (by omega)
          have hw3 := pow_bdG (x := b - a) (B := 20) (by omega)
          have b3 := hw3 3
          have c4 := power_fn (b - a) 3 (by omega) (fun k hk => by
            have := hw3 k
            have : (20 : Int) ^ k ≤ 8000 := by
              match k, hk with
              | 0, _ | 1, _ | 2, _ | 3, _ => decide
              | k + 4, h => omega
            unfold lim; omega)
          clear hw3
          rw [show (20 : Int) ^ 3 = 8000 from by decide] at b3
          generalize (bentS p (mostS a b) (p.length - 2)).1 = bt at *
          have mb := mul_bd (a := (b - a) ^ 3) (b := bt) (A := 8000) (B := 3000000) (by omega) (by omega)
          have c5 := reduced_fn ((b - a) ^ 3 * bt) (12 * N * N) (by unfold lim; omega) (by unfold lim; omega) (by omega)
          generalize redP ((b - a) ^ 3 * bt) (12 * N * N) = R2 at *
          generalize (b - a) ^ 3 = W3 at *
          have w2 : IntKind.i64.wrap (W3 * bt) = W3 * bt := wrap_of (by omega)
          rw [show ((3 : Nat) : Int) = 3 from rfl] at c4
          clear hbent hp k1 k2 hsr
          repeat' first | with_reducible refine AW_seq ?_ | with_reducible refine AW_block ?_ | ((first | with_reducible refine AW_skip ?_ | with_reducible refine AW_exit ?_ | with_reducible refine AW_ret ?_ | with_reducible refine AW_region hTt ?_ | refine AW_draw hTt hMix (id := 20) 12 false [0, 0, 0, 6, 14, 0, 62, 0, 128, 0, 896, 2046, 4095, 8191, 16383] (by kernel_rfl) rfl rfl (by kernel_rfl) ?_ | fail); conv => whnf) | (exact absurd hb (by omega)) | ((first | refine ⟨_, fun _ => (c4).call rfl rfl, ?_⟩ | refine ⟨_, fun _ => (c5).call rfl rfl, ?_⟩ | refine ⟨_, w1, ?_⟩ | refine ⟨_, w2, ?_⟩ | fail); conv => whnf) | (refine AW_cond rfl (fun hb => ?_) (fun hb => ?_) <;> first | (replace hb := of_decide_eq_true hb; try simp only [List.length_map] at hb) | (replace hb := of_decide_eq_false hb; try simp only [List.length_map] at hb) | (simp only [List.length_map, bne_iff_ne, ne_eq, beq_iff_eq, bne_eq_false_iff_eq, beq_eq_false_iff_ne, decide_eq_true_eq, decide_eq_false_iff_not, Bool.not_eq_true', Bool.not_eq_false', Int.natCast_inj] at hb) | skip) | ((first | refine ⟨_, wrap_of (by first | omega | (simp only [List.length_map]; omega)), ?_⟩ | refine andA ?_ | fail); conv => whnf) | (refine fun hln => ?_; (try rw [List.length_map] at hln); unfold maxLen at hln; conv => whnf) | fail
          rfl
end Go.Proofs.YtnpleednkmhhhabDoor
namespace Go.Proofs.YtnpleednkmhhhabDoor
open Go Go.QL
set_option maxHeartbeats 40000000
attribute [local irreducible] ACall FnC YC
theorem nt_f3 {c : Bool} (h : c = false) : (!c) = true := by subst h; rfl
theorem and_tt3 {a b : Bool} (h1 : a = true) (h2 : b = true) : (a && b) = true := by rw [h1, h2]; rfl
theorem lareas_fn (p : List Int) (a b c : Int) : FnC Tryd.prog 8 [sl p, a3AV a b c] (bv true) := by
  have s1 := area_fn p a b
  have s2 := rarea_fn p a b
  have s3 := strips_fn p a b c
  have s4 := rstrips_fn p a b c
  rw [area_eq] at s2
  rw [strips_eq] at s4
  have haw := awake_fn
  have tf : ¬ (true = false) := by decide
  have ft : ¬ (false = true) := by decide
  generalize areaP p a b = RA at *
  generalize stripsP p a b c = RS at *
  obtain ⟨⟨an, ad⟩, e⟩ := RA
  obtain ⟨⟨sn, sd⟩, ⟨bn, bd⟩, f⟩ := RS
  dsimp only at *
  have e1 : (bif !(eqL [.int .i64 an, .int .i64 ad] [.int .i64 an, .int .i64 ad]) then true else e != e) = false := by simp [eqL, eqV]
  refine FnC_of_AW hTt Tryd.func8 rfl (by kernel_rfl) (res := [.tmp 4]) rfl Tryd.ntmps8 (by simp) fun w0 K0 => ?_
  dsimp only [entry]
  repeat' first | with_reducible refine AW_seq ?_ | ((first | with_reducible refine AW_skip ?_ | with_reducible refine AW_ret ?_ | with_reducible refine AW_region hTt ?_ | ((refine ⟨_, (s1).call rfl rfl, ?_⟩); (rintro _ _ ⟨rfl, rfl⟩)) | ((refine ⟨_, (s2).call rfl rfl, ?_⟩); (rintro _ _ ⟨rfl, rfl⟩)) | ((refine ⟨_, (s3).call rfl rfl, ?_⟩); (rintro _ _ ⟨rfl, rfl⟩)) | ((refine ⟨_, (s4).call rfl rfl, ?_⟩); (rintro _ _ ⟨rfl, rfl⟩)) | fail); conv => whnf) | (exact absurd (e1.symm.trans hb) ft) | ((first | refine ⟨_, fun _ => (haw).call rfl rfl, ?_⟩ | refine And.intro (fun h => nt_f3 h) ?_ | fail); conv => whnf) | (refine AW_cond rfl (fun hb => ?_) (fun hb => ?_) <;> first | (replace hb := of_decide_eq_true hb; try simp only [List.length_map] at hb) | (replace hb := of_decide_eq_false hb; try simp only [List.length_map] at hb) | (simp only [List.length_map, bne_iff_ne, ne_eq, beq_iff_eq, bne_eq_false_iff_eq, beq_eq_false_iff_ne, decide_eq_true_eq, decide_eq_false_iff_not, Bool.not_eq_true', Bool.not_eq_false', Int.natCast_inj] at hb) | skip) | ((refine andA ?_); conv => whnf) | fail
  exact congrArg (fun b : Bool => some (bv b)) (show _ = true by simp [eqL, eqV])
end Go.Proofs.YtnpleednkmhhhabDoor
namespace Go.Proofs.YtnpleednkmhhhabDoor
open Go Go.QL
set_option maxHeartbeats 40000000
attribute [local irreducible] ACall FnC YC
theorem valC_bd {vs r : List Int} (hv : ∀ j, 0 ≤ vs.getD j 0 ∧ vs.getD j 0 ≤ 10000) (hr : ∀ j, 0 ≤ r.getD j 0 ∧ r.getD j 0 ≤ 10000) : ∀ k : Nat, (0 ≤ valC vs r k ∧ valC vs r k ≤ k * 100000000) ∧ (0 ≤ cntC r k ∧ cntC r k ≤ k * 10000)
  | 0 => by simp [valC, cntC]
  | k + 1 => by
    have ih := valC_bd hv hr k
    have h1 := hr k
    have h2 := hv k
    have m := mul_bd (a := r.getD k 0) (b := vs.getD k 0) (A := 10000) (B := 10000) (by omega) (by omega)
    have m' := Int.mul_nonneg h1.1 h2.1
    simp only [valC, cntC]
    omega
theorem vs_rng {vs : List Int} (h : CoinOK vs) (j : Nat) : 0 ≤ vs.getD j 0 ∧ vs.getD j 0 ≤ 10000 := by
  by_cases hj : j < vs.length
  · have := h.rng _ (getD_in hj); omega
  · rw [List.getD_eq_getElem?_getD, List.getElem?_eq_none (by omega)]; decide
theorem el_some {l : List Int} {i : Nat} (h : i < l.length) : l[i]? = some (l.getD i 0) := by rw [List.getD_eq_getElem?_getD, List.getElem?_eq_getElem h]; rfl
theorem rng_f {y : Int} (h : 0 ≤ y ∧ y ≤ 10000) : (bif decide (y < 0) then true else decide (y > 10000)) = false := by
  rw [decide_eq_false (by omega), decide_eq_false (by omega)]; rfl
theorem end_f {a m b : Int} (h : m ≤ b) : (bif a != a then true else decide (m > b)) = false := by
  rw [bne_self_eq_false, decide_eq_false (by omega)]; rfl
theorem nn_f {a b : Int} (h1 : a ≠ 0) (h : b = 0 → False) : True := trivial
theorem lfewest_fn (vs am : List Int) (ot : List Int) (hot : ∀ x ∈ ot, 0 ≤ x ∧ x < 256) : FnC Tryd.prog 6 [tillAV vs am, u8sAV ot] (bv true) := by
  have s1 := coins_fn vs am
  have haw := awake_fn
  have tf : ¬ (true = false) := by decide
  have ft : ¬ (false = true) := by decide
  have hvl : (vs.map (fun n : Int => [PV.v (.int .i64 n)])).length = vs.length := List.length_map _
  have hal : (am.map (fun n : Int => [PV.v (.int .i64 n)])).length = am.length := List.length_map _
  have hol : (ot.map (fun n : Int => [PV.v (.int .u8 n)])).length = ot.length := List.length_map _
  rcases coinsP_cases vs am with ⟨he, e1⟩ | ⟨hok, ham, har, e1⟩
  · rw [e1] at s1
    clear e1
    generalize (coinsP vs am).2 = e at *
    have hcn : ∀ b : Bool, (bif e != 0 then true else b) = true := fun b => by rw [show (e != 0) = true by simpa using he]; rfl
    have hcn2 : ∀ b : Bool, (bif (bif e != 0 then true else b) then true else b) = true := fun b => by rw [hcn b]; rfl
    have hne : (e != 0) = true := by simpa using he
    refine FnC_of_AW hTt Tryd.func6 rfl (by kernel_rfl) (res := [.tmp 4]) rfl Tryd.ntmps6 (by simp) fun w0 K0 => ?_
    dsimp only [entry]
    repeat' first | with_reducible refine AW_seq ?_ | with_reducible refine AW_block ?_ | ((first | with_reducible refine AW_skip ?_ | with_reducible refine AW_ret ?_ | with_reducible refine AW_region hTt ?_ | ((refine ⟨_, (s1).call rfl rfl, ?_⟩); (rintro _ _ ⟨rfl, rfl⟩)) | refine ⟨_, fun _ => (haw).call rfl rfl, ?_⟩ | fail); conv => whnf) | (rw [hne] at hb; exact absurd hb tf) | ((refine And.intro (fun h => nt_f3 h) ?_); conv => whnf) | (refine AW_cond rfl (fun hb => ?_) (fun hb => ?_) <;> first | (replace hb := of_decide_eq_true hb; try simp only [List.length_map] at hb) | (replace hb := of_decide_eq_false hb; try simp only [List.length_map] at hb) | (simp only [List.length_map, bne_iff_ne, ne_eq, beq_iff_eq, bne_eq_false_iff_eq, beq_eq_false_iff_ne, decide_eq_true_eq, decide_eq_false_iff_not, Bool.not_eq_true', Bool.not_eq_false', Int.natCast_inj] at hb) | skip) | ((refine andA ?_); conv => whnf) | fail
    exact congrArg (fun b : Bool => some (bv b)) (show _ = true by rw [hne]; rfl)
  · have hv1 := hok.len
    have hll : ((am.map (coinsOf vs)).map (fun r : List Int => [intsPV r])).length = am.length := by rw [List.length_map, List.length_map]
    rw [e1] at s1
    clear e1
    dsimp only at s1
    have hc0 : (bif (bif (0 : Int) != 0 then true else ((vs.length : Int) == 0)) then true else ((am.length : Int) != (am.length : Int))) = false := by
      rw [bne_self_eq_false, bne_self_eq_false, show ((vs.length : Int) == 0) = false from by rw [beq_eq_false_iff_ne]; omega]; rfl
    refine FnC_of_AW hTt Tryd.func6 rfl (by kernel_rfl) (res := [.tmp 4]) rfl Tryd.ntmps6 (by simp) fun w0 K0 => ?_
    dsimp only [entry]
    repeat' first | with_reducible refine AW_seq ?_ | with_reducible refine AW_block ?_ | ((first | with_reducible refine AW_skip ?_ | with_reducible refine AW_region hTt ?_ | ((refine ⟨_, (s1).call rfl rfl, ?_⟩); (rintro _ _ ⟨rfl, rfl⟩)) | fail); conv => whnf) | (exact absurd (hc0.symm.trans hb) ft) | (refine AW_cond rfl (fun hb => ?_) (fun hb => ?_) <;> first | (replace hb := of_decide_eq_true hb; try simp only [List.length_map] at hb) | (replace hb := of_decide_eq_false hb; try simp only [List.length_map] at hb) | (simp only [List.length_map, bne_iff_ne, ne_eq, beq_iff_eq, bne_eq_false_iff_eq, beq_eq_false_iff_ne, decide_eq_true_eq, decide_eq_false_iff_not, Bool.not_eq_true', Bool.not_eq_false', Int.natCast_inj] at hb) | skip) | ((refine andA ?_); conv => whnf) | fail
    clear s1 hc0
    refine AW_loop (fun i : Nat => [(7, iv .i64 i), (5, rowsAV (am.map (coinsOf vs))), (2, .x (.b 2 0)), (1, u8sAV ot)]) (fun _ => [(2, .box [.d (intsPV vs), .d (intsPV am)])]) (fun i => i ≤ am.length) (fun i => am.length - i) 0 (Nat.zero_le _) impA ?_
    intro i hi
    rcases Nat.lt_or_ge i am.length with hil | hil
    · have e1 : (am.map (coinsOf vs))[i]? = some (coinsOf vs (am.getD i 0)) := by
        rw [List.getElem?_map, el_some hil]; rfl
      have e2 := el_some hil
      have hai := har _ (getD_in hil)
      obtain ⟨hrl, hrv, hrc, hrb⟩ := coins_are hok hai.1 hai.2
      have hrm : ((coinsOf vs (am.getD i 0)).map (fun n : Int => [PV.v (.int .i64 n)])).length = vs.length := by rw [List.length_map, hrl]
      have hbd := valC_bd (vs_rng hok) hrb
      generalize coinsOf vs (am.getD i 0) = r at *
      generalize am.getD i 0 = a at *
      have hLl : (am.map (coinsOf vs)).length = am.length := List.length_map _
      generalize am.map (coinsOf vs) = L at *
      have hlen0 : (((r.map (fun n : Int => [PV.v (.int .i64 n)])).length : Int) != ((vs.map (fun n : Int => [PV.v (.int .i64 n)])).length : Int)) = false := by rw [hrm, hvl, bne_self_eq_false]
      repeat' first | with_reducible refine AW_seq ?_ | with_reducible refine AW_block ?_ | ((first | with_reducible refine AW_skip ?_ | with_reducible refine AW_exit ?_ | with_reducible refine AW_ret ?_ | with_reducible refine AW_region hTt ?_ | refine AW_draw hTt hMix (id := 8) 8 false [0, 0, 3, 7, 15, 0, 32, 96, 255] (by kernel_rfl) rfl rfl (by kernel_rfl) ?_ | fail); conv => whnf) | (exact absurd hb (by omega)) | ((refine Exists.intro _ (And.intro (gd_any (And.intro (by omega) (map_some e1))) ?_)); conv => whnf) | (refine AW_cond rfl (fun hb => ?_) (fun hb => ?_) <;> first | (replace hb := of_decide_eq_true hb; try simp only [List.length_map] at hb) | (replace hb := of_decide_eq_false hb; try simp only [List.length_map] at hb) | (simp only [List.length_map, bne_iff_ne, ne_eq, beq_iff_eq, bne_eq_false_iff_eq, beq_eq_false_iff_ne, decide_eq_true_eq, decide_eq_false_iff_not, Bool.not_eq_true', Bool.not_eq_false', Int.natCast_inj] at hb) | skip) | ((refine andA ?_); conv => whnf) | (refine fun hln => ?_; (try rw [List.length_map] at hln); unfold maxLen at hln; conv => whnf) | fail
      refine AW_loop (fun k : Nat => [(10, iv .i64 k), (8, iv .i64 (valC vs r k)), (9, iv .i64 (cntC r k)), (7, iv .i64 i), (5, rowsAV L), (2, .x (.b 2 0)), (1, u8sAV ot)]) (fun _ => [(2, .box [.d (intsPV vs), .d (intsPV am)])]) (fun k => k ≤ vs.length) (fun k => vs.length - k) 0 (Nat.zero_le _) impA ?_
      intro k hk
      rcases Nat.lt_or_ge k vs.length with hkl | hkl
      · have e3 := el_some (l := r) (i := k) (by omega)
        have e4 := el_some hkl
        have hy := hrb k
        have hx := vs_rng hok k
        have m := mul_bd (a := r.getD k 0) (b := vs.getD k 0) (A := 10000) (B := 10000) (by omega) (by omega)
        have hb0 := hbd k
        have n1 : valC vs r (k + 1) = valC vs r k + r.getD k 0 * vs.getD k 0 := rfl
        have n2 : cntC r (k + 1) = cntC r k + r.getD k 0 := rfl
        generalize vs.getD k 0 = x at *
        generalize r.getD k 0 = y at *
        have w1 : IntKind.i64.wrap (y * x) = y * x := wrap_of (by omega)
        have hyf := rng_f hy
        clear hbd hrb har
        repeat' first | with_reducible refine AW_seq ?_ | with_reducible refine AW_block ?_ | ((first | with_reducible refine AW_skip ?_ | with_reducible refine AW_exit ?_ | with_reducible refine AW_ret ?_ | with_reducible refine AW_region hTt ?_ | refine AW_draw hTt hMix (id := 15) 25 false [0, 0, 0, 6, 14, 0, 62, 126, 0, 256, 0, 1792, 3840, 8190, 16383, 0, 0, 0, 196608, 458752, 0, 2031616, 4128768, 8355840, 32767, 33554431] (by kernel_rfl) rfl rfl (by kernel_rfl) ?_ | fail); conv => whnf) | (exact absurd hb (by omega)) | (exact absurd (hyf.symm.trans hb) ft) | ((first | refine Exists.intro _ (And.intro (gd_any (And.intro (by omega) (map_some e1))) ?_) | refine Exists.intro _ (And.intro (gd_any (And.intro (by omega) (map_some e3))) ?_) | refine Exists.intro _ (And.intro (gd_any (And.intro (by omega) (map_some e4))) ?_) | refine ⟨_, w1, ?_⟩ | fail); conv => whnf) | (refine AW_cond rfl (fun hb => ?_) (fun hb => ?_) <;> first | (replace hb := of_decide_eq_true hb; try simp only [List.length_map] at hb) | (replace hb := of_decide_eq_false hb; try simp only [List.length_map] at hb) | (simp only [List.length_map, bne_iff_ne, ne_eq, beq_iff_eq, bne_eq_false_iff_eq, beq_eq_false_iff_ne, decide_eq_true_eq, decide_eq_false_iff_not, Bool.not_eq_true', Bool.not_eq_false', Int.natCast_inj] at hb) | skip) | ((first | refine ⟨_, wrap_of (by first | omega | (simp only [List.length_map]; omega)), ?_⟩ | refine andA ?_ | fail); conv => whnf) | (refine fun hln => ?_; (try rw [List.length_map] at hln); unfold maxLen at hln; conv => whnf) | fail
        refine ⟨k + 1, by omega, by omega, ?_⟩
        rw [n1, n2]
        exact impA
      · obtain rfl : k = vs.length := by omega
        rw [hrv, hrc]
        have hwy := (way_is hok a.toNat).1
        clear hbd hrb
        have hne : ((vs.map (fun n : Int => [PV.v (.int .i64 n)])).length : Int) ≠ 0 := by omega
        have hw0 := (way_is hok a.toNat).1
        generalize hW0 : (wayAt vs a.toNat).1 = W0 at *
        repeat' first | with_reducible refine AW_seq ?_ | with_reducible refine AW_block ?_ | ((first | with_reducible refine AW_skip ?_ | with_reducible refine AW_exit ?_ | with_reducible refine AW_region hTt ?_ | fail); conv => whnf) | (exact absurd hb (by omega)) | ((first | refine Exists.intro _ (And.intro (gd_any (And.intro (by omega) (map_some e1))) ?_) | refine Exists.intro _ (And.intro (gd_any (And.intro (by omega) (map_some e2))) ?_) | fail); conv => whnf) | (refine AW_cond rfl (fun hb => ?_) (fun hb => ?_) <;> first | (replace hb := of_decide_eq_true hb; try simp only [List.length_map] at hb) | (replace hb := of_decide_eq_false hb; try simp only [List.length_map] at hb) | (simp only [List.length_map, bne_iff_ne, ne_eq, beq_iff_eq, bne_eq_false_iff_eq, beq_eq_false_iff_ne, decide_eq_true_eq, decide_eq_false_iff_not, Bool.not_eq_true', Bool.not_eq_false', Int.natCast_inj] at hb) | skip) | ((refine andA ?_); conv => whnf) | (refine fun hln => ?_; (try rw [List.length_map] at hln); unfold maxLen at hln; conv => whnf) | fail
        refine AW_loop (fun q : Nat × Int × Int => [(13, iv .i64 q.1), (11, iv .i64 q.2.1), (12, iv .i64 q.2.2), (8, iv .i64 a), (9, iv .i64 W0), (7, iv .i64 i), (5, rowsAV L), (2, .x (.b 2 0)), (1, u8sAV ot)]) (fun _ => [(2, .box [.d (intsPV vs), .d (intsPV am)])])
          (fun q => q.1 ≤ ot.length ∧ (0 ≤ q.2.1 ∧ q.2.1 ≤ 10000) ∧ (0 ≤ q.2.2 ∧ q.2.2 + q.2.1 ≤ 10000) ∧ W0 ≤ q.2.2 + (wayAt vs q.2.1.toNat).1) (fun q => ot.length - q.1) (0, a, 0) ⟨Nat.zero_le _, hai, by dsimp only; omega, by dsimp only; omega⟩ impA ?_
        rintro ⟨k, left, cn⟩ ⟨hk, hlf, hcb, hW⟩
        dsimp only at hk hlf hcb hW ⊢
        rcases Nat.lt_or_ge k ot.length with hkl | hkl
        · have e5 : ot[k]? = some (ot.getD k 0) := el_some hkl
          have hx := hot _ (getD_in hkl)
          generalize ot.getD k 0 = x at *
          obtain ⟨j, hj, hj'⟩ : ∃ m : Nat, x.tmod ((vs.map (fun n : Int => [PV.v (.int .i64 n)])).length : Int) = m ∧ m < vs.length := by
            have h0 := Int.emod_nonneg x hne
            have h1 := Int.emod_lt_of_pos x (show (0 : Int) < ((vs.map (fun n : Int => [PV.v (.int .i64 n)])).length : Int) by omega)
            exact ⟨(x % ((vs.map (fun n : Int => [PV.v (.int .i64 n)])).length : Int)).toNat, by rw [Int.tmod_eq_emod_of_nonneg hx.1]; omega, by omega⟩
          have e6 := el_some hj'
          have hv := hok.rng _ (getD_in hj')
          have hos := fun h => other_step hok hj' (n := left) hlf.1 h
          generalize vs.getD j 0 = v at *
          by_cases hle : v ≤ left
          · have hos := hos hle
            have hnx : W0 ≤ cn + 1 + (wayAt vs (left - v).toNat).1 := by omega
            clear hW hos e1 e2
            repeat' first | with_reducible refine AW_seq ?_ | with_reducible refine AW_block ?_ | ((first | with_reducible refine AW_skip ?_ | with_reducible refine AW_exit ?_ | with_reducible refine AW_region hTt ?_ | refine AW_draw hTt hMix (id := 20) 11 false [0, 1, 0, 0, 12, 28, 60, 0, 128, 384, 1020, 2047, 4095, 8191] (by kernel_rfl) rfl rfl (by kernel_rfl) ?_ | fail); conv => whnf) | (exact absurd hb (by omega)) | ((first | refine Exists.intro _ (And.intro (gd_any (And.intro (by omega) (map_some e5))) ?_) | refine And.intro (gd_none hne) ?_ | refine ⟨(j : Int), hj, ?_⟩ | refine Exists.intro _ (And.intro (gd_any (And.intro (by omega) (map_some e6))) ?_) | fail); conv => whnf) | (refine AW_cond rfl (fun hb => ?_) (fun hb => ?_) <;> first | (replace hb := of_decide_eq_true hb; try simp only [List.length_map] at hb) | (replace hb := of_decide_eq_false hb; try simp only [List.length_map] at hb) | (simp only [List.length_map, bne_iff_ne, ne_eq, beq_iff_eq, bne_eq_false_iff_eq, beq_eq_false_iff_ne, decide_eq_true_eq, decide_eq_false_iff_not, Bool.not_eq_true', Bool.not_eq_false', Int.natCast_inj] at hb) | skip) | ((first | refine ⟨_, wrap_of (by first | omega | (simp only [List.length_map]; omega)), ?_⟩ | refine andA ?_ | fail); conv => whnf) | (refine fun hln => ?_; (try rw [List.length_map] at hln); unfold maxLen at hln; conv => whnf) | fail
            exact ⟨(k + 1, left - v, cn + 1), ⟨hkl, by dsimp only; omega, by dsimp only; omega, hnx⟩, by show ot.length - (k + 1) < ot.length - k; omega, impA⟩
          · clear hos e1 e2
            repeat' first | with_reducible refine AW_seq ?_ | with_reducible refine AW_block ?_ | ((first | with_reducible refine AW_skip ?_ | with_reducible refine AW_exit ?_ | with_reducible refine AW_region hTt ?_ | refine AW_draw hTt hMix (id := 20) 11 false [0, 1, 0, 0, 12, 28, 60, 0, 128, 384, 1020, 2047, 4095, 8191] (by kernel_rfl) rfl rfl (by kernel_rfl) ?_ | fail); conv => whnf) | (exact absurd hb (by omega)) | ((first | refine Exists.intro _ (And.intro (gd_any (And.intro (by omega) (map_some e5))) ?_) | refine And.intro (gd_none hne) ?_ | refine ⟨(j : Int), hj, ?_⟩ | refine Exists.intro _ (And.intro (gd_any (And.intro (by omega) (map_some e6))) ?_) | fail); conv => whnf) | (refine AW_cond rfl (fun hb => ?_) (fun hb => ?_) <;> first | (replace hb := of_decide_eq_true hb; try simp only [List.length_map] at hb) | (replace hb := of_decide_eq_false hb; try simp only [List.length_map] at hb) | (simp only [List.length_map, bne_iff_ne, ne_eq, beq_iff_eq, bne_eq_false_iff_eq, beq_eq_false_iff_ne, decide_eq_true_eq, decide_eq_false_iff_not, Bool.not_eq_true', Bool.not_eq_false', Int.natCast_inj] at hb) | skip) | ((first | refine ⟨_, wrap_of (by first | omega | (simp only [List.length_map]; omega)), ?_⟩ | refine andA ?_ | fail); conv => whnf) | (refine fun hln => ?_; (try rw [List.length_map] at hln); unfold maxLen at hln; conv => whnf) | fail
            exact ⟨(k + 1, left, cn), ⟨hkl, hlf, hcb, hW⟩, by show ot.length - (k + 1) < ot.length - k; omega, impA⟩
        · have hwl := (way_is hok left.toNat).1
          have hend : W0 ≤ cn + left := by omega
          have hef := end_f (a := a) hend
          clear hW hwl
          repeat' first | with_reducible refine AW_seq ?_ | with_reducible refine AW_block ?_ | ((first | with_reducible refine AW_skip ?_ | with_reducible refine AW_exit ?_ | with_reducible refine AW_ret ?_ | with_reducible refine AW_region hTt ?_ | refine AW_draw hTt hMix (id := 20) 11 false [0, 1, 0, 0, 12, 28, 60, 0, 128, 384, 1020, 2047, 4095, 8191] (by kernel_rfl) rfl rfl (by kernel_rfl) ?_ | fail); conv => whnf) | (exact absurd hb (by omega)) | (exact absurd (hef.symm.trans hb) ft) | ((refine Exists.intro _ (And.intro (gd_any (And.intro (by omega) (map_some e2))) ?_)); conv => whnf) | (refine AW_cond rfl (fun hb => ?_) (fun hb => ?_) <;> first | (replace hb := of_decide_eq_true hb; try simp only [List.length_map] at hb) | (replace hb := of_decide_eq_false hb; try simp only [List.length_map] at hb) | (simp only [List.length_map, bne_iff_ne, ne_eq, beq_iff_eq, bne_eq_false_iff_eq, beq_eq_false_iff_ne, decide_eq_true_eq, decide_eq_false_iff_not, Bool.not_eq_true', Bool.not_eq_false', Int.natCast_inj] at hb) | skip) | ((first | refine ⟨_, wrap_of (by first | omega | (simp only [List.length_map]; omega)), ?_⟩ | refine andA ?_ | fail); conv => whnf) | (refine fun hln => ?_; (try rw [List.length_map] at hln); unfold maxLen at hln; conv => whnf) | fail
          exact ⟨i + 1, hil, by omega, impA⟩
    · obtain rfl : i = am.length := by omega
      repeat' first | with_reducible refine AW_seq ?_ | with_reducible refine AW_block ?_ | ((first | with_reducible refine AW_skip ?_ | with_reducible refine AW_exit ?_ | with_reducible refine AW_ret ?_ | with_reducible refine AW_region hTt ?_ | refine AW_draw hTt hMix (id := 8) 8 false [0, 0, 3, 7, 15, 0, 32, 96, 255] (by kernel_rfl) rfl rfl (by kernel_rfl) ?_ | fail); conv => whnf) | (exact absurd hb (by omega)) | ((refine ⟨_, (haw).call rfl rfl, ?_⟩); (rintro _ _ ⟨rfl, rfl⟩); conv => whnf) | (refine AW_cond rfl (fun hb => ?_) (fun hb => ?_) <;> first | (replace hb := of_decide_eq_true hb; try simp only [List.length_map] at hb) | (replace hb := of_decide_eq_false hb; try simp only [List.length_map] at hb) | (simp only [List.length_map, bne_iff_ne, ne_eq, beq_iff_eq, bne_eq_false_iff_eq, beq_eq_false_iff_ne, decide_eq_true_eq, decide_eq_false_iff_not, Bool.not_eq_true', Bool.not_eq_false', Int.natCast_inj] at hb) | skip) | (refine fun hln => ?_; (try rw [List.length_map] at hln); unfold maxLen at hln; conv => whnf) | fail
      rfl
end Go.Proofs.YtnpleednkmhhhabDoor
