/- What the functions that this law reaches return: part 0. No condition. -/
import Derived.Test.YtnpleednkmhhhaaDoorB04
set_option linter.all false
namespace Go.Proofs.YtnpleednkmhhhaaDoor
open Go Go.QL
set_option maxHeartbeats 1600000
def rdL : List UInt8 → Nat → Int → Int → Int → Option (Int × Int × Int)
  | [], _, n, b, s => some (n, b, s)
  | c :: r, i, n, b, s => if i = 0 ∧ c.toNat = 45 then rdL r (i + 1) n b (-1) else if c.toNat = 46 ∧ b < 0 then rdL r (i + 1) n 0 s
    else if c.toNat < 48 ∨ 57 < c.toNat ∨ 1000000000000000000 < n then none else rdL r (i + 1) (10 * n + ((c.toNat : Int) - 48)) (if 0 ≤ b then b + 1 else b) s
def valL (n : Int) (l : List UInt8) : Int := l.foldl (fun n c => 10 * n + ((c.toNat : Int) - 48)) n
theorem valL_nil (n : Int) : valL n [] = n := rfl
theorem valL_cons (n : Int) (c : UInt8) (l : List UInt8) : valL n (c :: l) = valL (10 * n + ((c.toNat : Int) - 48)) l := rfl
theorem valL_app (n : Int) (a b : List UInt8) : valL n (a ++ b) = valL (valL n a) b := by unfold valL; exact List.foldl_append
theorem valL_le : ∀ (l : List UInt8) (n : Int), (∀ c ∈ l, 48 ≤ c.toNat ∧ c.toNat ≤ 57) → 0 ≤ n → n ≤ valL n l
  | [], n, _, _ => Int.le_refl _
  | c :: l, n, h, h0 => by
    rw [valL_cons]
    have hc := h c List.mem_cons_self
    have := valL_le l (10 * n + ((c.toNat : Int) - 48)) (fun x hx => h x (List.mem_cons_of_mem _ hx)) (by omega)
    omega
theorem rd_dig : ∀ (l r : List UInt8) (i : Nat) (n b s : Int), (∀ c ∈ l, 48 ≤ c.toNat ∧ c.toNat ≤ 57) → 0 ≤ n → valL n l ≤ 1000000000000000000 →
    rdL (l ++ r) i n b s = rdL r (i + l.length) (valL n l) (if 0 ≤ b then b + l.length else b) s
  | [], r, i, n, b, s, _, _, _ => by simp [valL_nil]
  | c :: l, r, i, n, b, s, h, h0, hv => by
    have hc := h c List.mem_cons_self
    have hl := fun x hx => h x (List.mem_cons_of_mem c hx)
    rw [valL_cons] at hv ⊢
    have hm := valL_le l (10 * n + ((c.toNat : Int) - 48)) hl (by omega)
    rw [List.cons_append]
    simp only [rdL]
    rw [if_neg (by omega), if_neg (by omega), if_neg (by omega), rd_dig l r (i + 1) _ _ s hl (by omega) hv]
    have e1 : i + 1 + l.length = i + (c :: l).length := by rw [List.length_cons]; omega
    have e2 : (if 0 ≤ (if 0 ≤ b then b + 1 else b) then (if 0 ≤ b then b + 1 else b) + (l.length : Int) else (if 0 ≤ b then b + 1 else b)) = if 0 ≤ b then b + ((c :: l).length : Int) else b := by
      rw [List.length_cons]
      by_cases hb : 0 ≤ b
      · rw [if_pos hb, if_pos (by omega), if_pos hb]; omega
      · rw [if_neg hb, if_neg hb, if_neg hb]
    rw [e1, e2]
theorem valL_zeros : ∀ k, valL 0 (Lib.repeatL [48] k) = 0
  | 0 => rfl
  | k + 1 => by
    rw [Lib.repeatL, valL_app]
    exact valL_zeros k
theorem valL_dec (u : Nat) : valL 0 (Lib.decDigits u) = u := by
  induction u using Nat.strongRecOn with
  | _ u ih =>
    rw [Lib.decDigits]
    by_cases h : u < 10
    · rw [dif_pos h, valL_cons, valL_nil, UInt8.toNat_ofNat', Nat.mod_eq_of_lt (by omega)]; omega
    · rw [dif_neg h, valL_app, ih (u / 10) (by omega), valL_cons, valL_nil, UInt8.toNat_ofNat', Nat.mod_eq_of_lt (by omega)]; omega
theorem valL_pad {x : R2} {p : Nat} (h : 0 ≤ unitsP x p) : valL 0 (padL x p) = unitsP x p := by
  unfold padL
  rw [valL_app, valL_zeros]
  unfold Lib.itoa
  rw [if_neg (by omega), valL_dec]; omega
theorem getD_list (s : ByteArray) (n : Nat) (h : n < s.data.toList.length) : s.data.getD n 0 = s.data.toList[n] := by
  have h2 : n < s.data.size := by rw [Array.length_toList] at h; exact h
  unfold Array.getD; rw [dif_pos h2]; rfl
theorem dot_lt (s : ByteArray) (kd : Nat) : ∀ n, n ≤ kd → n ≤ s.size → dotTo s kd n = s.data.toList.take n
  | 0, _, _ => by simp [dotTo]
  | n + 1, h, h2 => by
    have hd : n < s.data.toList.length := by rw [Array.length_toList]; exact h2
    rw [dotTo_succ, dot_lt s kd n (by omega) (by omega), if_neg (by omega), List.take_add_one, List.getElem?_eq_getElem hd]
    rw [getD_list s n hd]; rfl
theorem dot_ge (s : ByteArray) (kd : Nat) (hk : kd < s.size) : ∀ m, kd + m + 1 ≤ s.size → dotTo s kd (kd + m + 1) = s.data.toList.take kd ++ 46 :: (s.data.toList.drop kd).take (m + 1)
  | 0, h => by
    have hd : kd < s.data.toList.length := by rw [Array.length_toList]; exact hk
    have : kd < s.data.size := hk
    rw [dotTo_succ, Nat.add_zero, if_pos rfl, dot_lt s kd kd (Nat.le_refl _) (by omega)]
    congr 1
    rw [List.drop_eq_getElem_cons hd, getD_list s kd hd]; rfl
  | m + 1, h => by
    have hd : kd + (m + 1) < s.data.toList.length := by rw [Array.length_toList]; show _ < s.size; omega
    have h5 : kd + (m + 1) < s.data.size := by show _ < s.size; omega
    rw [dotTo_succ, if_neg (by omega), show kd + (m + 1) = kd + m + 1 by omega, dot_ge s kd hk m (by omega), List.append_assoc]
    congr 1
    rw [List.cons_append]
    congr 1
    rw [List.take_add_one (i := m + 1), List.getElem?_drop, List.getElem?_eq_getElem (by rw [show kd + (m + 1) = kd + m + 1 by omega] at hd; exact hd)]
    have hd2 : kd + m + 1 < s.data.toList.length := by rw [show kd + m + 1 = kd + (m + 1) by omega]; exact hd
    rw [getD_list s (kd + m + 1) hd2]; rfl
theorem dot_all (s : ByteArray) (p : Nat) (hp : p ≤ s.size) : dotTo s (s.size - p) s.size = s.data.toList.take (s.size - p) ++ (if p = 0 then [] else 46 :: s.data.toList.drop (s.size - p)) := by
  by_cases h : p = 0
  · subst h
    rw [if_pos rfl, Nat.sub_zero, dot_lt s _ _ (Nat.le_refl _) (Nat.le_refl _), List.append_nil]
  · rw [if_neg h]
    have := dot_ge s (s.size - p) (by omega) (p - 1) (by omega)
    rw [show s.size - p + (p - 1) + 1 = s.size by omega, show p - 1 + 1 = p by omega] at this
    rw [this, List.take_of_length_le (l := List.drop (s.size - p) s.data.toList)]
    rw [List.length_drop, Array.length_toList]
    show s.size - (s.size - p) ≤ p
    omega
theorem padS_len {x : R2} {p : Nat} (h : 0 ≤ unitsP x p) : p + 1 ≤ (padS x p).size := by
  show p + 1 ≤ (padL x p).toArray.size
  rw [List.size_toArray]
  unfold padL
  rw [List.length_append, Lib.repeatL_length]
  simp only [List.length_singleton]
  omega
theorem rd_print {x : R2} {p : Nat} (h0 : 0 ≤ unitsP x p) (h1 : unitsP x p ≤ 1000000000000000000) :
    rdL (printB x p) 0 0 (-1) 1 = some (unitsP x p, if p = 0 then -1 else (p : Int), if x.1 < 0 ∧ 0 < unitsP x p then -1 else 1) := by
  have hl := padS_len h0
  have hdig := padL_dig h0
  have hv := valL_pad h0
  have hS : (padS x p).data.toList = padL x p := rfl
  have hsz : (padS x p).size = (padL x p).length := rfl
  have key : ∀ (i : Nat) (s : Int), rdL (dotTo (padS x p) ((padS x p).size - p) (padS x p).size) i 0 (-1) s = some (unitsP x p, if p = 0 then -1 else (p : Int), s) := by
    intro i s
    rw [dot_all _ _ (by omega), hS]
    have ha : valL 0 ((padL x p).take ((padS x p).size - p)) ≤ 1000000000000000000 := by
      have e : valL 0 (padL x p) = valL (valL 0 ((padL x p).take ((padS x p).size - p))) ((padL x p).drop ((padS x p).size - p)) := by rw [← valL_app, List.take_append_drop]
      have g := valL_le ((padL x p).take ((padS x p).size - p)) 0 (fun c hc => hdig c (List.mem_of_mem_take hc)) (Int.le_refl _)
      have := valL_le ((padL x p).drop ((padS x p).size - p)) (valL 0 ((padL x p).take ((padS x p).size - p))) (fun c hc => hdig c (List.mem_of_mem_drop hc)) g
      omega
    have h00 := valL_le ((padL x p).take ((padS x p).size - p)) 0 (fun c hc => hdig c (List.mem_of_mem_take hc)) (Int.le_refl _)
    rw [rd_dig _ _ _ _ _ _ (fun c hc => hdig c (List.mem_of_mem_take hc)) (Int.le_refl _) ha, if_neg (show ¬ (0 : Int) ≤ -1 by decide)]
    have e : valL (valL 0 ((padL x p).take ((padS x p).size - p))) ((padL x p).drop ((padS x p).size - p)) = unitsP x p := by rw [← valL_app, List.take_append_drop, hv]
    by_cases hp : p = 0
    · rw [if_pos hp, if_pos hp]
      simp only [rdL]
      subst hp
      rw [Nat.sub_zero, hsz, List.drop_length, valL_nil] at e
      rw [Nat.sub_zero, hsz, e]
    · rw [if_neg hp, if_neg hp]
      simp only [rdL]
      have hne : (46 : UInt8).toNat = 46 := rfl
      rw [hne, if_neg (by omega), if_pos ⟨rfl, by decide⟩]
      have := rd_dig ((padL x p).drop ((padS x p).size - p)) [] (i + ((padL x p).take ((padS x p).size - p)).length + 1) (valL 0 ((padL x p).take ((padS x p).size - p))) 0 s (fun c hc => hdig c (List.mem_of_mem_drop hc)) h00 (by rw [e]; exact h1)
      rw [List.append_nil] at this
      rw [this, e]
      simp only [rdL]
      rw [if_pos (Int.le_refl _), List.length_drop, ← hsz]
      congr 2
      rw [show (padS x p).size - ((padS x p).size - p) = p by omega]; simp
  unfold printB
  by_cases hn : x.1 < 0 ∧ 0 < unitsP x p
  · rw [if_pos hn, if_pos hn]
    show rdL (45 :: dotTo _ _ _) 0 0 (-1) 1 = _
    simp only [rdL]
    rw [if_pos ⟨trivial, rfl⟩]
    exact key 1 (-1)
  · rw [if_neg hn, if_neg hn, List.nil_append]
    exact key 0 1
theorem units_le {x : R2} {p : Nat} (hx : -1000000000000 ≤ x.1 ∧ x.1 ≤ 1000000000000) (hd : 1 ≤ x.2 ∧ x.2 ≤ 1000000000000) (hp : p ≤ 6) :
    0 ≤ unitsP x p ∧ unitsP x p ≤ 1000000000000000000 ∧ 2 * x.2 * unitsP x p ≤ 2 * ((x.1.natAbs : Int) * 10 ^ p) + x.2 ∧ 2 * ((x.1.natAbs : Int) * 10 ^ p) + x.2 < 2 * x.2 * unitsP x p + 2 * x.2 := by
  obtain ⟨h1, h2, h3⟩ := units_rng hx hd hp
  have e : unitsP x p = (2 * ((x.1.natAbs : Int) * 10 ^ p) + x.2) / (2 * x.2) := by unfold unitsP; rw [Int.tdiv_eq_ediv_of_nonneg (by omega)]
  generalize (x.1.natAbs : Int) * 10 ^ p = M at *
  have q1 := Int.mul_ediv_self_le (x := 2 * M + x.2) (k := 2 * x.2) (by omega)
  have q2 := Int.lt_mul_ediv_self_add (x := 2 * M + x.2) (k := 2 * x.2) (by omega)
  rw [← e] at q1 q2
  refine ⟨h2, ?_, q1, by omega⟩
  rcases Int.lt_or_le 1 x.2 with hd1 | hd1
  · have h4 : 4 * unitsP x p ≤ 2 * x.2 * unitsP x p := Int.mul_le_mul_of_nonneg_right (by omega) h2
    omega
  · have : x.2 = 1 := by omega
    rw [this] at q1 q2; omega
end Go.Proofs.YtnpleednkmhhhaaDoor
namespace Go.Proofs.YtnpleednkmhhhaaDoor
open Go Go.QL
set_option maxHeartbeats 1600000
def digR : Nat → Nat → Nat → List UInt8
  | 0, _, _ => []
  | f + 1, k, m => if m = 0 ∧ k = 0 then [] else digR f (k - 1) (m / 10) ++ [UInt8.ofNat (48 + m % 10)]
def digG (k m : Nat) : List UInt8 := digR (k + m) k m
theorem digR_fuel : ∀ (f g k m : Nat), k + m ≤ f → k + m ≤ g → digR f k m = digR g k m
  | 0, 0, _, _, _, _ => rfl
  | 0, g + 1, k, m, h, _ => by
    have : m = 0 ∧ k = 0 := by omega
    simp only [digR, if_pos this]
  | f + 1, 0, k, m, _, h => by
    have : m = 0 ∧ k = 0 := by omega
    simp only [digR, if_pos this]
  | f + 1, g + 1, k, m, h1, h2 => by
    simp only [digR]
    by_cases h : m = 0 ∧ k = 0
    · rw [if_pos h, if_pos h]
    · rw [if_neg h, if_neg h, digR_fuel f g (k - 1) (m / 10) (by omega) (by omega)]
theorem digG_zero : digG 0 0 = [] := rfl
theorem digG_step {k m : Nat} (h : ¬ (m = 0 ∧ k = 0)) : digG k m = digG (k - 1) (m / 10) ++ [UInt8.ofNat (48 + m % 10)] := by
  unfold digG
  obtain ⟨f, hf⟩ : ∃ f, k + m = f + 1 := ⟨k + m - 1, by omega⟩
  rw [hf]
  simp only [digR]
  rw [if_neg h, digR_fuel f (k - 1 + m / 10) (k - 1) (m / 10) (by omega) (Nat.le_refl _)]
theorem digG_zeros : ∀ k, digG k 0 = Lib.repeatL [48] k
  | 0 => rfl
  | k + 1 => by
    rw [digG_step (by omega), Nat.add_sub_cancel, Nat.zero_div, digG_zeros k]
    have : ∀ j, Lib.repeatL [48] j ++ [48] = Lib.repeatL [48] (j + 1) := by
      intro j
      induction j with
      | zero => rfl
      | succ j ih => rw [Lib.repeatL, List.append_assoc, ih]; rfl
    exact this k
theorem rep_snoc (j : Nat) : Lib.repeatL [48] j ++ [48] = Lib.repeatL [48] (j + 1) := by
  induction j with
  | zero => rfl
  | succ j ih => rw [Lib.repeatL, List.append_assoc, ih]; rfl
theorem dec_len_pos (m : Nat) : 1 ≤ (Lib.decDigits m).length := by
  rw [Lib.decDigits]; split <;> simp
theorem digG_dec (m : Nat) : ∀ k, 1 ≤ k → digG k m = Lib.repeatL [48] (k - (Lib.decDigits m).length) ++ Lib.decDigits m := by
  induction m using Nat.strongRecOn with
  | _ m ih =>
    intro k hk
    rw [digG_step (by omega), Lib.decDigits]
    by_cases h : m < 10
    · rw [dif_pos h, Nat.div_eq_of_lt h, digG_zeros, Nat.mod_eq_of_lt h]; rfl
    · rw [dif_neg h]
      by_cases h1 : 1 ≤ k - 1
      · rw [ih (m / 10) (by omega) (k - 1) h1, List.append_assoc, List.length_append]
        congr 2
        simp only [List.length_singleton]; omega
      · have hk1 : k = 1 := by omega
        subst hk1
        rw [show 1 - 1 = 1 - 1 from rfl, Nat.sub_self]
        have h0 : digG 0 (m / 10) = digG 1 (m / 10) := by rw [digG_step (by omega), digG_step (k := 1) (by omega)]
        rw [h0, ih (m / 10) (by omega) 1 (Nat.le_refl _), List.append_assoc, List.length_append]
        congr 2
        have := dec_len_pos (m / 10)
        simp only [List.length_singleton]; omega
theorem digG_split (k : Nat) (hk : 1 ≤ k) : ∀ (p N : Nat), digG (k + p) N = digG k (N / 10 ^ p) ++ digG p (N % 10 ^ p)
  | 0, N => by simp [Nat.mod_one, digG_zero]
  | p + 1, N => by
    rw [digG_step (by omega), show k + (p + 1) - 1 = k + p by omega, digG_split k hk p (N / 10), digG_step (k := p + 1) (by omega), Nat.add_sub_cancel, ← List.append_assoc]
    have e1 : N / 10 / 10 ^ p = N / 10 ^ (p + 1) := by rw [Nat.div_div_eq_div_mul, Nat.pow_succ, Nat.mul_comm]
    have e2 : N % 10 ^ (p + 1) / 10 = N / 10 % 10 ^ p := by rw [Nat.pow_succ, Nat.mul_comm, Nat.mod_mul_right_div_self]
    have e3 : N % 10 ^ (p + 1) % 10 = N % 10 := by rw [Nat.pow_succ, Nat.mul_comm, Nat.mod_mul_right_mod]
    rw [e1, e2, e3]
theorem digG_len : ∀ (p m : Nat), m < 10 ^ p → (digG p m).length = p
  | 0, m, h => by
    have : m = 0 := by simpa using h
    subst this; rfl
  | p + 1, m, h => by
    rw [digG_step (by omega), List.length_append, Nat.add_sub_cancel, digG_len p (m / 10) (by rw [Nat.pow_succ] at h; omega)]; rfl
def rprintB (x : R2) (p : Nat) : List UInt8 :=
  (if x.1 < 0 ∧ 0 < unitsP x p then [45] else []) ++ (digG 1 ((unitsP x p).toNat / 10 ^ p) ++ (if p = 0 then [] else 46 :: digG p ((unitsP x p).toNat % 10 ^ p)))
theorem print_eq {x : R2} {p : Nat} (h : 0 ≤ unitsP x p) : printB x p = rprintB x p := by
  unfold printB rprintB
  congr 1
  have hl := padS_len h
  rw [dot_all _ _ (by omega)]
  have e : padL x p = digG 1 ((unitsP x p).toNat / 10 ^ p) ++ digG p ((unitsP x p).toNat % 10 ^ p) := by
    rw [← digG_split 1 (Nat.le_refl _), digG_dec _ _ (by omega)]
    unfold padL Lib.itoa
    rw [if_neg (by omega)]
    congr 2
    omega
  have hS : (padS x p).data.toList = padL x p := rfl
  have hsz : (padS x p).size = (padL x p).length := rfl
  have hln := digG_len p ((unitsP x p).toNat % 10 ^ p) (Nat.mod_lt _ (Nat.pow_pos (by decide)))
  rw [hS, hsz, e]
  rw [List.length_append, hln, Nat.add_sub_cancel, List.take_left' rfl, List.drop_left' rfl]
end Go.Proofs.YtnpleednkmhhhaaDoor
namespace Go.Proofs.YtnpleednkmhhhaaDoor
open Go Go.QL
set_option maxHeartbeats 1600000
attribute [local irreducible] ACall FnC YC
theorem in_eq {lo hi n : Int} : (bif decide (n ≥ lo) then decide (n ≤ hi) else false) = !outB lo hi n := by
  cases h : outB lo hi n with
  | false => have := outB_false.1 h; simp [this.1, this.2]
  | true =>
    have : ¬ (lo ≤ n ∧ n ≤ hi) := fun e => by rw [outB_false.2 e] at h; cases h
    cases h1 : decide (n ≥ lo) with
    | false => rfl
    | true => have := of_decide_eq_true h1; simp; omega
theorem rin_fn (n lo hi : Int) : FnC Tryd.prog 56 [iv .i64 n, iv .i64 lo, iv .i64 hi] (bv (!outB lo hi n)) := by
  rw [← in_eq]
  refine FnC_of_AW hTt Tryd.func56 rfl (by kernel_rfl) (res := [.tmp 6]) rfl Tryd.ntmps56 (by simp) fun w0 K0 => ?_
  dsimp only [entry]
  repeat' first | with_reducible refine AW_seq ?_ | ((first | with_reducible refine AW_ret ?_ | with_reducible refine AW_region hTt ?_ | refine andA ?_ | fail); conv => whnf) | fail
  rfl
theorem rall_fn (l : List Int) (hi : Int) (h : -4611686018427387904 ≤ hi ∧ hi ≤ 4611686018427387904) : FnC Tryd.prog 65 [sl l, iv .i64 hi] (bv (!outL (-hi) hi l)) := by
  have hll : (l.map (fun n : Int => [PV.v (.int .i64 n)])).length = l.length := List.length_map _
  rw [← Int.zero_sub hi]
  have hin := fun n => rin_fn n (0 - hi) hi
  refine FnC_of_AW hTt Tryd.func65 rfl (by kernel_rfl) (res := [.tmp 4]) rfl Tryd.ntmps65 (by simp) fun w0 K0 => ?_
  dsimp only [entry]
  repeat' first | with_reducible refine AW_seq ?_ | with_reducible refine AW_block ?_ | ((with_reducible refine AW_region hTt ?_); conv => whnf) | fail
  refine AW_loop (fun i : Nat => [(5, iv .i64 i), (0, sl l), (1, iv .i64 hi)]) (fun _ => [])
    (fun i => i ≤ l.length ∧ ∀ j (h1 : j < l.length), j < i → outB (0 - hi) hi l[j] = false) (fun i => l.length - i) 0 ⟨Nat.zero_le _, fun j _ h => absurd h (Nat.not_lt_zero _)⟩ impA ?_
  rintro i ⟨hi1, hz⟩
  rcases Nat.lt_or_ge i l.length with hil | hil
  · have ho := hin l[i]
    generalize hb0 : outB (0 - hi) hi l[i] = b at ho
    cases b with
    | true =>
      have hr : outL (0 - hi) hi l = true := List.any_eq_true.2 ⟨_, List.getElem_mem hil, hb0⟩
      rw [hr]
      clear hin hz hb0 hr
      repeat' first | with_reducible refine AW_seq ?_ | with_reducible refine AW_block ?_ | ((first | with_reducible refine AW_skip ?_ | with_reducible refine AW_exit ?_ | with_reducible refine AW_ret ?_ | with_reducible refine AW_region hTt ?_ | fail); conv => whnf) | (exact absurd hb (by omega)) | ((refine ⟨_, (ho).call rfl rfl, ?_⟩); (rintro _ _ ⟨rfl, rfl⟩); conv => whnf) | (refine AW_cond rfl (fun _ => ?_) (fun hb => absurd (show true = false from hb) (by decide))) | (refine AW_cond rfl (fun hb => ?_) (fun hb => ?_) <;> first | (replace hb := of_decide_eq_true hb; try simp only [List.length_map] at hb) | (replace hb := of_decide_eq_false hb; try simp only [List.length_map] at hb)) | ((first | refine ⟨_, wrap_of (by first | omega | (simp only [List.length_map]; omega)), ?_⟩ | refine andA ?_ | with_reducible refine Exists.intro _ (And.intro (gd_any (And.intro (by omega) (map_get (by omega)))) ?_) | fail); conv => whnf) | (refine fun hln => ?_; (try rw [List.length_map] at hln); unfold maxLen at hln; conv => whnf) | fail
      rfl
    | false =>
      clear hin
      repeat' first | with_reducible refine AW_seq ?_ | with_reducible refine AW_block ?_ | ((first | with_reducible refine AW_skip ?_ | with_reducible refine AW_exit ?_ | with_reducible refine AW_ret ?_ | with_reducible refine AW_region hTt ?_ | fail); conv => whnf) | (exact absurd hb (by omega)) | ((refine ⟨_, (ho).call rfl rfl, ?_⟩); (rintro _ _ ⟨rfl, rfl⟩); conv => whnf) | (refine AW_cond rfl (fun hb => absurd (show false = true from hb) (by decide)) (fun _ => ?_)) | (refine AW_cond rfl (fun hb => ?_) (fun hb => ?_) <;> first | (replace hb := of_decide_eq_true hb; try simp only [List.length_map] at hb) | (replace hb := of_decide_eq_false hb; try simp only [List.length_map] at hb)) | ((first | refine ⟨_, wrap_of (by first | omega | (simp only [List.length_map]; omega)), ?_⟩ | refine andA ?_ | with_reducible refine Exists.intro _ (And.intro (gd_any (And.intro (by omega) (map_get (by omega)))) ?_) | fail); conv => whnf) | (refine fun hln => ?_; (try rw [List.length_map] at hln); unfold maxLen at hln; conv => whnf) | fail
      exact ⟨i + 1, ⟨by omega, fun j h1 h3 => by
        by_cases e : j = i
        · subst e; exact hb0
        · exact hz j h1 (by omega)⟩, by omega, impA⟩
  · have hr : outL (0 - hi) hi l = false := outL_false.2 fun n hn => by
      obtain ⟨j, hj, rfl⟩ := List.getElem_of_mem hn
      exact outB_false.1 (hz j hj (by omega))
    rw [hr]
    repeat' first | with_reducible refine AW_seq ?_ | with_reducible refine AW_block ?_ | ((first | with_reducible refine AW_skip ?_ | with_reducible refine AW_exit ?_ | with_reducible refine AW_ret ?_ | with_reducible refine AW_region hTt ?_ | fail); conv => whnf) | (exact absurd hb (by omega)) | (refine AW_cond rfl (fun hb => ?_) (fun hb => ?_) <;> first | (replace hb := of_decide_eq_true hb; try simp only [List.length_map] at hb) | (replace hb := of_decide_eq_false hb; try simp only [List.length_map] at hb)) | (refine fun hln => ?_; (try rw [List.length_map] at hln); unfold maxLen at hln; conv => whnf) | fail
    rfl
theorem size_fn (n : Int) (h : lim n) : FnC Tryd.prog 35 [iv .i64 n] (iv .i64 (n.natAbs : Int)) := by
  unfold lim at h
  have w0 : IntKind.i64.wrap (0 - n) = -n := by rw [Int.zero_sub]; exact wrap_of (by omega)
  refine FnC_of_AW hTt Tryd.func35 rfl (by kernel_rfl) (res := [.tmp 2]) rfl Tryd.ntmps35 (by simp) fun w0 K0 => ?_
  dsimp only [entry]
  repeat' first | with_reducible refine AW_seq ?_ | ((first | with_reducible refine AW_ret ?_ | with_reducible refine AW_region hTt ?_ | refine ⟨_, wrap_of (by first | omega | (simp only [List.length_map]; omega)), ?_⟩ | fail); conv => whnf) | fail
  exact congrArg (fun x : Int => some (iv .i64 x)) (show (if 0 - n > n then 0 - n else n) = _ by split <;> omega)
theorem rsign_fn (n : Int) : FnC Tryd.prog 37 [iv .i64 n] (iv .i64 (sgnI n)) := by
  refine FnC_of_AW hTt Tryd.func37 rfl (by kernel_rfl) (res := [.tmp 2]) rfl Tryd.ntmps37 (by simp) fun w0 K0 => ?_
  dsimp only [entry]
  repeat' first | with_reducible refine AW_seq ?_ | ((first | with_reducible refine AW_skip ?_ | with_reducible refine AW_ret ?_ | with_reducible refine AW_region hTt ?_ | fail); conv => whnf) | (refine AW_cond rfl (fun hb => ?_) (fun hb => ?_) <;> first | (replace hb := of_decide_eq_true hb; try simp only [List.length_map] at hb) | (replace hb := of_decide_eq_false hb; try simp only [List.length_map] at hb)) | fail
  · rw [show sgnI n = 1 by unfold sgnI; rw [if_neg (by omega), if_pos (by omega)]]; rfl
  · rw [show sgnI n = -1 by unfold sgnI; rw [if_pos (by omega)]]; rfl
  · rw [show sgnI n = 0 by unfold sgnI; rw [if_neg (by omega), if_neg (by omega)]]; rfl
theorem power_fn (x : Int) (n : Nat) (hn : n ≤ 1000) (h : ∀ k, k ≤ n → lim (x ^ k)) : FnC Tryd.prog 36 [iv .i64 x, iv .i64 n] (iv .i64 (x ^ n)) := by
  refine FnC_of_AW hTt Tryd.func36 rfl (by kernel_rfl) (res := [.tmp 4]) rfl Tryd.ntmps36 (by simp) fun w0 K0 => ?_
  dsimp only [entry]
  repeat' first | with_reducible refine AW_seq ?_ | with_reducible refine AW_block ?_ | ((with_reducible refine AW_region hTt ?_); conv => whnf) | fail
  refine AW_loop (fun i : Nat => [(6, iv .i64 i), (5, iv .i64 (x ^ i)), (0, iv .i64 x), (1, iv .i64 n)]) (fun _ => [])
    (fun i => i ≤ n) (fun i => n - i) 0 (Nat.zero_le _) (Imp.forget (by repeat' (first | exact trivial | refine And.intro ?_ ?_ | exact ivE (Int.pow_zero x).symm | rfl | exact ivE (by first | omega | (simp only [List.length_map, List.length_append, List.length_singleton] <;> omega)) | exact oE (by first | omega | (simp only [List.length_map, List.length_append, List.length_singleton] <;> omega)))) (by repeat' (first | exact trivial | refine And.intro ?_ ?_ | exact ivE (Int.pow_zero x).symm | rfl | exact ivE (by first | omega | (simp only [List.length_map, List.length_append, List.length_singleton] <;> omega)) | exact oE (by first | omega | (simp only [List.length_map, List.length_append, List.length_singleton] <;> omega)))) (by kernel_rfl) (by kernel_rfl) (by kernel_rfl)) ?_
  intro i hi
  rcases Nat.lt_or_ge i n with hil | hil
  · have w0 : IntKind.i64.wrap (x ^ i * x) = x ^ (i + 1) := by
      have e : x ^ (i + 1) = x ^ i * x := Int.pow_succ x i
      have := h (i + 1) hil
      rw [e] at this ⊢
      unfold lim at this
      exact wrap_of (by omega)
    clear h
    repeat' first | with_reducible refine AW_seq ?_ | with_reducible refine AW_block ?_ | ((first | with_reducible refine AW_skip ?_ | with_reducible refine AW_exit ?_ | with_reducible refine AW_ret ?_ | with_reducible refine AW_region hTt ?_ | fail); conv => whnf) | (exact absurd hb (by omega)) | ((refine ⟨_, w0, ?_⟩); conv => whnf) | (refine AW_cond rfl (fun hb => ?_) (fun hb => ?_) <;> first | (replace hb := of_decide_eq_true hb; try simp only [List.length_map] at hb) | (replace hb := of_decide_eq_false hb; try simp only [List.length_map] at hb)) | ((refine ⟨_, wrap_of (by first | omega | (simp only [List.length_map]; omega)), ?_⟩); conv => whnf) | fail
    exact ⟨i + 1, by omega, by omega, impA⟩
  · obtain rfl : i = n := by omega
    repeat' first | with_reducible refine AW_seq ?_ | with_reducible refine AW_block ?_ | ((first | with_reducible refine AW_skip ?_ | with_reducible refine AW_exit ?_ | with_reducible refine AW_ret ?_ | with_reducible refine AW_region hTt ?_ | fail); conv => whnf) | (exact absurd hb (by omega)) | (refine AW_cond rfl (fun hb => ?_) (fun hb => ?_) <;> first | (replace hb := of_decide_eq_true hb; try simp only [List.length_map] at hb) | (replace hb := of_decide_eq_false hb; try simp only [List.length_map] at hb)) | fail
    rfl
theorem poly_fn (p : List Int) : FnC Tryd.prog 64 [sl p] (iv .i64 (checkE p)) := by
  have hll : (p.map (fun n : Int => [PV.v (.int .i64 n)])).length = p.length := List.length_map _
  have h1 := rin_fn ((p.map (fun n : Int => [PV.v (.int .i64 n)])).length : Int) 1 5
  have h2 := rall_fn p 100 (by decide)
  unfold checkE
  rw [outL_one, ← hll]
  generalize outB 1 5 ((p.map (fun n : Int => [PV.v (.int .i64 n)])).length : Int) = b1 at h1
  rw [show (-100 : Int) = -100 from rfl] at h2
  generalize outL (-100) 100 p = b2 at h2
  cases b1 <;> cases b2 <;> (
    refine FnC_of_AW hTt Tryd.func64 rfl (by kernel_rfl) (res := [.tmp 2]) rfl Tryd.ntmps64 (by simp) fun w0 K0 => ?_
    dsimp only [entry]
    repeat' first | with_reducible refine AW_seq ?_ | ((first | with_reducible refine AW_skip ?_ | with_reducible refine AW_ret ?_ | with_reducible refine AW_region hTt ?_ | ((refine ⟨_, (h1).call rfl rfl, ?_⟩); (rintro _ _ ⟨rfl, rfl⟩)) | ((refine ⟨_, (h2).call rfl rfl, ?_⟩); (rintro _ _ ⟨rfl, rfl⟩)) | fail); conv => whnf) | (refine AW_cond rfl (fun _ => ?_) (fun hb => absurd (show true = false from hb) (by decide))) | (refine AW_cond rfl (fun hb => absurd (show false = true from hb) (by decide)) (fun _ => ?_)) | (refine fun hln => ?_; (try rw [List.length_map] at hln); unfold maxLen at hln; conv => whnf) | fail
    rfl)
theorem interval_fn (a b : Int) : FnC Tryd.prog 66 [iv .i64 a, iv .i64 b] (iv .i64 (judgeE a b)) := by
  have h1 := rin_fn a (-10) 10
  have h2 := rin_fn b (-10) 10
  unfold judgeE
  rw [show outL (-10) 10 [a, b] = (outB (-10) 10 a || outB (-10) 10 b) by unfold outL; simp]
  generalize outB (-10) 10 a = b1 at h1
  generalize outB (-10) 10 b = b2 at h2
  cases b1 <;> cases b2 <;> by_cases hba : b ≤ a <;> simp only [hba, Bool.or_true, Bool.or_false, Bool.or_self, if_true, if_false, ite_true, ite_false, reduceIte] <;> (
    refine FnC_of_AW hTt Tryd.func66 rfl (by kernel_rfl) (res := [.tmp 4]) rfl Tryd.ntmps66 (by simp) fun w0 K0 => ?_
    dsimp only [entry]
    repeat' first | with_reducible refine AW_seq ?_ | ((first | with_reducible refine AW_skip ?_ | with_reducible refine AW_ret ?_ | with_reducible refine AW_region hTt ?_ | fail); conv => whnf) | (exact absurd hb (by omega)) | ((first | ((refine ⟨_, (h1).call rfl rfl, ?_⟩); (rintro _ _ ⟨rfl, rfl⟩)) | refine ⟨_, fun _ => (h2).call rfl rfl, ?_⟩ | fail); conv => whnf) | (refine AW_cond rfl (fun _ => ?_) (fun hb => absurd (show true = false from hb) (by decide))) | (refine AW_cond rfl (fun hb => absurd (show false = true from hb) (by decide)) (fun _ => ?_)) | (refine AW_cond rfl (fun hb => ?_) (fun hb => ?_) <;> first | (replace hb := of_decide_eq_true hb; try simp only [List.length_map] at hb) | (replace hb := of_decide_eq_false hb; try simp only [List.length_map] at hb)) | ((refine andA ?_); conv => whnf) | fail
    rfl)
theorem rtable_fn (l : List Int) : FnC Tryd.prog 70 [sl l] (iv .i64 (inspectE l)) := by
  have hll : (l.map (fun n : Int => [PV.v (.int .i64 n)])).length = l.length := List.length_map _
  have h2 := rall_fn l 1000000000 (by decide)
  unfold inspectE
  generalize outL (-1000000000) 1000000000 l = b2 at h2
  by_cases h1 : 30 < l.length
  · rw [if_pos h1]
    refine FnC_of_AW hTt Tryd.func70 rfl (by kernel_rfl) (res := [.tmp 2]) rfl Tryd.ntmps70 (by simp) fun w0 K0 => ?_
    dsimp only [entry]
    repeat' first | with_reducible refine AW_seq ?_ | ((first | with_reducible refine AW_skip ?_ | with_reducible refine AW_ret ?_ | with_reducible refine AW_region hTt ?_ | fail); conv => whnf) | (exact absurd hb (by omega)) | (refine AW_cond rfl (fun hb => ?_) (fun hb => ?_) <;> first | (replace hb := of_decide_eq_true hb; try simp only [List.length_map] at hb) | (replace hb := of_decide_eq_false hb; try simp only [List.length_map] at hb)) | (refine fun hln => ?_; (try rw [List.length_map] at hln); unfold maxLen at hln; conv => whnf) | fail
    rfl
  · rw [if_neg h1]
    cases b2 <;> (
      refine FnC_of_AW hTt Tryd.func70 rfl (by kernel_rfl) (res := [.tmp 2]) rfl Tryd.ntmps70 (by simp) fun w0 K0 => ?_
      dsimp only [entry]
      repeat' first | with_reducible refine AW_seq ?_ | ((first | with_reducible refine AW_skip ?_ | with_reducible refine AW_ret ?_ | with_reducible refine AW_region hTt ?_ | fail); conv => whnf) | (exact absurd hb (by omega)) | ((refine ⟨_, (h2).call rfl rfl, ?_⟩); (rintro _ _ ⟨rfl, rfl⟩); conv => whnf) | (refine AW_cond rfl (fun _ => ?_) (fun hb => absurd (show true = false from hb) (by decide))) | (refine AW_cond rfl (fun hb => absurd (show false = true from hb) (by decide)) (fun _ => ?_)) | (refine AW_cond rfl (fun hb => ?_) (fun hb => ?_) <;> first | (replace hb := of_decide_eq_true hb; try simp only [List.length_map] at hb) | (replace hb := of_decide_eq_false hb; try simp only [List.length_map] at hb)) | (refine fun hln => ?_; (try rw [List.length_map] at hln); unfold maxLen at hln; conv => whnf) | fail
      rfl)
end Go.Proofs.YtnpleednkmhhhaaDoor
namespace Go.Proofs.YtnpleednkmhhhaaDoor
open Go Go.QL
set_option maxHeartbeats 1600000
attribute [local irreducible] ACall FnC YC
theorem and_tt {a b : Bool} (h1 : a = true) (h2 : b = true) : (a && b) = true := by rw [h1, h2]; rfl
theorem nt_f {c : Bool} (h : c = false) : (!c) = true := by subst h; rfl
theorem print_len {x : R2} {p : Nat} (h0 : 0 ≤ unitsP x p) (h1 : unitsP x p ≤ 1000000000000000000) (hp : p ≤ 6) : (printB x p).length ≤ 1000 := by
  unfold printB
  rw [List.length_append]
  have h2 := dotTo_len (padS x p) ((padS x p).size - p) (padS x p).size
  have h3 : (padS x p).size ≤ 60 := by
    show (padL x p).toArray.size ≤ 60
    rw [List.size_toArray]
    unfold padL
    rw [List.length_append, Lib.repeatL_length]
    have := Lib.itoa_length_le (unitsP x p) (by omega) (by omega)
    simp only [List.length_singleton]
    omega
  have h4 : (if x.1 < 0 ∧ 0 < unitsP x p then ([45] : List UInt8) else []).length ≤ 1 := by split <;> simp
  omega
theorem wrap_u8 {n : Int} (h : 0 ≤ n ∧ n < 256) : IntKind.u8.wrap n = n := by
  have h1 := h.1
  have h2 := h.2
  simp only [IntKind.wrap, IntKind.signed, IntKind.bits]
  simp
  omega
theorem cnd1 (i : Nat) (c : UInt8) : (bif ((i : Int) == 0) then ((c.toNat : Int) == 45) else false) = decide (i = 0 ∧ c.toNat = 45) := by
  rw [Bool.eq_iff_iff]; cases h : ((i : Int) == 0) <;> simp at h ⊢ <;> omega
theorem cnd2 (c : UInt8) (b : Int) : (bif ((c.toNat : Int) == 46) then decide (b < 0) else false) = decide (c.toNat = 46 ∧ b < 0) := by
  rw [Bool.eq_iff_iff]; cases h : ((c.toNat : Int) == 46) <;> simp at h ⊢ <;> omega
theorem cnd3 (c : UInt8) (n : Int) : (bif bif decide ((c.toNat : Int) < 48) then true else decide ((57 : Int) < (c.toNat : Int)) then true else decide (1000000000000000000 < n)) = decide (c.toNat < 48 ∨ 57 < c.toNat ∨ 1000000000000000000 < n) := by
  rw [Bool.eq_iff_iff]
  cases h1 : decide ((c.toNat : Int) < 48) <;> cases h2 : decide ((57 : Int) < (c.toNat : Int)) <;> simp at h1 h2 ⊢ <;> omega
theorem rd_mono : ∀ {l : List UInt8} {i : Nat} {n b s N b' s' : Int}, rdL l i n b s = some (N, b', s') → 0 ≤ n → n ≤ N
  | [], i, n, b, s, N, b', s', h, _ => by simp only [rdL] at h; cases h; exact Int.le_refl _
  | c :: l, i, n, b, s, N, b', s', h, h0 => by
    simp only [rdL] at h
    split at h
    · exact rd_mono h h0
    · split at h
      · exact rd_mono h h0
      · split at h
        · cases h
        · rename_i hc
          have := rd_mono h (by omega)
          omega
theorem pow10_fn {p : Nat} (hp : p ≤ 6) : FnC Tryd.prog 36 [iv .i64 10, iv .i64 p] (iv .i64 (10 ^ p)) := power_fn 10 p (by omega) (fun k hk => by
  have := ten18 (p := k) (by omega)
  unfold lim; omega)
theorem lprinted_fn (x : R2) (p : Int) : FnC Tryd.prog 10 [r2AV x, iv .i64 p] (bv true) := by
  have s1 := print_fn x p
  have ha := awake_fn
  unfold printP at s1
  by_cases h : outL (-1000000000000) 1000000000000 [x.1] = true ∨ outL 1 1000000000000 [x.2] = true ∨ outL 0 6 [p] = true
  · rw [if_pos h] at s1
    dsimp only at s1
    clear h
    refine FnC_of_AW hTt Tryd.func10 rfl (by kernel_rfl) (res := [.tmp 4]) rfl Tryd.ntmps10 (by simp) fun w0 K0 => ?_
    dsimp only [entry]
    repeat' first | with_reducible refine AW_seq ?_ | ((first | with_reducible refine AW_ret ?_ | with_reducible refine AW_region hTt ?_ | ((refine ⟨_, (s1).call rfl rfl, ?_⟩); (rintro _ _ ⟨rfl, rfl⟩)) | refine ⟨_, fun _ => (ha).call rfl rfl, ?_⟩ | fail); conv => whnf) | (refine AW_cond rfl (fun _ => ?_) (fun hb => absurd hb (by decide))) | ((refine andA ?_); conv => whnf) | fail
    exact congrArg (fun b : Bool => some (bv b)) (show _ = true by simp)
  · rw [if_neg h] at s1
    have h1 : outL (-1000000000000) 1000000000000 [x.1] = false := by simpa using fun e => h (.inl e)
    have h2 : outL 1 1000000000000 [x.2] = false := by simpa using fun e => h (.inr (.inl e))
    have h3 : outL 0 6 [p] = false := by simpa using fun e => h (.inr (.inr e))
    have g1 := outL_false.1 h1 _ (List.mem_singleton.2 rfl)
    have g2 := outL_false.1 h2 _ (List.mem_singleton.2 rfl)
    have g3 := outL_false.1 h3 _ (List.mem_singleton.2 rfl)
    obtain ⟨q, rfl⟩ : ∃ q : Nat, p = q := ⟨p.toNat, by omega⟩
    rw [Int.toNat_natCast] at s1
    clear h h1 h2 h3
    obtain ⟨u1, u2, u3, u4⟩ := units_le (p := q) g1 g2 (by omega)
    have hr := rd_print u1 u2
    have hpw := pow10_fn (p := q) (by omega)
    have h10 := ten18 (p := q) (by omega)
    have hlB := print_len (x := x) (p := q) (by omega) (by omega) (by omega)
    generalize printB x q = B at *
    generalize unitsP x q = N at *
    obtain ⟨num, den⟩ := x
    dsimp only at g1 g2 u3 u4 hr s1
    refine FnC_of_AW hTt Tryd.func10 rfl (by kernel_rfl) (res := [.tmp 4]) rfl Tryd.ntmps10 (by simp) fun w0 K0 => ?_
    dsimp only [entry]
    repeat' first | with_reducible refine AW_seq ?_ | with_reducible refine AW_block ?_ | ((first | with_reducible refine AW_skip ?_ | with_reducible refine AW_region hTt ?_ | ((refine ⟨_, (s1).call rfl rfl, ?_⟩); (rintro _ _ ⟨rfl, rfl⟩)) | fail); conv => whnf) | (refine AW_cond rfl (fun hb => absurd hb (by decide)) (fun _ => ?_)) | fail
    refine AW_loop (fun X : Nat × Int × Int × Int => [(10, iv .i64 X.1), (9, iv .i64 X.2.2.2), (8, iv .i64 X.2.2.1), (7, iv .i64 X.2.1), (5, sv ⟨B.toArray⟩), (2, .x (.b 2 0)), (1, iv .i64 q)]) (fun _ => [(2, .box [.d (.v (.int .i64 num)), .d (.v (.int .i64 den))])])
      (fun X => X.1 ≤ B.length ∧ rdL (B.drop X.1) X.1 X.2.1 X.2.2.1 X.2.2.2 = some (N, if q = 0 then -1 else (q : Int), if num < 0 ∧ 0 < N then -1 else 1) ∧ 0 ≤ X.2.1 ∧ -1 ≤ X.2.2.1 ∧ X.2.2.1 ≤ X.1)
      (fun X => B.length - X.1) (0, 0, -1, 1) ⟨Nat.zero_le _, hr, Int.le_refl _, by decide, by decide⟩ impA ?_
    rintro ⟨i, n, b, sg⟩ ⟨hi, hst, hn0, hb0, hb1⟩
    dsimp only at hi hst hn0 hb0 hb1 ⊢
    have hBs : (⟨B.toArray⟩ : ByteArray).size = B.length := rfl
    rcases Nat.lt_or_ge i B.length with hil | hil
    · have hel : (⟨B.toArray⟩ : ByteArray).data.toList[((i : Int)).toNat]? = some B[i] := by simp [hil]
      rw [List.drop_eq_getElem_cons hil] at hst
      have hmo := rd_mono hst hn0
      simp only [rdL] at hst
      generalize B[i] = c at *
      clear ha hpw s1 hr
      have hC1 := cnd1 i c
      have hC2 := cnd2 c b
      have hC3 := cnd3 c n
      have ft : ¬ (false = true) := by decide
      have tf : ¬ (true = false) := by decide
      by_cases c1 : i = 0 ∧ c.toNat = 45
      · rw [if_pos c1] at hst
        rw [decide_eq_true c1] at hC1
        clear hC2 hC3
        repeat' first | with_reducible refine AW_seq ?_ | with_reducible refine AW_block ?_ | ((first | with_reducible refine AW_skip ?_ | with_reducible refine AW_exit ?_ | with_reducible refine AW_region hTt ?_ | fail); conv => whnf) | (exact absurd (hC1.symm.trans hb) tf) | (exact absurd hb (by omega)) | ((refine ⟨c, gd_any ⟨by omega, hel⟩, ?_⟩); conv => whnf) | (refine AW_cond rfl (fun hb => ?_) (fun hb => ?_) <;> first | (replace hb := of_decide_eq_true hb; try simp only [List.length_map] at hb) | (replace hb := of_decide_eq_false hb; try simp only [List.length_map] at hb) | (simp only [List.length_map, bne_iff_ne, ne_eq, beq_iff_eq, bne_eq_false_iff_eq, beq_eq_false_iff_ne, decide_eq_true_eq, decide_eq_false_iff_not, Bool.not_eq_true', Bool.not_eq_false', Int.natCast_inj] at hb) | skip) | ((first | refine ⟨_, wrap_of (by first | omega | (simp only [List.length_map]; omega)), ?_⟩ | refine andA ?_ | fail); conv => whnf) | fail
        exact ⟨(i + 1, n, b, -1), ⟨hil, hst, hn0, hb0, by dsimp only; omega⟩, by dsimp only; omega, impA⟩
      · rw [if_neg c1] at hst
        rw [decide_eq_false c1] at hC1
        by_cases c2 : c.toNat = 46 ∧ b < 0
        · rw [if_pos c2] at hst
          rw [decide_eq_true c2] at hC2
          clear hC3
          repeat' first | with_reducible refine AW_seq ?_ | with_reducible refine AW_block ?_ | ((first | with_reducible refine AW_skip ?_ | with_reducible refine AW_exit ?_ | with_reducible refine AW_region hTt ?_ | fail); conv => whnf) | (exact absurd (hC1.symm.trans hb) ft) | (exact absurd (hC2.symm.trans hb) tf) | (exact absurd hb (by omega)) | ((refine ⟨c, gd_any ⟨by omega, hel⟩, ?_⟩); conv => whnf) | (refine AW_cond rfl (fun hb => ?_) (fun hb => ?_) <;> first | (replace hb := of_decide_eq_true hb; try simp only [List.length_map] at hb) | (replace hb := of_decide_eq_false hb; try simp only [List.length_map] at hb) | (simp only [List.length_map, bne_iff_ne, ne_eq, beq_iff_eq, bne_eq_false_iff_eq, beq_eq_false_iff_ne, decide_eq_true_eq, decide_eq_false_iff_not, Bool.not_eq_true', Bool.not_eq_false', Int.natCast_inj] at hb) | skip) | ((first | refine ⟨_, wrap_of (by first | omega | (simp only [List.length_map]; omega)), ?_⟩ | refine andA ?_ | fail); conv => whnf) | fail
          exact ⟨(i + 1, n, 0, sg), ⟨hil, hst, hn0, by dsimp only; omega, by dsimp only; omega⟩, by dsimp only; omega, impA⟩
        · rw [if_neg c2] at hst
          rw [decide_eq_false c2] at hC2
          by_cases c3 : c.toNat < 48 ∨ 57 < c.toNat ∨ 1000000000000000000 < n
          · rw [if_pos c3] at hst; cases hst
          · rw [if_neg c3] at hst
            rw [decide_eq_false c3] at hC3
            have hm2 := rd_mono hst (by omega)
            have w5 : IntKind.u8.wrap ((c.toNat : Int) - 48) = (c.toNat : Int) - 48 := wrap_u8 (by omega)
            by_cases c4 : 0 ≤ b
            · rw [if_pos c4] at hst
              repeat' first | with_reducible refine AW_seq ?_ | with_reducible refine AW_block ?_ | ((first | with_reducible refine AW_skip ?_ | with_reducible refine AW_exit ?_ | with_reducible refine AW_ret ?_ | with_reducible refine AW_region hTt ?_ | fail); conv => whnf) | (exact absurd (hC1.symm.trans hb) ft) | (exact absurd (hC2.symm.trans hb) ft) | (exact absurd (hC3.symm.trans hb) ft) | (exact absurd hb (by omega)) | ((first | refine ⟨c, gd_any ⟨by omega, hel⟩, ?_⟩ | refine ⟨_, w5, ?_⟩ | fail); conv => whnf) | (refine AW_cond rfl (fun hb => ?_) (fun hb => ?_) <;> first | (replace hb := of_decide_eq_true hb; try simp only [List.length_map] at hb) | (replace hb := of_decide_eq_false hb; try simp only [List.length_map] at hb) | (simp only [List.length_map, bne_iff_ne, ne_eq, beq_iff_eq, bne_eq_false_iff_eq, beq_eq_false_iff_ne, decide_eq_true_eq, decide_eq_false_iff_not, Bool.not_eq_true', Bool.not_eq_false', Int.natCast_inj] at hb) | skip) | ((first | refine ⟨_, wrap_of (by first | omega | (simp only [List.length_map]; omega)), ?_⟩ | refine andA ?_ | fail); conv => whnf) | fail
              exact ⟨(i + 1, 10 * n + ((c.toNat : Int) - 48), b + 1, sg), ⟨hil, hst, by dsimp only; omega, by dsimp only; omega, by dsimp only; omega⟩, by dsimp only; omega, impA⟩
            · rw [if_neg c4] at hst
              repeat' first | with_reducible refine AW_seq ?_ | with_reducible refine AW_block ?_ | ((first | with_reducible refine AW_skip ?_ | with_reducible refine AW_exit ?_ | with_reducible refine AW_ret ?_ | with_reducible refine AW_region hTt ?_ | fail); conv => whnf) | (exact absurd (hC1.symm.trans hb) ft) | (exact absurd (hC2.symm.trans hb) ft) | (exact absurd (hC3.symm.trans hb) ft) | (exact absurd hb (by omega)) | ((first | refine ⟨c, gd_any ⟨by omega, hel⟩, ?_⟩ | refine ⟨_, w5, ?_⟩ | fail); conv => whnf) | (refine AW_cond rfl (fun hb => ?_) (fun hb => ?_) <;> first | (replace hb := of_decide_eq_true hb; try simp only [List.length_map] at hb) | (replace hb := of_decide_eq_false hb; try simp only [List.length_map] at hb) | (simp only [List.length_map, bne_iff_ne, ne_eq, beq_iff_eq, bne_eq_false_iff_eq, beq_eq_false_iff_ne, decide_eq_true_eq, decide_eq_false_iff_not, Bool.not_eq_true', Bool.not_eq_false', Int.natCast_inj] at hb) | skip) | ((first | refine ⟨_, wrap_of (by first | omega | (simp only [List.length_map]; omega)), ?_⟩ | refine andA ?_ | fail); conv => whnf) | fail
              exact ⟨(i + 1, 10 * n + ((c.toNat : Int) - 48), b, sg), ⟨hil, hst, by dsimp only; omega, by dsimp only; omega, by dsimp only; omega⟩, by dsimp only; omega, impA⟩
    · obtain rfl : i = B.length := by omega
      rw [List.drop_length] at hst
      simp only [rdL] at hst
      clear s1 hr
      simp only [Option.some.injEq, Prod.mk.injEq] at hst
      obtain ⟨rfl, rfl, rfl⟩ := hst
      have hND : 2 * den * n = 2 * (n * den) := by grind
      rw [hND] at u3 u4
      have hnd0 : 0 ≤ n * den := Int.mul_nonneg u1 (by omega)
      have hM : (num.natAbs : Int) * 10 ^ q = (if num < 0 then -(num * 10 ^ q) else num * 10 ^ q) := by
        split
        · rw [← Int.neg_mul]; congr 1; omega
        · congr 1; omega
      have hM0 : (0 : Int) ≤ (num.natAbs : Int) * 10 ^ q ∧ (num.natAbs : Int) * 10 ^ q ≤ 1000000000000000000 := by
        have := mul_bd (a := (num.natAbs : Int)) (b := 10 ^ q) (A := 1000000000000) (B := 1000000) (by omega) (by omega)
        have h0 : 0 ≤ (num.natAbs : Int) * 10 ^ q := Int.mul_nonneg (by omega) (by omega)
        omega
      have hsg : ((if num < 0 ∧ 0 < n then -1 else 1) * n : Int) = (if num < 0 ∧ 0 < n then -n else n) := by split <;> omega
      have hsd : ((if num < 0 ∧ 0 < n then -n else n) * den : Int) = (if num < 0 ∧ 0 < n then -(n * den) else n * den) := by
        split
        · exact Int.neg_mul ..
        · rfl
      have hby : 2 * (((if num < 0 ∧ 0 < n then -(n * den) else n * den) - num * 10 ^ q).natAbs : Int) ≤ den := by
        generalize (num.natAbs : Int) * 10 ^ q = M at *
        generalize num * 10 ^ q = P at *
        generalize hT : n * den = T at *
        by_cases hz : num < 0 ∧ 0 < n
        · rw [if_pos hz]; rw [if_pos hz.1] at hM; omega
        · rw [if_neg hz]
          by_cases hneg : num < 0
          · rw [if_pos hneg] at hM
            have h0 : n = 0 := by
              by_cases h : 0 < n
              · exact absurd ⟨hneg, h⟩ hz
              · omega
            rw [h0, Int.zero_mul] at hT
            omega
          · rw [if_neg hneg] at hM; omega
      have hsb : (-1000500000000000000 ≤ (if num < 0 ∧ 0 < n then -(n * den) else n * den) ∧ (if num < 0 ∧ 0 < n then -(n * den) else n * den) ≤ 1000500000000000000) ∧ -1000000000000000000 ≤ num * 10 ^ q ∧ num * 10 ^ q ≤ 1000000000000000000 := by
        constructor
        · split <;> omega
        · by_cases h : num < 0
          · rw [if_pos h] at hM; omega
          · rw [if_neg h] at hM; omega
      have hs9 : (if num < 0 ∧ 0 < n then (-1 : Int) else 1) < 0 → n ≠ 0 := by split <;> omega
      generalize (if num < 0 ∧ 0 < n then (-1 : Int) else 1) = sg at *
      generalize (if num < 0 ∧ 0 < n then -(n * den) else n * den) = T at *
      generalize hnn : (if num < 0 ∧ 0 < n then -n else n) = nn at *
      have hb9 : (if q = 0 then (-1 : Int) else (q : Int)) ≠ q → q = 0 ∧ (if q = 0 then (-1 : Int) else (q : Int)) < 0 := by split <;> omega
      generalize (if q = 0 then (-1 : Int) else (q : Int)) = b at *
      have w1 : IntKind.i64.wrap (sg * n) = nn := by rw [hsg]; exact wrap_of (by split at hnn <;> omega)
      have w2 : IntKind.i64.wrap (nn * den) = T := by rw [hsd]; exact wrap_of (by omega)
      have w3 : IntKind.i64.wrap (num * 10 ^ q) = num * 10 ^ q := wrap_of (by omega)
      have w4 : IntKind.i64.wrap (T - num * 10 ^ q) = T - num * 10 ^ q := wrap_of (by omega)
      have hz := size_fn (T - num * 10 ^ q) (by unfold lim; omega)
      have w5 : IntKind.i64.wrap (2 * ((T - num * 10 ^ q).natAbs : Int)) = 2 * ((T - num * 10 ^ q).natAbs : Int) := wrap_of (by omega)
      have ft : ¬ (false = true) := by decide
      have hXY : (bif bif b != (q : Int) then !bif (q : Int) == 0 then decide (b < 0) else false else false then true else bif decide (sg < 0) then n == 0 else false) = false := by
        have hX : (bif b != (q : Int) then !bif (q : Int) == 0 then decide (b < 0) else false else false) = false := by
          by_cases h : b = q
          · rw [h]; simp
          · obtain ⟨e1, e2⟩ := hb9 h
            subst e1
            rw [decide_eq_true e2]; simp
        have hY : (bif decide (sg < 0) then n == 0 else false) = false := by
          by_cases h : sg < 0
          · rw [decide_eq_true h]; simpa using hs9 h
          · rw [decide_eq_false h]; rfl
        rw [hX, hY]; rfl
      clear hs9 hb9
      clear hM hM0 hND u3 u4 hsb hsd hsg hnn
      repeat' first | with_reducible refine AW_seq ?_ | with_reducible refine AW_block ?_ | ((first | with_reducible refine AW_skip ?_ | with_reducible refine AW_exit ?_ | with_reducible refine AW_ret ?_ | with_reducible refine AW_region hTt ?_ | refine AW_draw hTt hMix (id := 19) 11 false [0, 0, 3, 0, 8, 31, 0, 64, 0, 256, 960, 2047, 4095] (by kernel_rfl) rfl rfl (by kernel_rfl) ?_ | refine AW_draw hTt hMix (id := 20) 5 false [0, 1, 3, 0, 8, 31, 63, 127, 255, 511] (by kernel_rfl) rfl rfl (by kernel_rfl) ?_ | fail); conv => whnf) | (exact absurd hb (by omega)) | ((first | refine ⟨_, w1, ?_⟩ | refine ⟨_, w2, ?_⟩ | refine ⟨_, w3, ?_⟩ | refine ⟨_, w4, ?_⟩ | refine ⟨_, w5, ?_⟩ | refine And.intro (fun h1 h2 => and_tt h1 h2) ?_ | refine And.intro (fun h => nt_f h) ?_ | fail); conv => whnf) | (exact absurd (hXY.symm.trans hb) ft) | ((first | refine ⟨_, fun _ => (hz).call rfl rfl, ?_⟩ | refine ⟨_, fun _ => (hpw).call rfl rfl, ?_⟩ | refine ⟨_, fun _ => (ha).call rfl rfl, ?_⟩ | fail); conv => whnf) | (refine AW_cond rfl (fun hb => ?_) (fun hb => ?_) <;> first | (replace hb := of_decide_eq_true hb; try simp only [List.length_map] at hb) | (replace hb := of_decide_eq_false hb; try simp only [List.length_map] at hb) | (simp only [List.length_map, bne_iff_ne, ne_eq, beq_iff_eq, bne_eq_false_iff_eq, beq_eq_false_iff_ne, decide_eq_true_eq, decide_eq_false_iff_not, Bool.not_eq_true', Bool.not_eq_false', Int.natCast_inj] at hb) | skip) | ((refine andA ?_); conv => whnf) | fail
      rw [decide_eq_true hby]; rfl
end Go.Proofs.YtnpleednkmhhhaaDoor
namespace Go.Proofs.YtnpleednkmhhhaaDoor
open Go Go.QL
set_option maxHeartbeats 1600000
attribute [local irreducible] ACall FnC YC
theorem dig_len {k m : Nat} (hk : 1 ≤ k ∧ k ≤ 10) (hm : m ≤ 1000000000000000000) : (digG k m).length ≤ 50 := by
  rw [digG_dec _ _ hk.1, List.length_append, Lib.repeatL_length]
  have := Lib.itoa_length_le m (by omega) (by omega)
  unfold Lib.itoa at this
  rw [if_neg (by omega), Int.toNat_natCast] at this
  simp only [List.length_singleton]
  omega
theorem digits_fn (n many : Nat) (hn : n ≤ 1000000000000000000) (hm : 1 ≤ many ∧ many ≤ 10) : FnC Tryd.prog 57 [iv .i64 n, iv .i64 many] (sv ⟨(digG many n).toArray⟩) := by
  have hlen := dig_len hm hn
  refine FnC_of_AW hTt Tryd.func57 rfl (by kernel_rfl) (res := [.tmp 4]) rfl Tryd.ntmps57 (by simp) fun w0 K0 => ?_
  dsimp only [entry]
  repeat' first | with_reducible refine AW_seq ?_ | with_reducible refine AW_block ?_ | ((with_reducible refine AW_region hTt ?_); conv => whnf) | fail
  refine AW_loop (fun X : Nat × List UInt8 => [(5, sv ⟨X.2.toArray⟩), (0, iv .i64 X.1), (1, iv .i64 many)]) (fun _ => [])
    (fun X => X.1 ≤ n ∧ digG (many - X.2.length) X.1 ++ X.2 = digG many n) (fun X => X.1 + (many - X.2.length)) (n, []) ⟨Nat.le_refl _, by simp⟩ impA ?_
  rintro ⟨m, s⟩ ⟨hmn, he⟩
  dsimp only at hmn he ⊢
  have hsl : s.length ≤ 50 := by
    have := congrArg List.length he
    rw [List.length_append] at this
    omega
  have hsz : (⟨s.toArray⟩ : ByteArray).size = s.length := rfl
  by_cases hc : m = 0 ∧ many - s.length = 0
  · have hcT : (bif decide ((m : Int) > 0) then true else decide (((⟨s.toArray⟩ : ByteArray).size : Int) < many)) = false := by
      rw [hsz, decide_eq_false (by omega), decide_eq_false (by omega)]; rfl
    have ft : ¬ (false = true) := by decide
    repeat' first | with_reducible refine AW_seq ?_ | with_reducible refine AW_block ?_ | ((first | with_reducible refine AW_skip ?_ | with_reducible refine AW_exit ?_ | with_reducible refine AW_ret ?_ | with_reducible refine AW_region hTt ?_ | fail); conv => whnf) | (exact absurd (hcT.symm.trans hb) ft) | (refine AW_cond rfl (fun hb => ?_) (fun hb => ?_) <;> first | (replace hb := of_decide_eq_true hb; try simp only [List.length_map] at hb) | (replace hb := of_decide_eq_false hb; try simp only [List.length_map] at hb) | (simp only [List.length_map, bne_iff_ne, ne_eq, beq_iff_eq, bne_eq_false_iff_eq, beq_eq_false_iff_ne, decide_eq_true_eq, decide_eq_false_iff_not, Bool.not_eq_true', Bool.not_eq_false', Int.natCast_inj] at hb) | skip) | ((refine andA ?_); conv => whnf) | fail
    rw [hc.1, hc.2, digG_zero, List.nil_append] at he
    rw [← he]; rfl
  · have hcT : (bif decide ((m : Int) > 0) then true else decide (((⟨s.toArray⟩ : ByteArray).size : Int) < many)) = true := by
      rw [hsz]
      by_cases h0 : 0 < m
      · rw [decide_eq_true (by omega)]; rfl
      · rw [decide_eq_false (by omega), decide_eq_true (by omega)]; rfl
    have tf : ¬ (true = false) := by decide
    have d1 : ((m : Int).tmod 10) = ((m % 10 : Nat) : Int) := by rw [Int.tmod_eq_emod_of_nonneg (by omega)]; omega
    have d2 : ((m : Int).tdiv 10) = ((m / 10 : Nat) : Int) := by rw [Int.tdiv_eq_ediv_of_nonneg (by omega)]; omega
    have hcn : ((UInt8.ofNat (48 + m % 10)).toNat : Int) = 48 + ((m % 10 : Nat) : Int) := by rw [UInt8.toNat_ofNat', Nat.mod_eq_of_lt (by omega)]; omega
    have w5 : IntKind.u8.wrap (48 + ((m % 10 : Nat) : Int)) = ((UInt8.ofNat (48 + m % 10)).toNat : Int) := by rw [hcn]; exact wrap_u8 (by omega)
    have hst := digG_step (k := many - s.length) (m := m) hc
    have hsz2 : 1 + (⟨s.toArray⟩ : ByteArray).size ≤ maxLen := by unfold maxLen; rw [hsz]; omega
    generalize UInt8.ofNat (48 + m % 10) = c at *
    have wq : IntKind.i64.wrap (((m / 10 : Nat) : Int)) = ((m / 10 : Nat) : Int) := wrap_of (by omega)
    rw [← d2] at wq
    repeat' first | with_reducible refine AW_seq ?_ | with_reducible refine AW_block ?_ | ((first | with_reducible refine AW_skip ?_ | with_reducible refine AW_exit ?_ | with_reducible refine AW_ret ?_ | with_reducible refine AW_region hTt ?_ | fail); conv => whnf) | (exact absurd (hcT.symm.trans hb) tf) | ((first | refine ⟨_, d1, ?_⟩ | refine ⟨_, w5, ?_⟩ | refine ⟨_, wq.trans d2, ?_⟩ | refine ⟨[c], by simp, .inr rfl, ?_⟩ | refine And.intro (gd_none hsz2) ?_ | fail); conv => whnf) | (refine AW_cond rfl (fun hb => ?_) (fun hb => ?_) <;> first | (replace hb := of_decide_eq_true hb; try simp only [List.length_map] at hb) | (replace hb := of_decide_eq_false hb; try simp only [List.length_map] at hb) | (simp only [List.length_map, bne_iff_ne, ne_eq, beq_iff_eq, bne_eq_false_iff_eq, beq_eq_false_iff_ne, decide_eq_true_eq, decide_eq_false_iff_not, Bool.not_eq_true', Bool.not_eq_false', Int.natCast_inj] at hb) | skip) | ((first | refine ⟨_, wrap_of (by first | omega | (simp only [List.length_map]; omega)), ?_⟩ | refine andA ?_ | fail); conv => whnf) | fail
    refine ⟨(m / 10, c :: s), ⟨by dsimp only; omega, ?_⟩, by dsimp only; rw [List.length_cons]; omega, (Imp.forget (by repeat' (first | exact trivial | refine And.intro ?_ ?_ | exact svE (ba_append [c] s) | rfl | exact ivE (by first | omega | (simp only [List.length_map, List.length_append, List.length_singleton] <;> omega)) | exact oE (by first | omega | (simp only [List.length_map, List.length_append, List.length_singleton] <;> omega)))) (by repeat' (first | exact trivial | refine And.intro ?_ ?_ | exact svE (ba_append [c] s) | rfl | exact ivE (by first | omega | (simp only [List.length_map, List.length_append, List.length_singleton] <;> omega)) | exact oE (by first | omega | (simp only [List.length_map, List.length_append, List.length_singleton] <;> omega)))) (by kernel_rfl) (by kernel_rfl) (by kernel_rfl))⟩
    dsimp only
    rw [List.length_cons, ← he, hst, List.append_assoc, Nat.sub_sub]; rfl
theorem rprint_go (x : R2) (p : Nat) (hx : -1000000000000 ≤ x.1 ∧ x.1 ≤ 1000000000000) (hd : 1 ≤ x.2 ∧ x.2 ≤ 1000000000000) (hp : p ≤ 6) : FnC Tryd.prog 18 [r2AV x, iv .i64 p] (.t [sv ⟨(rprintB x p).toArray⟩, iv .i64 0]) := by
  have o1 := rin_fn x.1 (-1000000000000) 1000000000000
  have o2 := rin_fn x.2 1 1000000000000
  have o3 := rin_fn (p : Int) 0 6
  rw [outB_false.2 hx] at o1
  rw [outB_false.2 hd] at o2
  rw [outB_false.2 (by omega)] at o3
  have hpw := pow10_fn hp
  have h10 := ten18 hp
  have hz := size_fn x.1 (by unfold lim; omega)
  obtain ⟨u1, u2, _, _⟩ := units_le hx hd hp
  obtain ⟨⟨m1, m2⟩, _⟩ := units_rng hx hd hp
  have hN : unitsP x p = (2 * (x.1.natAbs : Int) * 10 ^ p + x.2).tdiv (2 * x.2) := by unfold unitsP; rw [Int.mul_assoc]
  unfold rprintB
  obtain ⟨N, hNN⟩ : ∃ N : Nat, unitsP x p = N := ⟨(unitsP x p).toNat, by omega⟩
  rw [hNN] at hN u1 u2
  rw [hNN, Int.toNat_natCast]
  have hU : ((10 : Int) ^ p) = ((10 ^ p : Nat) : Int) := by simp
  have hq : ((N : Int).tdiv (10 ^ p)) = ((N / 10 ^ p : Nat) : Int) := by rw [Int.tdiv_eq_ediv_of_nonneg (by omega), hU]; simp
  have hr : ((N : Int).tmod (10 ^ p)) = ((N % 10 ^ p : Nat) : Int) := by rw [Int.tmod_eq_emod_of_nonneg (by omega), hU]; simp
  have hdq : N / 10 ^ p ≤ N := Nat.div_le_self _ _
  have hdr : N % 10 ^ p ≤ N := Nat.mod_le _ _
  have hlt : N % 10 ^ p < 10 ^ p := Nat.mod_lt _ (Nat.pow_pos (by decide))
  have hl2 := digG_len p (N % 10 ^ p) hlt
  clear hU hlt
  generalize N / 10 ^ p = Q1 at *
  generalize N % 10 ^ p = Q2 at *
  have c1 := digits_fn Q1 1 (by omega) (by omega)
  have c2 := fun (h : 1 ≤ p) => digits_fn Q2 p (by omega) (by omega)
  have hl1 := dig_len (k := 1) (m := Q1) (by omega) (by omega)
  obtain ⟨num, den⟩ := x
  dsimp only at *
  have w1 : IntKind.i64.wrap (2 * (num.natAbs : Int)) = 2 * (num.natAbs : Int) := wrap_of (by omega)
  have e2 : 2 * (num.natAbs : Int) * 10 ^ p = 2 * ((num.natAbs : Int) * 10 ^ p) := Int.mul_assoc ..
  have w2 : IntKind.i64.wrap (2 * (num.natAbs : Int) * 10 ^ p) = 2 * (num.natAbs : Int) * 10 ^ p := by rw [e2]; exact wrap_of (by omega)
  have w3 : IntKind.i64.wrap (2 * (num.natAbs : Int) * 10 ^ p + den) = 2 * (num.natAbs : Int) * 10 ^ p + den := by rw [e2]; exact wrap_of (by omega)
  have w4 : IntKind.i64.wrap (2 * den) = 2 * den := wrap_of (by omega)
  have w5 : IntKind.i64.wrap ((2 * (num.natAbs : Int) * 10 ^ p + den).tdiv (2 * den)) = N := by rw [← hN]; exact wrap_of (by omega)
  have w6 : IntKind.i64.wrap ((N : Int).tdiv (10 ^ p)) = (Q1 : Int) := by rw [hq]; exact wrap_of (by omega)
  have nz : 2 * den ≠ 0 := by omega
  have nz2 : (10 : Int) ^ p ≠ 0 := by omega
  clear e2 hN hq hNN m1 m2 hdq hdr
  generalize digG 1 Q1 = D1 at *
  generalize digG p Q2 = D2 at *
  have hz1 : (⟨D1.toArray⟩ : ByteArray).size = D1.length := rfl
  have hz2 : (⟨D2.toArray⟩ : ByteArray).size = D2.length := rfl
  have a1 : (⟨D1.toArray⟩ : ByteArray) ++ ⟨#[46]⟩ = ⟨(D1 ++ [46]).toArray⟩ := ba_append D1 [46]
  have a2 : (⟨(D1 ++ [46]).toArray⟩ : ByteArray) ++ ⟨D2.toArray⟩ = ⟨(D1 ++ 46 :: D2).toArray⟩ := by rw [ba_append, List.append_assoc]; rfl
  have g2 : (⟨D1.toArray⟩ : ByteArray).size + (⟨#[46]⟩ : ByteArray).size ≤ maxLen := by rw [hz1]; show D1.length + 1 ≤ maxLen; unfold maxLen; omega
  have g3 : ((⟨D1.toArray⟩ : ByteArray) ++ ⟨#[46]⟩).size + (⟨D2.toArray⟩ : ByteArray).size ≤ maxLen := by
    rw [a1, hz2]
    show (D1 ++ [46]).toArray.size + _ ≤ maxLen
    rw [List.size_toArray, List.length_append, List.length_singleton]; unfold maxLen; omega
  have hcn : (bif decide (num < 0) then decide ((0 : Int) < (N : Int)) else false) = decide (num < 0 ∧ 0 < (N : Int)) := by
    rw [Bool.eq_iff_iff]; cases h : decide (num < 0) <;> simp at h ⊢ <;> omega
  have ft : ¬ (false = true) := by decide
  have tf : ¬ (true = false) := by decide
  obtain ⟨E, hE, hEl⟩ : ∃ E : List UInt8, E = D1 ++ (if p = 0 then [] else 46 :: D2) ∧ E.length ≤ 60 := ⟨_, rfl, by rw [List.length_append]; split <;> simp <;> omega⟩
  rw [← hE]
  have g4 : (⟨#[45]⟩ : ByteArray).size + (⟨E.toArray⟩ : ByteArray).size ≤ maxLen := by show 1 + E.length ≤ maxLen; unfold maxLen; omega
  by_cases hp0 : p = 0
  · rw [if_pos hp0, List.append_nil] at hE
    subst hE
    by_cases hneg : num < 0 ∧ 0 < (N : Int)
    · rw [if_pos hneg]
      rw [decide_eq_true hneg] at hcn
      refine FnC_of_AW hTt Tryd.func18 rfl (by kernel_rfl) (res := [.tmp 4, .tmp 5]) rfl Tryd.ntmps18 (by simp) fun w0 K0 => ?_
      dsimp only [entry]
      repeat' first | with_reducible refine AW_seq ?_ | ((first | with_reducible refine AW_skip ?_ | with_reducible refine AW_ret ?_ | with_reducible refine AW_region hTt ?_ | refine AW_draw hTt hMix (id := 4) 12 false [0, 1, 3, 7, 0, 31, 0, 64, 255, 0, 512, 1536, 4095, 8191] (by kernel_rfl) rfl rfl (by kernel_rfl) ?_ | ((refine ⟨_, (o1).call rfl rfl, ?_⟩); (rintro _ _ ⟨rfl, rfl⟩)) | refine ⟨_, fun _ => (o2).call rfl rfl, ?_⟩ | refine ⟨_, fun _ => (o3).call rfl rfl, ?_⟩ | ((refine ⟨_, (hpw).call rfl rfl, ?_⟩); (rintro _ _ ⟨rfl, rfl⟩)) | refine ⟨_, fun _ => (hz).call rfl rfl, ?_⟩ | fail); conv => whnf) | (exact absurd (hcn.symm.trans hb) tf) | (exact absurd hb (by omega)) | ((first | refine ⟨_, w1, ?_⟩ | refine ⟨_, w2, ?_⟩ | refine ⟨_, w3, ?_⟩ | refine ⟨_, w4, ?_⟩ | refine ⟨_, w5, ?_⟩ | refine ⟨_, w6, ?_⟩ | refine And.intro (gd_none nz) ?_ | refine And.intro (gd_none nz2) ?_ | refine And.intro (gd_none g4) ?_ | ((refine ⟨_, (c1).call rfl rfl, ?_⟩); (rintro _ _ ⟨rfl, rfl⟩)) | fail); conv => whnf) | (refine AW_cond rfl (fun hb => absurd (show false = true from hb) (by decide)) (fun _ => ?_)) | (refine AW_cond rfl (fun hb => ?_) (fun hb => ?_) <;> first | (replace hb := of_decide_eq_true hb; try simp only [List.length_map] at hb) | (replace hb := of_decide_eq_false hb; try simp only [List.length_map] at hb) | (simp only [List.length_map, bne_iff_ne, ne_eq, beq_iff_eq, bne_eq_false_iff_eq, beq_eq_false_iff_ne, decide_eq_true_eq, decide_eq_false_iff_not, Bool.not_eq_true', Bool.not_eq_false', Int.natCast_inj] at hb) | skip) | ((refine andA ?_); conv => whnf) | fail
      exact congrArg (fun s : ByteArray => some (AV.t [sv s, iv .i64 0])) (ba_append [45] _)
    · rw [if_neg hneg, List.nil_append]
      rw [decide_eq_false hneg] at hcn
      refine FnC_of_AW hTt Tryd.func18 rfl (by kernel_rfl) (res := [.tmp 4, .tmp 5]) rfl Tryd.ntmps18 (by simp) fun w0 K0 => ?_
      dsimp only [entry]
      repeat' first | with_reducible refine AW_seq ?_ | ((first | with_reducible refine AW_skip ?_ | with_reducible refine AW_ret ?_ | with_reducible refine AW_region hTt ?_ | refine AW_draw hTt hMix (id := 4) 12 false [0, 1, 3, 7, 0, 31, 0, 64, 255, 0, 512, 1536, 4095, 8191] (by kernel_rfl) rfl rfl (by kernel_rfl) ?_ | ((refine ⟨_, (o1).call rfl rfl, ?_⟩); (rintro _ _ ⟨rfl, rfl⟩)) | refine ⟨_, fun _ => (o2).call rfl rfl, ?_⟩ | refine ⟨_, fun _ => (o3).call rfl rfl, ?_⟩ | ((refine ⟨_, (hpw).call rfl rfl, ?_⟩); (rintro _ _ ⟨rfl, rfl⟩)) | refine ⟨_, fun _ => (hz).call rfl rfl, ?_⟩ | fail); conv => whnf) | (exact absurd (hcn.symm.trans hb) ft) | (exact absurd hb (by omega)) | ((first | refine ⟨_, w1, ?_⟩ | refine ⟨_, w2, ?_⟩ | refine ⟨_, w3, ?_⟩ | refine ⟨_, w4, ?_⟩ | refine ⟨_, w5, ?_⟩ | refine ⟨_, w6, ?_⟩ | refine And.intro (gd_none nz) ?_ | refine And.intro (gd_none nz2) ?_ | ((refine ⟨_, (c1).call rfl rfl, ?_⟩); (rintro _ _ ⟨rfl, rfl⟩)) | fail); conv => whnf) | (refine AW_cond rfl (fun hb => absurd (show false = true from hb) (by decide)) (fun _ => ?_)) | (refine AW_cond rfl (fun hb => ?_) (fun hb => ?_) <;> first | (replace hb := of_decide_eq_true hb; try simp only [List.length_map] at hb) | (replace hb := of_decide_eq_false hb; try simp only [List.length_map] at hb) | (simp only [List.length_map, bne_iff_ne, ne_eq, beq_iff_eq, bne_eq_false_iff_eq, beq_eq_false_iff_ne, decide_eq_true_eq, decide_eq_false_iff_not, Bool.not_eq_true', Bool.not_eq_false', Int.natCast_inj] at hb) | skip) | ((refine andA ?_); conv => whnf) | fail
      rfl
  · rw [if_neg hp0] at hE
    have c2 := c2 (by omega)
    have g5 : (⟨#[45]⟩ : ByteArray).size + ((⟨D1.toArray⟩ : ByteArray) ++ ⟨#[46]⟩ ++ ⟨D2.toArray⟩).size ≤ maxLen := by rw [a1, a2, ← hE]; exact g4
    by_cases hneg : num < 0 ∧ 0 < (N : Int)
    · rw [if_pos hneg]
      rw [decide_eq_true hneg] at hcn
      refine FnC_of_AW hTt Tryd.func18 rfl (by kernel_rfl) (res := [.tmp 4, .tmp 5]) rfl Tryd.ntmps18 (by simp) fun w0 K0 => ?_
      dsimp only [entry]
      repeat' first | with_reducible refine AW_seq ?_ | ((first | with_reducible refine AW_skip ?_ | with_reducible refine AW_ret ?_ | with_reducible refine AW_region hTt ?_ | refine AW_draw hTt hMix (id := 4) 12 false [0, 1, 3, 7, 0, 31, 0, 64, 255, 0, 512, 1536, 4095, 8191] (by kernel_rfl) rfl rfl (by kernel_rfl) ?_ | ((refine ⟨_, (o1).call rfl rfl, ?_⟩); (rintro _ _ ⟨rfl, rfl⟩)) | refine ⟨_, fun _ => (o2).call rfl rfl, ?_⟩ | refine ⟨_, fun _ => (o3).call rfl rfl, ?_⟩ | ((refine ⟨_, (hpw).call rfl rfl, ?_⟩); (rintro _ _ ⟨rfl, rfl⟩)) | refine ⟨_, fun _ => (hz).call rfl rfl, ?_⟩ | fail); conv => whnf) | (exact absurd (hcn.symm.trans hb) tf) | (exact absurd hb (by omega)) | ((first | refine ⟨_, w1, ?_⟩ | refine ⟨_, w2, ?_⟩ | refine ⟨_, w3, ?_⟩ | refine ⟨_, w4, ?_⟩ | refine ⟨_, w5, ?_⟩ | refine ⟨_, w6, ?_⟩ | refine ⟨_, hr, ?_⟩ | refine And.intro (gd_none nz) ?_ | refine And.intro (gd_none nz2) ?_ | refine And.intro (gd_none g2) ?_ | refine And.intro (gd_none g3) ?_ | refine And.intro (gd_none g5) ?_ | ((refine ⟨_, (c1).call rfl rfl, ?_⟩); (rintro _ _ ⟨rfl, rfl⟩)) | ((refine ⟨_, (c2).call rfl rfl, ?_⟩); (rintro _ _ ⟨rfl, rfl⟩)) | fail); conv => whnf) | (refine AW_cond rfl (fun hb => absurd (show false = true from hb) (by decide)) (fun _ => ?_)) | (refine AW_cond rfl (fun hb => ?_) (fun hb => ?_) <;> first | (replace hb := of_decide_eq_true hb; try simp only [List.length_map] at hb) | (replace hb := of_decide_eq_false hb; try simp only [List.length_map] at hb) | (simp only [List.length_map, bne_iff_ne, ne_eq, beq_iff_eq, bne_eq_false_iff_eq, beq_eq_false_iff_ne, decide_eq_true_eq, decide_eq_false_iff_not, Bool.not_eq_true', Bool.not_eq_false', Int.natCast_inj] at hb) | skip) | ((refine andA ?_); conv => whnf) | fail
      refine congrArg (fun s : ByteArray => some (AV.t [sv s, iv .i64 0])) ?_
      rw [a1, a2, ← hE]; exact ba_append [45] _
    · rw [if_neg hneg, List.nil_append]
      rw [decide_eq_false hneg] at hcn
      refine FnC_of_AW hTt Tryd.func18 rfl (by kernel_rfl) (res := [.tmp 4, .tmp 5]) rfl Tryd.ntmps18 (by simp) fun w0 K0 => ?_
      dsimp only [entry]
      repeat' first | with_reducible refine AW_seq ?_ | ((first | with_reducible refine AW_skip ?_ | with_reducible refine AW_ret ?_ | with_reducible refine AW_region hTt ?_ | refine AW_draw hTt hMix (id := 4) 12 false [0, 1, 3, 7, 0, 31, 0, 64, 255, 0, 512, 1536, 4095, 8191] (by kernel_rfl) rfl rfl (by kernel_rfl) ?_ | ((refine ⟨_, (o1).call rfl rfl, ?_⟩); (rintro _ _ ⟨rfl, rfl⟩)) | refine ⟨_, fun _ => (o2).call rfl rfl, ?_⟩ | refine ⟨_, fun _ => (o3).call rfl rfl, ?_⟩ | ((refine ⟨_, (hpw).call rfl rfl, ?_⟩); (rintro _ _ ⟨rfl, rfl⟩)) | refine ⟨_, fun _ => (hz).call rfl rfl, ?_⟩ | fail); conv => whnf) | (exact absurd (hcn.symm.trans hb) ft) | (exact absurd hb (by omega)) | ((first | refine ⟨_, w1, ?_⟩ | refine ⟨_, w2, ?_⟩ | refine ⟨_, w3, ?_⟩ | refine ⟨_, w4, ?_⟩ | refine ⟨_, w5, ?_⟩ | refine ⟨_, w6, ?_⟩ | refine ⟨_, hr, ?_⟩ | refine And.intro (gd_none nz) ?_ | refine And.intro (gd_none nz2) ?_ | refine And.intro (gd_none g2) ?_ | refine And.intro (gd_none g3) ?_ | ((refine ⟨_, (c1).call rfl rfl, ?_⟩); (rintro _ _ ⟨rfl, rfl⟩)) | ((refine ⟨_, (c2).call rfl rfl, ?_⟩); (rintro _ _ ⟨rfl, rfl⟩)) | fail); conv => whnf) | (refine AW_cond rfl (fun hb => absurd (show false = true from hb) (by decide)) (fun _ => ?_)) | (refine AW_cond rfl (fun hb => ?_) (fun hb => ?_) <;> first | (replace hb := of_decide_eq_true hb; try simp only [List.length_map] at hb) | (replace hb := of_decide_eq_false hb; try simp only [List.length_map] at hb) | (simp only [List.length_map, bne_iff_ne, ne_eq, beq_iff_eq, bne_eq_false_iff_eq, beq_eq_false_iff_ne, decide_eq_true_eq, decide_eq_false_iff_not, Bool.not_eq_true', Bool.not_eq_false', Int.natCast_inj] at hb) | skip) | ((refine andA ?_); conv => whnf) | fail
      refine congrArg (fun s : ByteArray => some (AV.t [sv s, iv .i64 0])) ?_
      rw [a1, a2, ← hE]
def rprintP (x : R2) (places : Int) : List UInt8 × Int :=
  if outL (-1000000000000) 1000000000000 [x.1] = true ∨ outL 1 1000000000000 [x.2] = true ∨ outL 0 6 [places] = true then ([], 7) else (rprintB x places.toNat, 0)
theorem rprint_fn (x : R2) (places : Int) : FnC Tryd.prog 18 [r2AV x, iv .i64 places] (.t [sv ⟨(rprintP x places).1.toArray⟩, iv .i64 (rprintP x places).2]) := by
  have o1 := rin_fn x.1 (-1000000000000) 1000000000000
  have o2 := rin_fn x.2 1 1000000000000
  have o3 := rin_fn places 0 6
  unfold rprintP
  rw [outL_one, outL_one, outL_one]
  by_cases h : outB (-1000000000000) 1000000000000 x.1 = true ∨ outB 1 1000000000000 x.2 = true ∨ outB 0 6 places = true
  · rw [if_pos h]
    generalize outB (-1000000000000) 1000000000000 x.1 = b1 at *
    generalize outB 1 1000000000000 x.2 = b2 at *
    generalize outB 0 6 places = b3 at *
    have h : b1 = true ∨ b1 = false ∧ b2 = true ∨ b1 = false ∧ b2 = false ∧ b3 = true := by
      cases b1 <;> cases b2 <;> simp_all
    rcases h with rfl | ⟨rfl, rfl⟩ | ⟨rfl, rfl, rfl⟩
    all_goals
      refine FnC_of_AW hTt Tryd.func18 rfl (by kernel_rfl) (res := [.tmp 4, .tmp 5]) rfl Tryd.ntmps18 (by simp) fun w0 K0 => ?_
      dsimp only [entry]
      repeat' first | with_reducible refine AW_seq ?_ | ((first | with_reducible refine AW_ret ?_ | with_reducible refine AW_region hTt ?_ | ((refine ⟨_, (o1).call rfl rfl, ?_⟩); (rintro _ _ ⟨rfl, rfl⟩)) | refine ⟨_, fun _ => (o2).call rfl rfl, ?_⟩ | refine ⟨_, fun _ => (o3).call rfl rfl, ?_⟩ | fail); conv => whnf) | (refine AW_cond rfl (fun _ => ?_) (fun hb => absurd (show true = false from hb) (by decide))) | ((refine andA ?_); conv => whnf) | fail
      rfl
  · rw [if_neg h]
    have h1 : outB (-1000000000000) 1000000000000 x.1 = false := by simpa using fun e => h (.inl e)
    have h2 : outB 1 1000000000000 x.2 = false := by simpa using fun e => h (.inr (.inl e))
    have h3 : outB 0 6 places = false := by simpa using fun e => h (.inr (.inr e))
    have := rprint_go x places.toNat (outB_false.1 h1) (outB_false.1 h2) (by have := outB_false.1 h3; omega)
    rw [show ((places.toNat : Nat) : Int) = places by have := outB_false.1 h3; omega] at this
    exact this
theorem printP_eq (x : R2) (places : Int) : printP x places = rprintP x places := by
  unfold printP rprintP
  by_cases h : outL (-1000000000000) 1000000000000 [x.1] = true ∨ outL 1 1000000000000 [x.2] = true ∨ outL 0 6 [places] = true
  · rw [if_pos h, if_pos h]
  · rw [if_neg h, if_neg h]
    have h1 : outL (-1000000000000) 1000000000000 [x.1] = false := by simpa using fun e => h (.inl e)
    have h2 : outL 1 1000000000000 [x.2] = false := by simpa using fun e => h (.inr (.inl e))
    have h3 : outL 0 6 [places] = false := by simpa using fun e => h (.inr (.inr e))
    have g1 := outL_false.1 h1 _ (List.mem_singleton.2 rfl)
    have g2 := outL_false.1 h2 _ (List.mem_singleton.2 rfl)
    have g3 := outL_false.1 h3 _ (List.mem_singleton.2 rfl)
    rw [print_eq (units_le g1 g2 (by omega)).1]
theorem lprints_fn (x : R2) (k : Int) : FnC Tryd.prog 4 [r2AV x, iv .i64 k] (bv true) := by
  have s1 := print_fn x k
  have s2 := rprint_fn x k
  rw [printP_eq] at s1
  generalize rprintP x k = R at *
  obtain ⟨l, e⟩ := R
  dsimp only at s1 s2
  have ha := awake_fn
  refine FnC_of_AW hTt Tryd.func4 rfl (by kernel_rfl) (res := [.tmp 4]) rfl Tryd.ntmps4 (by simp) fun w0 K0 => ?_
  dsimp only [entry]
  repeat' first | with_reducible refine AW_seq ?_ | ((first | with_reducible refine AW_ret ?_ | with_reducible refine AW_region hTt ?_ | ((refine ⟨_, (s1).call rfl rfl, ?_⟩); (rintro _ _ ⟨rfl, rfl⟩)) | ((refine ⟨_, (s2).call rfl rfl, ?_⟩); (rintro _ _ ⟨rfl, rfl⟩)) | refine ⟨_, fun _ => (ha).call rfl rfl, ?_⟩ | refine andA ?_ | fail); conv => whnf) | fail
  exact congrArg (fun b : Bool => some (bv b)) (show _ = true by simp)
end Go.Proofs.YtnpleednkmhhhaaDoor
