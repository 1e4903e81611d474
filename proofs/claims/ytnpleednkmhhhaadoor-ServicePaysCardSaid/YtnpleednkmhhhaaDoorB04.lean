/- The logic of walks, and what the functions of the program return: part 4. No condition. -/
import Derived.Test.YtnpleednkmhhhaaDoorB03
set_option linter.all false
namespace Go.Proofs.YtnpleednkmhhhaaDoor
open Go Go.QL
set_option maxHeartbeats 1600000
attribute [local irreducible] ACall FnC YC
def brOf (p : List Int) (den b i : Int) : List R3 :=
  if sgnI (valP p i 1) = 0 then [(i * den, i * den, den)]
  else if i < b ∧ sgnI (valP p (i + 1) 1) = -sgnI (valP p i 1) then [((halveR p den 256 (i * den) ((i + 1) * den) (sgnI (valP p i 1))).1, (halveR p den 256 (i * den) ((i + 1) * den) (sgnI (valP p i 1))).2, den)]
  else []
def brL (p : List Int) (den a b : Int) (k : Nat) : List R3 := (List.range k).flatMap fun (j : Nat) => brOf p den b (a + j)
theorem brL_succ (p : List Int) (den a b : Int) (k : Nat) : brL p den a b (k + 1) = brL p den a b k ++ brOf p den b (a + k) := by
  unfold brL; rw [List.range_succ, List.flatMap_append]; simp
theorem brOf_len (p : List Int) (den b i : Int) : (brOf p den b i).length ≤ 1 := by unfold brOf; split <;> (try split) <;> simp
theorem brL_len (p : List Int) (den a b : Int) (k : Nat) : (brL p den a b k).length ≤ k := by
  induction k with
  | zero => simp [brL]
  | succ k ih => rw [brL_succ, List.length_append]; have := brOf_len p den b (a + k); omega
def rootsP (p : List Int) (a b steps : Int) : List R3 × Int :=
  if checkE p ≠ 0 then ([], checkE p)
  else if (p.any fun n => n != 0) = false then ([], 8)
  else if judgeE a b ≠ 0 then ([], judgeE a b)
  else if outL 0 8 [steps] = true then ([], 7)
  else (brL p (2 ^ steps.toNat) a b (b - a + 1).toNat, 0)
theorem nz_fn (x : Int) (σ : Sg) : ACall Tryd.prog 60 ([].map AV.x ++ [iv .i64 x] ++ [].map .x) σ (fun r σ' => r = bv (x != 0) ∧ σ' = σ) := by
  have h : FnC Tryd.prog 60 [iv .i64 x] (bv (x != 0)) := by
    refine FnC_of_AW hTt Tryd.func60 rfl (by kernel_rfl) (res := [.tmp 2]) rfl Tryd.ntmps60 (by simp) fun w0 K0 => ?_
    dsimp only [entry]
    repeat' first | with_reducible refine AW_seq ?_ | ((first | with_reducible refine AW_ret ?_ | with_reducible refine AW_region hTt ?_ | fail); conv => whnf) | fail
    rfl
  exact h.call rfl rfl
theorem sgnI_rng (n : Int) : -1 ≤ sgnI n ∧ sgnI n ≤ 1 := by unfold sgnI; split <;> (try split) <;> omega
theorem shl_small {s : Int} (h0 : 0 ≤ s) (h8 : s ≤ 8) : IntKind.i64.wrap (1 * 2 ^ (min s.toNat IntKind.i64.bits)) = 2 ^ s.toNat ∧ 1 ≤ (2 : Int) ^ s.toNat ∧ (2 : Int) ^ s.toNat ≤ 256 := by
  obtain ⟨n, rfl⟩ : ∃ n : Nat, s = n := ⟨s.toNat, by omega⟩
  have hn : n ≤ 8 := by omega
  rw [Int.toNat_natCast]
  match n, hn with
  | 0, _ | 1, _ | 2, _ | 3, _ | 4, _ | 5, _ | 6, _ | 7, _ | 8, _ => decide
  | n + 9, h => omega
theorem roots_fn (p : List Int) (a b steps : Int) : FnC Tryd.prog 19 [sl p, iv .i64 a, iv .i64 b, iv .i64 steps] (.t [r3sAV (rootsP p a b steps).1, iv .i64 (rootsP p a b steps).2]) := by
  have o1 := check_fn p
  have o2 := contains_fn 60 [] (fun n => n != 0) p
  have o3 := judge_fn a b
  have o4 := out_fn 0 8 [steps]
  unfold rootsP
  by_cases hc : checkE p ≠ 0
  · rw [if_pos hc]
    refine FnC_of_AWL hTt Tryd.func19 rfl (by kernel_rfl) (res := [.tmp 8, .tmp 9]) rfl Tryd.ntmps19 (by simp) fun w0 K0 => ?_
    dsimp only [entry]
    repeat' first | with_reducible refine AW_seq ?_ | ((first | with_reducible refine AW_skip ?_ | with_reducible refine AW_ret ?_ | with_reducible refine AW_region hTt ?_ | ((refine ⟨_, (o1).call rfl rfl, ?_⟩); (rintro _ _ ⟨rfl, rfl⟩)) | fail); conv => whnf) | (exfalso; exact hc hb) | (refine AW_cond rfl (fun hb => ?_) (fun hb => ?_) <;> first | (replace hb := of_decide_eq_true hb; try simp only [List.length_map] at hb) | (replace hb := of_decide_eq_false hb; try simp only [List.length_map] at hb) | (simp only [List.length_map, bne_iff_ne, ne_eq, beq_iff_eq, bne_eq_false_iff_eq, beq_eq_false_iff_ne, decide_eq_true_eq, decide_eq_false_iff_not, Bool.not_eq_true', Bool.not_eq_false', Int.natCast_inj] at hb)) | fail
    exact ⟨_, rfl, leN⟩
  · rw [if_neg hc]
    have hc0 : checkE p = 0 := by simpa using hc
    have hpo : pOK p := by
      unfold checkE at hc0
      by_cases h1 : outL 1 5 [(p.length : Int)] = true
      · rw [if_pos h1] at hc0; cases hc0
      · rw [if_neg h1] at hc0
        by_cases h2 : outL (-100) 100 p = true
        · rw [if_pos h2] at hc0; cases hc0
        · have h1 := outL_false.1 (by simpa using h1) _ (List.mem_singleton.2 rfl)
          exact ⟨by omega, outL_false.1 (by simpa using h2)⟩
    rw [hc0] at o1
    clear hc hc0
    by_cases hz : (p.any fun n => n != 0) = false
    · rw [if_pos hz]
      have o2 := o2 [(4, .box [.d (intsPV p)])] (fun x _ => nz_fn x _)
      rw [hz] at o2
      refine FnC_of_AWL hTt Tryd.func19 rfl (by kernel_rfl) (res := [.tmp 8, .tmp 9]) rfl Tryd.ntmps19 (by simp) fun w0 K0 => ?_
      dsimp only [entry]
      repeat' first | with_reducible refine AW_seq ?_ | ((first | with_reducible refine AW_skip ?_ | with_reducible refine AW_ret ?_ | with_reducible refine AW_region hTt ?_ | ((refine ⟨_, (o1).call rfl rfl, ?_⟩); (rintro _ _ ⟨rfl, rfl⟩)) | ((refine ⟨_, o2, ?_⟩); (rintro _ _ ⟨rfl, rfl⟩)) | fail); conv => whnf) | (refine AW_cond rfl (fun _ => ?_) (fun hb => absurd (show true = false from hb) (by decide))) | (refine AW_cond rfl (fun hb => absurd (show false = true from hb) (by decide)) (fun _ => ?_)) | fail
      exact ⟨_, rfl, leN⟩
    · rw [if_neg hz]
      have hz : (p.any fun n => n != 0) = true := by simpa using hz
      have o2 := o2 [(4, .box [.d (intsPV p)])] (fun x _ => nz_fn x _)
      rw [hz] at o2
      clear hz
      by_cases hj : judgeE a b ≠ 0
      · rw [if_pos hj]
        refine FnC_of_AWL hTt Tryd.func19 rfl (by kernel_rfl) (res := [.tmp 8, .tmp 9]) rfl Tryd.ntmps19 (by simp) fun w0 K0 => ?_
        dsimp only [entry]
        repeat' first | with_reducible refine AW_seq ?_ | ((first | with_reducible refine AW_skip ?_ | with_reducible refine AW_ret ?_ | with_reducible refine AW_region hTt ?_ | ((refine ⟨_, (o1).call rfl rfl, ?_⟩); (rintro _ _ ⟨rfl, rfl⟩)) | ((refine ⟨_, o2, ?_⟩); (rintro _ _ ⟨rfl, rfl⟩)) | ((refine ⟨_, (o3).call rfl rfl, ?_⟩); (rintro _ _ ⟨rfl, rfl⟩)) | fail); conv => whnf) | (exfalso; exact hj hb) | (refine AW_cond rfl (fun hb => absurd (show false = true from hb) (by decide)) (fun _ => ?_)) | (refine AW_cond rfl (fun hb => ?_) (fun hb => ?_) <;> first | (replace hb := of_decide_eq_true hb; try simp only [List.length_map] at hb) | (replace hb := of_decide_eq_false hb; try simp only [List.length_map] at hb) | (simp only [List.length_map, bne_iff_ne, ne_eq, beq_iff_eq, bne_eq_false_iff_eq, beq_eq_false_iff_ne, decide_eq_true_eq, decide_eq_false_iff_not, Bool.not_eq_true', Bool.not_eq_false', Int.natCast_inj] at hb)) | fail
        exact ⟨_, rfl, leN⟩
      · rw [if_neg hj]
        have hj0 : judgeE a b = 0 := by simpa using hj
        rw [hj0] at o3
        have hab : (-10 ≤ a ∧ a ≤ 10) ∧ (-10 ≤ b ∧ b ≤ 10) ∧ a < b := by
          unfold judgeE at hj0
          by_cases h1 : outL (-10) 10 [a, b] = true
          · rw [if_pos h1] at hj0; cases hj0
          · rw [if_neg h1] at hj0
            by_cases h2 : b ≤ a
            · rw [if_pos h2] at hj0; cases hj0
            · have h1 := outL_false.1 (by simpa using h1)
              exact ⟨h1 a (by simp), h1 b (by simp), by omega⟩
        clear hj hj0
        by_cases hs : outL 0 8 [steps] = true
        · rw [if_pos hs]
          rw [hs] at o4
          refine FnC_of_AWL hTt Tryd.func19 rfl (by kernel_rfl) (res := [.tmp 8, .tmp 9]) rfl Tryd.ntmps19 (by simp) fun w0 K0 => ?_
          dsimp only [entry]
          repeat' first | with_reducible refine AW_seq ?_ | ((first | with_reducible refine AW_skip ?_ | with_reducible refine AW_ret ?_ | with_reducible refine AW_region hTt ?_ | ((refine ⟨_, (o1).call rfl rfl, ?_⟩); (rintro _ _ ⟨rfl, rfl⟩)) | ((refine ⟨_, o2, ?_⟩); (rintro _ _ ⟨rfl, rfl⟩)) | ((refine ⟨_, (o3).call rfl rfl, ?_⟩); (rintro _ _ ⟨rfl, rfl⟩)) | ((refine ⟨_, (o4).call rfl rfl, ?_⟩); (rintro _ _ ⟨rfl, rfl⟩)) | fail); conv => whnf) | (refine AW_cond rfl (fun _ => ?_) (fun hb => absurd (show true = false from hb) (by decide))) | (refine AW_cond rfl (fun hb => absurd (show false = true from hb) (by decide)) (fun _ => ?_)) | fail
          exact ⟨_, rfl, leN⟩
        · rw [if_neg hs]
          have hs : outL 0 8 [steps] = false := by simpa using hs
          rw [hs] at o4
          have hst := outL_false.1 hs steps (List.mem_singleton.2 rfl)
          obtain ⟨hsh, hd1, hd2⟩ := shl_small hst.1 hst.2
          clear hs
          generalize (2 : Int) ^ steps.toNat = den at *
          refine FnC_of_AWL hTt Tryd.func19 rfl (by kernel_rfl) (res := [.tmp 8, .tmp 9]) rfl Tryd.ntmps19 (by simp) fun w0 K0 => ?_
          dsimp only [entry]
          repeat' first | with_reducible refine AW_seq ?_ | with_reducible refine AW_block ?_ | ((first | with_reducible refine AW_skip ?_ | with_reducible refine AW_region hTt ?_ | ((refine ⟨_, (o1).call rfl rfl, ?_⟩); (rintro _ _ ⟨rfl, rfl⟩)) | ((refine ⟨_, o2, ?_⟩); (rintro _ _ ⟨rfl, rfl⟩)) | ((refine ⟨_, (o3).call rfl rfl, ?_⟩); (rintro _ _ ⟨rfl, rfl⟩)) | ((refine ⟨_, (o4).call rfl rfl, ?_⟩); (rintro _ _ ⟨rfl, rfl⟩)) | refine ⟨_, hsh, ?_⟩ | refine And.intro (gd_none hst.1) ?_ | fail); conv => whnf) | (refine AW_cond rfl (fun hb => absurd (show false = true from hb) (by decide)) (fun _ => ?_)) | fail
          clear o1 o2 o3 o4 hsh hst
          refine AW_imp (Imp.nil 900 70 3 (fr' := [(12, iv .i64 a), (8, .x (.o 900 0 0)), (2, iv .i64 b), (4, .x (.b 4 0)), (10, .x (.b 10 0)), (11, .x (.b 11 0))])
            (σ' := [(11, .box [.f (.func 62) [] [.b 10 0, .b 4 0, .b 11 0]]), (10, .box [.d (.v (.int .i64 den))]), (4, .box [.d (intsPV p)])]) rfl ?_ ?_ rfl rfl) ?_
          · exact ⟨⟨_, rfl, .inl rfl⟩, ⟨_, rfl, .inr ⟨rfl, rfl⟩⟩, ⟨_, rfl, .inl rfl⟩, ⟨_, rfl, .inl rfl⟩, ⟨_, rfl, .inl rfl⟩, ⟨_, rfl, .inl rfl⟩, trivial⟩
          · exact ⟨⟨_, rfl, .inl rfl⟩, ⟨_, rfl, .inl rfl⟩, ⟨_, rfl, .inl rfl⟩, trivial⟩
          refine AW_loop (fun k : Nat => [(12, iv .i64 (a + k)), (8, .x (.o 900 (brL p den a b k).length (brL p den a b k).length)), (2, iv .i64 b), (4, .x (.b 4 0)), (10, .x (.b 10 0)), (11, .x (.b 11 0))])
            (fun k => [(900, .chain 70 3 (brL p den a b k).length ((brL p den a b k).map r3PV)), (11, .box [.f (.func 62) [] [.b 10 0, .b 4 0, .b 11 0]]), (10, .box [.d (.v (.int .i64 den))]), (4, .box [.d (intsPV p)])])
            (fun k => k ≤ (b - a + 1).toNat) (fun k => (b - a + 1).toNat - k) 0 (Nat.zero_le _) impA ?_
          intro k hk
          have hlen := brL_len p den a b k
          have hml : ((brL p den a b k).map r3PV).length = (brL p den a b k).length := List.length_map _
          rcases Nat.lt_or_ge k (b - a + 1).toNat with hkl | hkl
          · have hsg := sign_fn hpo (num := a + k) (den := 1) (by omega) (by omega)
            have hsg2 := sign_fn hpo (num := a + k + 1) (den := 1) (by omega) (by omega)
            have hsr := sgnI_rng (valP p (a + k) 1)
            have m1 := mul_bd (a := a + k) (b := den) (A := 10) (B := 256) (by omega) (by omega)
            have m2 := mul_bd (a := a + k + 1) (b := den) (A := 11) (B := 256) (by omega) (by omega)
            have m3 : (a + k + 1) * den = (a + k) * den + den := by rw [Int.add_mul, Int.one_mul]
            have hh1 := halve_fn hpo (den := den) (by omega) 0 ((a + k) * den) ((a + k) * den) (sgnI (valP p (a + k) 1)) (by omega) (by omega) (by omega) (by omega)
            have hh2 := halve_fn hpo (den := den) (by omega) 256 ((a + k) * den) ((a + k + 1) * den) (sgnI (valP p (a + k) 1)) (by omega) (by omega) (by omega) (by omega)
            have w1 : IntKind.i64.wrap ((a + k) * den) = (a + k) * den := wrap_of (by omega)
            have w2 : IntKind.i64.wrap ((a + k + 1) * den) = (a + k + 1) * den := wrap_of (by omega)
            have hnx := brL_succ p den a b k
            rw [show ((brOf p den b (a + k))) = if sgnI (valP p (a + k) 1) = 0 then [((a + k) * den, (a + k) * den, den)]
                else if a + k < b ∧ sgnI (valP p (a + k + 1) 1) = -sgnI (valP p (a + k) 1) then [((halveR p den 256 ((a + k) * den) ((a + k + 1) * den) (sgnI (valP p (a + k) 1))).1, (halveR p den 256 ((a + k) * den) ((a + k + 1) * den) (sgnI (valP p (a + k) 1))).2, den)]
                else [] from rfl] at hnx
            have e0 : halveR p den 0 ((a + k) * den) ((a + k) * den) (sgnI (valP p (a + k) 1)) = ((a + k) * den, (a + k) * den) := rfl
            rw [e0] at hh1
            clear e0 hpo m3
            generalize sgnI (valP p (a + k) 1) = s at *
            generalize sgnI (valP p (a + k + 1) 1) = s' at *
            generalize halveR p den 256 ((a + k) * den) ((a + k + 1) * den) s = H at *
            generalize hL1 : brL p den a b (k + 1) = L1 at hnx
            generalize hL : brL p den a b k = L at *
            have wn : IntKind.i64.wrap (0 - s) = -s := by rw [Int.zero_sub]; exact wrap_of (by omega)
            have one : ∀ x : R3, L1 = L ++ [x] → (L.map r3PV).take L.length ++ [r3PV x] = L1.map r3PV ∧ L.length + 1 = L1.length := by
              intro x hx
              rw [hx, List.take_of_length_le (by rw [List.length_map]; exact Nat.le_refl _), List.map_append, List.length_append]; exact ⟨rfl, rfl⟩
            by_cases hs0 : s = 0
            · rw [if_pos hs0] at hnx
              obtain ⟨o1, o2⟩ := one _ hnx
              clear one hnx hh2
              repeat' first | with_reducible refine AW_seq ?_ | with_reducible refine AW_block ?_ | ((first | with_reducible refine AW_skip ?_ | with_reducible refine AW_exit ?_ | with_reducible refine AW_ret ?_ | with_reducible refine AW_region hTt ?_ | fail); conv => whnf) | (exact absurd hb (by omega)) | ((first | ((refine ⟨_, (hsg).call rfl rfl, ?_⟩); (rintro _ _ ⟨rfl, rfl⟩)) | refine ⟨_, w1, ?_⟩ | ((refine ⟨_, (hh1).frame (asc [(910, 10), (904, 4), (911, 11)]) (by repeat (first | exact trivial | refine ⟨rfl, ?_⟩)) rfl (by rintro _ _ ⟨rfl, rfl⟩; rfl), ?_⟩); (rintro _ _ ⟨_, _, ⟨rfl, rfl⟩, rfl, rfl⟩)) | fail); conv => whnf) | ((refine And.intro (by refine ⟨?_, ?_, ?_⟩ <;> simp [chunk, maxLen] <;> omega) ?_); conv => whnf) | (refine AW_cond rfl (fun hb => ?_) (fun hb => ?_) <;> first | (replace hb := of_decide_eq_true hb; try simp only [List.length_map] at hb) | (replace hb := of_decide_eq_false hb; try simp only [List.length_map] at hb)) | ((first | refine ⟨_, wrap_of (by first | omega | (simp only [List.length_map]; omega)), ?_⟩ | refine andA ?_ | fail); conv => whnf) | fail
              refine ⟨k + 1, by omega, by omega, ?_⟩
              dsimp only
              rw [hL1]
              exact Imp.forget ⟨ivE (by omega), congrArg (fun n : Nat => some (AV.x (.o 900 n n))) o2, rfl, rfl, rfl, rfl, trivial⟩ ⟨by rw [← o2]; exact congrArg (fun xs : List (List PV) => some (Ob.chain 70 3 (L.length + 1) xs)) o1, rfl, rfl, rfl, trivial⟩ rfl
            · rw [if_neg hs0] at hnx
              by_cases hbr : a + k < b ∧ s' = -s
              · rw [if_pos hbr] at hnx
                obtain ⟨o1, o2⟩ := one _ hnx
                obtain ⟨hb1, hb2⟩ := hbr
                have hcnd : (bif decide (a + (k : Int) < b) then s' == -s else false) = true := by rw [decide_eq_true hb1, hb2]; simp
                clear one hnx hh1
                repeat' first | with_reducible refine AW_seq ?_ | with_reducible refine AW_block ?_ | ((first | with_reducible refine AW_skip ?_ | with_reducible refine AW_exit ?_ | with_reducible refine AW_ret ?_ | with_reducible refine AW_region hTt ?_ | fail); conv => whnf) | (exact absurd hb (by omega)) | ((first | ((refine ⟨_, (hsg).call rfl rfl, ?_⟩); (rintro _ _ ⟨rfl, rfl⟩)) | refine ⟨_, fun _ => (hsg2).call rfl rfl, ?_⟩ | refine ⟨_, w1, ?_⟩ | refine ⟨_, w2, ?_⟩ | refine ⟨_, wn, ?_⟩ | ((refine ⟨_, (hh2).frame (asc [(910, 10), (904, 4), (911, 11)]) (by repeat (first | exact trivial | refine ⟨rfl, ?_⟩)) rfl (by rintro _ _ ⟨rfl, rfl⟩; rfl), ?_⟩); (rintro _ _ ⟨_, _, ⟨rfl, rfl⟩, rfl, rfl⟩)) | fail); conv => whnf) | ((refine And.intro (by refine ⟨?_, ?_, ?_⟩ <;> simp [chunk, maxLen] <;> omega) ?_); conv => whnf) | (refine AW_cond rfl (fun hb => ?_) (fun hb => ?_) <;> first | (replace hb := of_decide_eq_true hb; try simp only [List.length_map] at hb) | (replace hb := of_decide_eq_false hb; try simp only [List.length_map] at hb) | skip) | ((first | refine ⟨_, wrap_of (by first | omega | (simp only [List.length_map]; omega)), ?_⟩ | refine andA ?_ | fail); conv => whnf) | fail
                · refine ⟨k + 1, by omega, by omega, ?_⟩
                  dsimp only
                  rw [hL1]
                  exact Imp.forget ⟨ivE (by omega), congrArg (fun n : Nat => some (AV.x (.o 900 n n))) o2, rfl, rfl, rfl, rfl, trivial⟩ ⟨by rw [← o2]; exact congrArg (fun xs : List (List PV) => some (Ob.chain 70 3 (L.length + 1) xs)) o1, rfl, rfl, rfl, trivial⟩ rfl
                · rw [hcnd] at hb; cases hb
              · rw [if_neg hbr, List.append_nil] at hnx
                have hcnd : (bif decide (a + (k : Int) < b) then s' == -s else false) = false := by
                  cases hd : decide (a + (k : Int) < b) with
                  | false => rfl
                  | true =>
                    simp only [cond_true, beq_eq_false_iff_ne]
                    exact fun h => hbr ⟨of_decide_eq_true hd, h⟩
                subst hnx
                clear one hh1 hh2
                repeat' first | with_reducible refine AW_seq ?_ | with_reducible refine AW_block ?_ | ((first | with_reducible refine AW_skip ?_ | with_reducible refine AW_exit ?_ | with_reducible refine AW_ret ?_ | with_reducible refine AW_region hTt ?_ | fail); conv => whnf) | (exact absurd hb (by omega)) | ((first | ((refine ⟨_, (hsg).call rfl rfl, ?_⟩); (rintro _ _ ⟨rfl, rfl⟩)) | refine ⟨_, fun _ => (hsg2).call rfl rfl, ?_⟩ | refine ⟨_, wn, ?_⟩ | fail); conv => whnf) | (refine AW_cond rfl (fun hb => ?_) (fun hb => ?_) <;> first | (replace hb := of_decide_eq_true hb; try simp only [List.length_map] at hb) | (replace hb := of_decide_eq_false hb; try simp only [List.length_map] at hb) | skip) | ((first | refine ⟨_, wrap_of (by first | omega | (simp only [List.length_map]; omega)), ?_⟩ | refine andA ?_ | fail); conv => whnf) | fail
                · rw [hcnd] at hb; cases hb
                · refine ⟨k + 1, by omega, by omega, ?_⟩
                  rw [hL1]
                  exact impA
          · obtain rfl : k = (b - a + 1).toNat := by omega
            repeat' first | with_reducible refine AW_seq ?_ | with_reducible refine AW_block ?_ | ((first | with_reducible refine AW_skip ?_ | with_reducible refine AW_exit ?_ | with_reducible refine AW_ret ?_ | with_reducible refine AW_region hTt ?_ | fail); conv => whnf) | (exact absurd hb (by omega)) | (refine AW_cond rfl (fun hb => ?_) (fun hb => ?_) <;> first | (replace hb := of_decide_eq_true hb; try simp only [List.length_map] at hb) | (replace hb := of_decide_eq_false hb; try simp only [List.length_map] at hb)) | fail
            exact ⟨_, outO2 rfl rfl rfl (by rw [hml]; exact Nat.le_refl _), leS (by rw [← hml, List.take_length])⟩
end Go.Proofs.YtnpleednkmhhhaaDoor
namespace Go.Proofs.YtnpleednkmhhhaaDoor
open Go Go.QL
set_option maxHeartbeats 1600000
attribute [local irreducible] ACall FnC YC
def vb (V D : Int) (x : R2) : Prop := (-(V * x.2) ≤ x.1 ∧ x.1 ≤ V * x.2) ∧ 0 < x.2 ∧ x.2 ≤ D
theorem redP_val {n d : Int} (h0 : d ≠ 0) : (redP n d).1 * d = n * (redP n d).2 := by
  have h1 : (Int.gcd n d : Int) ∣ n := Int.gcd_dvd_left ..
  have h2 : (Int.gcd n d : Int) ∣ d := Int.gcd_dvd_right ..
  have e1 := Int.ediv_mul_cancel h1
  have e2 := Int.ediv_mul_cancel h2
  have key : n / (Int.gcd n d : Int) * d = n * (d / (Int.gcd n d : Int)) := by
    conv => lhs; rhs; rw [← e2]
    conv => rhs; lhs; rw [← e1]
    rw [Int.mul_comm (d / _), Int.mul_assoc]
  unfold redP
  split
  · show -(n / (Int.gcd n d : Int)) * d = n * -(d / (Int.gcd n d : Int))
    rw [Int.neg_mul, Int.mul_neg, key]
  · exact key
theorem redP_vb {n d V : Int} (h : 0 < d) (hv : -(V * d) ≤ n ∧ n ≤ V * d) : vb V d (redP n d) := by
  have hp := redP_pos (n := n) (d := d) (by omega)
  have hval := redP_val (n := n) (d := d) (by omega)
  generalize redP n d = R at *
  obtain ⟨a, e⟩ := R
  dsimp only at *
  have q1 := Int.mul_le_mul_of_nonneg_right hv.2 (show 0 ≤ e by omega)
  have q2 := Int.mul_le_mul_of_nonneg_right hv.1 (show 0 ≤ e by omega)
  have e1 : V * d * e = V * e * d := by rw [Int.mul_assoc, Int.mul_comm d e, ← Int.mul_assoc]
  rw [← hval] at q1 q2
  rw [Int.neg_mul] at q2
  rw [e1] at q1 q2
  rw [← Int.neg_mul] at q2
  exact ⟨⟨Int.le_of_mul_le_mul_right q2 h, Int.le_of_mul_le_mul_right q1 h⟩, by omega, by show e ≤ d; omega⟩
theorem vb_mono {V W D E : Int} {x : R2} (h : vb V D x) (h1 : V ≤ W) (h2 : D ≤ E) : vb W E x := by
  obtain ⟨⟨a, b⟩, c, d⟩ := h
  have := Int.mul_le_mul_of_nonneg_right h1 (show 0 ≤ x.2 by omega)
  exact ⟨⟨by omega, by omega⟩, c, by omega⟩
theorem plusP_vb {V W D E : Int} {x y : R2} (hx : vb V D x) (hy : vb W E y) (hE : 0 ≤ E) (hD : 0 ≤ D) : vb (V + W) (D * E) (plusP x y) := by
  obtain ⟨xn, xd⟩ := x
  obtain ⟨yn, yd⟩ := y
  obtain ⟨⟨a1, a2⟩, a3, a4⟩ := hx
  obtain ⟨⟨b1, b2⟩, b3, b4⟩ := hy
  dsimp only at *
  have hg : 0 < Int.gcd xd yd := Int.gcd_pos_of_ne_zero_right xd (by omega)
  unfold plusP
  dsimp only
  obtain ⟨v, hv⟩ : (Int.gcd xd yd : Int) ∣ xd := Int.gcd_dvd_left ..
  obtain ⟨u, hu⟩ : (Int.gcd xd yd : Int) ∣ yd := Int.gcd_dvd_right ..
  have ev : xd / (Int.gcd xd yd : Int) = v := by
    conv => lhs; lhs; rw [hv]
    exact Int.mul_ediv_cancel_left _ (by omega)
  have eu : yd / (Int.gcd xd yd : Int) = u := by
    conv => lhs; lhs; rw [hu]
    exact Int.mul_ediv_cancel_left _ (by omega)
  rw [ev, eu]
  generalize (Int.gcd xd yd) = g at *
  have hv0 : 0 < v := by
    rcases Int.lt_or_le 0 v with h | h
    · exact h
    · have := Int.mul_nonneg (show (0 : Int) ≤ (g : Int) by omega) (show 0 ≤ -v by omega)
      rw [Int.mul_neg] at this; omega
  have hu0 : 0 < u := by
    rcases Int.lt_or_le 0 u with h | h
    · exact h
    · have := Int.mul_nonneg (show (0 : Int) ≤ (g : Int) by omega) (show 0 ≤ -u by omega)
      rw [Int.mul_neg] at this; omega
  have hvx : v ≤ xd := by
    have := Int.mul_le_mul_of_nonneg_right (show (1 : Int) ≤ (g : Int) by omega) (show 0 ≤ v by omega)
    omega
  have m4 : 0 < v * yd := Int.mul_pos hv0 b3
  have e1 : xd * u = v * yd := by
    conv => lhs; lhs; rw [hv]
    conv => rhs; rhs; rw [hu]
    rw [Int.mul_comm (g : Int) v, Int.mul_assoc]
  have e2 : yd * v = v * yd := Int.mul_comm ..
  have p1 := Int.mul_le_mul_of_nonneg_right a1 (show 0 ≤ u by omega)
  have p2 := Int.mul_le_mul_of_nonneg_right a2 (show 0 ≤ u by omega)
  have p3 := Int.mul_le_mul_of_nonneg_right b1 (show 0 ≤ v by omega)
  have p4 := Int.mul_le_mul_of_nonneg_right b2 (show 0 ≤ v by omega)
  rw [Int.neg_mul] at p1 p3
  rw [Int.mul_assoc, e1] at p1 p2
  rw [Int.mul_assoc, e2] at p3 p4
  refine vb_mono (redP_vb (V := V + W) m4 ⟨by rw [Int.add_mul]; omega, by rw [Int.add_mul]; omega⟩) (Int.le_refl _) ?_
  have q1 := Int.mul_le_mul_of_nonneg_right (show v ≤ D by omega) (show 0 ≤ yd by omega)
  have q2 := Int.mul_le_mul_of_nonneg_left (show yd ≤ E by omega) hD
  omega
def areaPart (p : List Int) (a b : Int) (j : Nat) : R2 := redP (p.getD j 0 * (b ^ (j + 1) - a ^ (j + 1))) ((j : Int) + 1)
def areaL (p : List Int) (a b : Int) (k : Nat) : List R2 := (List.range k).map fun (j : Nat) => areaPart p a b j
theorem areaL_succ (p : List Int) (a b : Int) (k : Nat) : areaL p a b (k + 1) = areaL p a b k ++ [areaPart p a b k] := by unfold areaL; rw [List.range_succ, List.map_append]; rfl
theorem areaL_len (p : List Int) (a b : Int) (k : Nat) : (areaL p a b k).length = k := by unfold areaL; simp
def areaP (p : List Int) (a b : Int) : R2 × Int :=
  if firstNZ [checkE p, judgeE a b] ≠ 0 then ((0, 0), firstNZ [checkE p, judgeE a b]) else ((areaL p a b p.length).foldl plusP (0, 1), 0)
theorem pow_bd {b : Int} (h : -10 ≤ b ∧ b ≤ 10) : ∀ n : Nat, -((10 : Int) ^ n) ≤ b ^ n ∧ b ^ n ≤ 10 ^ n
  | 0 => by simp
  | n + 1 => by
    have := mul_bd (pow_bd h n) h
    rw [Int.pow_succ, Int.pow_succ]; exact this
theorem ten_le {n : Nat} (h : n ≤ 6) : (10 : Int) ^ n ≤ 1000000 := by
  match n, h with
  | 0, _ | 1, _ | 2, _ | 3, _ | 4, _ | 5, _ | 6, _ => decide
  | n + 7, h => omega
theorem ten_le5 {n : Nat} (h : n ≤ 5) : (10 : Int) ^ n ≤ 100000 := by
  match n, h with
  | 0, _ | 1, _ | 2, _ | 3, _ | 4, _ | 5, _ => decide
  | n + 6, h => omega
def fac : Nat → Int
  | 0 => 1
  | n + 1 => fac n * ((n : Int) + 1)
theorem fac_le {n : Nat} (h : n ≤ 5) : 1 ≤ fac n ∧ fac n ≤ 120 := by
  match n, h with
  | 0, _ | 1, _ | 2, _ | 3, _ | 4, _ | 5, _ => decide
  | n + 6, h => omega
theorem area_num {p : List Int} (hp : pOK p) {a b : Int} (ha : -10 ≤ a ∧ a ≤ 10) (hb : -10 ≤ b ∧ b ≤ 10) (j : Nat) (hj : j < 5) :
    (-200000 ≤ b ^ (j + 1) - a ^ (j + 1) ∧ b ^ (j + 1) - a ^ (j + 1) ≤ 200000) ∧ (-20000000 ≤ p.getD j 0 * (b ^ (j + 1) - a ^ (j + 1)) ∧ p.getD j 0 * (b ^ (j + 1) - a ^ (j + 1)) ≤ 20000000) := by
  have h1 := pow_bd ha (j + 1)
  have h2 := pow_bd hb (j + 1)
  have h3 := ten_le5 (show j + 1 ≤ 5 by omega)
  have h4 := mul_bd (a := p.getD j 0) (b := b ^ (j + 1) - a ^ (j + 1)) (A := 100) (B := 200000) (hp.get j) (by omega)
  omega
theorem area_vb {p : List Int} (hp : pOK p) {a b : Int} (ha : -10 ≤ a ∧ a ≤ 10) (hb : -10 ≤ b ∧ b ≤ 10) : ∀ k : Nat, k ≤ 5 → vb ((k : Int) * 20000000) (fac k) ((areaL p a b k).foldl plusP (0, 1))
  | 0, _ => (show vb 0 1 ((0 : Int), (1 : Int)) from ⟨⟨by decide, by decide⟩, by decide, by decide⟩)
  | k + 1, hk => by
    rw [areaL_succ, List.foldl_append]
    have ih := area_vb hp ha hb k (by omega)
    have hn := (area_num hp ha hb k (by omega)).2
    have h1 : vb 20000000 ((k : Int) + 1) (areaPart p a b k) := redP_vb (by omega) (by
      have := Int.mul_le_mul_of_nonneg_left (show (1 : Int) ≤ (k : Int) + 1 by omega) (show (0 : Int) ≤ 20000000 by omega)
      omega)
    have h2 := plusP_vb ih h1 (by omega) (by have := fac_le (show k ≤ 5 by omega); omega)
    exact vb_mono h2 (by show (k : Int) * 20000000 + 20000000 ≤ ((k + 1 : Nat) : Int) * 20000000; omega) (Int.le_refl _)
theorem vb_okR {V D : Int} {x : R2} (h : vb V D x) (h1 : 0 ≤ V) (h2 : V ≤ 100000000) (h3 : D ≤ 10000) : okR x := by
  obtain ⟨⟨a, b⟩, c, d⟩ := h
  have := mul_bd (a := V) (b := x.2) (A := 100000000) (B := 10000) (by omega) (by omega)
  exact ⟨⟨by omega, by omega⟩, c, by omega⟩
theorem areaPart_vb {p : List Int} (hp : pOK p) {a b : Int} (ha : -10 ≤ a ∧ a ≤ 10) (hb : -10 ≤ b ∧ b ≤ 10) (k : Nat) (hk : k < 5) : vb 20000000 5 (areaPart p a b k) := by
  have hn := (area_num hp ha hb k hk).2
  exact vb_mono (redP_vb (V := 20000000) (by omega) (by omega)) (Int.le_refl _) (by omega)
theorem firstNZ_two {a b : Int} (h : ¬ firstNZ [a, b] ≠ 0) : a = 0 ∧ b = 0 := by
  by_cases ha : a ≠ 0
  · exact absurd (by simp only [firstNZ]; rw [if_pos ha]; exact ha) h
  · by_cases hb : b ≠ 0
    · exact absurd (by simp only [firstNZ]; rw [if_neg ha, if_pos hb]; exact hb) h
    · omega
theorem check_pOK {p : List Int} (hc0 : checkE p = 0) : pOK p ∧ 1 ≤ p.length := by
  unfold checkE at hc0
  by_cases h1 : outL 1 5 [(p.length : Int)] = true
  · rw [if_pos h1] at hc0; cases hc0
  · rw [if_neg h1] at hc0
    by_cases h2 : outL (-100) 100 p = true
    · rw [if_pos h2] at hc0; cases hc0
    · have h1 := outL_false.1 (by simpa using h1) _ (List.mem_singleton.2 rfl)
      exact ⟨⟨by omega, outL_false.1 (by simpa using h2)⟩, by omega⟩
theorem judge_ok {a b : Int} (hj0 : judgeE a b = 0) : (-10 ≤ a ∧ a ≤ 10) ∧ (-10 ≤ b ∧ b ≤ 10) ∧ a < b := by
  unfold judgeE at hj0
  by_cases h1 : outL (-10) 10 [a, b] = true
  · rw [if_pos h1] at hj0; cases hj0
  · rw [if_neg h1] at hj0
    by_cases h2 : b ≤ a
    · rw [if_pos h2] at hj0; cases hj0
    · have h1 := outL_false.1 (by simpa using h1)
      exact ⟨h1 a (by simp), h1 b (by simp), by omega⟩
end Go.Proofs.YtnpleednkmhhhaaDoor
namespace Go.Proofs.YtnpleednkmhhhaaDoor
open Go Go.QL
set_option maxHeartbeats 1600000
attribute [local irreducible] ACall FnC YC
def valG (M : Int) : Nat → Int × Int
  | 0 => (0, 1)
  | j + 1 => ((valG M j).1 * M + 100 * (valG M j).2, (valG M j).2 * M)
theorem val_bdM {p : List Int} (hp : pOK p) {M num den : Int} (hn : -M ≤ num ∧ num ≤ M) (hd : -M ≤ den ∧ den ≤ M) : ∀ j, (-(valG M j).1 ≤ (valS p num den j).1 ∧ (valS p num den j).1 ≤ (valG M j).1) ∧ (-(valG M j).2 ≤ (valS p num den j).2 ∧ (valS p num den j).2 ≤ (valG M j).2)
  | 0 => by simp [valG, valS]
  | j + 1 => by
    obtain ⟨h1, h2⟩ := val_bdM hp hn hd j
    have a := mul_bd h1 hn
    have b := mul_bd (hp.get (p.length - 1 - j)) h2
    have c := mul_bd h2 hd
    simp only [valG, valS]
    omega
theorem valG_600 : ∀ j, j < 6 → (valG 600 j).1 ≤ 70000000000000 := by decide
theorem valP_600 {p : List Int} (hp : pOK p) {num den : Int} (hn : -600 ≤ num ∧ num ≤ 600) (hd : -600 ≤ den ∧ den ≤ 600) : -70000000000000 ≤ valP p num den ∧ valP p num den ≤ 70000000000000 := by
  have h := (val_bdM hp hn hd p.length).1
  have h2 := valG_600 p.length (by have := hp.1; omega)
  unfold valP
  omega
def sumS (p : List Int) (a b N : Int) : Nat → Int
  | 0 => 0
  | i + 1 => if 0 < (i : Int) ∧ (i : Int) < N then sumS p a b N i + valP p (a * N + i * (b - a)) N + valP p (a * N + i * (b - a)) N else sumS p a b N i + valP p (a * N + i * (b - a)) N
def bentS (p : List Int) (m : Int) : Nat → Int × Int
  | 0 => (0, 1)
  | j + 1 => ((bentS p m j).1 + mx (p.getD (j + 2) 0) (-p.getD (j + 2) 0) * ((j : Int) + 2) * ((j : Int) + 2 - 1) * (bentS p m j).2, (bentS p m j).2 * m)
def mostS (a b : Int) : Int := mx (mx (mx a (-a)) b) (-b)
def stripsP (p : List Int) (a b N : Int) : R2 × R2 × Int :=
  if firstNZ [checkE p, judgeE a b] ≠ 0 then ((0, 0), (0, 0), firstNZ [checkE p, judgeE a b])
  else if outL 1 20 [N] = true then ((0, 0), (0, 0), 7)
  else (timesP (redP (sumS p a b N (N.toNat + 1)) (2 * N * N ^ (p.length - 1))) (b - a, 1),
    [(b - a, 1), (b - a, 1), redP (bentS p (mostS a b) (p.length - 2)).1 (12 * N * N)].foldl timesP (b - a, 1), 0)
theorem sum_arg {a b N : Int} (ha : -10 ≤ a ∧ a ≤ 10) (hb : -10 ≤ b ∧ b ≤ 10) (hab : a < b) (hN : 1 ≤ N ∧ N ≤ 20) (i : Nat) (hi : (i : Int) ≤ N) :
    (-200 ≤ a * N ∧ a * N ≤ 200) ∧ (-400 ≤ i * (b - a) ∧ i * (b - a) ≤ 400) ∧ (-600 ≤ a * N + i * (b - a) ∧ a * N + i * (b - a) ≤ 600) := by
  have m1 := mul_bd (a := a) (b := N) (A := 10) (B := 20) (by omega) (by omega)
  have m2 := mul_bd (a := i) (b := b - a) (A := 20) (B := 20) (by omega) (by omega)
  omega
theorem sumS_bd {p : List Int} (hp : pOK p) {a b N : Int} (ha : -10 ≤ a ∧ a ≤ 10) (hb : -10 ≤ b ∧ b ≤ 10) (hab : a < b) (hN : 1 ≤ N ∧ N ≤ 20) : ∀ i : Nat, (i : Int) ≤ N + 1 → -(i * 140000000000000) ≤ sumS p a b N i ∧ sumS p a b N i ≤ i * 140000000000000
  | 0, _ => by simp [sumS]
  | i + 1, h => by
    have ih := sumS_bd hp ha hb hab hN i (by omega)
    have h1 := sum_arg ha hb hab hN i (by omega)
    have h2 := valP_600 hp (num := a * N + i * (b - a)) (den := N) (by omega) (by omega)
    simp only [sumS]
    split <;> omega
theorem mostS_rng {a b : Int} (ha : -10 ≤ a ∧ a ≤ 10) (hb : -10 ≤ b ∧ b ≤ 10) : 0 ≤ mostS a b ∧ mostS a b ≤ 10 := by
  unfold mostS mx
  split <;> split <;> split <;> omega
theorem bent_bd {p : List Int} (hp : pOK p) {m : Int} (hm : 0 ≤ m ∧ m ≤ 10) : ∀ j : Nat, j ≤ 3 → (0 ≤ (bentS p m j).1 ∧ (bentS p m j).1 ≤ j * 1000000) ∧ (0 ≤ (bentS p m j).2 ∧ (bentS p m j).2 ≤ 10 ^ j)
  | 0, _ => by simp [bentS]
  | j + 1, h => by
    obtain ⟨h1, h2⟩ := bent_bd hp hm j (by omega)
    have hc := hp.get (j + 2)
    have h3 : 0 ≤ mx (p.getD (j + 2) 0) (-p.getD (j + 2) 0) ∧ mx (p.getD (j + 2) 0) (-p.getD (j + 2) 0) ≤ 100 := by unfold mx; split <;> omega
    have h5 : (10 : Int) ^ j ≤ 100 := by
      match j, h with
      | 0, _ | 1, _ | 2, _ => decide
      | j + 3, h => omega
    simp only [bentS]
    generalize mx (p.getD (j + 2) 0) (-p.getD (j + 2) 0) = c at *
    generalize (bentS p m j).1 = B at *
    generalize (bentS p m j).2 = T at *
    have m1 := mul_bd (a := c) (b := (j : Int) + 2) (A := 100) (B := 4) (by omega) (by omega)
    have m1' := Int.mul_nonneg (a := c) (b := (j : Int) + 2) (by omega) (by omega)
    have m2 := mul_bd (a := c * ((j : Int) + 2)) (b := (j : Int) + 2 - 1) (A := 400) (B := 3) (by omega) (by omega)
    have m2' := Int.mul_nonneg (a := c * ((j : Int) + 2)) (b := (j : Int) + 2 - 1) (by omega) (by omega)
    have m3 := mul_bd (a := c * ((j : Int) + 2) * ((j : Int) + 2 - 1)) (b := T) (A := 1200) (B := 100) (by omega) (by omega)
    have m3' := Int.mul_nonneg (a := c * ((j : Int) + 2) * ((j : Int) + 2 - 1)) (b := T) (by omega) (by omega)
    have m4 := Int.mul_nonneg h2.1 hm.1
    have m5 := Int.mul_le_mul h2.2 hm.2 hm.1 (show (0 : Int) ≤ 10 ^ j by omega)
    rw [Int.pow_succ]
    omega
end Go.Proofs.YtnpleednkmhhhaaDoor
namespace Go.Proofs.YtnpleednkmhhhaaDoor
open Go Go.QL
set_option maxHeartbeats 3200000
attribute [local irreducible] ACall FnC YC Imp
theorem pow20 {N : Int} (hN : 1 ≤ N ∧ N ≤ 20) : ∀ n : Nat, n ≤ 4 → 1 ≤ N ^ n ∧ N ^ n ≤ 160000
  | n, h => by
    have key : ∀ n : Nat, 1 ≤ N ^ n ∧ N ^ n ≤ 20 ^ n := by
      intro n
      induction n with
      | zero => simp
      | succ n ih =>
        rw [Int.pow_succ, Int.pow_succ]
        have h1 := Int.mul_le_mul ih.2 hN.2 (show (0 : Int) ≤ N by omega) (show (0 : Int) ≤ 20 ^ n by omega)
        have h2 := Int.mul_le_mul_of_nonneg_left hN.1 (show 0 ≤ N ^ n by omega)
        omega
    have h1 := key n
    have h2 : (20 : Int) ^ n ≤ 160000 := by
      match n, h with
      | 0, _ | 1, _ | 2, _ | 3, _ | 4, _ => decide
      | n + 5, h => omega
    omega
theorem bound_join {w : Int} (hw : 1 ≤ w ∧ w ≤ 20) {x : R2} (hx : x.1.natAbs ≤ 3000000) (hx2 : 0 < x.2 ∧ x.2 ≤ 4800) :
    FnC Tryd.prog 88 [.x (.f (.func 87) [] []), r2sAV [(w, 1), (w, 1), (w, 1), x]] (r2AV ([(w, 1), (w, 1), x].foldl timesP (w, 1))) := by
  have t1 := timesP_bd (x := (w, 1)) (y := (w, 1)) (by omega) (by omega)
  have m1 : w.natAbs * w.natAbs ≤ 20 * 20 := Nat.mul_le_mul (by omega) (by omega)
  have t2 := timesP_bd (x := timesP (w, 1) (w, 1)) (y := (w, 1)) t1.2.1 (by omega)
  have m2 : (timesP (w, 1) (w, 1)).1.natAbs * w.natAbs ≤ 400 * 20 := Nat.mul_le_mul (by have := t1.1; dsimp only at this; omega) (by omega)
  have m3 : (timesP (timesP (w, 1) (w, 1)) (w, 1)).1.natAbs * x.1.natAbs ≤ 8000 * 3000000 := Nat.mul_le_mul (by have := t2.1; dsimp only at this; omega) hx
  have c1 := times_fn (w, 1) (w, 1) ⟨by unfold lim; dsimp only; omega, by omega, by omega⟩ ⟨by unfold lim; dsimp only; omega, by omega, by omega⟩ (by dsimp only; omega)
  have k1 := t1.1; have k2 := t2.1
  dsimp only at k1 k2
  have d1 : (timesP (w, 1) (w, 1)).2 ≤ 1 := by have := t1.2.2; dsimp only at this; omega
  have d2 : (timesP (timesP (w, 1) (w, 1)) (w, 1)).2 ≤ 1 := by
    have h := t2.2.2
    have := Int.mul_le_mul_of_nonneg_right d1 (show (0 : Int) ≤ 1 by omega)
    dsimp only at h; omega
  have c2 := times_fn (timesP (w, 1) (w, 1)) (w, 1) ⟨by unfold lim; omega, t1.2.1, by omega⟩ ⟨by unfold lim; dsimp only; omega, by omega, by omega⟩ (by dsimp only; omega)
  have c3 := times_fn (timesP (timesP (w, 1) (w, 1)) (w, 1)) x ⟨by unfold lim; omega, t2.2.1, by omega⟩ ⟨by unfold lim; omega, hx2.1, by omega⟩ (by omega)
  refine join_fn _ timesP (w, 1) [(w, 1), (w, 1), x] (by simp) fun i hi => ?_
  match i, hi with
  | 0, _ => exact c1
  | 1, _ => exact c2
  | 2, _ => exact c3
  | i + 3, h => exact absurd h (by simp)
abbrev sgZ : Sg := [(9, .box [.d (.v (.int .i64 0)), .d (.v (.int .i64 0))]), (8, .box [.d (.v (.int .i64 0)), .d (.v (.int .i64 0))])]
theorem strips_fn (p : List Int) (a b N : Int) : FnC Tryd.prog 48 [sl p, iv .i64 a, iv .i64 b, iv .i64 N] (.t [r2AV (stripsP p a b N).1, r2AV (stripsP p a b N).2.1, iv .i64 (stripsP p a b N).2.2]) := by
  have o1 := check_fn p
  have o2 := judge_fn a b
  have o3 := or_fn [checkE p, judgeE a b]
  have o4 := out_fn 1 20 [N]
  unfold stripsP
  by_cases he : firstNZ [checkE p, judgeE a b] ≠ 0
  · rw [if_pos he]
    generalize firstNZ [checkE p, judgeE a b] = e at *
    refine FnC_of_AW hTt Tryd.func48 rfl (by kernel_rfl) (res := [.cell 8 34, .cell 9 34, .tmp 10]) rfl Tryd.ntmps48 (by simp) fun w0 K0 => ?_
    dsimp only [entry]
    repeat' first | (with_reducible exact trivial) | (exact impA) | ((with_reducible refine And.intro (b := allN _ _ _) ?_ ?_) <;> conv => whnf) | ((refine AW_drawA hTt hMix (id := 3) [0, 0, 0, 1, 11, 31] (by kernel_rfl) [(8, .x (.b 8 0)), (9, .x (.b 9 0)), (10, iv .i64 e)] sgZ ?_ ?_) <;> conv => whnf) | with_reducible refine AW_seq ?_ | ((first | with_reducible refine AW_skip ?_ | with_reducible refine AW_ret ?_ | with_reducible refine AW_region hTt ?_ | ((refine ⟨_, (o1).call rfl rfl, ?_⟩); (rintro _ _ ⟨rfl, rfl⟩)) | ((refine ⟨_, (o2).call rfl rfl, ?_⟩); (rintro _ _ ⟨rfl, rfl⟩)) | ((refine ⟨_, (o3).call rfl rfl, ?_⟩); (rintro _ _ ⟨rfl, rfl⟩)) | fail); conv => whnf) | (exfalso; exact he hb) | (refine AW_cond rfl (fun hb => ?_) (fun hb => ?_) <;> first | (replace hb := of_decide_eq_true hb; try simp only [List.length_map] at hb) | (replace hb := of_decide_eq_false hb; try simp only [List.length_map] at hb) | (simp only [List.length_map, bne_iff_ne, ne_eq, beq_iff_eq, bne_eq_false_iff_eq, beq_eq_false_iff_ne, decide_eq_true_eq, decide_eq_false_iff_not, Bool.not_eq_true', Bool.not_eq_false', Int.natCast_inj] at hb)) | fail
    rfl
  · rw [if_neg he]
    obtain ⟨h1, h2⟩ := firstNZ_two he
    have he0 : firstNZ [checkE p, judgeE a b] = 0 := by simpa using he
    obtain ⟨hp, hp1⟩ := check_pOK h1
    obtain ⟨ha, hbb, hab⟩ := judge_ok h2
    rw [he0] at o3
    clear he he0 h1 h2
    by_cases hn : outL 1 20 [N] = true
    · rw [if_pos hn]
      rw [hn] at o4
      refine FnC_of_AW hTt Tryd.func48 rfl (by kernel_rfl) (res := [.cell 8 34, .cell 9 34, .tmp 10]) rfl Tryd.ntmps48 (by simp) fun w0 K0 => ?_
      dsimp only [entry]
      repeat' first | (with_reducible exact trivial) | (exact impA) | ((with_reducible refine And.intro (b := allN _ _ _) ?_ ?_) <;> conv => whnf) | ((refine AW_drawA hTt hMix (id := 5) [0, 0, 1, 7, 15] (by kernel_rfl) [(8, .x (.b 8 0)), (9, .x (.b 9 0)), (10, iv .i64 7)] sgZ ?_ ?_) <;> conv => whnf) | with_reducible refine AW_seq ?_ | ((first | with_reducible refine AW_skip ?_ | with_reducible refine AW_ret ?_ | with_reducible refine AW_region hTt ?_ | ((refine ⟨_, (o1).call rfl rfl, ?_⟩); (rintro _ _ ⟨rfl, rfl⟩)) | ((refine ⟨_, (o2).call rfl rfl, ?_⟩); (rintro _ _ ⟨rfl, rfl⟩)) | ((refine ⟨_, (o3).call rfl rfl, ?_⟩); (rintro _ _ ⟨rfl, rfl⟩)) | ((refine ⟨_, (o4).call rfl rfl, ?_⟩); (rintro _ _ ⟨rfl, rfl⟩)) | fail); conv => whnf) | (refine AW_cond rfl (fun _ => ?_) (fun hb => absurd (show true = false from hb) (by decide))) | (refine AW_cond rfl (fun hb => absurd (show false = true from hb) (by decide)) (fun _ => ?_)) | fail
      rfl
    · rw [if_neg hn]
      have hn : outL 1 20 [N] = false := by simpa using hn
      rw [hn] at o4
      have hN := outL_false.1 hn N (List.mem_singleton.2 rfl)
      clear hn
      have hp5 := hp.1
      refine FnC_of_AW hTt Tryd.func48 rfl (by kernel_rfl) (res := [.cell 8 34, .cell 9 34, .tmp 10]) rfl Tryd.ntmps48 (by simp) fun w0 K0 => ?_
      dsimp only [entry]
      repeat' first | with_reducible refine AW_seq ?_ | with_reducible refine AW_block ?_ | ((first | with_reducible refine AW_skip ?_ | with_reducible refine AW_region hTt ?_ | ((refine ⟨_, (o1).call rfl rfl, ?_⟩); (rintro _ _ ⟨rfl, rfl⟩)) | ((refine ⟨_, (o2).call rfl rfl, ?_⟩); (rintro _ _ ⟨rfl, rfl⟩)) | ((refine ⟨_, (o3).call rfl rfl, ?_⟩); (rintro _ _ ⟨rfl, rfl⟩)) | ((refine ⟨_, (o4).call rfl rfl, ?_⟩); (rintro _ _ ⟨rfl, rfl⟩)) | fail); conv => whnf) | (refine AW_cond rfl (fun hb => absurd (show false = true from hb) (by decide)) (fun _ => ?_)) | ((refine ⟨_, wrap_of (by first | omega | (simp only [List.length_map]; omega)), ?_⟩); conv => whnf) | (refine fun hln => ?_; (try rw [List.length_map] at hln); unfold maxLen at hln; conv => whnf) | fail
      clear o1 o2 o3 o4
      refine AW_loop (fun i : Nat => [(42, iv .i64 i), (41, iv .i64 ((p.length : Int) - 1)), (12, iv .i64 (2 * N * N ^ i)), (11, iv .i64 0), (0, sl p), (1, iv .i64 a), (2, iv .i64 b), (3, iv .i64 N), (8, .x (.b 8 0)), (9, .x (.b 9 0))])
        (fun _ => sgZ) (fun i => i + 1 ≤ p.length) (fun i => p.length - i) 0 (by omega) (Imp.forget (by repeat' (first | exact trivial | refine And.intro ?_ ?_ | exact ivE (by rw [Int.pow_zero, Int.mul_one]) | rfl | exact ivE (by first | omega | (simp only [List.length_map, List.length_append, List.length_singleton] <;> omega)) | exact oE (by first | omega | (simp only [List.length_map, List.length_append, List.length_singleton] <;> omega)))) (by repeat' (first | exact trivial | refine And.intro ?_ ?_ | exact ivE (by rw [Int.pow_zero, Int.mul_one]) | rfl | exact ivE (by first | omega | (simp only [List.length_map, List.length_append, List.length_singleton] <;> omega)) | exact oE (by first | omega | (simp only [List.length_map, List.length_append, List.length_singleton] <;> omega)))) (by kernel_rfl) (by kernel_rfl) (by kernel_rfl)) ?_
      intro i hi
      rcases Nat.lt_or_ge (i + 1) p.length with hil | hil
      · have q1 := pow20 hN i (by omega)
        have m1 := mul_bd (a := 2 * N) (b := N ^ i) (A := 40) (B := 160000) (by omega) (by omega)
        have m2 := mul_bd (a := 2 * N * N ^ i) (b := N) (A := 6400000) (B := 20) (by omega) (by omega)
        have e1 : 2 * N * N ^ i * N = 2 * N * N ^ (i + 1) := by rw [Int.pow_succ, Int.mul_assoc]
        have w1 : IntKind.i64.wrap (2 * N * N ^ i * N) = 2 * N * N ^ (i + 1) := by rw [← e1]; exact wrap_of (by omega)
        repeat' first | with_reducible refine AW_seq ?_ | with_reducible refine AW_block ?_ | ((first | with_reducible refine AW_skip ?_ | with_reducible refine AW_exit ?_ | with_reducible refine AW_region hTt ?_ | fail); conv => whnf) | (exact absurd hb (by omega)) | ((refine ⟨_, w1, ?_⟩); conv => whnf) | (refine AW_cond rfl (fun hb => ?_) (fun hb => ?_) <;> first | (replace hb := of_decide_eq_true hb; try simp only [List.length_map] at hb) | (replace hb := of_decide_eq_false hb; try simp only [List.length_map] at hb)) | ((refine ⟨_, wrap_of (by first | omega | (simp only [List.length_map]; omega)), ?_⟩); conv => whnf) | fail
        exact ⟨i + 1, hil, by omega, impA⟩
      · obtain rfl : i = p.length - 1 := by omega
        repeat' first | with_reducible refine AW_seq ?_ | with_reducible refine AW_block ?_ | ((first | with_reducible refine AW_skip ?_ | with_reducible refine AW_exit ?_ | with_reducible refine AW_region hTt ?_ | fail); conv => whnf) | (exact absurd hb (by omega)) | (refine AW_cond rfl (fun hb => ?_) (fun hb => ?_) <;> first | (replace hb := of_decide_eq_true hb; try simp only [List.length_map] at hb) | (replace hb := of_decide_eq_false hb; try simp only [List.length_map] at hb)) | ((refine ⟨_, wrap_of (by first | omega | (simp only [List.length_map]; omega)), ?_⟩); conv => whnf) | fail
        refine AW_loop (fun i : Nat => [(50, iv .i64 i), (49, iv .i64 (N + 1)), (12, iv .i64 (2 * N * N ^ (p.length - 1))), (11, iv .i64 (sumS p a b N i)), (0, sl p), (1, iv .i64 a), (2, iv .i64 b), (3, iv .i64 N), (8, .x (.b 8 0)), (9, .x (.b 9 0))])
          (fun _ => sgZ) (fun i => (i : Int) ≤ N + 1) (fun i => (N + 1).toNat - i) 0 (by omega) impA ?_
        intro i hi
        rcases Int.lt_or_le (i : Int) (N + 1) with hil | hil
        · obtain ⟨q1, q2, q3⟩ := sum_arg ha hbb hab hN i (by omega)
          have hv := value_fn hp (num := a * N + i * (b - a)) (den := N) (by omega) (by omega)
          have hvr := valP_600 hp (num := a * N + i * (b - a)) (den := N) (by omega) (by omega)
          have hsr := sumS_bd hp ha hbb hab hN i (by omega)
          have hsn : sumS p a b N (i + 1) = if 0 < (i : Int) ∧ (i : Int) < N then sumS p a b N i + valP p (a * N + i * (b - a)) N + valP p (a * N + i * (b - a)) N else sumS p a b N i + valP p (a * N + i * (b - a)) N := rfl
          have w1 : IntKind.i64.wrap (a * N) = a * N := wrap_of (by omega)
          have w2 : IntKind.i64.wrap (i * (b - a)) = i * (b - a) := wrap_of (by omega)
          generalize valP p (a * N + i * (b - a)) N = y at *
          generalize hS1 : sumS p a b N (i + 1) = S1 at hsn
          generalize sumS p a b N i = S at *
          clear hp
          by_cases hin : 0 < (i : Int) ∧ (i : Int) < N
          · rw [if_pos hin] at hsn
            obtain ⟨hin1, hin2⟩ := hin
            have hcnd : (bif decide (0 < (i : Int)) then decide ((i : Int) < N) else false) = true := by rw [decide_eq_true hin1, decide_eq_true hin2]; rfl
            repeat' first | with_reducible refine AW_seq ?_ | with_reducible refine AW_block ?_ | ((first | with_reducible refine AW_skip ?_ | with_reducible refine AW_exit ?_ | with_reducible refine AW_region hTt ?_ | fail); conv => whnf) | (exact absurd hb (by omega)) | (rw [hcnd] at hb; cases hb; done) | ((first | ((refine ⟨_, (hv).call rfl rfl, ?_⟩); (rintro _ _ ⟨rfl, rfl⟩)) | refine ⟨_, w1, ?_⟩ | refine ⟨_, w2, ?_⟩ | fail); conv => whnf) | (refine AW_cond rfl (fun hb => ?_) (fun hb => ?_) <;> first | (replace hb := of_decide_eq_true hb; try simp only [List.length_map] at hb) | (replace hb := of_decide_eq_false hb; try simp only [List.length_map] at hb) | skip) | ((first | refine ⟨_, wrap_of (by first | omega | (simp only [List.length_map]; omega)), ?_⟩ | refine andA ?_ | fail); conv => whnf) | fail
            refine ⟨i + 1, by omega, by omega, ?_⟩
            rw [hS1, hsn]
            exact impA
          · rw [if_neg hin] at hsn
            have hcnd : (bif decide (0 < (i : Int)) then decide ((i : Int) < N) else false) = false := by
              cases hd : decide (0 < (i : Int)) with
              | false => rfl
              | true => exact decide_eq_false fun h => hin ⟨of_decide_eq_true hd, h⟩
            repeat' first | with_reducible refine AW_seq ?_ | with_reducible refine AW_block ?_ | ((first | with_reducible refine AW_skip ?_ | with_reducible refine AW_exit ?_ | with_reducible refine AW_region hTt ?_ | fail); conv => whnf) | (exact absurd hb (by omega)) | (rw [hcnd] at hb; cases hb; done) | ((first | ((refine ⟨_, (hv).call rfl rfl, ?_⟩); (rintro _ _ ⟨rfl, rfl⟩)) | refine ⟨_, w1, ?_⟩ | refine ⟨_, w2, ?_⟩ | fail); conv => whnf) | (refine AW_cond rfl (fun hb => ?_) (fun hb => ?_) <;> first | (replace hb := of_decide_eq_true hb; try simp only [List.length_map] at hb) | (replace hb := of_decide_eq_false hb; try simp only [List.length_map] at hb) | skip) | ((first | refine ⟨_, wrap_of (by first | omega | (simp only [List.length_map]; omega)), ?_⟩ | refine andA ?_ | fail); conv => whnf) | fail
            refine ⟨i + 1, by omega, by omega, ?_⟩
            rw [hS1, hsn]
            exact impA
        · obtain rfl : i = N.toNat + 1 := by omega
          have hsr := sumS_bd hp ha hbb hab hN (N.toNat + 1) (by omega)
          have hm := mostS_rng ha hbb
          have q1 := pow20 hN (p.length - 1) (by omega)
          have mp := mul_bd (a := 2 * N) (b := N ^ (p.length - 1)) (A := 40) (B := 160000) (by omega) (by omega)
          have mp' := Int.mul_pos (a := 2 * N) (b := N ^ (p.length - 1)) (by omega) (by omega)
          have wa : IntKind.i64.wrap (0 - a) = -a := by rw [Int.zero_sub]; exact wrap_of (by omega)
          have wb : IntKind.i64.wrap (0 - b) = -b := by rw [Int.zero_sub]; exact wrap_of (by omega)
          generalize sumS p a b N (N.toNat + 1) = S at *
          generalize 2 * N * N ^ (p.length - 1) = pw at *
          have hbent := bent_bd hp hm
          repeat' first | with_reducible refine AW_seq ?_ | with_reducible refine AW_block ?_ | ((first | with_reducible refine AW_skip ?_ | with_reducible refine AW_exit ?_ | with_reducible refine AW_region hTt ?_ | fail); conv => whnf) | (exact absurd hb (by omega)) | ((first | refine ⟨_, wa, ?_⟩ | refine ⟨_, wb, ?_⟩ | fail); conv => whnf) | (refine AW_cond rfl (fun hb => ?_) (fun hb => ?_) <;> first | (replace hb := of_decide_eq_true hb; try simp only [List.length_map] at hb) | (replace hb := of_decide_eq_false hb; try simp only [List.length_map] at hb)) | fail
          refine AW_loop (fun j : Nat => [(18, iv .i64 ((j : Int) + 2)), (16, iv .i64 (bentS p (mostS a b) j).1), (17, iv .i64 (bentS p (mostS a b) j).2), (15, iv .i64 (mostS a b)), (12, iv .i64 pw), (11, iv .i64 S), (0, sl p), (1, iv .i64 a), (2, iv .i64 b), (3, iv .i64 N), (8, .x (.b 8 0)), (9, .x (.b 9 0))])
            (fun _ => sgZ) (fun j => j ≤ p.length - 2) (fun j => p.length - j) 0 (Nat.zero_le _) impA ?_
          clear wa wb
          intro j hj
          rcases Nat.lt_or_ge (j + 2) p.length with hjl | hjl
          · obtain ⟨k1, k2⟩ := hbent j (by omega)
            obtain ⟨k3, k4⟩ := hbent (j + 1) (by omega)
            have hc := hp.get (j + 2)
            have hel : p[((j : Int) + 2).toNat]? = some (p.getD (j + 2) 0) := by
              rw [show ((j : Int) + 2).toNat = j + 2 by omega, List.getD_eq_getElem?_getD, List.getElem?_eq_getElem (by omega)]; rfl
            have e1 : bentS p (mostS a b) (j + 1) = ((bentS p (mostS a b) j).1 + mx (p.getD (j + 2) 0) (-p.getD (j + 2) 0) * ((j : Int) + 2) * ((j : Int) + 2 - 1) * (bentS p (mostS a b) j).2, (bentS p (mostS a b) j).2 * mostS a b) := rfl
            have h5 : (10 : Int) ^ j ≤ 100 := by
              match j, hjl with
              | 0, _ | 1, _ | 2, _ => decide
              | j + 3, h => omega
            have h6 : (10 : Int) ^ (j + 1) ≤ 1000 := by rw [Int.pow_succ]; omega
            have h3 : 0 ≤ mx (p.getD (j + 2) 0) (-p.getD (j + 2) 0) ∧ mx (p.getD (j + 2) 0) (-p.getD (j + 2) 0) ≤ 100 := by unfold mx; split <;> omega
            generalize hB1 : bentS p (mostS a b) (j + 1) = B1 at *
            generalize p.getD (j + 2) 0 = c at *
            generalize bentS p (mostS a b) j = B at *
            obtain ⟨b1, b2⟩ := B
            dsimp only at *
            have m1 := mul_bd (a := mx c (-c)) (b := (j : Int) + 2) (A := 100) (B := 4) (by omega) (by omega)
            have m2 := mul_bd (a := mx c (-c) * ((j : Int) + 2)) (b := (j : Int) + 2 - 1) (A := 400) (B := 3) (by omega) (by omega)
            have m3 := mul_bd (a := mx c (-c) * ((j : Int) + 2) * ((j : Int) + 2 - 1)) (b := b2) (A := 1200) (B := 100) (by omega) (by omega)
            rw [e1] at k3 k4
            dsimp only at k3 k4
            have wc : IntKind.i64.wrap (0 - c) = -c := by rw [Int.zero_sub]; exact wrap_of (by omega)
            have w1 : IntKind.i64.wrap (mx c (-c) * ((j : Int) + 2)) = mx c (-c) * ((j : Int) + 2) := wrap_of (by omega)
            have w2 : IntKind.i64.wrap (mx c (-c) * ((j : Int) + 2) * ((j : Int) + 2 - 1)) = mx c (-c) * ((j : Int) + 2) * ((j : Int) + 2 - 1) := wrap_of (by omega)
            have w3 : IntKind.i64.wrap (mx c (-c) * ((j : Int) + 2) * ((j : Int) + 2 - 1) * b2) = mx c (-c) * ((j : Int) + 2) * ((j : Int) + 2 - 1) * b2 := wrap_of (by omega)
            have w4 : IntKind.i64.wrap (b1 + mx c (-c) * ((j : Int) + 2) * ((j : Int) + 2 - 1) * b2) = b1 + mx c (-c) * ((j : Int) + 2) * ((j : Int) + 2 - 1) * b2 := wrap_of (by omega)
            have w5 : IntKind.i64.wrap (b2 * mostS a b) = b2 * mostS a b := wrap_of (by omega)
            clear hbent hp
            repeat' first | with_reducible refine AW_seq ?_ | with_reducible refine AW_block ?_ | ((first | with_reducible refine AW_skip ?_ | with_reducible refine AW_exit ?_ | with_reducible refine AW_region hTt ?_ | refine AW_draw hTt hMix (id := 23) 18 false [0, 0, 0, 6, 14, 0, 0, 96, 224, 480, 1022, 0, 4094, 0, 8192, 32766, 0, 131070, 262143, 524287] (by kernel_rfl) rfl rfl (by kernel_rfl) ?_ | fail); conv => whnf) | (exact absurd hb (by omega)) | ((first | with_reducible refine Exists.intro _ (And.intro (gd_any (And.intro (by omega) (map_some' hel))) ?_) | refine ⟨_, wc, ?_⟩ | refine ⟨_, w1, ?_⟩ | refine ⟨_, w2, ?_⟩ | refine ⟨_, w3, ?_⟩ | refine ⟨_, w4, ?_⟩ | refine ⟨_, w5, ?_⟩ | fail); conv => whnf) | (refine AW_cond rfl (fun hb => ?_) (fun hb => ?_) <;> first | (replace hb := of_decide_eq_true hb; try simp only [List.length_map] at hb) | (replace hb := of_decide_eq_false hb; try simp only [List.length_map] at hb)) | ((first | refine ⟨_, wrap_of (by first | omega | (simp only [List.length_map]; omega)), ?_⟩ | refine andA ?_ | fail); conv => whnf) | (refine fun hln => ?_; (try rw [List.length_map] at hln); unfold maxLen at hln; conv => whnf) | fail
            refine ⟨j + 1, by omega, by omega, ?_⟩
            rw [hB1, e1]
            exact impA
          · obtain rfl : j = p.length - 2 := by omega
            obtain ⟨k1, k2⟩ := hbent (p.length - 2) (by omega)
            have nn := mul_bd (a := N) (b := N) (A := 20) (B := 20) (by omega) (by omega)
            have nn' := Int.mul_pos (a := N) (b := N) (by omega) (by omega)
            have e12 : 12 * N * N = 12 * (N * N) := Int.mul_assoc ..
            have w1 : IntKind.i64.wrap (12 * N * N) = 12 * N * N := wrap_of (by omega)
            have hwh := whole_fn (b - a)
            have hr1 := reduce_fn S pw (by unfold lim; omega) (by unfold lim; omega) (by omega)
            have rp1 := redP_pos (n := S) (d := pw) (by omega)
            have rn1 := redP_num (n := S) (d := pw) (by omega)
            have hr2 := reduce_fn (bentS p (mostS a b) (p.length - 2)).1 (12 * N * N) (by unfold lim; omega) (by unfold lim; omega) (by omega)
            have rp2 := redP_pos (n := (bentS p (mostS a b) (p.length - 2)).1) (d := 12 * N * N) (by omega)
            have rn2 := redP_num (n := (bentS p (mostS a b) (p.length - 2)).1) (d := 12 * N * N) (by omega)
            generalize (bentS p (mostS a b) (p.length - 2)).1 = bt at *
            generalize redP S pw = R1 at *
            generalize redP bt (12 * N * N) = R2 at *
            have hj1 := bound_join (w := b - a) (by omega) (x := R2) (by omega) (by omega)
            have mt : R1.1.natAbs * (b - a).natAbs ≤ 10000000000000000 * 20 := Nat.mul_le_mul (by omega) (by omega)
            have ht := times_fn R1 (b - a, 1) ⟨by unfold lim; omega, rp1.1, by omega⟩ ⟨by unfold lim; dsimp only; omega, by dsimp only; omega, by dsimp only; omega⟩ (by dsimp only; omega)
            generalize timesP R1 (b - a, 1) = T1 at *
            generalize [(b - a, 1), (b - a, 1), R2].foldl timesP (b - a, 1) = T2 at *
            clear hbent hp k1 k2 hsr mp mp'
            repeat' first | with_reducible refine AW_seq ?_ | with_reducible refine AW_block ?_ | ((first | with_reducible refine AW_skip ?_ | with_reducible refine AW_exit ?_ | with_reducible refine AW_ret ?_ | with_reducible refine AW_region hTt ?_ | refine AW_draw hTt hMix (id := 23) 18 false [0, 0, 0, 6, 14, 0, 0, 96, 224, 480, 1022, 0, 4094, 0, 8192, 32766, 0, 131070, 262143, 524287] (by kernel_rfl) rfl rfl (by kernel_rfl) ?_ | refine AW_draw hTt hMix (id := 26) 4 false [0, 0, 3, 0, 15, 31] (by kernel_rfl) rfl rfl (by kernel_rfl) ?_ | refine AW_draw hTt hMix (id := 27) 9 false [0, 0, 0, 0, 0, 16, 0, 112, 248, 511, 1023, 2047] (by kernel_rfl) rfl rfl (by kernel_rfl) ?_ | refine AW_drawM hTt hMix (id := 28) 2 [1] false [0, 0, 1, 7, 15] _ (by kernel_rfl) rfl rfl (by kernel_rfl) rfl (by kernel_rfl) (by kernel_rfl) ?_ | refine LateGo.mk ⟨.x .j, rfl, ?_⟩ | fail); conv => whnf) | (exact absurd hb (by omega)) | ((first | ((refine ⟨_, (hwh).call rfl rfl, ?_⟩); (rintro _ _ ⟨rfl, rfl⟩)) | refine ⟨_, fun _ => (hr1).call rfl rfl, ?_⟩ | refine ⟨_, fun _ => (hr2).call rfl rfl, ?_⟩ | ((refine ⟨_, (ht).call rfl rfl, ?_⟩); (rintro _ _ ⟨rfl, rfl⟩)) | ((refine ⟨_, (hj1).call rfl rfl, ?_⟩); (rintro _ _ ⟨rfl, rfl⟩)) | refine ⟨_, w1, ?_⟩ | fail); conv => whnf) | (refine AW_cond rfl (fun hb => ?_) (fun hb => ?_) <;> first | (replace hb := of_decide_eq_true hb; try simp only [List.length_map] at hb) | (replace hb := of_decide_eq_false hb; try simp only [List.length_map] at hb)) | ((first | refine ⟨_, wrap_of (by first | omega | (simp only [List.length_map]; omega)), ?_⟩ | refine andA ?_ | fail); conv => whnf) | (refine fun hln => ?_; (try rw [List.length_map] at hln); unfold maxLen at hln; conv => whnf) | fail
            rfl
end Go.Proofs.YtnpleednkmhhhaaDoor
namespace Go.QL
open Go Go.RowKit
def FzSV (c sz st : Nat) (xs : List (List PV)) (s s' : SV) : Prop := s = s' ∨ ∃ n, s = .o c st n ∧ n ≤ xs.length ∧ s' = .d (.s sz (xs.take n))
def FzCells (c sz st : Nat) (xs : List (List PV)) : List SV → List SV → Prop
  | [], [] => True
  | s :: r, s' :: r' => FzSV c sz st xs s s' ∧ FzCells c sz st xs r r'
  | _, _ => False
def FzOb (c sz st : Nat) (xs : List (List PV)) (o o' : Ob) : Prop := o = o' ∨ ∃ cs cs', o = .box cs ∧ o' = .box cs' ∧ FzCells c sz st xs cs cs'
def FzS (c sz st : Nat) (xs : List (List PV)) (σ : Sg) : Sg → Prop
  | [] => True
  | (i, o') :: r => (∃ o, lk i σ = some o ∧ FzOb c sz st xs o o') ∧ FzS c sz st xs σ r
theorem FzS_ok {c sz st : Nat} {xs : List (List PV)} {σ : Sg} : ∀ {σ' : Sg}, FzS c sz st xs σ σ' → ∀ t v', lk t σ' = some v' → ∃ v, lk t σ = some v ∧ FzOb c sz st xs v v'
  | [], _, t, v, h => by cases h
  | (s, x) :: r, hs, t, v, h => by
    rw [lk_cons] at h
    by_cases e : s = t
    · subst e; rw [if_pos rfl] at h; cases h; exact hs.1
    · rw [if_neg e] at h; exact FzS_ok hs.2 t v h
theorem FzCells_get {c sz st : Nat} {xs : List (List PV)} : ∀ {cs cs' : List SV}, FzCells c sz st xs cs cs' → cs.length = cs'.length ∧ ∀ (i : Nat) (s' : SV), cs'[i]? = some s' → ∃ s, cs[i]? = some s ∧ FzSV c sz st xs s s'
  | [], [], _ => ⟨rfl, fun i s h => by simp at h⟩
  | s :: r, s' :: r', h => by
    obtain ⟨h1, h2⟩ := FzCells_get h.2
    refine ⟨by simp [h1], fun i x hx => ?_⟩
    cases i with
    | zero => cases hx; exact ⟨s, rfl, h.1⟩
    | succ i => exact h2 i x hx
  | [], _ :: _, h => h.elim
  | _ :: _, [], h => h.elim
section
variable {P : Program} {Γ : Cx} {fr fr' : Fr} {σ σ' : Sg} {g : Gh} {a : Act} {w : World} {Q : Exit → Fr → Sg → Prop}
theorem Imp.freezeB {fr' : Fr} {σ' : Sg} (c : Nat) {ce sz st : Nat} {xs : List (List PV)} (hc : lk c σ = some (.chain ce sz st xs)) (hf : FzF c sz st xs fr fr') (hs : FzS c sz st xs σ σ') (hn : lk c σ' = none)
    (hr : (rsFr σ' fr' && rsSg σ' σ') = true) (hB : idsIn Γ.ids σ' = true := by rfl) (hD : dfsIn Γ.dfs σ σ' = true := by rfl) : Imp Γ fr σ fr' σ' := by
  intro g a w hrel
  simp only [Bool.and_eq_true] at hr
  let K' : Nat → Nat → Prop := fun b o => g.K b o ∨ (blk (g.μ c) = some b ∧ b < w.heap.size)
  let g' : Gh := ⟨K', g.μ⟩
  have hext : Ext g.K w K' w := ⟨fun _ _ h => .inl h, fun _ _ _ => rfl⟩
  have hbox : ∀ i cs, lk i σ = some (.box cs) → (lk i σ').isSome → ∃ cs', lk i σ' = some (.box cs') := by
    intro i cs hi hi'
    obtain ⟨o', ho'⟩ := Option.isSome_iff_exists.1 hi'
    obtain ⟨o, ho, hnl⟩ := FzS_ok hs i o' ho'
    rw [hi] at ho; cases ho
    rcases hnl with rfl | ⟨cs1, cs', h1, h2, _⟩
    · exact ⟨cs, ho'⟩
    · exact ⟨cs', by rw [ho', h2]⟩
  have hch : ∀ i e0 sz0 st xs, lk i σ = some (.chain e0 sz0 st xs) → (lk i σ').isSome → lk i σ' = some (.chain e0 sz0 st xs) := by
    intro i e0 sz0 st xs hi hi'
    obtain ⟨o', ho'⟩ := Option.isSome_iff_exists.1 hi'
    obtain ⟨o, ho, hnl⟩ := FzS_ok hs i o' ho'
    rw [hi] at ho; cases ho
    rcases hnl with rfl | ⟨cs1, cs', h1, _⟩
    · exact ho'
    · cases h1
  have hoth : ∀ i o, lk i σ = some (.x o) → (lk i σ').isSome → lk i σ' = some (.x o) := by
    intro i o hi hi'
    obtain ⟨o', ho'⟩ := Option.isSome_iff_exists.1 hi'
    obtain ⟨o1, ho, hnl⟩ := FzS_ok hs i o' ho'
    rw [hi] at ho; cases ho
    rcases hnl with rfl | ⟨cs1, cs', h1, _⟩
    · exact ho'
    · cases h1
  have sr1 : ∀ s v, rs1 σ' s = true → SR σ g w s v → SR σ' g' w s v := by
    intro s v hrs hv
    have up : ∀ i, (lk i σ).isSome → (lk i σ').isSome = true → (lk i σ').isSome ∧ g'.μ i = g.μ i := fun i hi hi' => by
      exact ⟨hi', rfl⟩
    cases hv with
    | d x v h => exact .d x v (h.mono hext)
    | old c0 st n e0 sz0 st' xs v hl hlt h1 =>
      have hs0 : (lk c0 σ).isSome := by rw [hl]; rfl
      obtain ⟨h2, h3⟩ := up c0 hs0 hrs
      exact .old c0 st n e0 sz0 st' xs v (hch _ _ _ _ _ hl h2) hlt h1
    | o c0 st n e0 sz0 xs a cap hl hn hμ =>
      have hs0 : (lk c0 σ).isSome := by rw [hl]; rfl
      obtain ⟨h2, h3⟩ := up c0 hs0 hrs
      exact .o c0 st n e0 sz0 xs a cap (hch _ _ _ _ _ hl h2) hn (by rw [h3, hμ])
    | b id off cs k hl hμ =>
      have hs0 : (lk id σ).isSome := by rw [hl]; rfl
      obtain ⟨h2, h3⟩ := up id hs0 hrs
      obtain ⟨cs', hcs'⟩ := hbox _ _ hl h2
      exact .b id off cs' k (hcs') (by rw [h3, hμ])
    | se e off k l vs h1 h2 h3 => exact .se e off k l vs (fun j hj => .inl (h1 j hj)) h2 (fun j x hj => (h3 j x hj).mono hext)
    | oeold c0 st i off e0 sz0 st' xs v hl hlt h1 =>
      have hs0 : (lk c0 σ).isSome := by rw [hl]; rfl
      obtain ⟨h2, h3⟩ := up c0 hs0 hrs
      exact .oeold c0 st i off e0 sz0 st' xs v (hch _ _ _ _ _ hl h2) hlt h1
    | oe c0 st i off e0 sz0 xs k cap hl hμ =>
      have hs0 : (lk c0 σ).isSome := by rw [hl]; rfl
      obtain ⟨h2, h3⟩ := up c0 hs0 hrs
      exact .oe c0 st i off e0 sz0 xs k cap (hch _ _ _ _ _ hl h2) (by rw [h3, hμ])
    | f => cases hrs
    | j v h1 => exact .j v h1
    | h id o k hl hμ =>
      have hs0 : (lk id σ).isSome := by rw [hl]; rfl
      obtain ⟨h2, h3⟩ := up id hs0 hrs
      exact .h id o k (hoth _ _ hl h2) (by rw [h3, hμ])
    | sb id off n cap cs k hl hμ hn hcc =>
      have hs0 : (lk id σ).isSome := by rw [hl]; rfl
      obtain ⟨h2, h3⟩ := up id hs0 hrs
      obtain ⟨cs', hcs'⟩ := hbox _ _ hl h2
      exact .sb id off n cap cs' k (hcs') (by rw [h3, hμ]) hn hcc
  have sr : ∀ s v, rsSV σ' s = true → SR σ g w s v → SR σ' g' w s v := by
    intro s v hrs hv
    cases s with
    | f fn a b =>
      simp only [rsSV, Bool.and_eq_true, List.all_eq_true] at hrs
      cases hv with
      | f _ _ _ v1 v2 h1 h2 r1 r2 =>
        exact .f fn a b v1 v2 h1 h2 (fun i s v hi hv => sr1 _ _ (hrs.1 s (List.mem_of_getElem? hi)) (r1 i s v hi hv)) (fun i s v hi hv => sr1 _ _ (hrs.2 s (List.mem_of_getElem? hi)) (r2 i s v hi hv))
    | d x => exact sr1 _ _ hrs hv
    | o c st n => exact sr1 _ _ hrs hv
    | b id off => exact sr1 _ _ hrs hv
    | se e off => exact sr1 _ _ hrs hv
    | oe c st i off => exact sr1 _ _ hrs hv
    | j => exact sr1 _ _ hrs hv
    | h id => exact sr1 _ _ hrs hv
    | sb id off n cap => exact sr1 _ _ hrs hv
  have srfz : ∀ n v, n ≤ xs.length → SR σ g w (.o c st n) v → SR σ' g' w (.d (.s sz (xs.take n))) v := fun n v hn hv =>
    Imp.freeze.freeze_one (a := { a with tmps := #[v] }) (t := 0) (σ' := σ') hrel.hp hc hn hv
  have vr1 : ∀ x v, rsAV1 σ' x = true → VR1 σ g w x v → VR1 σ' g' w x v := by
    intro x v hrs hv
    cases x with
    | x s => exact sr _ _ hrs hv
    | a cs =>
      obtain ⟨vs, rfl, hl, hr⟩ := hv
      simp only [rsAV1, List.all_eq_true] at hrs
      exact ⟨vs, rfl, hl, fun i s u hi hu => sr _ _ (hrs s (List.mem_of_getElem? hi)) (hr i s u hi hu)⟩
    | _ => exact hv.elim
  have vr2 : ∀ x v, rsAV2 σ' x = true → VR2 σ g w x v → VR2 σ' g' w x v := by
    intro x v hrs hv
    cases x with
    | t xs =>
      obtain ⟨vs, rfl, hl, hr⟩ := hv
      simp only [rsAV2, List.all_eq_true] at hrs
      exact ⟨vs, rfl, hl, fun i s u hi hu => vr1 _ _ (hrs s (List.mem_of_getElem? hi)) (hr i s u hi hu)⟩
    | x s => exact vr1 (.x s) _ hrs hv
    | a cs => exact vr1 (.a cs) _ hrs hv
    | g _ _ => exact hv.elim
  have vr : ∀ x v, rsAV σ' x = true → VR σ g w x v → VR σ' g' w x v := by
    intro x v hrs hv
    cases x with
    | g c0 y => exact ⟨fun hc0 => vr2 _ _ hrs (hv.1 hc0), hv.2⟩
    | x s => exact vr2 (.x s) _ hrs hv
    | a cs => exact vr2 (.a cs) _ hrs hv
    | t xs => exact vr2 (.t xs) _ hrs hv
  have upI : ∀ i, (lk i σ).isSome → i ∈ Γ.ids → (lk i σ').isSome ∧ g'.μ i = g.μ i := fun i hi hi' => ⟨idsIn_ok hB hi', rfl⟩
  have srI : ∀ s v, SR σ g w s v → InI Γ.ids s → SR σ' g' w s v := by
    intro s v hv
    induction hv with
    | d x v h => exact fun _ => .d x v (h.mono hext)
    | old c0 st n e0 sz0 st' xs v hl hlt h1 =>
      intro h; cases h with
      | o _ _ _ h =>
        have hs0 : (lk c0 σ).isSome := by rw [hl]; rfl
        obtain ⟨h2, h3⟩ := upI c0 hs0 h
        exact .old c0 st n e0 sz0 st' xs v (hch _ _ _ _ _ hl h2) hlt h1
    | o c0 st n e0 sz0 xs a cap hl hn hμ =>
      intro h; cases h with
      | o _ _ _ h =>
        have hs0 : (lk c0 σ).isSome := by rw [hl]; rfl
        obtain ⟨h2, h3⟩ := upI c0 hs0 h
        exact .o c0 st n e0 sz0 xs a cap (hch _ _ _ _ _ hl h2) hn (by rw [h3, hμ])
    | b id off cs k hl hμ =>
      intro h; cases h with
      | b _ _ h =>
        have hs0 : (lk id σ).isSome := by rw [hl]; rfl
        obtain ⟨h2, h3⟩ := upI id hs0 h
        obtain ⟨cs', hcs'⟩ := hbox _ _ hl h2
        exact .b id off cs' k (hcs') (by rw [h3, hμ])
    | se e off k l vs h1 h2 h3 => exact fun _ => .se e off k l vs (fun j hj => .inl (h1 j hj)) h2 (fun j x hj => (h3 j x hj).mono hext)
    | oeold c0 st i off e0 sz0 st' xs v hl hlt h1 =>
      intro h; cases h with
      | oe _ _ _ _ h =>
        have hs0 : (lk c0 σ).isSome := by rw [hl]; rfl
        obtain ⟨h2, h3⟩ := upI c0 hs0 h
        exact .oeold c0 st i off e0 sz0 st' xs v (hch _ _ _ _ _ hl h2) hlt h1
    | oe c0 st i off e0 sz0 xs k cap hl hμ =>
      intro h; cases h with
      | oe _ _ _ _ h =>
        have hs0 : (lk c0 σ).isSome := by rw [hl]; rfl
        obtain ⟨h2, h3⟩ := upI c0 hs0 h
        exact .oe c0 st i off e0 sz0 xs k cap (hch _ _ _ _ _ hl h2) (by rw [h3, hμ])
    | f fn a b v1 v2 h1 h2 _ _ ih1 ih2 =>
      intro h
      cases h with
      | f _ _ _ k1 k2 => exact .f fn a b v1 v2 h1 h2 (fun i s v hi hv => ih1 i s v hi hv (k1 s (List.mem_of_getElem? hi))) (fun i s v hi hv => ih2 i s v hi hv (k2 s (List.mem_of_getElem? hi)))
    | j v h1 => exact fun _ => .j v h1
    | h id o k hl hμ =>
      intro h; cases h with
      | h _ h =>
        have hs0 : (lk id σ).isSome := by rw [hl]; rfl
        obtain ⟨h2, h3⟩ := upI id hs0 h
        exact .h id o k (hoth _ _ hl h2) (by rw [h3, hμ])
    | sb id off n cap cs k hl hμ hn hcc =>
      intro h; cases h with
      | sb _ _ _ _ h =>
        have hs0 : (lk id σ).isSome := by rw [hl]; rfl
        obtain ⟨h2, h3⟩ := upI id hs0 h
        obtain ⟨cs', hcs'⟩ := hbox _ _ hl h2
        exact .sb id off n cap cs' k (hcs') (by rw [h3, hμ]) hn hcc
  have ins : ∀ i, (lk i σ').isSome → (lk i σ).isSome := fun i hi => by
    obtain ⟨o', ho'⟩ := Option.isSome_iff_exists.1 hi
    obtain ⟨o, ho, _⟩ := FzS_ok hs i o' ho'
    rw [ho]; rfl
  have hap : ∀ i, (lk i σ').isSome → ∀ b, blk (g.μ i) = some b → blk (g.μ c) ≠ some b := by
    intro i hi b hb hb'
    have := hrel.hp.inj i c b (ins i hi) (by rw [hc]; rfl) hb hb'
    subst this; rw [hn] at hi; cases hi
  have hK : ∀ id ob b, lk id σ' = some ob → blk (g.μ id) = some b → (∀ o, ¬ g.K b o) → ∀ o, ¬ K' b o :=
    fun id ob b hid hb hk o h => h.elim (hk o) (fun h => hap id (by rw [hid]; rfl) b hb h.1)
  refine ⟨g', ⟨⟨hrel.hp.kept, hrel.hp.flt, hrel.hp.ext.trans hext, ?_, ?_, ?_, fun i b hi hb => hrel.hp.own i b (ins i hi) hb, fun i j b hi hj => hrel.hp.inj i j b (ins i hi) (ins j hj)⟩, ?_, hrel.size,
    hrel.defers.map (fun i d hi hl hμ => ⟨hoth _ _ hl (dfsIn_ok hD hi hl ▸ rfl), hμ⟩), fun s v hb => ⟨srI _ _ (hrel.base s v hb).1 (hrel.base s v hb).2, (hrel.base s v hb).2⟩⟩⟩
  · intro b o hb hk
    rcases hk with hk | ⟨hk, _⟩
    · exact hrel.hp.old b o hb hk
    · exact absurd hb (hrel.hp.own c b (by rw [hc]; rfl) hk)
  · intro b o hk
    rcases hk with hk | ⟨_, hk⟩
    · exact hrel.hp.val b o hk
    · exact hk
  · intro id ob hid
    obtain ⟨o, ho, hnl⟩ := FzS_ok hs id ob hid
    have hO := hrel.hp.obs id o ho
    cases ob with
    | x o1 =>
      have : o = .x o1 := by
        rcases hnl with h | ⟨cs1, cs', _, h2, _⟩
        · exact h
        · cases h2
      subst this
      have hrb := rsSg_get hr.2 _ _ hid
      obtain ⟨b, k1, k2, k3, k4⟩ := hO
      refine ⟨b, k1, k2, ?_, hK _ _ b hid (by rw [k1]; rfl) k4⟩
      cases o1 with
      | map kt kvs => obtain ⟨es, h1, h2, h3, h4⟩ := k3; exact ⟨es, h1, h2, fun i k x hi => let ⟨e, a, c, d, f⟩ := h3 i k x hi; ⟨e, a, c, d, vr1 _ _ (rsAV1_dat (h4.2.2 i k x hi)) f⟩, h4⟩
      | mapIter m since seen last =>
        cases m with
        | some m => obtain ⟨mb, h1, h2⟩ := k3; exact ⟨mb, h1, sr1 (.h m) _ hrb h2⟩
        | none => exact k3
      | strIter s pos => exact k3
      | loop st pend params assign body nt fr dfr =>
        simp only [rsOb, rsO2, Bool.and_eq_true] at hrb
        obtain ⟨f, tmps, d, h1, h2, h3, h4⟩ := k3
        exact ⟨f, tmps, d, h1, h2, fun t v ht => ⟨(h3 t v ht).1, vr _ _ (rsFr_get hrb.1 t v ht) (h3 t v ht).2⟩, sr1 (.h dfr) _ hrb.2 h4⟩
      | dfr => exact k3
    | chain e0 sz0 st0 xs0 =>
      have : o = .chain e0 sz0 st0 xs0 := by
        rcases hnl with h | ⟨cs1, cs', _, h2, _⟩
        · exact h
        · cases h2
      subst this
      obtain ⟨vs, h1, h2, h3, h4, h5⟩ := hO
      exact ⟨vs, h1, h2, h3, fun i x hi j p hp => let ⟨v, q, r⟩ := h4 i x hi j p hp; ⟨v, q, r.mono hext⟩, fun b hb => hK _ _ b hid hb (h5 b hb)⟩
    | box cs' =>
      have hrb := rsSg_get hr.2 _ _ hid
      simp only [rsOb, List.all_eq_true] at hrb
      rcases hnl with h | ⟨cs, cs1, h1, h2, h3⟩
      · subst h
        obtain ⟨b, vs, T, k1, k2, k3, k4, k5, k6⟩ := hO
        exact ⟨b, vs, T, k1, k2, k3, k4, fun i s hi => let ⟨v, p, q⟩ := k5 i s hi; ⟨v, p, sr _ _ (hrb s (List.mem_of_getElem? hi)) q⟩, hK _ _ b hid (by rw [k1]; rfl) k6⟩
      · subst h1; cases h2
        obtain ⟨b, vs, T, k1, k2, k3, k4, k5, k6⟩ := hO
        obtain ⟨hl, hg⟩ := FzCells_get h3
        refine ⟨b, vs, T, k1, k2, k3, by rw [k4, hl], fun i s hi => ?_, hK _ _ b hid (by rw [k1]; rfl) k6⟩
        obtain ⟨s0, hs0, hnl0⟩ := hg i s hi
        obtain ⟨v, p, q⟩ := k5 i s0 hs0
        refine ⟨v, p, ?_⟩
        rcases hnl0 with rfl | ⟨n, rfl, hn1, rfl⟩
        · exact sr _ _ (hrb _ (List.mem_of_getElem? hi)) q
        · exact srfz _ _ hn1 q
  · intro t v' ht
    obtain ⟨v, hv, hnl⟩ := FzF_ok hf t v' ht
    obtain ⟨hlt, hvr⟩ := hrel.fr t v hv
    refine ⟨hlt, ?_⟩
    rcases hnl with rfl | ⟨n, rfl, hn1, rfl⟩
    · exact vr _ _ (rsFr_get hr.1 t v ht) hvr
    · exact srfz _ _ hn1 hvr
end
end Go.QL
namespace Go.Proofs.YtnpleednkmhhhaaDoor
open Go Go.QL
set_option maxHeartbeats 3200000
attribute [local irreducible] ACall FnC YC
def nzB (n : Int) : Bool := n != 0
def fitP (wrong : List Int) (n d i : Nat) : Option Int :=
  if (List.range (diffR (d + 1) (unit n i)).length).all (fun j => (wrong.getD (idxI nzB (diffR (d + 1) (unit n i))).toNat 0).tdiv ((diffR (d + 1) (unit n i)).getD (idxI nzB (diffR (d + 1) (unit n i))).toNat 0) * (diffR (d + 1) (unit n i)).getD j 0 == wrong.getD j 0) = true
  then some ((wrong.getD (idxI nzB (diffR (d + 1) (unit n i))).toNat 0).tdiv ((diffR (d + 1) (unit n i)).getD (idxI nzB (diffR (d + 1) (unit n i))).toNat 0)) else none
def findGo (table wrong : List Int) (d : Nat) : Nat → Nat → Int × Int × Int
  | 0, _ => (0, 0, 9)
  | r + 1, i => match fitP wrong table.length d i with
    | some b => (i, table.getD i 0 - b, 0)
    | none => findGo table wrong d r (i + 1)
def findP (table : List Int) (degree : Int) : Int × Int × Int :=
  if inspectE table ≠ 0 then (0, 0, inspectE table)
  else if outL 0 4 [degree] = true then (0, 0, 7)
  else if (table.length : Int) < degree + 3 then (0, 0, 3)
  else if ((diffR (degree.toNat + 1) table).any nzB) = false then (-1, 0, 0)
  else findGo table (diffR (degree.toNat + 1) table) degree.toNat table.length 0
theorem fits_fn {by_ : Int} {one wrong : List Int} {j : Nat} (h1 : j < one.length) (h2 : j < wrong.length) (hl : lim (by_ * one.getD j 0)) :
    ACall Tryd.prog 75 [iv .i64 j, .x (.b 12 0), .x (.b 10 0), .x (.b 7 0)] [(12, .box [.d (.v (.int .i64 by_))]), (10, .box [.d (intsPV one)]), (7, .box [.d (intsPV wrong)])]
      (fun r σ' => r = bv (by_ * one.getD j 0 == wrong.getD j 0) ∧ σ' = [(12, .box [.d (.v (.int .i64 by_))]), (10, .box [.d (intsPV one)]), (7, .box [.d (intsPV wrong)])]) := by
  have e1 : one[j]? = some (one.getD j 0) := by rw [List.getD_eq_getElem?_getD, List.getElem?_eq_getElem h1]; rfl
  have e2 : wrong[j]? = some (wrong.getD j 0) := by rw [List.getD_eq_getElem?_getD, List.getElem?_eq_getElem h2]; rfl
  generalize one.getD j 0 = x at *
  generalize wrong.getD j 0 = y at *
  unfold lim at hl
  have w1 : IntKind.i64.wrap (by_ * x) = by_ * x := wrap_of (by omega)
  refine ACall_of_AWD hTt Tryd.func75 rfl (by kernel_rfl) (res := [.tmp 5]) rfl Tryd.ntmps75 (by simp) fun w0 K0 B => ?_
  dsimp only [entry]
  repeat' first | with_reducible refine AW_seq ?_ | ((first | with_reducible refine AW_ret ?_ | with_reducible refine AW_region hTt ?_ | refine AW_draw hTt hMix (id := 1) 10 false [0, 0, 0, 6, 14, 31, 0, 0, 192, 448, 1023, 2047] (by kernel_rfl) rfl rfl (by kernel_rfl) ?_ | refine ⟨_, w1, ?_⟩ | with_reducible refine Exists.intro _ (And.intro (gd_any (And.intro (by omega) (map_some e1))) ?_) | with_reducible refine Exists.intro _ (And.intro (gd_any (And.intro (by omega) (map_some e2))) ?_) | refine andA ?_ | fail); conv => whnf) | fail
  exact ⟨_, [(12, .box [.d (.v (.int .i64 by_))]), (10, .box [.d (intsPV one)]), (7, .box [.d (intsPV wrong)])], ⟨rfl, rfl, rfl, trivial⟩, rfl, rfl, rfl, rfl⟩
theorem nz1_fn (x : Int) (σ : Sg) : ACall Tryd.prog 72 ([].map AV.x ++ [iv .i64 x] ++ [].map .x) σ (fun r σ' => r = bv (nzB x) ∧ σ' = σ) := by
  have h : FnC Tryd.prog 72 [iv .i64 x] (bv (nzB x)) := by
    refine FnC_of_AW hTt Tryd.func72 rfl (by kernel_rfl) (res := [.tmp 2]) rfl Tryd.ntmps72 (by simp) fun w0 K0 => ?_
    dsimp only [entry]
    repeat' first | with_reducible refine AW_seq ?_ | ((first | with_reducible refine AW_ret ?_ | with_reducible refine AW_region hTt ?_ | fail); conv => whnf) | fail
    rfl
  exact h.call rfl rfl
theorem nz2_fn (x : Int) (σ : Sg) : ACall Tryd.prog 74 ([].map AV.x ++ [iv .i64 x] ++ [].map .x) σ (fun r σ' => r = bv (nzB x) ∧ σ' = σ) := by
  have h : FnC Tryd.prog 74 [iv .i64 x] (bv (nzB x)) := by
    refine FnC_of_AW hTt Tryd.func74 rfl (by kernel_rfl) (res := [.tmp 2]) rfl Tryd.ntmps74 (by simp) fun w0 K0 => ?_
    dsimp only [entry]
    repeat' first | with_reducible refine AW_seq ?_ | ((first | with_reducible refine AW_ret ?_ | with_reducible refine AW_region hTt ?_ | fail); conv => whnf) | fail
    rfl
  exact h.call rfl rfl
theorem two32 {d : Nat} (h : d ≤ 4) : (2 : Int) ^ (d + 1) ≤ 32 := by
  match d, h with
  | 0, _ | 1, _ | 2, _ | 3, _ | 4, _ => decide
  | d + 5, h => omega
theorem fstI_get (p : Int → Bool) : ∀ (xs : List Int) (j m : Nat), fstI p xs j = some m → j ≤ m ∧ m - j < xs.length ∧ p (xs.getD (m - j) 0) = true
  | [], j, m, h => by cases h
  | x :: r, j, m, h => by
    simp only [fstI] at h
    split at h
    · rename_i hp
      cases h
      rw [Nat.sub_self]
      exact ⟨Nat.le_refl _, by simp, hp⟩
    · obtain ⟨a, b, c⟩ := fstI_get p r (j + 1) m h
      refine ⟨by omega, by simp; omega, ?_⟩
      rw [show m - j = (m - (j + 1)) + 1 by omega, List.getD_cons_succ]; exact c
theorem idxI_get {p : Int → Bool} {xs : List Int} (h : xs.any p = true) : ∃ k : Nat, idxI p xs = k ∧ k < xs.length ∧ p (xs.getD k 0) = true := by
  unfold idxI
  cases hf : fstI p xs 0 with
  | none => have := fstI_any p xs 0; rw [hf, h] at this; cases this
  | some k =>
    obtain ⟨_, b, c⟩ := fstI_get p xs 0 k hf
    rw [Nat.sub_zero] at b c
    exact ⟨k, rfl, b, c⟩
theorem find_fn (table : List Int) (degree : Int) : FnC Tryd.prog 25 [sl table, iv .i64 degree] (.t [iv .i64 (findP table degree).1, iv .i64 (findP table degree).2.1, iv .i64 (findP table degree).2.2]) := by
  have o1 := inspect_fn table
  have o2 := out_fn 0 4 [degree]
  unfold findP
  by_cases he : inspectE table ≠ 0
  · rw [if_pos he]
    generalize inspectE table = e at *
    refine FnC_of_AW hTt Tryd.func25 rfl (by kernel_rfl) (res := [.tmp 4, .tmp 5, .tmp 6]) rfl Tryd.ntmps25 (by simp) fun w0 K0 => ?_
    dsimp only [entry]
    repeat' first | with_reducible refine AW_seq ?_ | with_reducible refine AW_block ?_ | ((first | with_reducible refine AW_ret ?_ | with_reducible refine AW_region hTt ?_ | ((refine ⟨_, (o1).call rfl rfl, ?_⟩); (rintro _ _ ⟨rfl, rfl⟩)) | fail); conv => whnf) | (exfalso; exact he hb) | (refine AW_cond rfl (fun hb => ?_) (fun hb => ?_) <;> first | (replace hb := of_decide_eq_true hb; try simp only [List.length_map] at hb) | (replace hb := of_decide_eq_false hb; try simp only [List.length_map] at hb) | (simp only [List.length_map, bne_iff_ne, ne_eq, beq_iff_eq, bne_eq_false_iff_eq, beq_eq_false_iff_ne, decide_eq_true_eq, decide_eq_false_iff_not, Bool.not_eq_true', Bool.not_eq_false', Int.natCast_inj] at hb)) | fail
    rfl
  · rw [if_neg he]
    have he : inspectE table = 0 := by simpa using he
    obtain ⟨h1, h2⟩ := inspect_ok he
    rw [he] at o1
    clear he
    by_cases ho : outL 0 4 [degree] = true
    · rw [if_pos ho]
      rw [ho] at o2
      refine FnC_of_AW hTt Tryd.func25 rfl (by kernel_rfl) (res := [.tmp 4, .tmp 5, .tmp 6]) rfl Tryd.ntmps25 (by simp) fun w0 K0 => ?_
      dsimp only [entry]
      repeat' first | with_reducible refine AW_seq ?_ | with_reducible refine AW_block ?_ | ((first | with_reducible refine AW_ret ?_ | with_reducible refine AW_region hTt ?_ | ((refine ⟨_, (o1).call rfl rfl, ?_⟩); (rintro _ _ ⟨rfl, rfl⟩)) | ((refine ⟨_, (o2).call rfl rfl, ?_⟩); (rintro _ _ ⟨rfl, rfl⟩)) | fail); conv => whnf) | (refine AW_cond rfl (fun _ => ?_) (fun hb => absurd (show true = false from hb) (by decide))) | (refine AW_cond rfl (fun hb => absurd (show false = true from hb) (by decide)) (fun _ => ?_)) | fail
      rfl
    · rw [if_neg ho]
      have ho : outL 0 4 [degree] = false := by simpa using ho
      rw [ho] at o2
      have hdg := outL_false.1 ho degree (List.mem_singleton.2 rfl)
      clear ho
      obtain ⟨d, rfl⟩ : ∃ d : Nat, degree = d := ⟨degree.toNat, by omega⟩
      rw [Int.toNat_natCast]
      by_cases hl : (table.length : Int) < d + 3
      · rw [if_pos hl]
        refine FnC_of_AW hTt Tryd.func25 rfl (by kernel_rfl) (res := [.tmp 4, .tmp 5, .tmp 6]) rfl Tryd.ntmps25 (by simp) fun w0 K0 => ?_
        dsimp only [entry]
        repeat' first | with_reducible refine AW_seq ?_ | with_reducible refine AW_block ?_ | ((first | with_reducible refine AW_skip ?_ | with_reducible refine AW_ret ?_ | with_reducible refine AW_region hTt ?_ | ((refine ⟨_, (o1).call rfl rfl, ?_⟩); (rintro _ _ ⟨rfl, rfl⟩)) | ((refine ⟨_, (o2).call rfl rfl, ?_⟩); (rintro _ _ ⟨rfl, rfl⟩)) | fail); conv => whnf) | (exact absurd hb (by omega)) | (refine AW_cond rfl (fun hb => absurd (show false = true from hb) (by decide)) (fun _ => ?_)) | (refine AW_cond rfl (fun hb => ?_) (fun hb => ?_) <;> first | (replace hb := of_decide_eq_true hb; try simp only [List.length_map] at hb) | (replace hb := of_decide_eq_false hb; try simp only [List.length_map] at hb)) | ((refine ⟨_, wrap_of (by first | omega | (simp only [List.length_map]; omega)), ?_⟩); conv => whnf) | (refine fun hln => ?_; (try rw [List.length_map] at hln); unfold maxLen at hln; conv => whnf) | fail
        rfl
      · rw [if_neg hl]
        have hd := differences_fn table ((d : Int) + 1) h2 h1 (by omega)
        rw [show ((d : Int) + 1).toNat = d + 1 by omega] at hd
        have hwl := diffR_len table (d + 1)
        have hwb := diffR_bd h2 (d + 1)
        have hct := fun σ => contains_fn 72 [] nzB (diffR (d + 1) table) σ (fun x _ => nz1_fn x σ)
        generalize diffR (d + 1) table = wrong at *
        by_cases hany : wrong.any nzB = false
        · rw [if_pos hany]
          simp only [hany] at hct
          refine FnC_of_AW hTt Tryd.func25 rfl (by kernel_rfl) (res := [.tmp 4, .tmp 5, .tmp 6]) rfl Tryd.ntmps25 (by simp) fun w0 K0 => ?_
          dsimp only [entry]
          repeat' first | with_reducible refine AW_seq ?_ | with_reducible refine AW_block ?_ | ((first | with_reducible refine AW_skip ?_ | with_reducible refine AW_ret ?_ | with_reducible refine AW_region hTt ?_ | ((refine ⟨_, (o1).call rfl rfl, ?_⟩); (rintro _ _ ⟨rfl, rfl⟩)) | ((refine ⟨_, (o2).call rfl rfl, ?_⟩); (rintro _ _ ⟨rfl, rfl⟩)) | ((refine ⟨_, (hd).call rfl rfl, ?_⟩); (rintro _ _ ⟨rfl, rfl⟩)) | fail); conv => whnf) | (exact absurd hb (by omega)) | ((refine ⟨_, hct _, ?_⟩); (rintro _ _ ⟨rfl, rfl⟩); conv => whnf) | (refine AW_cond rfl (fun _ => ?_) (fun hb => absurd (show true = false from hb) (by decide))) | (refine AW_cond rfl (fun hb => absurd (show false = true from hb) (by decide)) (fun _ => ?_)) | (refine AW_cond rfl (fun hb => ?_) (fun hb => ?_) <;> first | (replace hb := of_decide_eq_true hb; try simp only [List.length_map] at hb) | (replace hb := of_decide_eq_false hb; try simp only [List.length_map] at hb)) | ((refine ⟨_, wrap_of (by first | omega | (simp only [List.length_map]; omega)), ?_⟩); conv => whnf) | (refine fun hln => ?_; (try rw [List.length_map] at hln); unfold maxLen at hln; conv => whnf) | fail
          rfl
        · rw [if_neg hany]
          have hany : wrong.any nzB = true := by simpa using hany
          simp only [hany] at hct
          refine FnC_of_AW hTt Tryd.func25 rfl (by kernel_rfl) (res := [.tmp 4, .tmp 5, .tmp 6]) rfl Tryd.ntmps25 (by simp) fun w0 K0 => ?_
          dsimp only [entry]
          repeat' first | with_reducible refine AW_seq ?_ | with_reducible refine AW_block ?_ | ((first | with_reducible refine AW_skip ?_ | with_reducible refine AW_ret ?_ | with_reducible refine AW_region hTt ?_ | ((refine ⟨_, (o1).call rfl rfl, ?_⟩); (rintro _ _ ⟨rfl, rfl⟩)) | ((refine ⟨_, (o2).call rfl rfl, ?_⟩); (rintro _ _ ⟨rfl, rfl⟩)) | ((refine ⟨_, (hd).call rfl rfl, ?_⟩); (rintro _ _ ⟨rfl, rfl⟩)) | fail); conv => whnf) | (exact absurd hb (by omega)) | ((refine ⟨_, hct _, ?_⟩); (rintro _ _ ⟨rfl, rfl⟩); conv => whnf) | (refine AW_cond rfl (fun hb => absurd (show false = true from hb) (by decide)) (fun _ => ?_)) | (refine AW_cond rfl (fun hb => ?_) (fun hb => ?_) <;> first | (replace hb := of_decide_eq_true hb; try simp only [List.length_map] at hb) | (replace hb := of_decide_eq_false hb; try simp only [List.length_map] at hb)) | ((refine ⟨_, wrap_of (by first | omega | (simp only [List.length_map]; omega)), ?_⟩); conv => whnf) | (refine fun hln => ?_; (try rw [List.length_map] at hln); unfold maxLen at hln; conv => whnf) | fail
          clear o1 o2 hd hct hany
          refine AW_loop (fun i : Nat => [(41, iv .i64 i), (40, iv .i64 table.length), (39, sl table), (0, sl table), (1, iv .i64 d), (7, .x (.b 7 0))])
            (fun _ => [(7, .box [.d (intsPV wrong)])]) (fun i => i ≤ table.length ∧ findGo table wrong d table.length 0 = findGo table wrong d (table.length - i) i) (fun i => table.length - i) 0 ⟨Nat.zero_le _, rfl⟩ impA ?_
          rintro i ⟨hi, hgo⟩
          rcases Nat.lt_or_ge i table.length with hil | hil
          · rw [show table.length - i = (table.length - (i + 1)) + 1 by omega, findGo] at hgo
            have hnz := unit_nz (n := table.length) (d := d) (i := i) (by omega) hil (by omega)
            have hol := diffR_len (unit table.length i) (d + 1)
            rw [unit_len] at hol
            have hob := diffR_bd (l := unit table.length i) (B := 1) (fun x hx => by
              unfold unit at hx
              rcases List.mem_or_eq_of_mem_set hx with h | h
              · rw [(List.mem_replicate.1 h).2]; decide
              · rw [h]; decide) (d + 1)
            have hone := differences_fn (unit table.length i) ((d : Int) + 1) (fun x hx => by
              unfold unit at hx
              rcases List.mem_or_eq_of_mem_set hx with h | h
              · rw [(List.mem_replicate.1 h).2]; decide
              · rw [h]; decide) (by rw [unit_len]; exact h1) (by omega)
            rw [show ((d : Int) + 1).toNat = d + 1 by omega] at hone
            have hix := fun σ => idxf_fn 74 [] nzB (diffR (d + 1) (unit table.length i)) σ (fun x _ => nz2_fn x σ)
            have hle : table.length ≤ ((List.replicate table.length [PV.v (.int .i64 0)]).set i (iPV 1)).length := by rw [List.length_set, List.length_replicate]; exact Nat.le_refl _
            have hfz : intsPV (unit table.length i) = .s 1 (((List.replicate table.length [PV.v (.int .i64 0)]).set i (iPV 1)).take table.length) := by
              rw [List.take_of_length_le (by rw [List.length_set, List.length_replicate]; exact Nat.le_refl _)]
              unfold intsPV unit
              rw [List.map_set, List.map_replicate]
            obtain ⟨k, hk, hk1, hk2⟩ := idxI_get hnz
            have hk3 : idxI nzB (diffR (d + 1) (unit table.length i)) = k := hk
            rw [show fitP wrong table.length d i = if (List.range (diffR (d + 1) (unit table.length i)).length).all (fun j => (wrong.getD (idxI nzB (diffR (d + 1) (unit table.length i))).toNat 0).tdiv ((diffR (d + 1) (unit table.length i)).getD (idxI nzB (diffR (d + 1) (unit table.length i))).toNat 0) * (diffR (d + 1) (unit table.length i)).getD j 0 == wrong.getD j 0) = true
              then some ((wrong.getD (idxI nzB (diffR (d + 1) (unit table.length i))).toNat 0).tdiv ((diffR (d + 1) (unit table.length i)).getD (idxI nzB (diffR (d + 1) (unit table.length i))).toNat 0)) else none from rfl, hk3, Int.toNat_natCast] at hgo
            simp only [hk3] at hix
            have eR : some (Ob.chain 3 1 0 (List.replicate (((table.map iPV).length : Int)).toNat [PV.v (.int .i64 0)])) = some (.chain 3 1 0 (List.replicate table.length [PV.v (.int .i64 0)])) := by rw [Int.toNat_natCast, List.length_map]
            have eN : some (Ob.box [SV.o 48 0 (((table.map iPV).length : Int)).toNat]) = some (Ob.box [.o 48 0 table.length]) := by rw [Int.toNat_natCast, List.length_map]
            have g0 : (List.replicate table.length [PV.v (.int .i64 0)])[((i : Int)).toNat]? = some [PV.v (.int .i64 0)] := by rw [Int.toNat_natCast, List.getElem?_replicate, if_pos hil]
            have hrl : (List.replicate table.length [PV.v (.int .i64 0)]).length = table.length := List.length_replicate
            have hpw : (2 : Int) ^ (d + 1) ≤ 32 := two32 (by omega)
            have hpp : (0 : Int) < 2 ^ (d + 1) := Int.pow_pos (by decide)
            generalize diffR (d + 1) (unit table.length i) = one at *
            have hkw : k < wrong.length := by omega
            have hwk := hwb _ (getD_mem hkw)
            have hk0 : one.getD k 0 ≠ 0 := by simpa [nzB] using hk2
            have ek1 : wrong[k]? = some (wrong.getD k 0) := by rw [List.getD_eq_getElem?_getD, List.getElem?_eq_getElem hkw]; rfl
            have ek2 : one[k]? = some (one.getD k 0) := by rw [List.getD_eq_getElem?_getD, List.getElem?_eq_getElem hk1]; rfl
            have hq := Int.natAbs_tdiv_le_natAbs (wrong.getD k 0) (one.getD k 0)
            generalize hby : (wrong.getD k 0).tdiv (one.getD k 0) = by_ at *
            have hbr : -32000000000 ≤ by_ ∧ by_ ≤ 32000000000 := by omega
            have wby : IntKind.i64.wrap ((wrong.getD k 0).tdiv (one.getD k 0)) = by_ := by rw [hby]; exact wrap_of (by omega)
            have hfit : ∀ j, j < one.length → _ := fun j hj => fits_fn (by_ := by_) (one := one) (wrong := wrong) (j := j) hj (by omega) (by
              have a := hob _ (getD_mem hj)
              have := mul_bd (a := by_) (b := one.getD j 0) (A := 32000000000) (B := 32) (by omega) (by omega)
              unfold lim; omega)
            have hti := h2 table[i] (List.getElem_mem hil)
            have hyi : table.getD i 0 = table[i] := by rw [List.getD_eq_getElem?_getD, List.getElem?_eq_getElem hil]; rfl
            generalize one.getD k 0 = ok at *
            generalize wrong.getD k 0 = wk at *
            clear hnz hk hk3 hob hwb hk2 hq
            repeat' first | ((first | refine AW_imp (Imp.forget (fr' := [(8, iv .i64 i), (9, iv .i64 table[i]), (10, .x (.b 10 0)), (41, iv .i64 i), (40, iv .i64 table.length), (39, sl table), (0, sl table), (1, iv .i64 d), (7, .x (.b 7 0))]) (σ' := [(10, .box [.o 48 0 table.length]), (48, .chain 3 1 0 (List.replicate table.length [PV.v (.int .i64 0)])), (7, .box [.d (intsPV wrong)])]) ⟨rfl, rfl, rfl, rfl, rfl, rfl, rfl, rfl, rfl, trivial⟩ ⟨eN, eR, rfl, trivial⟩ rfl) (AW_region (id := 15) hTt ?_) | refine AW_imp (Imp.freezeB 48 (fr' := [(8, iv .i64 i), (9, iv .i64 table[i]), (10, .x (.b 10 0)), (41, iv .i64 i), (40, iv .i64 table.length), (39, sl table), (0, sl table), (1, iv .i64 d), (7, .x (.b 7 0))]) (σ' := [(10, .box [.d (intsPV (unit table.length i))]), (7, .box [.d (intsPV wrong)])]) rfl ⟨⟨_, rfl, .inl rfl⟩, ⟨_, rfl, .inl rfl⟩, ⟨_, rfl, .inl rfl⟩, ⟨_, rfl, .inl rfl⟩, ⟨_, rfl, .inl rfl⟩, ⟨_, rfl, .inl rfl⟩, ⟨_, rfl, .inl rfl⟩, ⟨_, rfl, .inl rfl⟩, ⟨_, rfl, .inl rfl⟩, trivial⟩ ⟨⟨_, rfl, .inr ⟨_, _, rfl, rfl, ⟨.inr ⟨_, rfl, hle, congrArg SV.d hfz⟩, trivial⟩⟩⟩, ⟨_, rfl, .inl rfl⟩, trivial⟩ rfl rfl) (AW_region (id := 16) hTt ?_) | fail); conv => whnf) | with_reducible refine AW_seq ?_ | with_reducible refine AW_block ?_ | ((first | with_reducible refine AW_skip ?_ | with_reducible refine AW_exit ?_ | with_reducible refine AW_ret ?_ | with_reducible refine AW_region hTt ?_ | refine AW_draw hTt hMix (id := 18) 10 true [0, 0, 3, 7, 0, 0, 48, 112, 255, 0, 1023] (by kernel_rfl) rfl rfl (by kernel_rfl) ?_ | fail); conv => whnf) | (exact absurd hb (by omega)) | ((first | ((refine ⟨_, (hone).call rfl rfl, ?_⟩); (rintro _ _ ⟨rfl, rfl⟩)) | ((refine ⟨_, hix _, ?_⟩); (rintro _ _ ⟨rfl, rfl⟩)) | with_reducible refine Exists.intro _ (And.intro g0 (And.intro (Nat.le_of_ble_eq_true rfl) ?_)) | with_reducible refine And.intro (gd_any ⟨by omega, by omega, by omega⟩) ?_ | with_reducible refine Exists.intro _ (And.intro (gd_any (And.intro (by omega) (map_some ek1))) ?_) | with_reducible refine Exists.intro _ (And.intro (gd_any (And.intro (by omega) (map_some ek2))) ?_) | refine And.intro (gd_any hk0) ?_ | refine ⟨_, wby, ?_⟩ | fail); conv => whnf) | (refine AW_cond rfl (fun hb => ?_) (fun hb => ?_) <;> first | (replace hb := of_decide_eq_true hb; try simp only [List.length_map] at hb) | (replace hb := of_decide_eq_false hb; try simp only [List.length_map] at hb)) | ((first | refine ⟨_, wrap_of (by first | omega | (simp only [List.length_map]; omega)), ?_⟩ | refine andA ?_ | with_reducible refine Exists.intro _ (And.intro (gd_any (And.intro (by omega) (map_get (by omega)))) ?_) | with_reducible refine And.intro (And.intro (by omega) (And.intro (by first | omega | (simp only [List.length_map]; omega)) (by first | omega | (simp only [List.length_map, List.length_set]; omega)))) ?_ | fail); conv => whnf) | (refine fun hln => ?_; (try rw [List.length_map] at hln); unfold maxLen at hln; conv => whnf) | fail
            clear eR eN g0 hrl hle hfz hone hix ek1 ek2 wby hk0 hby
            refine AW_loop (fun j : Nat => [(70, iv .i64 j), (69, iv .i64 one.length), (14, bv ((List.range j).all fun m => by_ * one.getD m 0 == wrong.getD m 0)), (13, .x (.f (.func 75) [] [.b 12 0, .b 10 0, .b 7 0])), (8, iv .i64 i), (9, iv .i64 table[i]), (12, .x (.b 12 0)), (10, .x (.b 10 0)), (41, iv .i64 i), (40, iv .i64 table.length), (39, sl table), (0, sl table), (1, iv .i64 d), (7, .x (.b 7 0))])
              (fun _ => [(12, .box [.d (.v (.int .i64 by_))]), (10, .box [.d (intsPV one)]), (7, .box [.d (intsPV wrong)])]) (fun j => j ≤ one.length) (fun j => one.length - j) 0 (Nat.zero_le _) impA ?_
            intro j hj
            rcases Nat.lt_or_ge j one.length with hjl | hjl
            · have hf := hfit j hjl
              have hs : ((List.range (j + 1)).all fun m => by_ * one.getD m 0 == wrong.getD m 0) = (bif (List.range j).all (fun m => by_ * one.getD m 0 == wrong.getD m 0) then by_ * one.getD j 0 == wrong.getD j 0 else false) := by
                rw [List.range_succ, List.all_append]
                cases (List.range j).all fun m => by_ * one.getD m 0 == wrong.getD m 0 <;> simp
              have hbE : ∀ a b : Bool, a = b → some (bv a) = some (bv b) := fun a b h => by rw [h]
              clear hfit hgo
              generalize (List.range j).all (fun m => by_ * one.getD m 0 == wrong.getD m 0) = b0 at *
              generalize (by_ * one.getD j 0 == wrong.getD j 0) = b1 at *
              repeat' first | with_reducible refine AW_seq ?_ | with_reducible refine AW_block ?_ | ((first | with_reducible refine AW_skip ?_ | with_reducible refine AW_exit ?_ | with_reducible refine AW_region hTt ?_ | fail); conv => whnf) | (exact absurd hb (by omega)) | ((refine ⟨_, fun _ => hf, ?_⟩); conv => whnf) | (refine AW_cond rfl (fun hb => ?_) (fun hb => ?_) <;> first | (replace hb := of_decide_eq_true hb; try simp only [List.length_map] at hb) | (replace hb := of_decide_eq_false hb; try simp only [List.length_map] at hb)) | ((first | refine ⟨_, wrap_of (by first | omega | (simp only [List.length_map]; omega)), ?_⟩ | refine andA ?_ | fail); conv => whnf) | fail
              exact ⟨j + 1, hjl, by omega, (Imp.forget (by repeat' (first | exact trivial | refine And.intro ?_ ?_ | exact hbE _ _ hs.symm | rfl | exact ivE (by first | omega | (simp only [List.length_map, List.length_append, List.length_singleton] <;> omega)) | exact oE (by first | omega | (simp only [List.length_map, List.length_append, List.length_singleton] <;> omega)))) (by repeat' (first | exact trivial | refine And.intro ?_ ?_ | exact hbE _ _ hs.symm | rfl | exact ivE (by first | omega | (simp only [List.length_map, List.length_append, List.length_singleton] <;> omega)) | exact oE (by first | omega | (simp only [List.length_map, List.length_append, List.length_singleton] <;> omega)))) (by kernel_rfl) (by kernel_rfl) (by kernel_rfl))⟩
            · obtain rfl : j = one.length := by omega
              have wy : IntKind.i64.wrap (table[i] - by_) = table[i] - by_ := wrap_of (by omega)
              clear hfit h2
              repeat' first | with_reducible refine AW_seq ?_ | with_reducible refine AW_block ?_ | ((first | with_reducible refine AW_skip ?_ | with_reducible refine AW_exit ?_ | with_reducible refine AW_ret ?_ | with_reducible refine AW_region hTt ?_ | refine AW_draw hTt hMix (id := 27) 5 false [0, 0, 0, 6, 1, 31, 63] (by kernel_rfl) rfl rfl (by kernel_rfl) ?_ | fail); conv => whnf) | (exact absurd hb (by omega)) | ((refine ⟨_, wy, ?_⟩); conv => whnf) | (refine AW_cond rfl (fun hb => ?_) (fun hb => ?_) <;> first | (replace hb := of_decide_eq_true hb; try simp only [List.length_map] at hb) | (replace hb := of_decide_eq_false hb; try simp only [List.length_map] at hb) | skip) | ((first | refine ⟨_, wrap_of (by first | omega | (simp only [List.length_map]; omega)), ?_⟩ | refine andA ?_ | fail); conv => whnf) | fail
              · rename_i hb
                rw [if_pos hb] at hgo
                rw [hgo]
                dsimp only
                rw [hyi]; rfl
              · rename_i hb
                rw [if_neg (by rw [hb]; decide)] at hgo
                exact ⟨i + 1, ⟨hil, hgo⟩, by omega, impA⟩
          · rw [show table.length - i = 0 by omega] at hgo
            rw [hgo]
            repeat' first | with_reducible refine AW_seq ?_ | with_reducible refine AW_block ?_ | ((first | with_reducible refine AW_skip ?_ | with_reducible refine AW_exit ?_ | with_reducible refine AW_ret ?_ | with_reducible refine AW_region hTt ?_ | fail); conv => whnf) | (exact absurd hb (by omega)) | (refine AW_cond rfl (fun hb => ?_) (fun hb => ?_) <;> first | (replace hb := of_decide_eq_true hb; try simp only [List.length_map] at hb) | (replace hb := of_decide_eq_false hb; try simp only [List.length_map] at hb)) | fail
            rfl
end Go.Proofs.YtnpleednkmhhhaaDoor
namespace Go.Proofs.YtnpleednkmhhhaaDoor
open Go Go.QL
set_option maxHeartbeats 3200000
attribute [local irreducible] ACall FnC YC
def bestGo (W : List R2) (m : Int) : List Int → Nat → R2 → R2
  | [], _, b => b
  | v :: r, k, b => if m < v then b else bestGo W m r (k + 1) (if (W.getD (m - v).toNat (0, 0)).1 + 1 ≤ b.1 then ((W.getD (m - v).toNat (0, 0)).1 + 1, (k : Int)) else b)
def waysR (vs : List Int) : Nat → List R2
  | 0 => [(0, 0)]
  | j + 1 => waysR vs j ++ [bestGo (waysR vs j) ((j : Int) + 1) vs 0 ((j : Int) + 2, 0)]
theorem waysR_len (vs : List Int) : ∀ j, (waysR vs j).length = j + 1
  | 0 => rfl
  | j + 1 => by rw [waysR, List.length_append, waysR_len vs j]; rfl
theorem bestGo_bd {W : List R2} {m : Int} (hW : ∀ w ∈ W, 0 ≤ w.1) (N : Int) : ∀ (vs : List Int) (k : Nat) (b : R2), 0 ≤ b.1 ∧ b.1 ≤ N → (0 ≤ b.2 ∧ b.2 < ((k + vs.length : Nat) : Int)) → (0 ≤ (bestGo W m vs k b).1 ∧ (bestGo W m vs k b).1 ≤ N) ∧ (0 ≤ (bestGo W m vs k b).2 ∧ (bestGo W m vs k b).2 < ((k + vs.length : Nat) : Int))
  | [], k, b, h1, h2 => ⟨h1, by simpa [bestGo] using h2⟩
  | v :: r, k, b, h1, h2 => by
    simp only [bestGo]
    split
    · exact ⟨h1, by omega⟩
    · have hw : 0 ≤ (W.getD (m - v).toNat (0, 0)).1 := by
        rw [List.getD_eq_getElem?_getD]
        cases hg : W[(m - v).toNat]? with
        | none => simp
        | some w => exact hW w (List.mem_of_getElem? hg)
      rw [List.length_cons] at h2
      have ih := bestGo_bd (m := m) hW N r (k + 1) (if (W.getD (m - v).toNat (0, 0)).1 + 1 ≤ b.1 then ((W.getD (m - v).toNat (0, 0)).1 + 1, (k : Int)) else b) (by split <;> (try dsimp only) <;> omega) (by split <;> (try dsimp only) <;> omega)
      rw [List.length_cons]
      refine ⟨ih.1, ?_⟩
      have := ih.2
      omega
theorem waysR_bd {vs : List Int} (h1 : 1 ≤ vs.length) : ∀ j, ∀ w ∈ waysR vs j, (0 ≤ w.1 ∧ w.1 ≤ (j : Int) + 1) ∧ 0 ≤ w.2 ∧ w.2 < vs.length
  | 0, w, h => by
    rw [waysR, List.mem_singleton] at h
    subst h; dsimp only; omega
  | j + 1, w, h => by
    rw [waysR, List.mem_append] at h
    rcases h with h | h
    · have := waysR_bd h1 j w h
      omega
    · rw [List.mem_singleton] at h
      subst h
      have := bestGo_bd (m := (j : Int) + 1) (fun w hw => (waysR_bd h1 j w hw).1.1) ((j : Int) + 2) vs 0 ((j : Int) + 2, 0) (by dsimp only; omega) (by dsimp only; omega)
      rw [Nat.zero_add] at this
      omega
def kvsC (W : List R2) : List (Value × AV) := (List.range W.length).map fun (i : Nat) => (Value.int .i64 i, r2AV (W.getD i (0, 0)))
theorem kvsC_len (W : List R2) : (kvsC W).length = W.length := by simp [kvsC]
theorem kvsC_get {W : List R2} {i : Nat} (h : i < W.length) : (kvsC W)[i]? = some (.int .i64 i, r2AV (W.getD i (0, 0))) := by
  unfold kvsC; rw [List.getElem?_map, List.getElem?_range h]; rfl
theorem kvsC_snoc (W : List R2) (b : R2) : kvsC (W ++ [b]) = kvsC W ++ [(.int .i64 W.length, r2AV b)] := by
  unfold kvsC
  rw [List.length_append, List.length_singleton, List.range_succ, List.map_append]
  congr 1
  · apply List.map_congr_left
    intro i hi
    have := List.mem_range.1 hi
    rw [List.getD_eq_getElem?_getD, List.getD_eq_getElem?_getD, List.getElem?_append_left this]
  · simp
theorem look_in {W : List R2} {n : Nat} (h : n < W.length) (z : AV) : LookIs z (kvsC W) (.int .i64 n) (r2AV (W.getD n (0, 0))) true := .inl ⟨rfl, n, kvsC_get h⟩
theorem upd_new (W : List R2) (b : R2) : UpdIs (kvsC W) (.int .i64 W.length) (r2AV b) (kvsC (W ++ [b])) := by
  refine .inr ⟨fun i y h => ?_, kvsC_snoc W b⟩
  have hi : i < W.length := by rw [← kvsC_len]; exact (List.getElem?_eq_some_iff.1 h).1
  rw [kvsC_get hi] at h
  have := (Prod.ext_iff.1 (Option.some.inj h)).1
  simp only [Value.int.injEq] at this
  omega
abbrev sgC (vs : PV) (W : List R2) : Sg := [(8, .box [.f (.func 79) [] [.b 7 0, .b 2 0, .b 8 0]]), (7, .box [.h 50]), (50, .x (.map (.one (.int .i64)) (kvsC W))), (2, .box [.d vs])]
theorem few_hit (vs : List Int) (W : List R2) (n : Nat) (hn : n < W.length) (hW : W.length ≤ 20000) :
    ACall Tryd.prog 79 [iv .i64 n, .x (.b 7 0), .x (.b 2 0), .x (.b 8 0)] (sgC (intsPV vs) W) (fun r σ' => r = r2AV (W.getD n (0, 0)) ∧ σ' = sgC (intsPV vs) W) := by
  have hk := kvsC_len W
  have hlk := look_in hn
  generalize W.getD n (0, 0) = x at *
  refine ACall_of_AWD hTt Tryd.func79 rfl (by kernel_rfl) (res := [.cell 5 123]) rfl Tryd.ntmps79 (by simp) fun w0 K0 B => ?_
  dsimp only [entry]
  repeat' first | with_reducible refine AW_seq ?_ | with_reducible refine AW_block ?_ | ((with_reducible refine AW_region hTt ?_); conv => whnf) | fail
  refine AW_loop (fun _ : Nat => [(6, iv .i64 W.length), (0, iv .i64 n), (1, .x (.b 7 0)), (2, .x (.b 2 0)), (3, .x (.b 8 0)), (5, .x (.b 5 0))]) (fun _ => (5, .box [.d (.v (.int .i64 0)), .d (.v (.int .i64 0))]) :: sgC (intsPV vs) W) (fun _ => True) (fun _ => 0) 0 trivial (Imp.forget (by repeat' (first | exact trivial | refine And.intro ?_ ?_ | exact ivE (by rw [hk]) | rfl | exact ivE (by first | omega | (simp only [List.length_map, List.length_append, List.length_singleton] <;> omega)) | exact oE (by first | omega | (simp only [List.length_map, List.length_append, List.length_singleton] <;> omega)))) (by repeat' (first | exact trivial | refine And.intro ?_ ?_ | exact ivE (by rw [hk]) | rfl | exact ivE (by first | omega | (simp only [List.length_map, List.length_append, List.length_singleton] <;> omega)) | exact oE (by first | omega | (simp only [List.length_map, List.length_append, List.length_singleton] <;> omega)))) (by kernel_rfl) (by kernel_rfl) (by kernel_rfl)) ?_
  intro _ _
  repeat' first | with_reducible refine AW_seq ?_ | with_reducible refine AW_block ?_ | ((first | with_reducible refine AW_skip ?_ | with_reducible refine AW_exit ?_ | with_reducible refine AW_ret ?_ | with_reducible refine AW_region hTt ?_ | fail); conv => whnf) | (exact absurd hb (by omega)) | ((refine ⟨rfl, rfl, _, true, hlk _, rfl, ?_⟩); conv => whnf) | (refine AW_cond rfl (fun hb => ?_) (fun hb => ?_) <;> first | (replace hb := of_decide_eq_true hb; try simp only [List.length_map] at hb) | (replace hb := of_decide_eq_false hb; try simp only [List.length_map] at hb)) | fail
  exact ⟨_, sgC (intsPV vs) W, ⟨rfl, rfl, rfl, rfl, trivial⟩, rfl, rfl, rfl, rfl⟩
theorem few_fn {vs : List Int} (hv1 : 1 ≤ vs.length) (hvs : ∀ v ∈ vs, 1 ≤ v ∧ v ≤ 10000) (hvl : vs.length ≤ 10) (j n : Nat) (hj : j ≤ 10000) (hn : n ≤ 10000) :
    ACall Tryd.prog 79 [iv .i64 n, .x (.b 7 0), .x (.b 2 0), .x (.b 8 0)] (sgC (intsPV vs) (waysR vs j))
      (fun r σ' => r = r2AV ((waysR vs (max j n)).getD n (0, 0)) ∧ σ' = sgC (intsPV vs) (waysR vs (max j n))) := by
  refine ACall_of_AWD hTt Tryd.func79 rfl (by kernel_rfl) (res := [.cell 5 123]) rfl Tryd.ntmps79 (by simp) fun w0 K0 B => ?_
  dsimp only [entry]
  repeat' first | with_reducible refine AW_seq ?_ | with_reducible refine AW_block ?_ | ((with_reducible refine AW_region hTt ?_); conv => whnf) | fail
  refine AW_loop (fun q : Nat => [(6, iv .i64 ((q : Int) + 1)), (0, iv .i64 n), (1, .x (.b 7 0)), (2, .x (.b 2 0)), (3, .x (.b 8 0)), (5, .x (.b 5 0))]) (fun q => (5, .box [.d (.v (.int .i64 0)), .d (.v (.int .i64 0))]) :: sgC (intsPV vs) (waysR vs q))
    (fun q => j ≤ q ∧ q ≤ max j n) (fun q => max j n - q) j ⟨Nat.le_refl _, Nat.le_max_left ..⟩ (Imp.forget (by repeat' (first | exact trivial | refine And.intro ?_ ?_ | exact ivE (by rw [kvsC_len, waysR_len]; rfl) | rfl | exact ivE (by first | omega | (simp only [List.length_map, List.length_append, List.length_singleton] <;> omega)) | exact oE (by first | omega | (simp only [List.length_map, List.length_append, List.length_singleton] <;> omega)))) (by repeat' (first | exact trivial | refine And.intro ?_ ?_ | exact ivE (by rw [kvsC_len, waysR_len]; rfl) | rfl | exact ivE (by first | omega | (simp only [List.length_map, List.length_append, List.length_singleton] <;> omega)) | exact oE (by first | omega | (simp only [List.length_map, List.length_append, List.length_singleton] <;> omega)))) (by kernel_rfl) (by kernel_rfl) (by kernel_rfl)) ?_
  rintro q ⟨hq1, hq2⟩
  have hq : q ≤ 10000 := by omega
  have hWl := waysR_len vs q
  rcases Nat.lt_or_ge q n with hqn | hqn
  · have hbd := waysR_bd hv1 q
    have hnx : waysR vs (q + 1) = waysR vs q ++ [bestGo (waysR vs q) ((q : Int) + 1) vs 0 ((q : Int) + 2, 0)] := rfl
    have hhit := fun m h => few_hit vs (waysR vs q) m h (by omega)
    have hup := upd_new (waysR vs q) (bestGo (waysR vs q) ((q : Int) + 1) vs 0 ((q : Int) + 2, 0))
    rw [← hnx, hWl, show ((q + 1 : Nat) : Int) = (q : Int) + 1 by omega] at hup
    generalize hW1 : waysR vs (q + 1) = W1 at *
    clear hnx
    generalize waysR vs q = W at *
    repeat' first | with_reducible refine AW_seq ?_ | with_reducible refine AW_block ?_ | ((first | with_reducible refine AW_skip ?_ | with_reducible refine AW_exit ?_ | with_reducible refine AW_region hTt ?_ | fail); conv => whnf) | (exact absurd hb (by omega)) | (refine AW_cond rfl (fun hb => ?_) (fun hb => ?_) <;> first | (replace hb := of_decide_eq_true hb; try simp only [List.length_map] at hb) | (replace hb := of_decide_eq_false hb; try simp only [List.length_map] at hb)) | ((refine ⟨_, wrap_of (by first | omega | (simp only [List.length_map]; omega)), ?_⟩); conv => whnf) | (refine fun hln => ?_; (try rw [List.length_map] at hln); unfold maxLen at hln; conv => whnf) | fail
    refine AW_loop (fun p : Nat × R2 => [(23, iv .i64 p.1), (22, iv .i64 vs.length), (21, sl vs), (6, iv .i64 ((q : Int) + 1)), (0, iv .i64 n), (1, .x (.b 7 0)), (2, .x (.b 2 0)), (3, .x (.b 8 0)), (5, .x (.b 5 0)), (7, .x (.b 51 0))])
      (fun p => (51, .box [.d (.v (.int .i64 p.2.1)), .d (.v (.int .i64 p.2.2))]) :: (5, .box [.d (.v (.int .i64 0)), .d (.v (.int .i64 0))]) :: sgC (intsPV vs) W)
      (fun p => p.1 ≤ vs.length ∧ bestGo W ((q : Int) + 1) vs 0 ((q : Int) + 2, 0) = bestGo W ((q : Int) + 1) (vs.drop p.1) p.1 p.2) (fun p => vs.length - p.1) (0, ((q : Int) + 2, 0)) ⟨Nat.zero_le _, rfl⟩ impA ?_
    rintro ⟨k, b⟩ ⟨hk, hgo⟩
    dsimp only at hk hgo ⊢
    rcases Nat.lt_or_ge k vs.length with hkl | hkl
    · rw [List.drop_eq_getElem_cons hkl] at hgo
      simp only [bestGo] at hgo
      have hv := hvs vs[k] (List.getElem_mem hkl)
      by_cases hbr : (q : Int) + 1 < vs[k]
      · rw [if_pos hbr] at hgo
        rw [hgo] at hup
        clear hhit hbd hvs
        repeat' first | with_reducible refine AW_seq ?_ | with_reducible refine AW_block ?_ | ((first | with_reducible refine AW_skip ?_ | with_reducible refine AW_exit ?_ | with_reducible refine AW_region hTt ?_ | fail); conv => whnf) | (exact absurd hb (by omega)) | ((refine ⟨rfl, rfl, rfl, _, hup, ?_⟩); conv => whnf) | (refine AW_cond rfl (fun hb => ?_) (fun hb => ?_) <;> first | (replace hb := of_decide_eq_true hb; try simp only [List.length_map] at hb) | (replace hb := of_decide_eq_false hb; try simp only [List.length_map] at hb)) | ((first | refine ⟨_, wrap_of (by first | omega | (simp only [List.length_map]; omega)), ?_⟩ | refine andA ?_ | with_reducible refine Exists.intro _ (And.intro (gd_any (And.intro (by omega) (map_get (by omega)))) ?_) | fail); conv => whnf) | fail
        refine ⟨q + 1, ⟨by omega, by omega⟩, by omega, ?_⟩
        rw [hW1]
        exact (Imp.forget (by repeat' (first | exact trivial | refine And.intro ?_ ?_ | exact ivE (by omega) | rfl | exact ivE (by first | omega | (simp only [List.length_map, List.length_append, List.length_singleton] <;> omega)) | exact oE (by first | omega | (simp only [List.length_map, List.length_append, List.length_singleton] <;> omega)))) (by repeat' (first | exact trivial | refine And.intro ?_ ?_ | exact ivE (by omega) | rfl | exact ivE (by first | omega | (simp only [List.length_map, List.length_append, List.length_singleton] <;> omega)) | exact oE (by first | omega | (simp only [List.length_map, List.length_append, List.length_singleton] <;> omega)))) (by kernel_rfl) (by kernel_rfl) (by kernel_rfl))
      · rw [if_neg hbr] at hgo
        obtain ⟨t, ht⟩ : ∃ t : Nat, (q : Int) + 1 - vs[k] = t := ⟨((q : Int) + 1 - vs[k]).toNat, by omega⟩
        have htl : t < W.length := by omega
        have hh := hhit t htl
        have hw := hbd _ (show W.getD t (0, 0) ∈ W by rw [List.getD_eq_getElem?_getD, List.getElem?_eq_getElem htl]; exact List.getElem_mem htl)
        rw [ht, Int.toNat_natCast] at hgo
        have w1 : IntKind.i64.wrap ((q : Int) + 1 - vs[k]) = (t : Int) := by rw [ht]; exact wrap_of (by omega)
        generalize W.getD t (0, 0) = w at *
        clear hhit hbd hvs hup
        by_cases hle : w.1 + 1 ≤ b.1
        · rw [if_pos hle] at hgo
          repeat' first | with_reducible refine AW_seq ?_ | with_reducible refine AW_block ?_ | ((first | with_reducible refine AW_skip ?_ | with_reducible refine AW_exit ?_ | with_reducible refine AW_region hTt ?_ | fail); conv => whnf) | (exact absurd hb (by omega)) | ((first | refine ⟨_, w1, ?_⟩ | ((refine ⟨_, (hh).frame (asc []) (by repeat (first | exact trivial | refine ⟨rfl, ?_⟩)) rfl (by rintro _ _ ⟨rfl, rfl⟩; rfl), ?_⟩); (rintro _ _ ⟨_, _, ⟨rfl, rfl⟩, rfl, rfl⟩)) | fail); conv => whnf) | (refine AW_cond rfl (fun hb => ?_) (fun hb => ?_) <;> first | (replace hb := of_decide_eq_true hb; try simp only [List.length_map] at hb) | (replace hb := of_decide_eq_false hb; try simp only [List.length_map] at hb)) | ((first | refine ⟨_, wrap_of (by first | omega | (simp only [List.length_map]; omega)), ?_⟩ | refine andA ?_ | with_reducible refine Exists.intro _ (And.intro (gd_any (And.intro (by omega) (map_get (by omega)))) ?_) | fail); conv => whnf) | fail
          exact ⟨(k + 1, (w.1 + 1, (k : Int))), ⟨hkl, hgo⟩, by show vs.length - (k + 1) < vs.length - k; omega, impA⟩
        · rw [if_neg hle] at hgo
          repeat' first | with_reducible refine AW_seq ?_ | with_reducible refine AW_block ?_ | ((first | with_reducible refine AW_skip ?_ | with_reducible refine AW_exit ?_ | with_reducible refine AW_region hTt ?_ | fail); conv => whnf) | (exact absurd hb (by omega)) | ((first | refine ⟨_, w1, ?_⟩ | ((refine ⟨_, (hh).frame (asc []) (by repeat (first | exact trivial | refine ⟨rfl, ?_⟩)) rfl (by rintro _ _ ⟨rfl, rfl⟩; rfl), ?_⟩); (rintro _ _ ⟨_, _, ⟨rfl, rfl⟩, rfl, rfl⟩)) | fail); conv => whnf) | (refine AW_cond rfl (fun hb => ?_) (fun hb => ?_) <;> first | (replace hb := of_decide_eq_true hb; try simp only [List.length_map] at hb) | (replace hb := of_decide_eq_false hb; try simp only [List.length_map] at hb)) | ((first | refine ⟨_, wrap_of (by first | omega | (simp only [List.length_map]; omega)), ?_⟩ | refine andA ?_ | with_reducible refine Exists.intro _ (And.intro (gd_any (And.intro (by omega) (map_get (by omega)))) ?_) | fail); conv => whnf) | fail
          exact ⟨(k + 1, b), ⟨hkl, hgo⟩, by show vs.length - (k + 1) < vs.length - k; omega, impA⟩
    · rw [List.drop_eq_nil_of_le hkl] at hgo
      simp only [bestGo] at hgo
      rw [hgo] at hup
      clear hhit hbd hvs
      repeat' first | with_reducible refine AW_seq ?_ | with_reducible refine AW_block ?_ | ((first | with_reducible refine AW_skip ?_ | with_reducible refine AW_exit ?_ | with_reducible refine AW_region hTt ?_ | fail); conv => whnf) | (exact absurd hb (by omega)) | ((refine ⟨rfl, rfl, rfl, _, hup, ?_⟩); conv => whnf) | (refine AW_cond rfl (fun hb => ?_) (fun hb => ?_) <;> first | (replace hb := of_decide_eq_true hb; try simp only [List.length_map] at hb) | (replace hb := of_decide_eq_false hb; try simp only [List.length_map] at hb)) | ((refine ⟨_, wrap_of (by first | omega | (simp only [List.length_map]; omega)), ?_⟩); conv => whnf) | fail
      refine ⟨q + 1, ⟨by omega, by omega⟩, by omega, ?_⟩
      rw [hW1]
      exact (Imp.forget (by repeat' (first | exact trivial | refine And.intro ?_ ?_ | exact ivE (by omega) | rfl | exact ivE (by first | omega | (simp only [List.length_map, List.length_append, List.length_singleton] <;> omega)) | exact oE (by first | omega | (simp only [List.length_map, List.length_append, List.length_singleton] <;> omega)))) (by repeat' (first | exact trivial | refine And.intro ?_ ?_ | exact ivE (by omega) | rfl | exact ivE (by first | omega | (simp only [List.length_map, List.length_append, List.length_singleton] <;> omega)) | exact oE (by first | omega | (simp only [List.length_map, List.length_append, List.length_singleton] <;> omega)))) (by kernel_rfl) (by kernel_rfl) (by kernel_rfl))
  · obtain rfl : q = max j n := by omega
    have hlk := look_in (W := waysR vs (max j n)) (n := n) (by omega)
    generalize (waysR vs (max j n)).getD n (0, 0) = x at *
    generalize waysR vs (max j n) = W at *
    repeat' first | with_reducible refine AW_seq ?_ | with_reducible refine AW_block ?_ | ((first | with_reducible refine AW_skip ?_ | with_reducible refine AW_exit ?_ | with_reducible refine AW_ret ?_ | with_reducible refine AW_region hTt ?_ | fail); conv => whnf) | (exact absurd hb (by omega)) | ((refine ⟨rfl, rfl, _, true, hlk _, rfl, ?_⟩); conv => whnf) | (refine AW_cond rfl (fun hb => ?_) (fun hb => ?_) <;> first | (replace hb := of_decide_eq_true hb; try simp only [List.length_map] at hb) | (replace hb := of_decide_eq_false hb; try simp only [List.length_map] at hb)) | fail
    exact ⟨_, sgC (intsPV vs) W, ⟨rfl, rfl, rfl, rfl, trivial⟩, rfl, rfl, rfl, rfl⟩
end Go.Proofs.YtnpleednkmhhhaaDoor
namespace Go.Proofs.YtnpleednkmhhhaaDoor
open Go Go.QL
set_option maxHeartbeats 3200000
attribute [local irreducible] ACall FnC YC
def wayAt (vs : List Int) (n : Nat) : R2 := (waysR vs n).getD n (0, 0)
theorem wayAt_eq (vs : List Int) {n : Nat} : ∀ {j : Nat}, n ≤ j → (waysR vs j).getD n (0, 0) = wayAt vs n
  | 0, h => by obtain rfl : n = 0 := by omega
               rfl
  | j + 1, h => by
    by_cases e : n = j + 1
    · subst e; rfl
    · rw [waysR, List.getD_eq_getElem?_getD, List.getElem?_append_left (by rw [waysR_len]; omega), ← List.getD_eq_getElem?_getD]
      exact wayAt_eq vs (by omega)
def spend (vs : List Int) : Nat → Int → List Int → List Int
  | 0, _, m => m
  | f + 1, n, m => if 0 < n then spend vs f (n - vs.getD (wayAt vs n.toNat).2.toNat 0) (m.set (wayAt vs n.toNat).2.toNat (m.getD (wayAt vs n.toNat).2.toNat 0 + 1)) else m
def coinsOf (vs : List Int) (n : Int) : List Int := spend vs n.toNat n (List.replicate vs.length 0)
def ascBad (vs : List Int) : Bool := (List.range (vs.length - 1)).any fun i => decide (vs.getD (i + 1) 0 ≤ vs.getD i 0)
def coinsP (vs am : List Int) : List (List Int) × Int :=
  if outL 1 10 [(vs.length : Int)] = true then ([], 3)
  else if outL 1 10000 vs = true then ([], 7)
  else if vs.getD 0 0 ≠ 1 then ([], 2)
  else if ascBad vs = true then ([], 2)
  else if 40 < am.length then ([], 3)
  else if outL 0 10000 am = true then ([], 7)
  else (am.map (coinsOf vs), 0)
def rowPVi (l : List Int) : List PV := [intsPV l]
theorem spend_len (vs : List Int) : ∀ (f : Nat) (n : Int) (m : List Int), (spend vs f n m).length = m.length
  | 0, _, _ => rfl
  | f + 1, n, m => by
    simp only [spend]
    split
    · rw [spend_len vs f, List.length_set]
    · rfl
theorem coins_early {vs am : List Int} {e : Int} (hf : FnC Tryd.prog 30 [sl vs, sl am] (.t [.x (.d (.v (.slice none 0 0))), iv .i64 e])) : FnC Tryd.prog 30 [sl vs, sl am] (.t [rowsAV [], iv .i64 e]) :=
  hf.le ⟨_, rfl, LeAV1.nil _, LeAV1.refl _, trivial⟩
theorem coins_fn (vs am : List Int) : FnC Tryd.prog 30 [sl vs, sl am] (.t [rowsAV (coinsP vs am).1, iv .i64 (coinsP vs am).2]) := by
  have o1 := out_fn 1 10 [(vs.length : Int)]
  rw [show ((vs.length : Nat) : Int) = ((vs.map fun n => [PV.v (.int .i64 n)]).length : Nat) by rw [List.length_map]] at o1
  have o2 := out_fn 1 10000 vs
  have o3 := out_fn 0 10000 am
  unfold coinsP
  rw [show ((vs.length : Nat) : Int) = ((vs.map fun n => [PV.v (.int .i64 n)]).length : Nat) by rw [List.length_map]]
  by_cases h1 : outL 1 10 [((vs.map fun n => [PV.v (.int .i64 n)]).length : Int)] = true
  · rw [if_pos h1]
    rw [h1] at o1
    refine coins_early ?_
    refine FnC_of_AW hTt Tryd.func30 rfl (by kernel_rfl) (res := [.tmp 4, .tmp 5]) rfl Tryd.ntmps30 (by simp) fun w0 K0 => ?_
    dsimp only [entry]
    repeat' first | with_reducible refine AW_seq ?_ | with_reducible refine AW_block ?_ | ((first | with_reducible refine AW_ret ?_ | with_reducible refine AW_region hTt ?_ | ((refine ⟨_, (o1).call rfl rfl, ?_⟩); (rintro _ _ ⟨rfl, rfl⟩)) | fail); conv => whnf) | (refine AW_cond rfl (fun _ => ?_) (fun hb => absurd (show true = false from hb) (by decide))) | (refine fun hln => ?_; (try rw [List.length_map] at hln); unfold maxLen at hln; conv => whnf) | fail
    rfl
  · rw [if_neg h1]
    have h1 : outL 1 10 [((vs.map fun n => [PV.v (.int .i64 n)]).length : Int)] = false := by simpa using h1
    rw [h1] at o1
    have hvl := outL_false.1 h1 _ (List.mem_singleton.2 rfl)
    rw [List.length_map] at hvl
    clear h1
    by_cases h2 : outL 1 10000 vs = true
    · rw [if_pos h2]
      rw [h2] at o2
      refine coins_early ?_
      refine FnC_of_AW hTt Tryd.func30 rfl (by kernel_rfl) (res := [.tmp 4, .tmp 5]) rfl Tryd.ntmps30 (by simp) fun w0 K0 => ?_
      dsimp only [entry]
      repeat' first | with_reducible refine AW_seq ?_ | with_reducible refine AW_block ?_ | ((first | with_reducible refine AW_ret ?_ | with_reducible refine AW_region hTt ?_ | ((refine ⟨_, (o1).call rfl rfl, ?_⟩); (rintro _ _ ⟨rfl, rfl⟩)) | ((refine ⟨_, (o2).call rfl rfl, ?_⟩); (rintro _ _ ⟨rfl, rfl⟩)) | fail); conv => whnf) | (refine AW_cond rfl (fun _ => ?_) (fun hb => absurd (show true = false from hb) (by decide))) | (refine AW_cond rfl (fun hb => absurd (show false = true from hb) (by decide)) (fun _ => ?_)) | (refine fun hln => ?_; (try rw [List.length_map] at hln); unfold maxLen at hln; conv => whnf) | fail
      rfl
    · rw [if_neg h2]
      have h2 : outL 1 10000 vs = false := by simpa using h2
      rw [h2] at o2
      have hvs := outL_false.1 h2
      clear h2
      have e0 : (vs.map fun n => [PV.v (.int .i64 n)])[Int.toNat 0]? = some [PV.v (.int .i64 (vs.getD 0 0))] := by
        show (vs.map fun n => [PV.v (.int .i64 n)])[0]? = _
        rw [List.getElem?_map, List.getElem?_eq_getElem (by omega), List.getD_eq_getElem?_getD, List.getElem?_eq_getElem (by omega)]; rfl
      by_cases h3 : vs.getD 0 0 ≠ 1
      · rw [if_pos h3]
        refine coins_early ?_
        generalize vs.getD 0 0 = v0 at *
        refine FnC_of_AW hTt Tryd.func30 rfl (by kernel_rfl) (res := [.tmp 4, .tmp 5]) rfl Tryd.ntmps30 (by simp) fun w0 K0 => ?_
        dsimp only [entry]
        repeat' first | with_reducible refine AW_seq ?_ | with_reducible refine AW_block ?_ | ((first | with_reducible refine AW_skip ?_ | with_reducible refine AW_ret ?_ | with_reducible refine AW_region hTt ?_ | ((refine ⟨_, (o1).call rfl rfl, ?_⟩); (rintro _ _ ⟨rfl, rfl⟩)) | ((refine ⟨_, (o2).call rfl rfl, ?_⟩); (rintro _ _ ⟨rfl, rfl⟩)) | with_reducible refine Exists.intro _ (And.intro (gd_any (And.intro (by decide) e0)) ?_) | fail); conv => whnf) | (exfalso; exact h3 hb) | (refine AW_cond rfl (fun hb => absurd (show false = true from hb) (by decide)) (fun _ => ?_)) | (refine AW_cond rfl (fun hb => ?_) (fun hb => ?_) <;> first | (replace hb := of_decide_eq_true hb; try simp only [List.length_map] at hb) | (replace hb := of_decide_eq_false hb; try simp only [List.length_map] at hb) | (simp only [List.length_map, bne_iff_ne, ne_eq, beq_iff_eq, bne_eq_false_iff_eq, beq_eq_false_iff_ne, decide_eq_true_eq, decide_eq_false_iff_not, Bool.not_eq_true', Bool.not_eq_false', Int.natCast_inj] at hb)) | ((refine andA ?_); conv => whnf) | (refine fun hln => ?_; (try rw [List.length_map] at hln); unfold maxLen at hln; conv => whnf) | fail
        rfl
      · rw [if_neg h3]
        have h3 : vs.getD 0 0 = 1 := by simpa using h3
        rw [h3] at e0
        have hs1 : (1 : Int) ≤ ((vs.map fun n => [PV.v (.int .i64 n)]).length : Int) := by rw [List.length_map]; omega
        have hdl : ((((vs.map fun n => [PV.v (.int .i64 n)]).take (((vs.map fun n => [PV.v (.int .i64 n)]).length : Int)).toNat).drop (Int.toNat 1)).length : Int) = ((vs.length - 1 : Nat) : Int) := by
          rw [Int.toNat_natCast, List.take_length, List.length_drop, List.length_map]; rfl
        have hR : ∀ e : Int, ∃ r', some (AV.t [.x (.d (.v (.slice none 0 0))), iv .i64 e]) = some r' ∧ LeAV r' (.t [rowsAV [], iv .i64 e]) := fun e => ⟨_, rfl, leN⟩
        refine FnC_of_AWL hTt Tryd.func30 rfl (by kernel_rfl) (res := [.tmp 4, .tmp 5]) rfl Tryd.ntmps30 (by simp) fun w0 K0 => ?_
        dsimp only [entry]
        repeat' first | with_reducible refine AW_seq ?_ | with_reducible refine AW_block ?_ | ((first | with_reducible refine AW_skip ?_ | with_reducible refine AW_region hTt ?_ | ((refine ⟨_, (o1).call rfl rfl, ?_⟩); (rintro _ _ ⟨rfl, rfl⟩)) | ((refine ⟨_, (o2).call rfl rfl, ?_⟩); (rintro _ _ ⟨rfl, rfl⟩)) | with_reducible refine Exists.intro _ (And.intro (gd_any (And.intro (by decide) e0)) ?_) | refine And.intro (gd_none ⟨by decide, hs1, Int.le_refl _⟩) ?_ | fail); conv => whnf) | (refine AW_cond rfl (fun hb => absurd (show false = true from hb) (by decide)) (fun _ => ?_)) | ((refine andA ?_); conv => whnf) | (refine fun hln => ?_; (try rw [List.length_map] at hln); unfold maxLen at hln; conv => whnf) | fail
        clear o1 o2
        refine AW_loop (fun i : Nat => [(29, iv .i64 i), (28, iv .i64 ((vs.length - 1 : Nat) : Int)), (1, sl am), (2, .x (.b 2 0)), (4, .x (.d (.v (.slice none 0 0))))]) (fun _ => [(2, .box [.d (intsPV vs)])])
          (fun i => i ≤ vs.length - 1 ∧ ((List.range i).any fun i => decide (vs.getD (i + 1) 0 ≤ vs.getD i 0)) = false) (fun i => vs.length - i) 0 ⟨Nat.zero_le _, rfl⟩ (Imp.forget (by repeat' (first | exact trivial | refine And.intro ?_ ?_ | exact ivE hdl | rfl | exact ivE (by first | omega | (simp only [List.length_map, List.length_append, List.length_singleton] <;> omega)) | exact oE (by first | omega | (simp only [List.length_map, List.length_append, List.length_singleton] <;> omega)))) (by repeat' (first | exact trivial | refine And.intro ?_ ?_ | exact ivE hdl | rfl | exact ivE (by first | omega | (simp only [List.length_map, List.length_append, List.length_singleton] <;> omega)) | exact oE (by first | omega | (simp only [List.length_map, List.length_append, List.length_singleton] <;> omega)))) (by kernel_rfl) (by kernel_rfl) (by kernel_rfl)) ?_
        clear hs1 hdl e0
        rintro i ⟨hi, hasc⟩
        rcases Nat.lt_or_ge i (vs.length - 1) with hil | hil
        · have g0 : vs[i]? = some (vs.getD i 0) := by rw [List.getD_eq_getElem?_getD, List.getElem?_eq_getElem (by omega)]; rfl
          have g1 : vs[((i : Int) + 1).toNat]? = some (vs.getD (i + 1) 0) := by rw [show ((i : Int) + 1).toNat = i + 1 by omega, List.getD_eq_getElem?_getD, List.getElem?_eq_getElem (by omega)]; rfl
          have hbad : vs.getD (i + 1) 0 ≤ vs.getD i 0 → ascBad vs = true := fun h => List.any_eq_true.2 ⟨i, List.mem_range.2 (by omega), decide_eq_true h⟩
          have hnx : ¬ vs.getD (i + 1) 0 ≤ vs.getD i 0 → ((List.range (i + 1)).any fun i => decide (vs.getD (i + 1) 0 ≤ vs.getD i 0)) = false := fun h => by
            rw [List.range_succ, List.any_append, hasc]; simp only [List.any_cons, List.any_nil, decide_eq_false h]; rfl
          generalize vs.getD (i + 1) 0 = y at *
          generalize vs.getD i 0 = x at *
          repeat' first | with_reducible refine AW_seq ?_ | with_reducible refine AW_block ?_ | ((first | with_reducible refine AW_skip ?_ | with_reducible refine AW_exit ?_ | with_reducible refine AW_ret ?_ | with_reducible refine AW_region hTt ?_ | refine AW_draw hTt hMix (id := 10) 9 false [0, 0, 3, 7, 0, 0, 32, 112, 240, 511] (by kernel_rfl) rfl rfl (by kernel_rfl) ?_ | fail); conv => whnf) | (exact absurd hb (by omega)) | ((first | with_reducible refine Exists.intro _ (And.intro (gd_any (And.intro (by omega) (map_some g0))) ?_) | with_reducible refine Exists.intro _ (And.intro (gd_any (And.intro (by omega) (map_some' g1))) ?_) | fail); conv => whnf) | (refine AW_cond rfl (fun hb => ?_) (fun hb => ?_) <;> first | (replace hb := of_decide_eq_true hb; try simp only [List.length_map] at hb) | (replace hb := of_decide_eq_false hb; try simp only [List.length_map] at hb)) | ((first | refine ⟨_, wrap_of (by first | omega | (simp only [List.length_map]; omega)), ?_⟩ | refine andA ?_ | fail); conv => whnf) | fail
          · rw [if_pos (hbad hb)]
            exact hR _
          · exact ⟨i + 1, ⟨by omega, hnx (by omega)⟩, by omega, impA⟩
        · obtain rfl : i = vs.length - 1 := by omega
          have hA : ascBad vs = false := hasc
          rw [if_neg (by rw [hA]; decide)]
          clear hasc hA
          by_cases h5 : 40 < am.length
          · rw [if_pos h5]
            repeat' first | with_reducible refine AW_seq ?_ | with_reducible refine AW_block ?_ | ((first | with_reducible refine AW_skip ?_ | with_reducible refine AW_exit ?_ | with_reducible refine AW_ret ?_ | with_reducible refine AW_region hTt ?_ | refine AW_draw hTt hMix (id := 10) 9 false [0, 0, 3, 7, 0, 0, 32, 112, 240, 511] (by kernel_rfl) rfl rfl (by kernel_rfl) ?_ | fail); conv => whnf) | (exact absurd hb (by omega)) | (refine AW_cond rfl (fun hb => ?_) (fun hb => ?_) <;> first | (replace hb := of_decide_eq_true hb; try simp only [List.length_map] at hb) | (replace hb := of_decide_eq_false hb; try simp only [List.length_map] at hb)) | (refine fun hln => ?_; (try rw [List.length_map] at hln); unfold maxLen at hln; conv => whnf) | fail
            exact hR _
          · rw [if_neg h5]
            by_cases h6 : outL 0 10000 am = true
            · rw [if_pos h6]
              rw [h6] at o3
              repeat' first | with_reducible refine AW_seq ?_ | with_reducible refine AW_block ?_ | ((first | with_reducible refine AW_skip ?_ | with_reducible refine AW_exit ?_ | with_reducible refine AW_ret ?_ | with_reducible refine AW_region hTt ?_ | refine AW_draw hTt hMix (id := 10) 9 false [0, 0, 3, 7, 0, 0, 32, 112, 240, 511] (by kernel_rfl) rfl rfl (by kernel_rfl) ?_ | fail); conv => whnf) | (exact absurd hb (by omega)) | ((refine ⟨_, (o3).call rfl rfl, ?_⟩); (rintro _ _ ⟨rfl, rfl⟩); conv => whnf) | (refine AW_cond rfl (fun _ => ?_) (fun hb => absurd (show true = false from hb) (by decide))) | (refine AW_cond rfl (fun hb => ?_) (fun hb => ?_) <;> first | (replace hb := of_decide_eq_true hb; try simp only [List.length_map] at hb) | (replace hb := of_decide_eq_false hb; try simp only [List.length_map] at hb)) | (refine fun hln => ?_; (try rw [List.length_map] at hln); unfold maxLen at hln; conv => whnf) | fail
              exact hR _
            · rw [if_neg h6]
              have h6 : outL 0 10000 am = false := by simpa using h6
              rw [h6] at o3
              have ham := outL_false.1 h6
              clear h6 hR
              repeat' first | with_reducible refine AW_seq ?_ | with_reducible refine AW_block ?_ | ((first | with_reducible refine AW_skip ?_ | with_reducible refine AW_exit ?_ | with_reducible refine AW_ret ?_ | with_reducible refine AW_region hTt ?_ | refine AW_draw hTt hMix (id := 10) 9 false [0, 0, 3, 7, 0, 0, 32, 112, 240, 511] (by kernel_rfl) rfl rfl (by kernel_rfl) ?_ | fail); conv => whnf) | (exact absurd hb (by omega)) | ((first | ((refine ⟨_, (o3).call rfl rfl, ?_⟩); (rintro _ _ ⟨rfl, rfl⟩)) | refine ⟨rfl, rfl, rfl, _, .inr ⟨by simp, rfl⟩, ?_⟩ | fail); conv => whnf) | (refine AW_cond rfl (fun hb => absurd (show false = true from hb) (by decide)) (fun _ => ?_)) | (refine AW_cond rfl (fun hb => ?_) (fun hb => ?_) <;> first | (replace hb := of_decide_eq_true hb; try simp only [List.length_map] at hb) | (replace hb := of_decide_eq_false hb; try simp only [List.length_map] at hb)) | (refine fun hln => ?_; (try rw [List.length_map] at hln); unfold maxLen at hln; conv => whnf) | fail
              clear o3
              have hv1 : 1 ≤ vs.length := by omega
              refine AW_imp (Imp.nil 900 23 1 (fr' := [(56, iv .i64 0), (55, iv .i64 am.length), (54, sl am), (4, .x (.o 900 0 0)), (2, .x (.b 2 0)), (7, .x (.b 7 0)), (8, .x (.b 8 0))]) (σ' := sgC (intsPV vs) (waysR vs 0)) rfl ?_ ?_ rfl rfl) ?_
              · exact ⟨⟨_, rfl, .inl rfl⟩, ⟨_, rfl, .inl (by rw [List.length_map])⟩, ⟨_, rfl, .inl rfl⟩, ⟨_, rfl, .inr ⟨rfl, rfl⟩⟩, ⟨_, rfl, .inl rfl⟩, ⟨_, rfl, .inl rfl⟩, ⟨_, rfl, .inl rfl⟩, trivial⟩
              · exact ⟨⟨_, rfl, .inl rfl⟩, ⟨_, rfl, .inl rfl⟩, ⟨_, rfl, .inl rfl⟩, ⟨_, rfl, .inl rfl⟩, trivial⟩
              refine AW_loop (fun p : Nat × Nat => [(56, iv .i64 p.1), (55, iv .i64 am.length), (54, sl am), (4, .x (.o 900 p.1 p.1)), (2, .x (.b 2 0)), (7, .x (.b 7 0)), (8, .x (.b 8 0))])
                (fun p => (900, .chain 23 1 p.1 ((am.take p.1).map fun n => [intsPV (coinsOf vs n)])) :: sgC (intsPV vs) (waysR vs p.2)) (fun p => p.1 ≤ am.length ∧ p.2 ≤ 10000) (fun p => am.length - p.1) (0, 0) ⟨Nat.zero_le _, Nat.zero_le _⟩ impA ?_
              rintro ⟨i, J0⟩ ⟨hi, hJ0⟩
              dsimp only at hi hJ0 ⊢
              have htl : ((am.take i).map fun n => [intsPV (coinsOf vs n)]).length = i := by rw [List.length_map, List.length_take]; omega
              rcases Nat.lt_or_ge i am.length with hil | hil
              · have ha := ham am[i] (List.getElem_mem hil)
                have hnx : am.take (i + 1) = am.take i ++ [am[i]] := by rw [List.take_add_one, List.getElem?_eq_getElem hil]; rfl
                have hch : ((am.take i).map fun n => [intsPV (coinsOf vs n)]).take i ++ [[intsPV (coinsOf vs am[i])]] = (am.take (i + 1)).map fun n => [intsPV (coinsOf vs n)] := by
                  rw [List.take_of_length_le (by rw [htl]; exact Nat.le_refl _), hnx, List.map_append]; rfl
                generalize hX : ((am.take i).map fun n => [intsPV (coinsOf vs n)]) = X at *
                have eR : some (Ob.chain 3 1 0 (List.replicate (((vs.map iPV).length : Int)).toNat [PV.v (.int .i64 0)])) = some (.chain 3 1 0 ((List.replicate vs.length 0).map iPV)) := by rw [Int.toNat_natCast, List.length_map, List.map_replicate]
                have eN : some (AV.x (.o 62 0 (((vs.map iPV).length : Int)).toNat)) = some (AV.x (.o 62 0 vs.length)) := by rw [Int.toNat_natCast, List.length_map]
                repeat' first | with_reducible refine AW_seq ?_ | with_reducible refine AW_block ?_ | ((first | with_reducible refine AW_skip ?_ | with_reducible refine AW_exit ?_ | with_reducible refine AW_ret ?_ | with_reducible refine AW_region hTt ?_ | fail); conv => whnf) | (exact absurd hb (by omega)) | (refine AW_cond rfl (fun hb => ?_) (fun hb => ?_) <;> first | (replace hb := of_decide_eq_true hb; try simp only [List.length_map] at hb) | (replace hb := of_decide_eq_false hb; try simp only [List.length_map] at hb)) | ((first | refine andA ?_ | with_reducible refine Exists.intro _ (And.intro (gd_any (And.intro (by omega) (map_get (by omega)))) ?_) | with_reducible refine And.intro (And.intro (by omega) (And.intro (by first | omega | (simp only [List.length_map]; omega)) (by first | omega | (simp only [List.length_map, List.length_set]; omega)))) ?_ | fail); conv => whnf) | (refine fun hln => ?_; (try rw [List.length_map] at hln); unfold maxLen at hln; conv => whnf) | fail
                refine AW_loop (fun p : (Nat × Int) × (List Int × Nat) => [(10, iv .i64 p.1.2), (11, .x (.o 62 0 vs.length)), (56, iv .i64 i), (55, iv .i64 am.length), (54, sl am), (4, .x (.o 900 i i)), (2, .x (.b 2 0)), (7, .x (.b 7 0)), (8, .x (.b 8 0))])
                  (fun p => (62, .chain 3 1 0 (p.2.1.map iPV)) :: (900, .chain 23 1 i X) :: sgC (intsPV vs) (waysR vs p.2.2))
                  (fun p => (p.1.2 ≤ p.1.1 ∧ -10000 ≤ p.1.2 ∧ p.1.2 ≤ 10000) ∧ p.2.1.length = vs.length ∧ p.2.2 ≤ 10000 ∧ spend vs p.1.1 p.1.2 p.2.1 = coinsOf vs am[i] ∧ ∀ x ∈ p.2.1, 0 ≤ x ∧ x + p.1.2 ≤ 10000) (fun p => p.1.1) ((am[i].toNat, am[i]), (List.replicate vs.length 0, J0))
                  ⟨by dsimp only; omega, List.length_replicate, hJ0, rfl, fun x hx => by rw [(List.mem_replicate.1 hx).2]; dsimp only; omega⟩ (Imp.forget (by repeat' (first | exact trivial | refine And.intro ?_ ?_ | exact eR | exact eN | rfl | exact ivE (by first | omega | (simp only [List.length_map, List.length_append, List.length_singleton] <;> omega)) | exact oE (by first | omega | (simp only [List.length_map, List.length_append, List.length_singleton] <;> omega)))) (by repeat' (first | exact trivial | refine And.intro ?_ ?_ | exact eR | exact eN | rfl | exact ivE (by first | omega | (simp only [List.length_map, List.length_append, List.length_singleton] <;> omega)) | exact oE (by first | omega | (simp only [List.length_map, List.length_append, List.length_singleton] <;> omega)))) (by kernel_rfl) (by kernel_rfl) (by kernel_rfl)) ?_
                clear eR eN
                rintro ⟨⟨f, n⟩, m, J⟩ ⟨⟨hf, hn1, hn2⟩, hml, hJ, hsp, hmb⟩
                dsimp only at hf hn1 hn2 hml hJ hsp hmb ⊢
                rcases Int.lt_or_le 0 n with hn0 | hn0
                · obtain ⟨f, rfl⟩ : ∃ f', f = f' + 1 := ⟨f - 1, by omega⟩
                  obtain ⟨t, rfl⟩ : ∃ t : Nat, n = t := ⟨n.toNat, by omega⟩
                  have hc := few_fn hv1 hvs (by omega) J t hJ (by omega)
                  have hwm := waysR_bd hv1 (max J t) ((waysR vs (max J t)).getD t (0, 0)) (by
                    rw [List.getD_eq_getElem?_getD, List.getElem?_eq_getElem (by rw [waysR_len]; omega)]; exact List.getElem_mem _)
                  rw [wayAt_eq vs (Nat.le_max_right J t)] at hc hwm
                  simp only [spend] at hsp
                  rw [if_pos hn0, Int.toNat_natCast] at hsp
                  obtain ⟨kk, hkk⟩ : ∃ kk : Nat, (wayAt vs t).2 = kk := ⟨(wayAt vs t).2.toNat, by omega⟩
                  generalize wayAt vs t = w at *
                  obtain ⟨w1, w2⟩ := w
                  dsimp only at *
                  subst hkk
                  rw [Int.toNat_natCast] at hsp
                  have hkl : kk < vs.length := by omega
                  have gv : vs[kk]? = some (vs.getD kk 0) := by rw [List.getD_eq_getElem?_getD, List.getElem?_eq_getElem hkl]; rfl
                  have hvk := hvs (vs.getD kk 0) (by rw [List.getD_eq_getElem?_getD, List.getElem?_eq_getElem hkl]; exact List.getElem_mem _)
                  have g0 : (m.map iPV)[((kk : Int)).toNat]? = some (iPV (m.getD kk 0)) := by rw [Int.toNat_natCast, List.getElem?_map, List.getD_eq_getElem?_getD, List.getElem?_eq_getElem (by omega)]; rfl
                  have hmk := hmb (m.getD kk 0) (by rw [List.getD_eq_getElem?_getD, List.getElem?_eq_getElem (by omega)]; exact List.getElem_mem _)
                  have hset : (m.map iPV).set ((kk : Int)).toNat (iPV (m.getD kk 0 + 1)) = (m.set kk (m.getD kk 0 + 1)).map iPV := by rw [Int.toNat_natCast, List.map_set]
                  have hl2 : vs.length ≤ (m.map iPV).length := by rw [List.length_map]; omega
                  generalize vs.getD kk 0 = v at *
                  generalize m.getD kk 0 = y at *
                  clear hvs ham hch
                  repeat' first | with_reducible refine AW_seq ?_ | with_reducible refine AW_block ?_ | ((first | with_reducible refine AW_skip ?_ | with_reducible refine AW_exit ?_ | with_reducible refine AW_region hTt ?_ | fail); conv => whnf) | (exact absurd hb (by omega)) | ((first | ((refine ⟨_, (hc).frame (asc []) (by repeat (first | exact trivial | refine ⟨rfl, ?_⟩)) rfl (by rintro _ _ ⟨rfl, rfl⟩; rfl), ?_⟩); (rintro _ _ ⟨_, _, ⟨rfl, rfl⟩, rfl, rfl⟩)) | with_reducible refine And.intro (gd_any ⟨by omega, by omega, hl2⟩) ?_ | with_reducible refine Exists.intro _ (And.intro (gd_any g0) (And.intro (And.intro (Nat.le_of_ble_eq_true rfl) rfl) ?_)) | with_reducible refine Exists.intro _ (And.intro g0 (And.intro (Nat.le_of_ble_eq_true rfl) ?_)) | with_reducible refine Exists.intro _ (And.intro (gd_any (And.intro (by omega) (map_some gv))) ?_) | fail); conv => whnf) | (refine AW_cond rfl (fun hb => ?_) (fun hb => ?_) <;> first | (replace hb := of_decide_eq_true hb; try simp only [List.length_map] at hb) | (replace hb := of_decide_eq_false hb; try simp only [List.length_map] at hb)) | ((first | refine ⟨_, wrap_of (by first | omega | (simp only [List.length_map]; omega)), ?_⟩ | refine andA ?_ | fail); conv => whnf) | fail
                  refine ⟨((f, (t : Int) - v), (m.set kk (y + 1), max J t)), ⟨⟨by dsimp only; omega, by dsimp only; omega, by dsimp only; omega⟩, by dsimp only; rw [List.length_set]; exact hml, by dsimp only; omega, hsp, fun x hx => ?_⟩, Nat.lt_succ_self f, impA⟩
                  dsimp only at hx ⊢
                  rcases List.mem_or_eq_of_mem_set hx with h | h
                  · have := hmb x h; omega
                  · omega
                · have hm : coinsOf vs am[i] = m := by
                    rw [← hsp]
                    cases f with
                    | zero => rfl
                    | succ f => simp only [spend]; rw [if_neg (by omega)]
                  rw [hm] at hch
                  have hle : vs.length ≤ (m.map iPV).length := by rw [List.length_map]; omega
                  have hfz : AV.x (.d (intsPV m)) = .x (.d (.s 1 ((m.map iPV).take vs.length))) := by
                    rw [List.take_of_length_le (by rw [List.length_map]; omega)]; rfl
                  clear hvs ham hmb hsp
                  repeat' first | ((refine AW_imp (Imp.freeze 62 (fr' := [(11, .x (.d (intsPV m))), (56, iv .i64 i), (55, iv .i64 am.length), (54, sl am), (4, .x (.o 900 i i)), (2, .x (.b 2 0)), (7, .x (.b 7 0)), (8, .x (.b 8 0))]) (σ' := (900, .chain 23 1 i X) :: sgC (intsPV vs) (waysR vs J)) rfl ⟨⟨_, rfl, .inr ⟨_, rfl, hle, hfz⟩⟩, ⟨_, rfl, .inl rfl⟩, ⟨_, rfl, .inl rfl⟩, ⟨_, rfl, .inl rfl⟩, ⟨_, rfl, .inl rfl⟩, ⟨_, rfl, .inl rfl⟩, ⟨_, rfl, .inl rfl⟩, ⟨_, rfl, .inl rfl⟩, trivial⟩ ⟨rfl, rfl, rfl, rfl, rfl, trivial⟩ rfl rfl) (AW_region (id := 28) hTt ?_)); conv => whnf) | with_reducible refine AW_seq ?_ | with_reducible refine AW_block ?_ | ((first | with_reducible refine AW_skip ?_ | with_reducible refine AW_exit ?_ | with_reducible refine AW_region hTt ?_ | fail); conv => whnf) | (exact absurd hb (by omega)) | ((refine And.intro (by rw [htl]; refine ⟨?_, ?_, ?_⟩ <;> simp [chunk, maxLen] <;> omega) ?_); conv => whnf) | (refine AW_cond rfl (fun hb => ?_) (fun hb => ?_) <;> first | (replace hb := of_decide_eq_true hb; try simp only [List.length_map] at hb) | (replace hb := of_decide_eq_false hb; try simp only [List.length_map] at hb)) | ((first | refine ⟨_, wrap_of (by first | omega | (simp only [List.length_map]; omega)), ?_⟩ | refine andA ?_ | fail); conv => whnf) | fail
                  rw [← hX] at hch
                  refine ⟨(i + 1, J), ⟨hil, hJ⟩, by show am.length - (i + 1) < am.length - i; omega, ?_⟩
                  dsimp only
                  rw [← hch, hX]
                  exact impA
              · obtain rfl : i = am.length := by omega
                repeat' first | with_reducible refine AW_seq ?_ | with_reducible refine AW_block ?_ | ((first | with_reducible refine AW_skip ?_ | with_reducible refine AW_exit ?_ | with_reducible refine AW_ret ?_ | with_reducible refine AW_region hTt ?_ | fail); conv => whnf) | (exact absurd hb (by omega)) | (refine AW_cond rfl (fun hb => ?_) (fun hb => ?_) <;> first | (replace hb := of_decide_eq_true hb; try simp only [List.length_map] at hb) | (replace hb := of_decide_eq_false hb; try simp only [List.length_map] at hb)) | fail
                exact ⟨_, outO2 rfl rfl rfl (by rw [htl]; exact Nat.le_refl _), leS (by rw [List.take_of_length_le (by rw [htl]; exact Nat.le_refl _), List.take_length, List.map_map]; rfl)⟩
end Go.Proofs.YtnpleednkmhhhaaDoor
namespace Go.Proofs.YtnpleednkmhhhaaDoor
open Go Go.QL
set_option maxHeartbeats 3200000
attribute [local irreducible] ACall FnC YC
abbrev sys0 : SysT := ⟨[[2, 1], [1, -1]], [5, 2]⟩
theorem v_solve : solveP sys0 = ([(7, 3), (1, 3)], 0) := by decide +kernel
theorem gauss0 : ∃ m, gaussR 2 2 0 1 (mPart sys0 2) = some m ∧ m 0 4 = -7 ∧ m 0 0 = -3 ∧ m 1 4 = -1 ∧ m 1 1 = -3 := ⟨_, rfl, rfl, rfl, rfl, rfl⟩
theorem ok0 : solveOK sys0 := by
  intro m hm r hr
  obtain ⟨m', h, h1, h2, h3, h4⟩ := gauss0
  have : m = m' := by
    have := hm.symm.trans h
    injection this
  subst this
  have hr : r < 2 := hr
  have hr : r = 0 ∨ r = 1 := by omega
  rcases hr with rfl | rfl
  · rw [h1, h2]; unfold lim; omega
  · rw [h3, h4]; unfold lim; omega
theorem v_roots : rootsP [-2, 0, 1] 0 2 3 = ([(11, 12, 8)], 0) := by decide +kernel
theorem v_strips : stripsP [-2, 0, 1] 0 3 3 = ((7, 2), (1, 2), 0) := by decide +kernel
theorem v_diffs : diffsP [0, 1, 4, 9, 17, 25, 36] 3 = ([0, 1, -3, 3], 0) := by decide +kernel
theorem v_find : findP [0, 1, 4, 9, 17, 25, 36] 2 = (4, 16, 0) := by decide +kernel
theorem v_wages : wagesP ⟨2400, 500, 500, 250, 50⟩ [⟨2700, 120⟩] = ([⟨5700, 1300, 50, 4350⟩], 0) := by decide +kernel
theorem v_coins : coinsP [1, 6, 10] [12] = ([[0, 2, 0]], 0) := by decide +kernel
theorem v_none : coinsP [] [] = ([], 3) := by decide +kernel
theorem awake_with (hP : FnC Tryd.prog 17 [r2AV (7, 3), iv .i64 3] (.t [sv ⟨#[50, 46, 51, 51, 51]⟩, iv .i64 0])) : FnC Tryd.prog 16 [] (bv true) := by
  have s1 := solve_fn sys0 ok0
  have s2 := roots_fn [-2, 0, 1] 0 2 3
  have s3 := strips_fn [-2, 0, 1] 0 3 3
  have s4 := diffs_fn [0, 1, 4, 9, 17, 25, 36] 3
  have s5 := find_fn [0, 1, 4, 9, 17, 25, 36] 2
  have s6 := wages_fn ⟨2400, 500, 500, 250, 50⟩ [⟨2700, 120⟩]
  have s7 := coins_fn [1, 6, 10] [12]
  have s8 := coins_fn [] []
  rw [v_solve] at s1; rw [v_roots] at s2; rw [v_strips] at s3; rw [v_diffs] at s4; rw [v_find] at s5; rw [v_wages] at s6; rw [v_coins] at s7; rw [v_none] at s8
  have e1 := ratios_fn [(7, 3), (1, 3)] [(7, 3), (1, 3)]
  have e2 := brackets_fn [(11, 12, 8)] [(11, 12, 8)]
  have e3 := ints_fn [0, 1, -3, 3] [0, 1, -3, 3]
  have e4 := pays_fn [⟨5700, 1300, 50, 4350⟩] [⟨5700, 1300, 50, 4350⟩]
  have e5 := ints_fn [0, 2, 0] [0, 2, 0]
  rw [decide_eq_true rfl] at e1 e2 e3 e4 e5
  refine FnC_of_AW hTt Tryd.func16 rfl (by kernel_rfl) (res := [.tmp 0]) rfl Tryd.ntmps16 (by simp) fun w0 K0 => ?_
  dsimp only [entry]
  repeat' first | with_reducible refine AW_seq ?_ | ((first | with_reducible refine AW_ret ?_ | with_reducible refine AW_region hTt ?_ | ((refine ⟨_, (system_fn).call rfl rfl, ?_⟩); (rintro _ _ ⟨rfl, rfl⟩)) | ((refine ⟨_, (s1).call rfl rfl, ?_⟩); (rintro _ _ ⟨rfl, rfl⟩)) | ((refine ⟨_, (hP).call rfl rfl, ?_⟩); (rintro _ _ ⟨rfl, rfl⟩)) | ((refine ⟨_, (s2).call rfl rfl, ?_⟩); (rintro _ _ ⟨rfl, rfl⟩)) | ((refine ⟨_, (s3).call rfl rfl, ?_⟩); (rintro _ _ ⟨rfl, rfl⟩)) | ((refine ⟨_, (table_fn).call rfl rfl, ?_⟩); (rintro _ _ ⟨rfl, rfl⟩)) | ((refine ⟨_, (s4).call rfl rfl, ?_⟩); (rintro _ _ ⟨rfl, rfl⟩)) | ((refine ⟨_, (s5).call rfl rfl, ?_⟩); (rintro _ _ ⟨rfl, rfl⟩)) | ((refine ⟨_, (rule_fn).call rfl rfl, ?_⟩); (rintro _ _ ⟨rfl, rfl⟩)) | ((refine ⟨_, (s6).call rfl rfl, ?_⟩); (rintro _ _ ⟨rfl, rfl⟩)) | ((refine ⟨_, (s7).call rfl rfl, ?_⟩); (rintro _ _ ⟨rfl, rfl⟩)) | ((refine ⟨_, ((s8).leA (by repeat' (first | exact trivial | exact LeAV1.refl _ | exact LeAV1.nil _ | refine And.intro ?_ ?_))).call rfl rfl, ?_⟩); (rintro _ _ ⟨rfl, rfl⟩)) | refine ⟨_, gd_any ⟨by decide, rfl⟩, ?_⟩ | refine ⟨_, fun _ => (e1).call rfl rfl, ?_⟩ | refine ⟨_, fun _ => (e2).call rfl rfl, ?_⟩ | refine ⟨_, fun _ => (e3).call rfl rfl, ?_⟩ | refine ⟨_, fun _ => (e4).call rfl rfl, ?_⟩ | refine ⟨_, fun _ => (e5).call rfl rfl, ?_⟩ | refine andA ?_ | fail); conv => whnf) | fail
  first
    | kernel_rfl
    | (trace "no1"; exact congrArg (fun b => some (bv b)) (by decide +kernel))
    | (trace "no2"; trace_state; rfl)
end Go.Proofs.YtnpleednkmhhhaaDoor
namespace Go.Proofs.YtnpleednkmhhhaaDoor
open Go Go.QL
set_option maxHeartbeats 3200000
attribute [local irreducible] ACall FnC YC
def printP (x : R2) (places : Int) : List UInt8 × Int :=
  if outL (-1000000000000) 1000000000000 [x.1] = true ∨ outL 1 1000000000000 [x.2] = true ∨ outL 0 6 [places] = true then ([], 7) else (printB x places.toNat, 0)
theorem print_fn (x : R2) (places : Int) : FnC Tryd.prog 17 [r2AV x, iv .i64 places] (.t [sv ⟨(printP x places).1.toArray⟩, iv .i64 (printP x places).2]) := by
  have o1 := out_fn (-1000000000000) 1000000000000 [x.1]
  have o2 := out_fn 1 1000000000000 [x.2]
  have o3 := out_fn 0 6 [places]
  unfold printP
  by_cases h : outL (-1000000000000) 1000000000000 [x.1] = true ∨ outL 1 1000000000000 [x.2] = true ∨ outL 0 6 [places] = true
  · rw [if_pos h]
    generalize outL (-1000000000000) 1000000000000 [x.1] = b1 at *
    generalize outL 1 1000000000000 [x.2] = b2 at *
    generalize outL 0 6 [places] = b3 at *
    have h : b1 = true ∨ b1 = false ∧ b2 = true ∨ b1 = false ∧ b2 = false ∧ b3 = true := by
      cases b1 <;> cases b2 <;> simp_all
    rcases h with rfl | ⟨rfl, rfl⟩ | ⟨rfl, rfl, rfl⟩
    all_goals
      refine FnC_of_AW hTt Tryd.func17 rfl (by kernel_rfl) (res := [.tmp 4, .tmp 5]) rfl Tryd.ntmps17 (by simp) fun w0 K0 => ?_
      dsimp only [entry]
      repeat' first | with_reducible refine AW_seq ?_ | ((first | with_reducible refine AW_ret ?_ | with_reducible refine AW_region hTt ?_ | ((refine ⟨_, (o1).call rfl rfl, ?_⟩); (rintro _ _ ⟨rfl, rfl⟩)) | refine ⟨_, fun _ => (o2).call rfl rfl, ?_⟩ | refine ⟨_, fun _ => (o3).call rfl rfl, ?_⟩ | fail); conv => whnf) | (refine AW_cond rfl (fun _ => ?_) (fun hb => absurd (show true = false from hb) (by decide))) | ((refine andA ?_); conv => whnf) | fail
      rfl
  · rw [if_neg h]
    have h1 : outL (-1000000000000) 1000000000000 [x.1] = false := by simpa using fun e => h (.inl e)
    have h2 : outL 1 1000000000000 [x.2] = false := by simpa using fun e => h (.inr (.inl e))
    have h3 : outL 0 6 [places] = false := by simpa using fun e => h (.inr (.inr e))
    have g1 := outL_false.1 h1 _ (List.mem_singleton.2 rfl)
    have g2 := outL_false.1 h2 _ (List.mem_singleton.2 rfl)
    have g3 := outL_false.1 h3 _ (List.mem_singleton.2 rfl)
    have := print_go x places.toNat g1 g2 (by omega)
    rw [show ((places.toNat : Nat) : Int) = places by omega] at this
    exact this
theorem v_print : printP (7, 3) 3 = ([50, 46, 51, 51, 51], 0) := by decide +kernel
theorem awake_fn : FnC Tryd.prog 16 [] (bv true) := by
  have h := print_fn (7, 3) 3
  rw [v_print] at h
  exact awake_with h
end Go.Proofs.YtnpleednkmhhhaaDoor
namespace Go.Proofs.YtnpleednkmhhhaaDoor
open Go Go.QL
def a3AV (a b c : Int) : AV := .a [.d (.v (.int .i64 a)), .d (.v (.int .i64 b)), .d (.v (.int .i64 c))]
def a2AV (k : IntKind) (a b : Int) : AV := .a [.d (.v (.int k a)), .d (.v (.int k b))]
def tillAV (vs am : List Int) : AV := .a [.d (intsPV vs), .d (intsPV am)]
def i8sAV (l : List Int) : AV := .x (.d (.s 1 (l.map fun n => [.v (.int .i8 n)])))
def u8sAV (l : List Int) : AV := .x (.d (.s 1 (l.map fun n => [.v (.int .u8 n)])))
def entryAV (a b c d : Int) : AV := .a [.d (.v (.int .u8 a)), .d (.v (.int .u8 b)), .d (.v (.int .u8 c)), .d (.v (.int .i32 d))]
def ruleI (r : RuleT) : Prop := i64 r.normal ∧ i64 r.extra ∧ i64 r.free ∧ i64 r.tax ∧ i64 r.stamp
def entryI (a b c d : Int) : Prop := (0 ≤ a ∧ a < 256) ∧ (0 ≤ b ∧ b < 256) ∧ (0 ≤ c ∧ c < 256) ∧ -2147483648 ≤ d ∧ d < 2147483648
end Go.Proofs.YtnpleednkmhhhaaDoor
