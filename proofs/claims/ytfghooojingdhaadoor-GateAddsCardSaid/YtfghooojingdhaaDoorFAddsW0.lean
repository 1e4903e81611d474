/- What the functions that this law reaches return: part 0. No condition. -/
import Derived.Test.YtfghooojingdhaaDoorB05
set_option linter.all false
namespace Go.Proofs.YtfghooojingdhaaDoor
open Go Go.QL
def bytesAV (l : List Int) : AV := .x (.d (.s 1 (l.map fun n => [.v (.int .u8 n)])))
end Go.Proofs.YtfghooojingdhaaDoor
namespace Go.Proofs.YtfghooojingdhaaDoor
open Go Go.QL
set_option maxHeartbeats 3200000
attribute [local irreducible] ACall FnC YC
def addI (a b : Int) (i : Nat) : List Int := (List.range i).map fun (j : Nat) => a / 2 ^ j % 2 + 2 * (b / 2 ^ j % 2)
def addO (a b : Int) (i : Nat) : List Int := (List.range i).map fun (j : Nat) => (a + b) / 2 ^ j % 2
theorem addI_len (a b : Int) (i : Nat) : (addI a b i).length = i := by simp [addI]
theorem addO_len (a b : Int) (i : Nat) : (addO a b i).length = i := by simp [addO]
theorem addI_succ (a b : Int) (i : Nat) : addI a b (i + 1) = addI a b i ++ [a / 2 ^ i % 2 + 2 * (b / 2 ^ i % 2)] := by simp [addI, List.range_succ]
theorem addO_succ (a b : Int) (i : Nat) : addO a b (i + 1) = addO a b i ++ [(a + b) / 2 ^ i % 2] := by simp [addO, List.range_succ]
theorem addI_get (a b : Int) {i m : Nat} (h : i < m) : (addI a b m).getD i 0 = a / 2 ^ i % 2 + 2 * (b / 2 ^ i % 2) := by
  simp [addI, List.getD_eq_getElem?_getD, h]
theorem add_beat {c x y : Int} (hc : c = 0 ∨ c = 1) (hx : x = 0 ∨ x = 1) (hy : y = 0 ∨ y = 1) : beatR adder fine c (x + 2 * y) = ((x + y + c) / 2, (x + y + c) % 2) := by
  rcases hc with rfl | rfl <;> rcases hx with rfl | rfl <;> rcases hy with rfl | rfl <;> kernel_rfl
theorem half (a : Int) (u : Nat) : a / 2 ^ (u + 1) = a / 2 ^ u / 2 := by
  rw [Int.pow_succ, Int.ediv_ediv_of_nonneg (Int.le_of_lt (Int.pow_pos (by decide)))]
theorem add_state (a b : Int) (m : Nat) : ∀ u, u ≤ m → stR adder fine (addI a b m) u = (a + b) / 2 ^ u - a / 2 ^ u - b / 2 ^ u ∧
    ((a + b) / 2 ^ u - a / 2 ^ u - b / 2 ^ u = 0 ∨ (a + b) / 2 ^ u - a / 2 ^ u - b / 2 ^ u = 1)
  | 0, _ => by simp [stR]; omega
  | u + 1, h => by
    obtain ⟨h1, h2⟩ := add_state a b m u (by omega)
    have hb := add_beat (c := (a + b) / 2 ^ u - a / 2 ^ u - b / 2 ^ u) (x := a / 2 ^ u % 2) (y := b / 2 ^ u % 2) h2 (by omega) (by omega)
    have hs : stR adder fine (addI a b m) (u + 1) = (a / 2 ^ u % 2 + b / 2 ^ u % 2 + ((a + b) / 2 ^ u - a / 2 ^ u - b / 2 ^ u)) / 2 := by
      simp only [stR]
      rw [h1, addI_get a b (by omega), hb]
    rw [hs, half, half, half]
    constructor <;> omega
theorem add_outs (a b : Int) (m : Nat) : outsR adder fine (addI a b m) m = addO a b m := by
  unfold outsR addO
  apply List.map_congr_left
  intro u hu
  have hu := List.mem_range.1 hu
  obtain ⟨h1, h2⟩ := add_state a b m u (by omega)
  rw [h1, addI_get a b hu, add_beat h2 (by omega) (by omega)]
  dsimp only
  omega
theorem firstOut_ok (last : Int) : ∀ (l : List Int) (k : Nat), (∀ i (h : i < l.length), inB l[i] 0 last = true) → firstOut last l k = none
  | [], _, _ => rfl
  | x :: r, k, h => by
    have h0 : inB x 0 last = true := h 0 (by simp)
    have ih := firstOut_ok last r (k + 1) fun i hi => h (i + 1) (by simpa using hi)
    simp only [firstOut, h0]
    exact ih
theorem insErr_zero {n : NetT} {xs : List Int} (hl : xs.length ≤ 32) (h : InsOK n xs) : insErr n xs = 0 := by
  unfold insErr
  rw [if_neg (by omega)]
  unfold firstBad
  rw [firstOut_ok _ _ _ fun i hi => inB_iff.2 (h i hi)]
  rfl
theorem add_run (a b : Int) (m : Nat) (hm : m ≤ 32) : runR adder (addI a b m) = (addO a b m, 0) := by
  have hi : insErr adder (addI a b m) = 0 := by
    refine insErr_zero (by rw [addI_len]; omega) fun i h => ?_
    rw [addI_len] at h
    have e : (addI a b m)[i]'(by rw [addI_len]; exact h) = a / 2 ^ i % 2 + 2 * (b / 2 ^ i % 2) := by
      rw [← addI_get a b h, getDI]
    rw [e]
    have : topIn adder = 3 := by kernel_rfl
    omega
  unfold runR
  rw [if_pos ex_chk, if_pos hi, addI_len, add_outs]
end Go.Proofs.YtfghooojingdhaaDoor
namespace Go.Proofs.YtfghooojingdhaaDoor
open Go Go.QL
set_option maxHeartbeats 3200000
attribute [local irreducible] ACall FnC YC
theorem half_w {x : Int} (h0 : 0 ≤ x) (h1 : x ≤ 9223372036854775807) (i : Nat) : IntKind.i64.wrap ((x / 2 ^ i).tdiv 2) = x / 2 ^ (i + 1) := by
  have h2 := Int.ediv_nonneg h0 (Int.le_of_lt (Int.pow_pos (n := 2) (m := i) (by decide)))
  have h3 := Int.ediv_le_self (b := 2 ^ i) h0
  rw [Int.tdiv_eq_ediv_of_nonneg h2, half]
  exact wrap_of ⟨by omega, by omega⟩
theorem gadds_fn (a b k : Int) (ha : 0 ≤ a ∧ a < 4294967296) (hc : 0 ≤ b ∧ b < 4294967296) (hk : 0 ≤ k ∧ k < 256) : FnC Tryd.prog 5 [iv .u32 a, iv .u32 b, iv .u8 k] (bv true) := by
  obtain ⟨m, hm⟩ : ∃ m : Nat, k % 33 = m := ⟨(k % 33).toNat, by omega⟩
  have hm32 : m ≤ 32 := by omega
  have hmod : k.tmod 33 = m := by rw [Int.tmod_eq_emod_of_nonneg (by omega)]; exact hm
  have hrun := prun_fn adder ex_i64 (addI a b m)
  rw [add_run a b m hm32] at hrun
  have hii := ints_fn (addO a b m) (addO a b m)
  rw [show sameInts (addO a b m) (addO a b m) = true from decide_eq_true rfl] at hii
  refine FnC_of_AW hTt Tryd.func5 rfl (by kernel_rfl) (res := [.tmp 6]) rfl Tryd.ntmps5 (by simp) fun w0 K0 => ?_
  dsimp only [entry]
  repeat' first | with_reducible refine AW_seq ?_ | with_reducible refine AW_block ?_ | with_reducible refine AW_scope ?_ | ((first | with_reducible refine AW_skip ?_ | with_reducible refine AW_label ?_ | with_reducible refine AW_exit ?_ | with_reducible refine AW_ret ?_ | with_reducible refine AW_region hTt ?_ | refine ⟨_, hmod, ?_⟩ | fail); conv => whnf) | (refine AW_cond rfl (fun _ => ?_) (fun hb => absurd hb (by decide))) | (refine AW_cond rfl (fun hb => absurd hb (by decide)) (fun _ => ?_)) | (refine AW_cond rfl (fun hb => ?_) (fun hb => ?_) <;> first | (replace hb := of_decide_eq_true hb; try simp only [List.length_map] at hb) | (replace hb := of_decide_eq_false hb; try simp only [List.length_map] at hb) | (simp only [List.length_map, bne_iff_ne, ne_eq, beq_iff_eq, bne_eq_false_iff_eq, beq_eq_false_iff_ne, decide_eq_true_eq, decide_eq_false_iff_not, Bool.not_eq_true', Bool.not_eq_false', Int.natCast_inj] at hb) | skip) | ((first | refine ⟨_, wrap_of (by first | omega | (simp only [List.length_map]; omega)), ?_⟩ | refine ⟨IntKind.wrap _ _, rfl, ?_⟩ | fail); conv => whnf) | ((refine And.intro (by first | exact trivial | rfl | exact gd_self | exact gd_any (by omega) | exact fun h => h | decide | (constructor <;> simp [chunk, maxLen]; done) | (intro h; simpa using h)) ?_); conv => whnf) | ((first | with_reducible refine Exists.intro _ (And.intro (gd_any (And.intro (by omega) (map_get (by omega)))) ?_) | with_reducible refine And.intro (gd_any (And.intro (by omega) (And.intro (by first | omega | (simp only [List.length_map]; omega)) (by first | omega | (simp only [List.length_map]; omega) | (simp only [List.length_set, List.length_map]; omega))))) ?_ | with_reducible refine Exists.intro _ (And.intro (gd_any (map_get' (by omega) (by omega))) (And.intro (And.intro (Nat.le_of_ble_eq_true rfl) rfl) ?_)) | with_reducible refine Exists.intro _ (And.intro (gd_any (And.intro (by omega) (map_get' (by omega) (by omega)))) ?_) | with_reducible refine And.intro (And.intro (by omega) (And.intro (by first | omega | (simp only [List.length_map]; omega)) (by first | omega | (simp only [List.length_map, List.length_set]; omega)))) ?_ | with_reducible refine Exists.intro _ (And.intro (map_get' (by omega) (by omega)) (And.intro (Nat.le_of_ble_eq_true rfl) ?_)) | fail); conv => whnf) | ((refine And.intro (by refine ⟨?_, ?_, ?_⟩ <;> simp [chunk, maxLen] <;> omega) ?_); conv => whnf) | (refine fun hln => ?_; (try rw [List.length_map] at hln); unfold maxLen at hln; conv => whnf) | fail
  refine AW_imp (Imp.nil 8 3 1 (fr' := [(13, iv .i64 0), (7, iv .i64 m), (8, .x (.o 8 0 0)), (9, .x (.d (.v (.slice none 0 0)))), (10, iv .i64 a), (11, iv .i64 b), (12, iv .i64 (a + b))]) (σ' := []) rfl ?_ trivial rfl rfl) ?_
  · exact ⟨⟨_, rfl, .inl rfl⟩, ⟨_, rfl, .inl rfl⟩, ⟨_, rfl, .inr ⟨rfl, rfl⟩⟩, ⟨_, rfl, .inl rfl⟩, ⟨_, rfl, .inl rfl⟩, ⟨_, rfl, .inl rfl⟩, ⟨_, rfl, .inl rfl⟩, trivial⟩
  refine AW_imp (Imp.nil 9 3 1 (fr' := [(13, iv .i64 0), (7, iv .i64 m), (8, .x (.o 8 0 0)), (9, .x (.o 9 0 0)), (10, iv .i64 a), (11, iv .i64 b), (12, iv .i64 (a + b))]) (σ' := [(8, .chain 3 1 0 [])]) rfl ?_ ⟨⟨_, rfl, .inl rfl⟩, trivial⟩ rfl rfl) ?_
  · exact ⟨⟨_, rfl, .inl rfl⟩, ⟨_, rfl, .inl rfl⟩, ⟨_, rfl, .inl rfl⟩, ⟨_, rfl, .inr ⟨rfl, rfl⟩⟩, ⟨_, rfl, .inl rfl⟩, ⟨_, rfl, .inl rfl⟩, ⟨_, rfl, .inl rfl⟩, trivial⟩
  refine AW_loop (fun i : Nat => [(13, iv .i64 i), (7, iv .i64 m), (8, .x (.o 8 i i)), (9, .x (.o 9 i i)), (10, iv .i64 (a / 2 ^ i)), (11, iv .i64 (b / 2 ^ i)), (12, iv .i64 ((a + b) / 2 ^ i))])
    (fun i => [(9, .chain 3 1 i ((addO a b i).map iPV)), (8, .chain 3 1 i ((addI a b i).map iPV))]) (fun i => i ≤ m) (fun i => m - i) 0 (Nat.zero_le _) (Imp.forget (by repeat' (first | exact trivial | refine And.intro ?_ ?_ | exact ivE (by simp) | rfl | exact ivE (by first | omega | (simp only [List.length_map, List.length_append, List.length_singleton] <;> omega)) | exact oE (by first | omega | (simp only [List.length_map, List.length_append, List.length_singleton] <;> omega)))) (by repeat' (first | exact trivial | refine And.intro ?_ ?_ | exact ivE (by simp) | rfl | exact ivE (by first | omega | (simp only [List.length_map, List.length_append, List.length_singleton] <;> omega)) | exact oE (by first | omega | (simp only [List.length_map, List.length_append, List.length_singleton] <;> omega)))) (by kernel_rfl) (by kernel_rfl) (by kernel_rfl)) ?_
  intro i hi
  have h0 := bit2 (x := a) ha.1 i
  have h1 := bit2 (x := b) hc.1 i
  have h2 := bit2 (x := a + b) (by omega) i
  rcases Nat.lt_or_ge i m with hil | hil
  · have l1 := addI_len a b i
    have l2 := addO_len a b i
    have q1 := half_w (x := a) ha.1 (by omega) i
    have q2 := half_w (x := b) hc.1 (by omega) i
    have q3 := half_w (x := a + b) (by omega) (by omega) i
    have e1 : ((addI a b i).map iPV).take i ++ [[PV.v (.int .i64 (a / 2 ^ i % 2 + 2 * (b / 2 ^ i % 2)))]] = (addI a b (i + 1)).map iPV := by
      rw [addI_succ, List.map_append, List.take_of_length_le (by simp [l1])]; rfl
    have e2 : ((addO a b i).map iPV).take i ++ [[PV.v (.int .i64 ((a + b) / 2 ^ i % 2))]] = (addO a b (i + 1)).map iPV := by
      rw [addO_succ, List.map_append, List.take_of_length_le (by simp [l2])]; rfl
    clear hrun hii
    repeat' first | with_reducible refine AW_seq ?_ | with_reducible refine AW_block ?_ | with_reducible refine AW_scope ?_ | ((first | with_reducible refine AW_skip ?_ | with_reducible refine AW_label ?_ | with_reducible refine AW_exit ?_ | with_reducible refine AW_ret ?_ | with_reducible refine AW_region hTt ?_ | fail); conv => whnf) | (exact absurd hb (by omega)) | ((first | refine ⟨_, h0, ?_⟩ | refine ⟨_, h1, ?_⟩ | refine ⟨_, h2, ?_⟩ | refine ⟨_, q1, ?_⟩ | refine ⟨_, q2, ?_⟩ | refine ⟨_, q3, ?_⟩ | fail); conv => whnf) | ((refine And.intro (by refine ⟨?_, ?_, ?_⟩ <;> simp [chunk, maxLen] <;> omega) ?_); conv => whnf) | (refine AW_cond rfl (fun _ => ?_) (fun hb => absurd hb (by decide))) | (refine AW_cond rfl (fun hb => absurd hb (by decide)) (fun _ => ?_)) | (refine AW_cond rfl (fun hb => ?_) (fun hb => ?_) <;> first | (replace hb := of_decide_eq_true hb; try simp only [List.length_map] at hb) | (replace hb := of_decide_eq_false hb; try simp only [List.length_map] at hb) | (simp only [List.length_map, bne_iff_ne, ne_eq, beq_iff_eq, bne_eq_false_iff_eq, beq_eq_false_iff_ne, decide_eq_true_eq, decide_eq_false_iff_not, Bool.not_eq_true', Bool.not_eq_false', Int.natCast_inj] at hb) | skip) | ((first | refine ⟨_, wrap_of (by first | omega | (simp only [List.length_map]; omega)), ?_⟩ | refine ⟨IntKind.wrap _ _, rfl, ?_⟩ | fail); conv => whnf) | ((refine And.intro (by first | exact trivial | rfl | exact gd_self | exact gd_any (by omega) | exact fun h => h | decide | (constructor <;> simp [chunk, maxLen]; done) | (intro h; simpa using h)) ?_); conv => whnf) | ((first | with_reducible refine Exists.intro _ (And.intro (gd_any (And.intro (by omega) (map_get (by omega)))) ?_) | with_reducible refine And.intro (gd_any (And.intro (by omega) (And.intro (by first | omega | (simp only [List.length_map]; omega)) (by first | omega | (simp only [List.length_map]; omega) | (simp only [List.length_set, List.length_map]; omega))))) ?_ | with_reducible refine Exists.intro _ (And.intro (gd_any (map_get' (by omega) (by omega))) (And.intro (And.intro (Nat.le_of_ble_eq_true rfl) rfl) ?_)) | with_reducible refine Exists.intro _ (And.intro (gd_any (And.intro (by omega) (map_get' (by omega) (by omega)))) ?_) | with_reducible refine And.intro (And.intro (by omega) (And.intro (by first | omega | (simp only [List.length_map]; omega)) (by first | omega | (simp only [List.length_map, List.length_set]; omega)))) ?_ | with_reducible refine Exists.intro _ (And.intro (map_get' (by omega) (by omega)) (And.intro (Nat.le_of_ble_eq_true rfl) ?_)) | fail); conv => whnf) | ((refine And.intro (by refine ⟨?_, ?_, ?_⟩ <;> simp [chunk, maxLen] <;> omega) ?_); conv => whnf) | (refine fun hln => ?_; (try rw [List.length_map] at hln); unfold maxLen at hln; conv => whnf) | fail
    exact ⟨i + 1, hil, by omega, (Imp.forget (by repeat' (first | exact trivial | refine And.intro ?_ ?_ | exact chE e1 | exact chE e2 | rfl | exact ivE (by first | omega | (simp only [List.length_map, List.length_append, List.length_singleton] <;> omega)) | exact oE (by first | omega | (simp only [List.length_map, List.length_append, List.length_singleton] <;> omega)))) (by repeat' (first | exact trivial | refine And.intro ?_ ?_ | exact chE e1 | exact chE e2 | rfl | exact ivE (by first | omega | (simp only [List.length_map, List.length_append, List.length_singleton] <;> omega)) | exact oE (by first | omega | (simp only [List.length_map, List.length_append, List.length_singleton] <;> omega)))) (by kernel_rfl) (by kernel_rfl) (by kernel_rfl))⟩
  · have hie : i = m := by omega
    subst hie
    have f1 : PV.s 1 (((addI a b i).map iPV).take i) = intsPV (addI a b i) := by rw [List.take_of_length_le (by simp [addI_len])]; rfl
    have f2 : PV.s 1 (((addO a b i).map iPV).take i) = intsPV (addO a b i) := by rw [List.take_of_length_le (by simp [addO_len])]; rfl
    refine AW_imp (Imp.freeze 8 (fr' := [(13, iv .i64 i), (7, iv .i64 i), (8, sl (addI a b i)), (9, .x (.o 9 i i))]) (σ' := [(9, .chain 3 1 i ((addO a b i).map iPV))]) rfl ⟨⟨_, rfl, .inl rfl⟩, ⟨_, rfl, .inl rfl⟩, ⟨_, rfl, .inr ⟨i, rfl, by simp [addI_len], congrArg (fun x => AV.x (.d x)) f1.symm⟩⟩, ⟨_, rfl, .inl rfl⟩, trivial⟩ ⟨rfl, trivial⟩ rfl rfl) ?_
    refine AW_imp (Imp.freeze 9 (fr' := [(13, iv .i64 i), (7, iv .i64 i), (8, sl (addI a b i)), (9, sl (addO a b i))]) (σ' := []) rfl ⟨⟨_, rfl, .inl rfl⟩, ⟨_, rfl, .inl rfl⟩, ⟨_, rfl, .inl rfl⟩, ⟨_, rfl, .inr ⟨i, rfl, by simp [addO_len], congrArg (fun x => AV.x (.d x)) f2.symm⟩⟩, trivial⟩ trivial rfl rfl) ?_
    repeat' first | with_reducible refine AW_seq ?_ | with_reducible refine AW_block ?_ | with_reducible refine AW_scope ?_ | ((first | with_reducible refine AW_skip ?_ | with_reducible refine AW_label ?_ | with_reducible refine AW_exit ?_ | with_reducible refine AW_ret ?_ | with_reducible refine AW_region hTt ?_ | fail); conv => whnf) | (exact absurd hb (by omega)) | ((first | ((refine ⟨_, (padder_fn).call rfl rfl, ?_⟩); (rintro _ _ ⟨rfl, rfl⟩)) | refine ⟨_, fun _ => (padder_fn).call rfl rfl, ?_⟩ | refine ⟨_, fun _ _ => (padder_fn).call rfl rfl, ?_⟩ | ((refine ⟨_, (hrun).call rfl rfl, ?_⟩); (rintro _ _ ⟨rfl, rfl⟩)) | refine ⟨_, fun _ => (hrun).call rfl rfl, ?_⟩ | refine ⟨_, fun _ _ => (hrun).call rfl rfl, ?_⟩ | ((refine ⟨_, (hii).call rfl rfl, ?_⟩); (rintro _ _ ⟨rfl, rfl⟩)) | refine ⟨_, fun _ => (hii).call rfl rfl, ?_⟩ | refine ⟨_, fun _ _ => (hii).call rfl rfl, ?_⟩ | ((refine ⟨_, (awake_fn).call rfl rfl, ?_⟩); (rintro _ _ ⟨rfl, rfl⟩)) | refine ⟨_, fun _ => (awake_fn).call rfl rfl, ?_⟩ | refine ⟨_, fun _ _ => (awake_fn).call rfl rfl, ?_⟩ | fail); conv => whnf) | (refine AW_cond rfl (fun _ => ?_) (fun hb => absurd hb (by decide))) | (refine AW_cond rfl (fun hb => absurd hb (by decide)) (fun _ => ?_)) | (refine AW_cond rfl (fun hb => ?_) (fun hb => ?_) <;> first | (replace hb := of_decide_eq_true hb; try simp only [List.length_map] at hb) | (replace hb := of_decide_eq_false hb; try simp only [List.length_map] at hb) | (simp only [List.length_map, bne_iff_ne, ne_eq, beq_iff_eq, bne_eq_false_iff_eq, beq_eq_false_iff_ne, decide_eq_true_eq, decide_eq_false_iff_not, Bool.not_eq_true', Bool.not_eq_false', Int.natCast_inj] at hb) | skip) | ((first | refine ⟨_, wrap_of (by first | omega | (simp only [List.length_map]; omega)), ?_⟩ | refine ⟨IntKind.wrap _ _, rfl, ?_⟩ | fail); conv => whnf) | ((refine And.intro (by first | exact trivial | rfl | exact gd_self | exact gd_any (by omega) | exact fun h => h | decide | (constructor <;> simp [chunk, maxLen]; done) | (intro h; simpa using h)) ?_); conv => whnf) | ((first | with_reducible refine Exists.intro _ (And.intro (gd_any (And.intro (by omega) (map_get (by omega)))) ?_) | with_reducible refine And.intro (gd_any (And.intro (by omega) (And.intro (by first | omega | (simp only [List.length_map]; omega)) (by first | omega | (simp only [List.length_map]; omega) | (simp only [List.length_set, List.length_map]; omega))))) ?_ | with_reducible refine Exists.intro _ (And.intro (gd_any (map_get' (by omega) (by omega))) (And.intro (And.intro (Nat.le_of_ble_eq_true rfl) rfl) ?_)) | with_reducible refine Exists.intro _ (And.intro (gd_any (And.intro (by omega) (map_get' (by omega) (by omega)))) ?_) | with_reducible refine And.intro (And.intro (by omega) (And.intro (by first | omega | (simp only [List.length_map]; omega)) (by first | omega | (simp only [List.length_map, List.length_set]; omega)))) ?_ | with_reducible refine Exists.intro _ (And.intro (map_get' (by omega) (by omega)) (And.intro (Nat.le_of_ble_eq_true rfl) ?_)) | fail); conv => whnf) | ((refine And.intro (by refine ⟨?_, ?_, ?_⟩ <;> simp [chunk, maxLen] <;> omega) ?_); conv => whnf) | (refine fun hln => ?_; (try rw [List.length_map] at hln); unfold maxLen at hln; conv => whnf) | fail
    exact (show ∀ b, b = true → some (bv b) = some (bv true) from fun b h => by rw [h]) _ (by simp)
end Go.Proofs.YtfghooojingdhaaDoor
