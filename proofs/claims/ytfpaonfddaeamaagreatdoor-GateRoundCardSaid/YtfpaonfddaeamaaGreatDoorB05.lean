/- The logic of walks, and what the functions of the program return: part 5. No condition. -/
import Derived.Test.YtfpaonfddaeamaaGreatDoorB04
set_option linter.all false
namespace Go.Proofs.YtfpaonfddaeamaaGreatDoor
open Go Go.QL
set_option maxHeartbeats 3200000
attribute [local irreducible] ACall FnC YC
def bitR (R : List (List Bool)) (i k : Nat) : Bool := (R.getD i []).getD k false
def hasR (R : List (List Bool)) (l : List Int) (k : Nat) : Bool := l.any fun i => bitR R i.toNat k
def firstB (p : Int → Bool) : List Int → Nat → Option Nat
  | [], _ => none
  | x :: r, j => if p x = true then some j else firstB p r (j + 1)
def idxB (p : Int → Bool) (l : List Int) : Int := match firstB p l 0 with
  | some j => j
  | none => -1
theorem firstB_cons (p : Int → Bool) (x : Int) (r : List Int) (j : Nat) : firstB p (x :: r) j = if p x = true then some j else firstB p r (j + 1) := rfl
theorem firstB_any (p : Int → Bool) : ∀ (l : List Int) (j : Nat), (firstB p l j).isSome = l.any p
  | [], _ => rfl
  | x :: r, j => by
    simp only [firstB, List.any_cons]
    by_cases h : p x = true
    · simp [h]
    · simp only [h, Bool.false_or]
      exact firstB_any p r (j + 1)
theorem idxB_any (p : Int → Bool) (l : List Int) : decide (0 ≤ idxB p l) = l.any p := by
  rw [← firstB_any p l 0]
  unfold idxB
  cases firstB p l 0 with
  | none => rfl
  | some j => simp
def rowsB (R : List (List Bool)) : PV := .s 1 (R.map fun r => [boolsPV r])
def Wide (R : List (List Bool)) (m : Nat) : Prop := ∀ r ∈ R, r.length = m
theorem has11_fn {R : List (List Bool)} {m : Nat} (hw : Wide R m) {k : Nat} (hk : k < m) (i : Int) (hi : 0 ≤ i ∧ i < R.length) :
    ACall Tryz.prog 77 [iv .i64 i, .x (.b 940 0), .x (.b 4 0)] [(4, .box [.d (.v (.int .i64 k))]), (940, .box [.d (rowsB R)])]
      (fun r σ' => r = bv (bitR R i.toNat k) ∧ σ' = [(4, .box [.d (.v (.int .i64 k))]), (940, .box [.d (rowsB R)])]) := by
  obtain ⟨row, hr⟩ : ∃ row, R[i.toNat]? = some row := ⟨_, List.getElem?_eq_getElem (by omega)⟩
  have hrl := hw row (List.mem_of_getElem? hr)
  obtain ⟨b, hb⟩ : ∃ b, row[k]? = some b := ⟨_, List.getElem?_eq_getElem (by omega)⟩
  have hr' : (R.map fun r => [boolsPV r])[i.toNat]? = some [boolsPV row] := by rw [List.getElem?_map, hr]; rfl
  have hb' : (row.map bPV)[((k : Int)).toNat]? = some [.v (.bool b)] := by rw [Int.toNat_natCast, List.getElem?_map, hb]; rfl
  have e : bitR R i.toNat k = b := by
    unfold bitR
    rw [List.getD_eq_getElem?_getD (l := R), hr, Option.getD_some, List.getD_eq_getElem?_getD, hb]; rfl
  rw [e]
  refine ACall_of_AWD hTt Tryz.func77 rfl (by kernel_rfl) (res := [.tmp 4]) rfl Tryz.ntmps77 (by simp) fun w0 K0 B => ?_
  dsimp only [entry]
  repeat' first | with_reducible refine AW_seq ?_ | ((first | with_reducible refine AW_ret ?_ | with_reducible refine AW_region hTt ?_ | refine AW_draw hTt hMix (id := 1) 5 false [0, 0, 3, 7, 0, 31, 63, 127] (by kernel_rfl) rfl rfl (by kernel_rfl) ?_ | refine ⟨_, gd_none ⟨hi.1, hr'⟩, ?_⟩ | refine ⟨_, gd_none ⟨by omega, hb'⟩, ?_⟩ | refine andA ?_ | fail); conv => whnf) | fail
  exact ⟨_, [(4, .box [.d (.v (.int .i64 k))]), (940, .box [.d (rowsB R)])], ⟨rfl, rfl, trivial⟩, rfl, rfl, rfl, rfl⟩
theorem idxh_fn {R : List (List Bool)} {m : Nat} (hw : Wide R m) {k : Nat} (hk : k < m) (l : List Int) (hl : ∀ i ∈ l, 0 ≤ i ∧ i < R.length) :
    ACall Tryz.prog 35 [sl l, .x (.f (.func 77) [] [.b 940 0, .b 4 0])] [(4, .box [.d (.v (.int .i64 k))]), (940, .box [.d (rowsB R)])]
      (fun r σ' => r = iv .i64 (idxB (fun i => bitR R i.toNat k) l) ∧ σ' = [(4, .box [.d (.v (.int .i64 k))]), (940, .box [.d (rowsB R)])]) := by
  refine ACall_of_AWD hTt Tryz.func35 rfl (by kernel_rfl) (res := [.tmp 4]) rfl Tryz.ntmps35 (by simp) fun w0 K0 B => ?_
  dsimp only [entry]
  repeat' first | with_reducible refine AW_seq ?_ | with_reducible refine AW_block ?_ | ((with_reducible refine AW_region hTt ?_); conv => whnf) | (refine fun hln => ?_; (try rw [List.length_map] at hln); unfold maxLen at hln; conv => whnf) | fail
  refine AW_loop (fun i : Nat => [(8, iv .i64 i), (7, iv .i64 l.length), (0, sl l), (1, .x (.f (.func 77) [] [.b 940 0, .b 4 0]))]) (fun _ => [(4, .box [.d (.v (.int .i64 k))]), (940, .box [.d (rowsB R)])])
    (fun i => i ≤ l.length ∧ firstB (fun i => bitR R i.toNat k) l 0 = firstB (fun i => bitR R i.toNat k) (l.drop i) i) (fun i => l.length - i) 0 (by simp) impA ?_
  rintro i ⟨hi, hfo⟩
  rcases Nat.lt_or_ge i l.length with hil | hil
  · obtain ⟨x, hx⟩ : ∃ x, l[i]? = some x := ⟨_, List.getElem?_eq_getElem hil⟩
    have hdr : l.drop i = x :: l.drop (i + 1) := by
      rw [List.drop_eq_getElem_cons hil]
      congr 1
      rw [List.getElem?_eq_getElem hil] at hx
      exact Option.some.inj hx
    have h11 := has11_fn hw hk x (hl x (List.mem_of_getElem? hx))
    rw [hdr, firstB_cons] at hfo
    generalize bitR R x.toNat k = b at h11 hfo
    cases b with
    | true =>
      rw [if_pos rfl] at hfo
      rw [show idxB (fun i => bitR R i.toNat k) l = i from by unfold idxB; rw [hfo]]
      repeat' first | with_reducible refine AW_seq ?_ | with_reducible refine AW_block ?_ | ((first | with_reducible refine AW_skip ?_ | with_reducible refine AW_exit ?_ | with_reducible refine AW_ret ?_ | with_reducible refine AW_region hTt ?_ | fail); conv => whnf) | (exact absurd hb (by omega)) | ((first | with_reducible refine Exists.intro _ (And.intro (gd_any (And.intro (by omega) (map_some hx))) ?_) | ((refine ⟨_, h11, ?_⟩); (rintro _ _ ⟨rfl, rfl⟩)) | fail); conv => whnf) | (refine AW_cond rfl (fun _ => ?_) (fun hb => absurd hb (by decide))) | (refine AW_cond rfl (fun hb => ?_) (fun hb => ?_) <;> first | (replace hb := of_decide_eq_true hb; try simp only [List.length_map] at hb) | (replace hb := of_decide_eq_false hb; try simp only [List.length_map] at hb)) | ((refine andA ?_); conv => whnf) | fail
      exact ⟨_, [(4, .box [.d (.v (.int .i64 k))]), (940, .box [.d (rowsB R)])], ⟨rfl, rfl, trivial⟩, rfl, rfl, rfl, rfl⟩
    | false =>
      rw [if_neg (by decide)] at hfo
      repeat' first | with_reducible refine AW_seq ?_ | with_reducible refine AW_block ?_ | ((first | with_reducible refine AW_skip ?_ | with_reducible refine AW_exit ?_ | with_reducible refine AW_ret ?_ | with_reducible refine AW_region hTt ?_ | fail); conv => whnf) | (exact absurd hb (by omega)) | ((first | with_reducible refine Exists.intro _ (And.intro (gd_any (And.intro (by omega) (map_some hx))) ?_) | ((refine ⟨_, h11, ?_⟩); (rintro _ _ ⟨rfl, rfl⟩)) | fail); conv => whnf) | (refine AW_cond rfl (fun hb => absurd hb (by decide)) (fun _ => ?_)) | (refine AW_cond rfl (fun hb => ?_) (fun hb => ?_) <;> first | (replace hb := of_decide_eq_true hb; try simp only [List.length_map] at hb) | (replace hb := of_decide_eq_false hb; try simp only [List.length_map] at hb)) | ((first | refine ⟨_, wrap_of (by first | omega | (simp only [List.length_map]; omega)), ?_⟩ | refine andA ?_ | fail); conv => whnf) | fail
      exact ⟨i + 1, ⟨by omega, hfo⟩, by omega, impA⟩
  · rw [show idxB (fun i => bitR R i.toNat k) l = -1 from by unfold idxB; rw [hfo, List.drop_eq_nil_of_le hil]; rfl]
    repeat' first | with_reducible refine AW_seq ?_ | with_reducible refine AW_block ?_ | ((first | with_reducible refine AW_skip ?_ | with_reducible refine AW_exit ?_ | with_reducible refine AW_ret ?_ | with_reducible refine AW_region hTt ?_ | fail); conv => whnf) | (exact absurd hb (by omega)) | (refine AW_cond rfl (fun hb => ?_) (fun hb => ?_) <;> first | (replace hb := of_decide_eq_true hb; try simp only [List.length_map] at hb) | (replace hb := of_decide_eq_false hb; try simp only [List.length_map] at hb)) | fail
    exact ⟨_, [(4, .box [.d (.v (.int .i64 k))]), (940, .box [.d (rowsB R)])], ⟨rfl, rfl, trivial⟩, rfl, rfl, rfl, rfl⟩
theorem conh_fn {R : List (List Bool)} {m : Nat} (hw : Wide R m) {k : Nat} (hk : k < m) (l : List Int) (hl : ∀ i ∈ l, 0 ≤ i ∧ i < R.length) :
    ACall Tryz.prog 67 [sl l, .x (.f (.func 77) [] [.b 940 0, .b 4 0])] [(4, .box [.d (.v (.int .i64 k))]), (940, .box [.d (rowsB R)])]
      (fun r σ' => r = bv (hasR R l k) ∧ σ' = [(4, .box [.d (.v (.int .i64 k))]), (940, .box [.d (rowsB R)])]) := by
  have h := idxh_fn hw hk l hl
  rw [show hasR R l k = decide (0 ≤ idxB (fun i => bitR R i.toNat k) l) from (idxB_any _ l).symm]
  refine ACall_of_AWD hTt Tryz.func67 rfl (by kernel_rfl) (res := [.tmp 4]) rfl Tryz.ntmps67 (by simp) fun w0 K0 B => ?_
  dsimp only [entry]
  repeat' first | with_reducible refine AW_seq ?_ | ((first | with_reducible refine AW_ret ?_ | with_reducible refine AW_region hTt ?_ | ((refine ⟨_, h, ?_⟩); (rintro _ _ ⟨rfl, rfl⟩)) | fail); conv => whnf) | fail
  exact ⟨_, [(4, .box [.d (.v (.int .i64 k))]), (940, .box [.d (rowsB R)])], ⟨rfl, rfl, trivial⟩, rfl, rfl, rfl, rfl⟩
theorem has_fn {R : List (List Bool)} {m : Nat} (hw : Wide R m) {k : Nat} (hk : k < m) (l : List Int) (hl : ∀ i ∈ l, 0 ≤ i ∧ i < R.length) :
    ACall Tryz.prog 76 [sl l, iv .i64 k, .x (.b 940 0)] [(940, .box [.d (rowsB R)])] (fun r σ' => r = bv (hasR R l k) ∧ σ' = [(940, .box [.d (rowsB R)])]) := by
  have h := conh_fn hw hk l hl
  refine ACall_of_AWD hTt Tryz.func76 rfl (by kernel_rfl) (res := [.tmp 5]) rfl Tryz.ntmps76 (by simp) fun w0 K0 B => ?_
  dsimp only [entry]
  repeat' first | with_reducible refine AW_seq ?_ | ((first | with_reducible refine AW_ret ?_ | with_reducible refine AW_region hTt ?_ | ((refine ⟨_, h, ?_⟩); (rintro _ _ ⟨rfl, rfl⟩)) | fail); conv => whnf) | fail
  exact ⟨_, [(940, .box [.d (rowsB R)])], ⟨rfl, trivial⟩, rfl, rfl, rfl, rfl⟩
def holdsR (R : List (List Bool)) (all : List Int) (m : Nat) (l : List Int) : Bool := (List.range m).all fun k => !(hasR R all k && !hasR R l k)
abbrev sgH (R : List (List Bool)) (all : List Int) : Sg := [(940, .box [.d (rowsB R)]), (941, .box [.f (.func 76) [] [.b 940 0]]), (942, .box [.d (intsPV all)])]
theorem hasH_fn {R : List (List Bool)} {m : Nat} (hw : Wide R m) {k : Nat} (hk : k < m) (all l : List Int) (hl : ∀ i ∈ l, 0 ≤ i ∧ i < R.length) :
    ACall Tryz.prog 76 [sl l, iv .i64 k, .x (.b 940 0)] (sgH R all) (fun r σ' => r = bv (hasR R l k) ∧ σ' = sgH R all) :=
  ((has_fn hw hk l hl).frame (asc []) (by repeat (first | exact trivial | refine ⟨rfl, ?_⟩)) rfl (by rintro _ _ ⟨rfl, rfl⟩; rfl)).mono (by rintro _ _ ⟨_, _, ⟨rfl, rfl⟩, rfl, rfl⟩; exact ⟨rfl, rfl⟩)
theorem holds_fn {R : List (List Bool)} {m : Nat} (hm : m ≤ 4096) (hw : Wide R m) (hR : R = [] → m = 0) (all l : List Int) (ha : ∀ i ∈ all, 0 ≤ i ∧ i < R.length) (hl : ∀ i ∈ l, 0 ≤ i ∧ i < R.length) :
    ACall Tryz.prog 80 [sl l, .x (.b 940 0), .x (.b 941 0), .x (.b 942 0)] (sgH R all) (fun r σ' => r = bv (holdsR R all m l) ∧ σ' = sgH R all) := by
  refine ACall_of_AWD hTt Tryz.func80 rfl (by kernel_rfl) (res := [.tmp 5]) rfl Tryz.ntmps80 (by simp) fun w0 K0 B => ?_
  dsimp only [entry]
  repeat' first | with_reducible refine AW_seq ?_ | with_reducible refine AW_block ?_ | ((with_reducible refine AW_region hTt ?_); conv => whnf) | fail
  refine AW_loop (fun k : Nat => [(6, iv .i64 k), (0, sl l), (1, .x (.b 940 0)), (2, .x (.b 941 0)), (3, .x (.b 942 0))]) (fun _ => sgH R all)
    (fun k => k ≤ m ∧ ((List.range k).all fun k => !(hasR R all k && !hasR R l k)) = true) (fun k => m - k) 0 ⟨Nat.zero_le _, rfl⟩ impA ?_
  rintro k ⟨hk, hs⟩
  cases hRe : R with
  | nil =>
    have hm0 : m = 0 := hR hRe
    subst hRe
    subst hm0
    have g0 : decide ((0 : Int) < ((([] : List (List Bool)).map fun r => [boolsPV r]).length : Int)) ≠ true := by simp
    have e0 : ∀ {p : Prop}, Gd (some (decide ((0 : Int) < ((([] : List (List Bool)).map fun r => [boolsPV r]).length : Int)))) p := fun {p} => gd_some (fun h => absurd h g0)
    repeat' first | with_reducible refine AW_seq ?_ | with_reducible refine AW_block ?_ | ((first | with_reducible refine AW_skip ?_ | with_reducible refine AW_exit ?_ | with_reducible refine AW_ret ?_ | with_reducible refine AW_region hTt ?_ | fail); conv => whnf) | (exfalso; simp at hb; done) | ((first | with_reducible refine Exists.intro [boolsPV []] (And.intro e0 ?_) | refine And.intro ?_ ?_; focus (first | (exact trivial) | (intro h1; exact h1) | (intro h1 h2; simp_all; done) | (intro h1 h2; exact h1)) | fail); conv => whnf) | (refine AW_cond rfl (fun hb => ?_) (fun hb => ?_) <;> first | (replace hb := of_decide_eq_true hb; try simp only [List.length_map] at hb) | (replace hb := of_decide_eq_false hb; try simp only [List.length_map] at hb) | (simp only [List.length_map, bne_iff_ne, ne_eq, beq_iff_eq, bne_eq_false_iff_eq, beq_eq_false_iff_ne, decide_eq_true_eq, decide_eq_false_iff_not, Bool.not_eq_true', Bool.not_eq_false', Int.natCast_inj] at hb)) | ((refine andA ?_); conv => whnf) | (refine fun hln => ?_; (try rw [List.length_map] at hln); unfold maxLen at hln; conv => whnf) | fail
    exact ⟨_, sgH [] all, ⟨rfl, rfl, rfl, trivial⟩, rfl, rfl, rfl, rfl⟩
  | cons r0 R' =>
    subst hRe
    have hr0 : r0.length = m := hw r0 List.mem_cons_self
    have h00 : ((r0 :: R').map fun r => [boolsPV r])[(0 : Int).toNat]? = some [boolsPV r0] := rfl
    rcases Nat.lt_or_ge k m with hkm | hkm
    · have hp := hasH_fn hw hkm all all ha
      have hq := hasH_fn hw hkm all l hl
      have hF : hasR (r0 :: R') all k = true → hasR (r0 :: R') l k = false → holdsR (r0 :: R') all m l = false := by
        intro h1 h2
        unfold holdsR
        rw [List.all_eq_false]
        exact ⟨k, List.mem_range.2 hkm, by simp [h1, h2]⟩
      have hst : ((List.range (k + 1)).all fun k => !(hasR (r0 :: R') all k && !hasR (r0 :: R') l k)) = !(hasR (r0 :: R') all k && !hasR (r0 :: R') l k) := by
        rw [List.range_succ, List.all_append, hs]; simp
      generalize hasR (r0 :: R') all k = p at hp hF hst
      generalize hasR (r0 :: R') l k = q at hq hF hst
      clear hs hw hR ha hl
      cases p with
      | false =>
        cases q with
        | false =>
          clear hF
          repeat' first | with_reducible refine AW_seq ?_ | with_reducible refine AW_block ?_ | ((first | with_reducible refine AW_skip ?_ | with_reducible refine AW_exit ?_ | with_reducible refine AW_ret ?_ | with_reducible refine AW_region hTt ?_ | fail); conv => whnf) | (exfalso; simp [hr0] at hb; omega) | ((first | with_reducible refine Exists.intro _ (And.intro (gd_any (And.intro (by omega) h00)) ?_) | refine And.intro ?_ ?_; focus (first | (exact trivial) | (intro h1; exact h1) | (intro h1 h2; simp_all; done) | (intro h1 h2; exact h1)) | ((refine ⟨_, hp, ?_⟩); (rintro _ _ ⟨rfl, rfl⟩)) | refine ⟨_, fun _ => hq, ?_⟩ | fail); conv => whnf) | (refine AW_cond rfl (fun hb => absurd hb (by decide)) (fun _ => ?_)) | (refine AW_cond rfl (fun hb => ?_) (fun hb => ?_) <;> first | (replace hb := of_decide_eq_true hb; try simp only [List.length_map] at hb) | (replace hb := of_decide_eq_false hb; try simp only [List.length_map] at hb) | (simp only [List.length_map, bne_iff_ne, ne_eq, beq_iff_eq, bne_eq_false_iff_eq, beq_eq_false_iff_ne, decide_eq_true_eq, decide_eq_false_iff_not, Bool.not_eq_true', Bool.not_eq_false', Int.natCast_inj] at hb)) | ((first | refine ⟨_, wrap_of (by first | omega | (simp only [List.length_map]; omega)), ?_⟩ | refine andA ?_ | fail); conv => whnf) | (refine fun hln => ?_; (try rw [List.length_map] at hln); unfold maxLen at hln; conv => whnf) | fail
          exact ⟨k + 1, ⟨hkm, hst⟩, by omega, impA⟩
        | true =>
          clear hF
          repeat' first | with_reducible refine AW_seq ?_ | with_reducible refine AW_block ?_ | ((first | with_reducible refine AW_skip ?_ | with_reducible refine AW_exit ?_ | with_reducible refine AW_ret ?_ | with_reducible refine AW_region hTt ?_ | fail); conv => whnf) | (exfalso; simp [hr0] at hb; omega) | ((first | with_reducible refine Exists.intro _ (And.intro (gd_any (And.intro (by omega) h00)) ?_) | refine And.intro ?_ ?_; focus (first | (exact trivial) | (intro h1; exact h1) | (intro h1 h2; simp_all; done) | (intro h1 h2; exact h1)) | ((refine ⟨_, hp, ?_⟩); (rintro _ _ ⟨rfl, rfl⟩)) | refine ⟨_, fun _ => hq, ?_⟩ | fail); conv => whnf) | (refine AW_cond rfl (fun hb => absurd hb (by decide)) (fun _ => ?_)) | (refine AW_cond rfl (fun hb => ?_) (fun hb => ?_) <;> first | (replace hb := of_decide_eq_true hb; try simp only [List.length_map] at hb) | (replace hb := of_decide_eq_false hb; try simp only [List.length_map] at hb) | (simp only [List.length_map, bne_iff_ne, ne_eq, beq_iff_eq, bne_eq_false_iff_eq, beq_eq_false_iff_ne, decide_eq_true_eq, decide_eq_false_iff_not, Bool.not_eq_true', Bool.not_eq_false', Int.natCast_inj] at hb)) | ((first | refine ⟨_, wrap_of (by first | omega | (simp only [List.length_map]; omega)), ?_⟩ | refine andA ?_ | fail); conv => whnf) | (refine fun hln => ?_; (try rw [List.length_map] at hln); unfold maxLen at hln; conv => whnf) | fail
          exact ⟨k + 1, ⟨hkm, hst⟩, by omega, impA⟩
      | true =>
        cases q with
        | false =>
          rw [hF rfl rfl]
          clear hst hF
          repeat' first | with_reducible refine AW_seq ?_ | with_reducible refine AW_block ?_ | ((first | with_reducible refine AW_skip ?_ | with_reducible refine AW_exit ?_ | with_reducible refine AW_ret ?_ | with_reducible refine AW_region hTt ?_ | fail); conv => whnf) | (exfalso; simp [hr0] at hb; omega) | ((first | with_reducible refine Exists.intro _ (And.intro (gd_any (And.intro (by omega) h00)) ?_) | refine And.intro ?_ ?_; focus (first | (exact trivial) | (intro h1; exact h1) | (intro h1 h2; simp_all; done) | (intro h1 h2; exact h1)) | ((refine ⟨_, hp, ?_⟩); (rintro _ _ ⟨rfl, rfl⟩)) | refine ⟨_, fun _ => hq, ?_⟩ | fail); conv => whnf) | (refine AW_cond rfl (fun _ => ?_) (fun hb => absurd hb (by decide))) | (refine AW_cond rfl (fun hb => ?_) (fun hb => ?_) <;> first | (replace hb := of_decide_eq_true hb; try simp only [List.length_map] at hb) | (replace hb := of_decide_eq_false hb; try simp only [List.length_map] at hb) | (simp only [List.length_map, bne_iff_ne, ne_eq, beq_iff_eq, bne_eq_false_iff_eq, beq_eq_false_iff_ne, decide_eq_true_eq, decide_eq_false_iff_not, Bool.not_eq_true', Bool.not_eq_false', Int.natCast_inj] at hb)) | ((refine andA ?_); conv => whnf) | (refine fun hln => ?_; (try rw [List.length_map] at hln); unfold maxLen at hln; conv => whnf) | fail
          exact ⟨_, sgH (r0 :: R') all, ⟨rfl, rfl, rfl, trivial⟩, rfl, rfl, rfl, rfl⟩
        | true =>
          clear hF
          repeat' first | with_reducible refine AW_seq ?_ | with_reducible refine AW_block ?_ | ((first | with_reducible refine AW_skip ?_ | with_reducible refine AW_exit ?_ | with_reducible refine AW_ret ?_ | with_reducible refine AW_region hTt ?_ | fail); conv => whnf) | (exfalso; simp [hr0] at hb; omega) | ((first | with_reducible refine Exists.intro _ (And.intro (gd_any (And.intro (by omega) h00)) ?_) | refine And.intro ?_ ?_; focus (first | (exact trivial) | (intro h1; exact h1) | (intro h1 h2; simp_all; done) | (intro h1 h2; exact h1)) | ((refine ⟨_, hp, ?_⟩); (rintro _ _ ⟨rfl, rfl⟩)) | refine ⟨_, fun _ => hq, ?_⟩ | fail); conv => whnf) | (refine AW_cond rfl (fun hb => absurd hb (by decide)) (fun _ => ?_)) | (refine AW_cond rfl (fun hb => ?_) (fun hb => ?_) <;> first | (replace hb := of_decide_eq_true hb; try simp only [List.length_map] at hb) | (replace hb := of_decide_eq_false hb; try simp only [List.length_map] at hb) | (simp only [List.length_map, bne_iff_ne, ne_eq, beq_iff_eq, bne_eq_false_iff_eq, beq_eq_false_iff_ne, decide_eq_true_eq, decide_eq_false_iff_not, Bool.not_eq_true', Bool.not_eq_false', Int.natCast_inj] at hb)) | ((first | refine ⟨_, wrap_of (by first | omega | (simp only [List.length_map]; omega)), ?_⟩ | refine andA ?_ | fail); conv => whnf) | (refine fun hln => ?_; (try rw [List.length_map] at hln); unfold maxLen at hln; conv => whnf) | fail
          exact ⟨k + 1, ⟨hkm, hst⟩, by omega, impA⟩
    · have hke : k = m := by omega
      subst hke
      rw [show holdsR (r0 :: R') all k l = true from hs]
      repeat' first | with_reducible refine AW_seq ?_ | with_reducible refine AW_block ?_ | ((first | with_reducible refine AW_skip ?_ | with_reducible refine AW_exit ?_ | with_reducible refine AW_ret ?_ | with_reducible refine AW_region hTt ?_ | fail); conv => whnf) | (exfalso; simp [hr0] at hb; done) | ((first | with_reducible refine Exists.intro _ (And.intro (gd_any (And.intro (by omega) h00)) ?_) | refine And.intro ?_ ?_; focus (first | (exact trivial) | (intro h1; exact h1) | (intro h1 h2; simp_all; done) | (intro h1 h2; exact h1)) | fail); conv => whnf) | (refine AW_cond rfl (fun hb => ?_) (fun hb => ?_) <;> first | (replace hb := of_decide_eq_true hb; try simp only [List.length_map] at hb) | (replace hb := of_decide_eq_false hb; try simp only [List.length_map] at hb) | (simp only [List.length_map, bne_iff_ne, ne_eq, beq_iff_eq, bne_eq_false_iff_eq, beq_eq_false_iff_ne, decide_eq_true_eq, decide_eq_false_iff_not, Bool.not_eq_true', Bool.not_eq_false', Int.natCast_inj] at hb)) | ((refine andA ?_); conv => whnf) | (refine fun hln => ?_; (try rw [List.length_map] at hln); unfold maxLen at hln; conv => whnf) | fail
      exact ⟨_, sgH (r0 :: R') all, ⟨rfl, rfl, rfl, trivial⟩, rfl, rfl, rfl, rfl⟩
end Go.Proofs.YtfpaonfddaeamaaGreatDoor
namespace Go.Proofs.YtfpaonfddaeamaaGreatDoor
open Go Go.QL
set_option maxHeartbeats 3200000
attribute [local irreducible] ACall FnC YC
abbrev sgF (R : List (List Bool)) (all : List Int) : Sg := (950, .box [.d (.v (.int .i64 R.length))]) :: sgH R all
abbrev frX : Fr := [(5, .x (.f (.func 91) [] [.b 950 0])), (4, .x (.b 4 0)), (3, .x (.b 3 0))]
abbrev sgX (asg bdy : Code) (go : Bool) (x : PV) (many : Nat) (rows al : PV) : Sg :=
  [(930, .x (bif go then .loop .ready none #[6] asg bdy 11 frX 931 else .loop .done (some (.exit 0)) #[6] asg bdy 11 frX 931)), (931, .x .dfr), (4, .box [.d x]), (3, .box [.f (.func 80) [] [.b 940 0, .b 941 0, .b 942 0]]),
    (950, .box [.d (.v (.int .i64 many))]), (940, .box [.d rows]), (941, .box [.f (.func 76) [] [.b 940 0]]), (942, .box [.d al])]
theorem choices1_fr {asg bdy : Code} {H : List Int → Bool} {many : Nat} {rows al : PV} (hm : many ≤ 100)
    (hy : ∀ (s : Nat) (x : PV) (l : List Int), (∀ i ∈ l, 0 ≤ i ∧ i < many) → YC Tryz.prog 930 [sl l] (sgG asg bdy s true x many rows al) (fun r σ' => r = bv (!H l) ∧ σ' = sgG asg bdy s (!H l) (intsPV l) many rows al)) (x : PV) :
    ACall Tryz.prog 91 [.x (.h 930), .x (.b 950 0)] (sgX asg bdy true x many rows al)
      (fun r σ' => r = .t [] ∧ σ' = sgX asg bdy (goC H (allL many) x).1 (goC H (allL many) x).2 many rows al) := by
  refine ((choices1_fn hm hy x).frame (σ := sgX asg bdy true x many rows al) (asc [(963, 3), (964, 4)]) (by repeat (first | exact trivial | refine ⟨rfl, ?_⟩)) rfl ?_).mono ?_
  · rintro _ _ ⟨rfl, rfl⟩
    generalize goC H (allL many) x = Y
    obtain ⟨go, z⟩ := Y
    cases go <;> rfl
  · rintro _ _ ⟨_, _, ⟨rfl, rfl⟩, rfl, rfl⟩
    refine ⟨rfl, ?_⟩
    generalize goC H (allL many) x = Y
    obtain ⟨go, z⟩ := Y
    cases go <;> rfl
theorem first_fn {R : List (List Bool)} {m : Nat} (hm : m ≤ 4096) (hw : Wide R m) (hR : R = [] → m = 0) (hn : R.length ≤ 100) (all : List Int) (ha : ∀ i ∈ all, 0 ≤ i ∧ i < R.length) :
    ACall Tryz.prog 78 [.x (.f (.func 91) [] [.b 950 0]), .x (.f (.func 80) [] [.b 940 0, .b 941 0, .b 942 0])] (sgF R all)
      (fun r σ' => r = .x (.d (goC (holdsR R all m) (allL R.length) (.v (.slice none 0 0))).2) ∧ σ' = sgF R all) := by
  have hh := fun l hl => holds_fn hm hw hR all l ha hl
  clear hw hR ha
  generalize holdsR R all m = H at hh
  refine ACall_of_AWM hTt [931] Tryz.func78 rfl (by kernel_rfl) (res := [.cell 4 23]) rfl Tryz.ntmps78 (by simp) fun w0 K0 B => ?_
  dsimp only [entry]
  repeat' first | with_reducible refine AW_seq ?_ | with_reducible refine AW_block ?_ | ((with_reducible refine AW_region hTt ?_); conv => whnf) | fail
  refine AW_imp (Imp.forget (fr' := [(5, .x (.f (.func 91) [] [.b 950 0])), (4, .x (.b 4 0)), (3, .x (.b 3 0))]) (σ' := (4, .box [.d (.v (.slice none 0 0))]) :: (3, .box [.f (.func 80) [] [.b 940 0, .b 941 0, .b 942 0]]) :: sgF R all)
    ⟨rfl, rfl, rfl, trivial⟩ ⟨rfl, rfl, rfl, rfl, rfl, rfl, trivial⟩ rfl) ?_
  refine AW_rangeFunc 930 931 rfl rfl rfl (by decide) (by simp) rfl _ (choices1_fr (H := H) (rows := rowsB R) (al := intsPV all) hn ?hy (.v (.slice none 0 0))) ?hk
  case hk =>
    generalize goC H (allL R.length) (.v (.slice none 0 0)) = Y
    obtain ⟨go, z⟩ := Y
    rintro rv σ' ⟨rfl, rfl⟩
    cases go with
    | true =>
      refine ⟨rfl, .ready, none, rfl, by decide, ?_⟩
      dsimp only
      conv => whnf
      repeat' first | with_reducible refine AW_seq ?_ | ((first | with_reducible refine AW_ret ?_ | with_reducible refine AW_region hTt ?_ | fail); conv => whnf) | fail
      exact ⟨[(4, .x (.b 4 0))], (4, .box [.d z]) :: sgF R all, ⟨rfl, trivial⟩, ⟨rfl, rfl, rfl, rfl, rfl, trivial⟩, rfl, .x (.d z), sgF R all, ⟨rfl, rfl, rfl, rfl, trivial⟩, rfl, rfl, rfl, rfl⟩
    | false =>
      refine ⟨rfl, .done, some (.exit 0), rfl, by decide, ?_⟩
      dsimp only
      repeat' first | with_reducible refine AW_seq ?_ | ((first | with_reducible refine AW_exit ?_ | with_reducible refine AW_ret ?_ | with_reducible refine AW_region hTt ?_ | fail); conv => whnf) | fail
      exact ⟨[(4, .x (.b 4 0))], (4, .box [.d z]) :: sgF R all, ⟨rfl, trivial⟩, ⟨rfl, rfl, rfl, rfl, rfl, trivial⟩, rfl, .x (.d z), sgF R all, ⟨rfl, rfl, rfl, rfl, trivial⟩, rfl, rfl, rfl, rfl⟩
  case hy =>
    intro s x l hl
    have hh := hh l hl
    generalize H l = hit at hh
    refine YC_of_AW (pend := none) rfl rfl (by decide) rfl ?_
    intro w0 K0 B b
    dsimp only [bindP]
    repeat' first | ((with_reducible refine AW_region hTt ?_); conv => whnf) | fail
    refine ⟨_, rfl, ?_⟩
    cases hit with
    | true =>
      repeat' first | with_reducible refine AW_seq ?_ | with_reducible refine AW_block ?_ | ((first | with_reducible refine AW_exit ?_ | with_reducible refine AW_region hTt ?_ | ((refine ⟨_, (hh).frame (asc []) (by repeat (first | exact trivial | refine ⟨rfl, ?_⟩)) rfl (by rintro _ _ ⟨rfl, rfl⟩; rfl), ?_⟩); (rintro _ _ ⟨_, _, ⟨rfl, rfl⟩, rfl, rfl⟩)) | fail); conv => whnf) | (refine AW_cond rfl (fun _ => ?_) (fun hb => absurd hb (by decide))) | fail
      refine ⟨setOb 930 (.x (.loop .busy none #[6] ?a ?b 11 frC 931)) (sgG ?a ?b s true (intsPV l) R.length (rowsB R) (intsPV all)), none, ?h1, ?h2, ?h3, ?h4⟩
      case h3 => exact rfl
      case h1 => exact ⟨rfl, rfl, rfl, rfl, rfl, rfl, rfl, rfl, rfl, rfl, rfl, trivial⟩
      case h2 => rfl
      case h4 => exact ⟨rfl, rfl⟩
    | false =>
      repeat' first | with_reducible refine AW_seq ?_ | with_reducible refine AW_block ?_ | ((first | with_reducible refine AW_skip ?_ | with_reducible refine AW_region hTt ?_ | ((refine ⟨_, (hh).frame (asc []) (by repeat (first | exact trivial | refine ⟨rfl, ?_⟩)) rfl (by rintro _ _ ⟨rfl, rfl⟩; rfl), ?_⟩); (rintro _ _ ⟨_, _, ⟨rfl, rfl⟩, rfl, rfl⟩)) | fail); conv => whnf) | (refine AW_cond rfl (fun hb => absurd hb (by decide)) (fun _ => ?_)) | fail
      refine ⟨setOb 930 (.x (.loop .busy none #[6] ?a ?b 11 frC 931)) (sgG ?a ?b s true (intsPV l) R.length (rowsB R) (intsPV all)), none, ?h1, ?h2, ?h3, ?h4⟩
      case h3 => exact rfl
      case h1 => exact ⟨rfl, rfl, rfl, rfl, rfl, rfl, rfl, rfl, rfl, rfl, rfl, trivial⟩
      case h2 => rfl
      case h4 => exact ⟨rfl, rfl⟩
end Go.Proofs.YtfpaonfddaeamaaGreatDoor
namespace Go.Proofs.YtfpaonfddaeamaaGreatDoor
open Go Go.QL
set_option maxHeartbeats 3200000
attribute [local irreducible] ACall FnC YC
theorem choices_fn (n k : Int) (h : n = k) : ACall Tryz.prog 79 [iv .i64 n] [] (fun r σ' => r = .x (.f (.func 91) [] [.b 1 0]) ∧ σ' = [(1, .box [.d (.v (.int .i64 k))])]) := by
  subst h
  refine ACall_of_AWD hTt Tryz.func79 rfl (by kernel_rfl) (res := [.tmp 2]) rfl Tryz.ntmps79 (by simp) fun w0 K0 B => ?_
  dsimp only [entry]
  repeat' first | with_reducible refine AW_seq ?_ | ((first | with_reducible refine AW_ret ?_ | with_reducible refine AW_region hTt ?_ | fail); conv => whnf) | fail
  exact ⟨_, [(1, .box [.d (.v (.int .i64 n))])], ⟨rfl, trivial⟩, rfl, rfl, rfl, rfl⟩
def numsI (i : Nat) : List Int := (List.range i).map fun (j : Nat) => (j : Int)
theorem numsI_succ (i : Nat) : numsI (i + 1) = numsI i ++ [(i : Int)] := by unfold numsI; rw [List.range_succ, List.map_append]; rfl
theorem numsI_len (i : Nat) : (numsI i).length = i := by unfold numsI; simp
theorem numsI_in {i : Nat} {x : Int} (h : x ∈ numsI i) : 0 ≤ x ∧ x < i := by
  unfold numsI at h
  rw [List.mem_map] at h
  obtain ⟨j, hj, rfl⟩ := h
  have := List.mem_range.1 hj
  omega
def coverR (R : List (List Bool)) (m : Nat) : PV := (goC (holdsR R (numsI R.length) m) (allL R.length) (.v (.slice none 0 0))).2
theorem cover_fn {R : List (List Bool)} {m : Nat} (hm : m ≤ 4096) (hw : Wide R m) (hR : R = [] → m = 0) (hn : R.length ≤ 100) : FnC Tryz.prog 58 [.x (.d (rowsB R))] (.x (.d (coverR R m))) := by
  have hlm : (R.map fun r => [boolsPV r]).length = R.length := List.length_map _
  have hal : PV.s 1 (((numsI R.length).map fun n => [PV.v (.int .i64 n)]).take R.length) = intsPV (numsI R.length) := by
    rw [List.take_of_length_le (by rw [List.length_map, numsI_len]; exact Nat.le_refl _)]; rfl
  have hle : R.length ≤ ((numsI R.length).map fun n => [PV.v (.int .i64 n)]).length := by rw [List.length_map, numsI_len]; exact Nat.le_refl _
  have c1 := DC.ACall.anew (choices_fn ((R.map fun r => [boolsPV r]).length : Int) R.length (by omega)) (asc [(1, 950)]) (args' := [iv .i64 ((R.map fun r => [boolsPV r]).length : Int)]) (rv' := .x (.f (.func 91) [] [.b 950 0])) (nob' := [(950, .box [.d (.v (.int .i64 R.length))])]) rfl rfl rfl rfl
    [(1, .box [.d (rowsB R)]), (3, .box [.f (.func 76) [] [.b 1 0]]), (4, .box [.d (intsPV (numsI R.length))])] (by intro p hp; rw [List.mem_singleton.1 hp]; rfl)
  have c2 : ACall Tryz.prog 78 [.x (.f (.func 91) [] [.b 950 0]), .x (.f (.func 80) [] [.b 1 0, .b 3 0, .b 4 0])]
      [(950, .box [.d (.v (.int .i64 R.length))]), (1, .box [.d (rowsB R)]), (3, .box [.f (.func 76) [] [.b 1 0]]), (4, .box [.d (intsPV (numsI R.length))])]
      (fun r σ' => r = .x (.d (coverR R m)) ∧ σ' = [(950, .box [.d (.v (.int .i64 R.length))]), (1, .box [.d (rowsB R)]), (3, .box [.f (.func 76) [] [.b 1 0]]), (4, .box [.d (intsPV (numsI R.length))])]) :=
    ((first_fn hm hw hR hn (numsI R.length) (fun i hi => numsI_in hi)).frame (asc [(940, 1), (941, 3), (942, 4)]) (by repeat (first | exact trivial | refine ⟨rfl, ?_⟩)) rfl (by rintro _ _ ⟨rfl, rfl⟩; rfl)).mono (by rintro _ _ ⟨_, _, ⟨rfl, rfl⟩, rfl, rfl⟩; exact ⟨rfl, rfl⟩)
  generalize coverR R m = C at c2
  clear hw hR
  refine FnC_of_AW hTt Tryz.func58 rfl (by kernel_rfl) (res := [.tmp 2]) rfl Tryz.ntmps58 (by simp) fun w0 K0 => ?_
  dsimp only [entry]
  repeat' first | with_reducible refine AW_seq ?_ | with_reducible refine AW_block ?_ | ((with_reducible refine AW_region hTt ?_); conv => whnf) | (refine fun hln => ?_; (try rw [List.length_map] at hln); unfold maxLen at hln; conv => whnf) | fail
  refine AW_imp (Imp.nil 900 3 1 (fr' := [(8, iv .i64 ((R.map fun r => [boolsPV r]).length : Int)), (9, iv .i64 0), (1, .x (.b 1 0)), (3, .x (.b 3 0)), (4, .x (.b 4 0))]) (σ' := [(4, .box [.o 900 0 0]), (3, .box [.f (.func 76) [] [.b 1 0]]), (1, .box [.d (rowsB R)])]) rfl ?_ ?_ rfl rfl) ?_
  · exact ⟨⟨_, rfl, .inl rfl⟩, ⟨_, rfl, .inl rfl⟩, ⟨_, rfl, .inl rfl⟩, ⟨_, rfl, .inl rfl⟩, ⟨_, rfl, .inl rfl⟩, trivial⟩
  · exact ⟨⟨_, rfl, .inr ⟨_, _, rfl, rfl, ⟨.inr ⟨rfl, rfl⟩, trivial⟩⟩⟩, ⟨_, rfl, .inl rfl⟩, ⟨_, rfl, .inl rfl⟩, trivial⟩
  refine AW_loop (fun i : Nat => [(8, iv .i64 ((R.map fun r => [boolsPV r]).length : Int)), (9, iv .i64 i), (1, .x (.b 1 0)), (3, .x (.b 3 0)), (4, .x (.b 4 0))])
    (fun i => [(4, .box [.o 900 i i]), (3, .box [.f (.func 76) [] [.b 1 0]]), (1, .box [.d (rowsB R)]), (900, .chain 3 1 i ((numsI i).map fun n => [PV.v (.int .i64 n)]))])
    (fun i => i ≤ R.length) (fun i => R.length - i) 0 (Nat.zero_le _) impA ?_
  intro i hi
  rcases Nat.lt_or_ge i R.length with hil | hil
  · have hli := numsI_len i
    have ec : ((numsI i).map fun n => [PV.v (.int .i64 n)]).take i ++ [[PV.v (.int .i64 (i : Int))]] = (numsI (i + 1)).map fun n => [PV.v (.int .i64 n)] := by
      rw [numsI_succ, List.map_append, List.take_of_length_le (by rw [List.length_map, hli]; exact Nat.le_refl _)]; rfl
    clear c1 c2 hal hle
    repeat' first | with_reducible refine AW_seq ?_ | with_reducible refine AW_block ?_ | ((first | with_reducible refine AW_skip ?_ | with_reducible refine AW_exit ?_ | with_reducible refine AW_region hTt ?_ | fail); conv => whnf) | (exact absurd hb (by omega)) | ((refine And.intro (by refine ⟨?_, ?_, ?_⟩ <;> simp [chunk, maxLen] <;> omega) ?_); conv => whnf) | (refine AW_cond rfl (fun hb => ?_) (fun hb => ?_) <;> first | (replace hb := of_decide_eq_true hb; try simp only [List.length_map] at hb) | (replace hb := of_decide_eq_false hb; try simp only [List.length_map] at hb)) | ((first | refine ⟨_, wrap_of (by first | omega | (simp only [List.length_map]; omega)), ?_⟩ | refine andA ?_ | fail); conv => whnf) | fail
    exact ⟨i + 1, hil, by omega, Imp.forget ⟨rfl, rfl, rfl, rfl, rfl, trivial⟩ ⟨rfl, rfl, rfl, congrArg (fun l => some (Ob.chain 3 1 (i + 1) l)) ec, trivial⟩ rfl⟩
  · have hie : i = R.length := by omega
    subst hie
    repeat' first | ((refine AW_imp (Imp.freezeB 900 (fr' := [(1, .x (.b 1 0)), (3, .x (.b 3 0)), (4, .x (.b 4 0))]) (σ' := [(1, .box [.d (rowsB R)]), (3, .box [.f (.func 76) [] [.b 1 0]]), (4, .box [.d (intsPV (numsI R.length))])]) rfl ⟨⟨_, rfl, .inl rfl⟩, ⟨_, rfl, .inl rfl⟩, ⟨_, rfl, .inl rfl⟩, trivial⟩ ⟨⟨_, rfl, .inl rfl⟩, ⟨_, rfl, .inl rfl⟩, ⟨_, rfl, .inr ⟨_, _, rfl, rfl, ⟨.inr ⟨_, rfl, hle, congrArg SV.d hal.symm⟩, trivial⟩⟩⟩, trivial⟩ rfl rfl) (AW_region (id := 8) hTt ?_)); conv => whnf) | with_reducible refine AW_seq ?_ | with_reducible refine AW_block ?_ | ((first | with_reducible refine AW_skip ?_ | with_reducible refine AW_exit ?_ | with_reducible refine AW_ret ?_ | with_reducible refine AW_region hTt ?_ | fail); conv => whnf) | (exact absurd hb (by omega)) | ((first | ((refine ⟨_, c1, ?_⟩); (rintro _ _ ⟨rfl, rfl⟩)) | ((refine ⟨_, c2, ?_⟩); (rintro _ _ ⟨rfl, rfl⟩)) | fail); conv => whnf) | (refine AW_cond rfl (fun hb => ?_) (fun hb => ?_) <;> first | (replace hb := of_decide_eq_true hb; try simp only [List.length_map] at hb) | (replace hb := of_decide_eq_false hb; try simp only [List.length_map] at hb)) | (refine fun hln => ?_; (try rw [List.length_map] at hln); unfold maxLen at hln; conv => whnf) | fail
    rfl
end Go.Proofs.YtfpaonfddaeamaaGreatDoor
namespace Go.Proofs.YtfpaonfddaeamaaGreatDoor
open Go Go.QL
set_option maxHeartbeats 3200000
attribute [local irreducible] ACall FnC
theorem run_1 {n : NetT} (ok : NetOK n) {s1 : Nat} {sk : List (W16 × W16)} (hsk : sk.length = n.inn.toNat + n.gates.length) {s2 s3 k' : Nat} {nw : List W16}
    {flt : Nat → FaultT} (hl : LanesOK sk flt 1) (xs : List Int) (hxl : xs.length ≤ 4096) :
    ACall Tryz.prog 51 [.x (.b 900 0), iv .i64 1, sl xs] (sB n s1 sk s2 (dl0 n) s3 k' nw)
      (fun r σ' => ∃ p : Nat × Nat × List W16, r = rowsAV ((List.range 1).map fun l => outsR n (flt l) xs xs.length) ∧ σ' = sB n s1 sk s2 (dl0 n) p.1 p.2.1 p.2.2) := by
  refine ACall_of_AWD hTt Tryz.func51 rfl (by kernel_rfl) (res := [.tmp 6]) rfl Tryz.ntmps51 (by simp) fun w0 K0 B => ?_
  dsimp only [entry]
  repeat' first | with_reducible refine AW_seq ?_ | with_reducible refine AW_block ?_ | ((first | with_reducible refine AW_region hTt ?_ | refine AW_draw hTt hMix (id := 1) 5 true [0, 1, 0, 4, 3, 31] (by kernel_rfl) rfl rfl (by kernel_rfl) ?_ | refine Or.inr ?_ | refine andA ?_ | fail); conv => whnf) | (refine fun hln => ?_; (try rw [List.length_map] at hln); unfold maxLen at hln; conv => whnf) | fail
  refine AW_imp (Imp.freeze 17 (fr' := frR n flt xs 1) (σ' := (15, .box (cellsN 1 0 0)) :: sB n s1 sk s2 (dl0 n) s3 k' nw) rfl ?_ ?_ rfl rfl) ?_
  · exact ⟨⟨_, rfl, .inl rfl⟩, ⟨_, congrArg (fun k : Nat => some (iv .i64 k)) (List.length_map _), .inl rfl⟩, ⟨_, rfl, .inl rfl⟩, ⟨_, rfl, .inl rfl⟩, ⟨_, rfl, .inr ⟨1, rfl, Nat.le_of_ble_eq_true rfl, rfl⟩⟩, ⟨_, rfl, .inl rfl⟩, trivial⟩
  · exact ⟨rfl, rfl, rfl, rfl, rfl, trivial⟩
  refine AW_imp (Imp.nil 600 3 1 (fr' := frR n flt xs 1) (σ' := chN 0 ((15, .box (cellsN 1 0 1)) :: sB n s1 sk s2 (dl0 n) s3 k' nw)) rfl ⟨⟨_, rfl, .inl rfl⟩, ⟨_, rfl, .inl rfl⟩, ⟨_, rfl, .inl rfl⟩, ⟨_, rfl, .inl rfl⟩, ⟨_, rfl, .inl rfl⟩, ⟨_, rfl, .inl rfl⟩, trivial⟩ ?_ rfl rfl) ?_
  · exact ⟨⟨_, rfl, .inr ⟨_, _, rfl, rfl, .inr ⟨rfl, rfl⟩, trivial⟩⟩, ⟨_, rfl, .inl rfl⟩, ⟨_, rfl, .inl rfl⟩, ⟨_, rfl, .inl rfl⟩, ⟨_, rfl, .inl rfl⟩, trivial⟩
  refine AW_loop (fun p : Nat × Nat × Nat × List W16 => [(20, iv .i64 p.1), (19, iv .i64 xs.length), (18, sl xs), (7, .x (.sb 15 0 1 1)), (8, sl (stsL n flt xs 1 p.1)), (0, .x (.b 900 0))])
    (fun p => (15, .box [.o 600 (p.1) (p.1)]) :: (600, rwOb n (flt 0) xs (p.1)) :: sB n s1 sk s2 (dl0 n) p.2.1 p.2.2.1 p.2.2.2)
    (fun p => p.1 ≤ xs.length) (fun p => xs.length - p.1) (0, s3, k', nw) (Nat.zero_le _) impA ?_
  rintro ⟨t, a, b, c⟩ ht
  dsimp only at ht ⊢
  rcases Nat.lt_or_ge t xs.length with htl | htl
  · have hbeat := fun s3 k' nw => beat_lanes ok (s1 := s1) hsk (s2 := s2) (s3 := s3) (k' := k') (nw := nw) (k := 1) (by decide) hl xs t xs[t] (getDI htl)
    have hol := otsL_len n flt xs 1 t
    repeat' first | with_reducible refine AW_seq ?_ | with_reducible refine AW_block ?_ | ((first | with_reducible refine AW_skip ?_ | with_reducible refine AW_exit ?_ | with_reducible refine AW_ret ?_ | with_reducible refine AW_region hTt ?_ | fail); conv => whnf) | (exact absurd hb (by omega)) | ((refine ⟨_, (hbeat a b c).frame (asc []) (by repeat (first | exact trivial | refine ⟨rfl, ?_⟩)) rfl (by rintro _ _ ⟨_, rfl, rfl⟩; rfl), ?_⟩); (rintro _ _ ⟨_, _, ⟨_, rfl, rfl⟩, rfl, rfl⟩); conv => whnf) | (refine AW_cond rfl (fun hb => ?_) (fun hb => ?_) <;> first | (replace hb := of_decide_eq_true hb; try simp only [List.length_map] at hb) | (replace hb := of_decide_eq_false hb; try simp only [List.length_map] at hb) | (simp only [List.length_map, bne_iff_ne, ne_eq, beq_iff_eq, bne_eq_false_iff_eq, beq_eq_false_iff_ne, decide_eq_true_eq, decide_eq_false_iff_not, Bool.not_eq_true', Bool.not_eq_false', Int.natCast_inj] at hb) | skip) | ((first | refine andA ?_ | with_reducible refine Exists.intro _ (And.intro (gd_any (And.intro (by omega) (map_get (by omega)))) ?_) | fail); conv => whnf) | (refine fun hln => ?_; (try rw [List.length_map] at hln); unfold maxLen at hln; conv => whnf) | fail
    rename_i pp
    refine AW_loop (fun l : Nat => [(33, iv .i64 l), (32, iv .i64 1), (31, sl (otsL n flt xs 1 t)), (20, iv .i64 t), (19, iv .i64 xs.length), (18, sl xs), (7, .x (.sb 15 0 1 1)), (8, sl (stsL n flt xs 1 (t + 1))), (0, .x (.b 900 0))])
      (fun l => (15, .box [.o 600 (t + bt 0 l) (t + bt 0 l)]) :: (600, rwOb n (flt 0) xs (t + bt 0 l)) :: sB n s1 sk s2 (dl0 n) pp.1 pp.2.1 pp.2.2) (fun l => l ≤ 1) (fun l => 1 - l) 0 (Nat.zero_le _) impA ?_
    intro l hlk
    rcases Nat.lt_or_ge l 1 with hll | hll
    · have hg := ots_at n flt xs t hll
      have e := row_app n (flt l) xs t l
      have hq := bt_self l
      have hz := outsR_len n (flt l) xs (t + bt l l)
      obtain ⟨j, hj⟩ : ∃ j, j = l + 1 := ⟨_, rfl⟩
      have hl' : l = 0 := by omega
      clear hol hbeat ht hlk hll
      subst hl'
      all_goals
        repeat' first | with_reducible refine AW_seq ?_ | with_reducible refine AW_block ?_ | ((first | with_reducible refine AW_skip ?_ | with_reducible refine AW_region hTt ?_ | with_reducible refine Exists.intro _ (And.intro (gd_any (And.intro (by omega) hg)) ?_) | refine And.intro (gd_any (And.intro (by decide) (by decide))) ?_ | fail); conv => whnf) | ((refine And.intro ?_ ?_; focus (refine ⟨?_, ?_, ?_⟩ <;> simp [chunk, maxLen] <;> omega)); conv => whnf) | (refine AW_cond rfl (fun _ => ?_) (fun hb => absurd hb (by decide))) | ((first | refine ⟨_, wrap_of (by first | omega | (simp only [List.length_map]; omega)), ?_⟩ | refine andA ?_ | fail); conv => whnf) | fail
        exact ⟨j, by omega, by omega, by subst hj; exact impA⟩
    have hle : l = 1 := by omega
    subst hle
    repeat' first | with_reducible refine AW_seq ?_ | ((first | with_reducible refine AW_exit ?_ | with_reducible refine AW_region hTt ?_ | fail); conv => whnf) | (refine AW_cond rfl (fun hb => absurd hb (by decide)) (fun _ => ?_)) | ((refine ⟨_, wrap_of (by first | omega | (simp only [List.length_map]; omega)), ?_⟩); conv => whnf) | fail
    exact ⟨(t + 1, pp.1, pp.2.1, pp.2.2), by show t + 1 ≤ xs.length; omega, by show xs.length - (t + 1) < xs.length - t; omega, impA⟩
  · have hte : t = xs.length := by omega
    subst hte
    repeat' first | with_reducible refine AW_seq ?_ | with_reducible refine AW_block ?_ | ((first | with_reducible refine AW_skip ?_ | with_reducible refine AW_exit ?_ | with_reducible refine AW_ret ?_ | with_reducible refine AW_region hTt ?_ | fail); conv => whnf) | (exact absurd hb (by omega)) | (refine AW_cond rfl (fun hb => ?_) (fun hb => ?_) <;> first | (replace hb := of_decide_eq_true hb; try simp only [List.length_map] at hb) | (replace hb := of_decide_eq_false hb; try simp only [List.length_map] at hb) | (simp only [List.length_map, bne_iff_ne, ne_eq, beq_iff_eq, bne_eq_false_iff_eq, beq_eq_false_iff_ne, decide_eq_true_eq, decide_eq_false_iff_not, Bool.not_eq_true', Bool.not_eq_false', Int.natCast_inj] at hb) | skip) | fail
    refine ⟨_, sB n s1 sk s2 (dl0 n) a b c, ⟨rfl, rfl, rfl, rfl, trivial⟩, rfl, (?_ : _ = some (rowsAV ((List.range 1).map fun l => outsR n (flt l) xs xs.length))), (a, b, c), rfl, rfl⟩
    have hk := keepRows (σ := (15, .box [.o 600 xs.length xs.length]) :: (600, rwOb n (flt 0) xs xs.length) :: sB n s1 sk s2 (dl0 n) a b c) (σ' := sB n s1 sk s2 (dl0 n) a b c) (id := 15) (n := 1) (cap := 1) (ps := [PV.s 1 ((outsR n (flt 0) xs xs.length).map iPV)]) rfl rfl
      (by repeat' first | exact rfl | refine rowPVs_cons (rowPV_o rfl rfl (by rw [List.length_map, outsR_len])) ?_) rfl
    exact outKeep1 (x := .x (.sb 15 0 1 1)) rfl hk
end Go.Proofs.YtfpaonfddaeamaaGreatDoor
namespace Go.Proofs.YtfpaonfddaeamaaGreatDoor
open Go Go.QL
set_option maxHeartbeats 1600000
attribute [local irreducible] ACall FnC
def RunsAt (k : Nat) : Prop := ∀ (n : NetT) (_ : NetOK n) (s1 : Nat) (sk : List (W16 × W16)) (_ : sk.length = n.inn.toNat + n.gates.length) (s2 s3 k' : Nat) (nw : List W16)
    (flt : Nat → FaultT) (_ : LanesOK sk flt k) (xs : List Int) (_ : xs.length ≤ 4096),
    ACall Tryz.prog 51 [.x (.b 900 0), iv .i64 k, sl xs] (sB n s1 sk s2 (dl0 n) s3 k' nw)
      (fun r σ' => ∃ p : Nat × Nat × List W16, r = rowsAV ((List.range k).map fun l => outsR n (flt l) xs xs.length) ∧ σ' = sB n s1 sk s2 (dl0 n) p.1 p.2.1 p.2.2)
theorem sk0_len (n : NetT) : (sk0 n).length = n.inn.toNat + n.gates.length := by simp [sk0]
theorem sk0_lanes (n : NetT) (k : Nat) : LanesOK (sk0 n) (fun _ => fine) k := fun l _ => ⟨sk0_lane n l, fine_ok⟩
theorem flt1 {n : NetT} {f : FaultT} (h : faultErr n f = 0) (l : Nat) (hl : l < 16) : ∀ i (h : i < [(l, f)].length), [(l, f)][i].1 < 16 ∧ 0 ≤ [(l, f)][i].2.sig ∧ [(l, f)][i].2.sig < n.inn + n.gates.length ∧ ([(l, f)][i].2.at_ = 0 ∨ [(l, f)][i].2.at_ = 1) := by
  intro i hi
  have : i = 0 := by simpa using hi
  subst this
  exact ⟨hl, faultErr_ok h⟩
theorem prun_fn (n : NetT) (hi : i64 n.inn) (xs : List Int) : FnC Tryz.prog 25 [netAV n, sl xs] (outE (runR n xs)) := by
  refine FnC_of_AWL hTt Tryz.func25 rfl (by kernel_rfl) (res := [.tmp 4, .tmp 5]) rfl Tryz.ntmps25 (by simp) fun w0 K0 => ?_
  dsimp only [entry]
  by_cases hc : (checkR n).2.2 = 0
  · have ok := NetOK.of hc
    by_cases hin : insErr n xs = 0
    · have hi' := insErr_ok hin
      rw [show runR n xs = (outsR n fine xs xs.length, 0) from by unfold runR; rw [if_pos hc, if_pos hin]]
      repeat' first | with_reducible refine AW_seq ?_ | ((first | with_reducible refine AW_skip ?_ | with_reducible refine AW_ret ?_ | with_reducible refine AW_region hTt ?_ | fail); conv => whnf) | (exact absurd hb (by omega)) | ((first | ((refine ⟨_, (pcheck_fn n hi).call rfl rfl, ?_⟩); (rintro _ _ ⟨rfl, rfl⟩)) | ((refine ⟨_, (pins_fn n ok.h1 ok.h6 xs).call rfl rfl, ?_⟩); (rintro _ _ ⟨rfl, rfl⟩)) | ((refine ⟨_, (build_nil n ok.h1 ok.h6 ok.hl).frame (asc [(19, 900), (17, 901)]) (by repeat (first | exact trivial | refine ⟨rfl, ?_⟩)) rfl (by rintro _ _ ⟨_, rfl, rfl⟩; rfl), ?_⟩); (rintro _ _ ⟨_, _, ⟨_, rfl, rfl⟩, rfl, rfl⟩)) | ((refine ⟨_, (run_1 ok (s1 := 0) (sk := sk0 n) (sk0_len n) (s2 := _) (s3 := 0) (k' := 0) (nw := []) (sk0_lanes n 1) xs (by omega)).frame (asc []) (by repeat (first | exact trivial | refine ⟨rfl, ?_⟩)) rfl (by rintro _ _ ⟨_, rfl, rfl⟩; rfl), ?_⟩); (rintro _ _ ⟨_, _, ⟨_, rfl, rfl⟩, rfl, rfl⟩)) | refine ⟨[intsPV (outsR n fine xs xs.length)], gd_none ⟨by decide, rfl⟩, ?_⟩ | fail); conv => whnf) | (refine AW_cond rfl (fun hb => ?_) (fun hb => ?_) <;> first | (replace hb := of_decide_eq_true hb; try simp only [List.length_map] at hb) | (replace hb := of_decide_eq_false hb; try simp only [List.length_map] at hb) | (simp only [List.length_map, bne_iff_ne, ne_eq, beq_iff_eq, bne_eq_false_iff_eq, beq_eq_false_iff_ne, decide_eq_true_eq, decide_eq_false_iff_not, Bool.not_eq_true', Bool.not_eq_false', Int.natCast_inj] at hb)) | ((refine andA ?_); conv => whnf) | fail
      exact ⟨_, rfl, LeAV.refl _⟩
    · rw [show runR n xs = ([], insErr n xs) from by unfold runR; rw [if_pos hc, if_neg hin]]
      repeat' first | with_reducible refine AW_seq ?_ | ((first | with_reducible refine AW_skip ?_ | with_reducible refine AW_ret ?_ | with_reducible refine AW_region hTt ?_ | fail); conv => whnf) | (exact absurd hb (by omega)) | ((first | ((refine ⟨_, (pcheck_fn n hi).call rfl rfl, ?_⟩); (rintro _ _ ⟨rfl, rfl⟩)) | ((refine ⟨_, (pins_fn n ok.h1 ok.h6 xs).call rfl rfl, ?_⟩); (rintro _ _ ⟨rfl, rfl⟩)) | fail); conv => whnf) | (refine AW_cond rfl (fun hb => ?_) (fun hb => ?_) <;> first | (replace hb := of_decide_eq_true hb; try simp only [List.length_map] at hb) | (replace hb := of_decide_eq_false hb; try simp only [List.length_map] at hb) | (simp only [List.length_map, bne_iff_ne, ne_eq, beq_iff_eq, bne_eq_false_iff_eq, beq_eq_false_iff_ne, decide_eq_true_eq, decide_eq_false_iff_not, Bool.not_eq_true', Bool.not_eq_false', Int.natCast_inj] at hb)) | fail
      exact ⟨_, rfl, _, rfl, LeAV1.nil 1, LeAV1.refl _, trivial⟩
  · rw [show runR n xs = ([], (checkR n).2.2) from by unfold runR; rw [if_neg hc]]
    repeat' first | with_reducible refine AW_seq ?_ | ((first | with_reducible refine AW_skip ?_ | with_reducible refine AW_ret ?_ | with_reducible refine AW_region hTt ?_ | fail); conv => whnf) | (exact absurd hb (by omega)) | ((refine ⟨_, (pcheck_fn n hi).call rfl rfl, ?_⟩); (rintro _ _ ⟨rfl, rfl⟩); conv => whnf) | (refine AW_cond rfl (fun hb => ?_) (fun hb => ?_) <;> first | (replace hb := of_decide_eq_true hb; try simp only [List.length_map] at hb) | (replace hb := of_decide_eq_false hb; try simp only [List.length_map] at hb) | (simp only [List.length_map, bne_iff_ne, ne_eq, beq_iff_eq, bne_eq_false_iff_eq, beq_eq_false_iff_ne, decide_eq_true_eq, decide_eq_false_iff_not, Bool.not_eq_true', Bool.not_eq_false', Int.natCast_inj] at hb)) | fail
    exact ⟨_, rfl, _, rfl, LeAV1.nil 1, LeAV1.refl _, trivial⟩
end Go.Proofs.YtfpaonfddaeamaaGreatDoor
namespace Go.Proofs.YtfpaonfddaeamaaGreatDoor
open Go Go.QL
set_option maxHeartbeats 3200000
attribute [local irreducible] ACall FnC
def fAt (fs : List FaultT) (i : Nat) : FaultT := (fine :: fs).getD i fine
theorem fAt_ok {n : NetT} {fs : List FaultT} {ts : List (List Int)} (h : AskOK n fs ts) (i : Nat) : FltOK (fAt fs i) := by
  unfold fAt
  cases i with
  | zero => exact fine_ok
  | succ i =>
    show FltOK (fs.getD i fine)
    rw [List.getD_eq_getElem?_getD]
    cases e : fs[i]? with
    | none => exact fine_ok
    | some f => exact faultErr_flt (h.f f (List.mem_of_getElem? e))
def pairR (n : NetT) (fs : List FaultT) (ts : List (List Int)) (list others : List Int) (a b : Nat) : Bool := !(apartR n (fAt fs a) (fAt fs b) ts others && !apartR n (fAt fs a) (fAt fs b) ts list)
def tellsR (n : NetT) (fs : List FaultT) (ts : List (List Int)) (list others : List Int) : Bool := (List.range (fs.length + 1)).all fun a => (List.range a).all fun b => pairR n fs ts list others a b
end Go.Proofs.YtfpaonfddaeamaaGreatDoor
namespace Go.Proofs.YtfpaonfddaeamaaGreatDoor
open Go Go.QL
set_option maxHeartbeats 3200000
attribute [local irreducible] ACall FnC
def numF : List FaultT → Nat → List (Nat × FaultT)
  | [], _ => []
  | f :: r, i => (i + 1, f) :: numF r (i + 1)
theorem numF_len : ∀ (fs : List FaultT) (i : Nat), (numF fs i).length = fs.length
  | [], _ => rfl
  | f :: r, i => by simp [numF, numF_len r]
theorem numF_get : ∀ (fs : List FaultT) (i j : Nat), (numF fs i)[j]? = (fs[j]?).map fun f => (i + j + 1, f)
  | [], _, j => by simp [numF]
  | f :: r, i, j => by
    cases j with
    | zero => simp [numF]
    | succ j =>
      simp only [numF, List.getElem?_cons_succ]
      rw [numF_get r (i + 1) j]
      congr 1
      funext f
      rw [show i + 1 + j + 1 = i + (j + 1) + 1 by omega]
theorem numF_snoc (fs : List FaultT) (f : FaultT) : ∀ i, numF (fs ++ [f]) i = numF fs i ++ [(i + fs.length + 1, f)] := by
  induction fs with
  | nil => intro i; simp [numF]
  | cons g r ih =>
    intro i
    simp only [List.cons_append, numF, ih]
    rw [List.length_cons, show i + 1 + r.length + 1 = i + (r.length + 1) + 1 by omega]
theorem kvF_app (l : List (Nat × FaultT)) (p : Nat × FaultT) : kvF (l ++ [p]) = kvF l ++ [(.int .i64 p.1, faultAV p.2)] := by unfold kvF; rw [List.map_append]; rfl
theorem kvF_no (fs : List FaultT) (k : Nat) (hk : fs.length ≤ k) (i : Nat) (y : AV) : (kvF (numF fs 0))[i]? ≠ some (.int .i64 ((k : Int) + 1), y) := by
  intro h
  unfold kvF at h
  rw [List.getElem?_map, numF_get] at h
  cases hf : fs[i]? with
  | none => rw [hf] at h; cases h
  | some f =>
    rw [hf] at h
    have hi := (List.getElem?_eq_some_iff.1 hf).1
    simp only [Option.map_some, Option.some.injEq, Prod.mk.injEq, Value.int.injEq, true_and] at h
    have := h.1
    omega
abbrev BQ' := Nat × Nat × List W16
theorem viewO' {σ : Sg} {c e sz st : Nat} {xs : List (List PV)} {n : Nat} (h : lk c σ = some (.chain e sz st xs)) (hn : n = xs.length) : viewSV σ (.o c st n) = some (.d (.s sz xs)) := by
  subst hn
  simp [viewSV, h]
def lanesR (n : NetT) (fs : List FaultT) (t : List Int) : List (List Int) := (List.range (fs.length + 1)).map fun l => oR n (fAt fs l) t
def triedR (n : NetT) (fs : List FaultT) (ts : List (List Int)) : List (List (List Int)) × Int :=
  if askedR n fs ts = 0 then (ts.map fun t => lanesR n fs t, 0) else ([], askedR n fs ts)
def rowsPV (l : List (List Int)) : PV := .s 1 (l.map fun r => [intsPV r])
def cubePV (l : List (List (List Int))) : List (List PV) := l.map fun r => [rowsPV r]
def cubeAV (l : List (List (List Int))) : AV := .x (.d (.s 1 (cubePV l)))
theorem num_lanes {n : NetT} {fs : List FaultT} {ts : List (List Int)} (h : AskOK n fs ts) : LanesOK (skF n (numF fs 0) (List.range (numF fs 0).length)) (fAt fs) (fs.length + 1) := by
  intro l hl
  have hfl := h.fl
  refine ⟨skF_lane n (numF fs 0) l (by omega) (fAt fs l) (fun j l' f' hj hl' => ?_) ?_, fAt_ok h l⟩
  · rw [numF_get] at hj
    cases hf : fs[j]? with
    | none => rw [hf] at hj; cases hj
    | some f =>
      rw [hf] at hj
      simp only [Option.map_some, Option.some.injEq, Prod.mk.injEq] at hj
      obtain ⟨h1, rfl⟩ := hj
      have : l = j + 1 := by omega
      subst this
      show f = fs.getD j fine
      rw [List.getD_eq_getElem?_getD, hf]; rfl
  · cases l with
    | zero =>
      refine .inr ⟨rfl, fun j f' hj => ?_⟩
      rw [numF_get] at hj
      cases hf : fs[j]? with
      | none => rw [hf] at hj; cases hj
      | some f =>
        rw [hf] at hj
        simp at hj
    | succ l =>
      left
      refine ⟨l, ?_⟩
      have hf : fs[l]? = some (fs[l]'(by omega)) := List.getElem?_eq_getElem (by omega)
      rw [numF_get, hf]
      show some (0 + l + 1, _) = some (l + 1, fs.getD l fine)
      rw [List.getD_eq_getElem?_getD, hf, Nat.zero_add]; rfl
theorem num_ok {n : NetT} {fs : List FaultT} {ts : List (List Int)} (h : AskOK n fs ts) : ∀ i (hi : i < (numF fs 0).length), (numF fs 0)[i].1 < 16 ∧ 0 ≤ (numF fs 0)[i].2.sig ∧ (numF fs 0)[i].2.sig < n.inn + n.gates.length ∧ ((numF fs 0)[i].2.at_ = 0 ∨ (numF fs 0)[i].2.at_ = 1) := by
  intro i hi
  have hl := numF_len fs 0
  have hfl := h.fl
  have hg : (numF fs 0)[i]? = some (numF fs 0)[i] := List.getElem?_eq_getElem hi
  rw [numF_get] at hg
  have hf : fs[i]? = some (fs[i]'(by omega)) := List.getElem?_eq_getElem (by omega)
  rw [hf] at hg
  simp only [Option.map_some, Option.some.injEq] at hg
  rw [← hg]
  exact ⟨by show 0 + i + 1 < 16; omega, faultErr_ok (h.f _ (List.getElem_mem _))⟩
theorem tried_fn (n : NetT) (hi : i64 n.inn) (fs : List FaultT) (ts : List (List Int)) (hr : askedR n fs ts = 0 → RunsAt (fs.length + 1)) : FnC Tryz.prog 56 [netAV n, faultsAV fs, rowsAV ts] (.t [cubeAV (triedR n fs ts).1, iv .i64 (triedR n fs ts).2]) := by
  refine FnC_of_AWL hTt Tryz.func56 rfl (by kernel_rfl) (res := [.tmp 6, .tmp 7]) rfl Tryz.ntmps56 (by simp) fun w0 K0 => ?_
  dsimp only [entry]
  have ck := pcheck_fn n hi
  by_cases hc : (checkR n).2.2 = 0
  · have ok := NetOK.of hc
    rw [three_err' hc] at ck
    by_cases hl : 12 < fs.length ∨ 10 < ts.length
    · rw [show triedR n fs ts = ([], 3) from by
        have : askedR n fs ts = 3 := by unfold askedR; rw [if_pos hc, if_pos hl]
        unfold triedR; rw [this]; rfl]
      repeat' first | with_reducible refine AW_seq ?_ | ((first | with_reducible refine AW_skip ?_ | with_reducible refine AW_ret ?_ | with_reducible refine AW_region hTt ?_ | ((refine ⟨_, (ck).call rfl rfl, ?_⟩); (rintro _ _ ⟨rfl, rfl⟩)) | fail); conv => whnf) | (exfalso; rcases hl with hl | hl <;> simp [hl] at hb <;> omega) | (refine AW_cond rfl (fun hb => absurd hb (by decide)) (fun _ => ?_)) | (refine AW_cond rfl (fun hb => ?_) (fun hb => ?_) <;> first | (replace hb := of_decide_eq_true hb; try simp only [List.length_map] at hb) | (replace hb := of_decide_eq_false hb; try simp only [List.length_map] at hb) | (simp only [List.length_map, bne_iff_ne, ne_eq, beq_iff_eq, bne_eq_false_iff_eq, beq_eq_false_iff_ne, decide_eq_true_eq, decide_eq_false_iff_not, Bool.not_eq_true', Bool.not_eq_false', Int.natCast_inj] at hb)) | ((refine andA ?_); conv => whnf) | (refine fun hln => ?_; (try rw [List.length_map] at hln); unfold maxLen at hln; conv => whnf) | fail
      exact ⟨_, rfl, _, rfl, LeAV1.nil 1, LeAV1.refl _, trivial⟩
    · have hA : askedR n fs ts = firstErr (fs.map (faultErr n) ++ ts.map (insErr n)) := by unfold askedR; rw [if_pos hc, if_neg hl]
      repeat' first | with_reducible refine AW_seq ?_ | with_reducible refine AW_block ?_ | ((first | with_reducible refine AW_skip ?_ | with_reducible refine AW_ret ?_ | with_reducible refine AW_region hTt ?_ | ((refine ⟨_, (ck).call rfl rfl, ?_⟩); (rintro _ _ ⟨rfl, rfl⟩)) | fail); conv => whnf) | (exfalso; simp at hb; omega) | (refine AW_cond rfl (fun hb => absurd hb (by decide)) (fun _ => ?_)) | (refine AW_cond rfl (fun hb => ?_) (fun hb => ?_) <;> first | (replace hb := of_decide_eq_true hb; try simp only [List.length_map] at hb) | (replace hb := of_decide_eq_false hb; try simp only [List.length_map] at hb) | (simp only [List.length_map, bne_iff_ne, ne_eq, beq_iff_eq, bne_eq_false_iff_eq, beq_eq_false_iff_ne, decide_eq_true_eq, decide_eq_false_iff_not, Bool.not_eq_true', Bool.not_eq_false', Int.natCast_inj] at hb)) | ((refine andA ?_); conv => whnf) | (refine fun hln => ?_; (try rw [List.length_map] at hln); unfold maxLen at hln; conv => whnf) | fail
      refine AW_loop (fun i : Nat => [(36, iv .i64 i), (35, iv .i64 fs.length), (34, faultsAV fs), (8, .x (.h 33)), (6, .x (.d (.v (.slice none 0 0)))), (3, .x (.b 3 0)), (1, faultsAV fs), (2, rowsAV ts)]) (fun i => [(33, mapF (numF (fs.take i) 0)), (3, netCells n)])
        (fun i => i ≤ fs.length ∧ askedR n fs ts = firstErr ((fs.drop i).map (faultErr n) ++ ts.map (insErr n))) (fun i => fs.length - i) 0 ⟨Nat.zero_le _, hA⟩ impA ?_
      rintro i ⟨hi', hR⟩
      rcases Nat.lt_or_ge i fs.length with hil | hil
      · obtain ⟨f, hf⟩ : ∃ f, fs[i]? = some f := ⟨_, List.getElem?_eq_getElem hil⟩
        have hdr : fs.drop i = f :: fs.drop (i + 1) := by
          rw [List.drop_eq_getElem_cons hil]
          congr 1
          rw [List.getElem?_eq_getElem hil] at hf
          exact Option.some.inj hf
        rw [hdr, List.map_cons, List.cons_append, firstErr_cons] at hR
        have hfe := pwrong_fn n f ok.h1 ok.h6 ok.hl
        by_cases he : faultErr n f = 0
        · rw [if_pos he] at hR
          rw [he] at hfe
          have htk : fs.take (i + 1) = fs.take i ++ [f] := by rw [List.take_add_one, hf]; rfl
          have hkv : kvF (numF (fs.take (i + 1)) 0) = kvF (numF (fs.take i) 0) ++ [(.int .i64 ((i : Int) + 1), faultAV f)] := by
            rw [htk, numF_snoc, kvF_app, List.length_take, Nat.min_eq_left (by omega), Nat.zero_add]; rfl
          repeat' first | with_reducible refine AW_seq ?_ | with_reducible refine AW_block ?_ | ((first | with_reducible refine AW_skip ?_ | with_reducible refine AW_exit ?_ | with_reducible refine AW_region hTt ?_ | fail); conv => whnf) | (exact absurd hb (by omega)) | ((first | with_reducible refine Exists.intro _ (And.intro (gd_any (And.intro (by omega) (fault_some hf))) ?_) | ((refine ⟨_, (hfe).call rfl rfl, ?_⟩); (rintro _ _ ⟨rfl, rfl⟩)) | refine And.intro (by first | rfl | decide) ?_ | refine ⟨kvF (numF (fs.take (i + 1)) 0), .inr ⟨kvF_no _ i (by rw [List.length_take]; omega), hkv⟩, ?_⟩ | fail); conv => whnf) | (refine AW_cond rfl (fun hb => absurd hb (by decide)) (fun _ => ?_)) | (refine AW_cond rfl (fun hb => ?_) (fun hb => ?_) <;> first | (replace hb := of_decide_eq_true hb; try simp only [List.length_map] at hb) | (replace hb := of_decide_eq_false hb; try simp only [List.length_map] at hb)) | ((refine ⟨_, wrap_of (by first | omega | (simp only [List.length_map]; omega)), ?_⟩); conv => whnf) | fail
          exact ⟨i + 1, ⟨by omega, hR⟩, by omega, impA⟩
        · rw [if_neg he] at hR
          rw [show triedR n fs ts = ([], faultErr n f) from by unfold triedR; rw [hR, if_neg he]]
          repeat' first | with_reducible refine AW_seq ?_ | with_reducible refine AW_block ?_ | ((first | with_reducible refine AW_skip ?_ | with_reducible refine AW_exit ?_ | with_reducible refine AW_ret ?_ | with_reducible refine AW_region hTt ?_ | fail); conv => whnf) | (exact absurd hb (by omega)) | ((first | with_reducible refine Exists.intro _ (And.intro (gd_any (And.intro (by omega) (fault_some hf))) ?_) | ((refine ⟨_, (hfe).call rfl rfl, ?_⟩); (rintro _ _ ⟨rfl, rfl⟩)) | fail); conv => whnf) | (refine AW_cond rfl (fun hb => ?_) (fun hb => ?_) <;> first | (replace hb := of_decide_eq_true hb; try simp only [List.length_map] at hb) | (replace hb := of_decide_eq_false hb; try simp only [List.length_map] at hb) | (simp only [List.length_map, bne_iff_ne, ne_eq, beq_iff_eq, bne_eq_false_iff_eq, beq_eq_false_iff_ne, decide_eq_true_eq, decide_eq_false_iff_not, Bool.not_eq_true', Bool.not_eq_false', Int.natCast_inj] at hb)) | ((refine andA ?_); conv => whnf) | fail
          exact ⟨_, rfl, _, rfl, LeAV1.nil 1, LeAV1.refl _, trivial⟩
      · rw [List.drop_eq_nil_of_le hil, List.map_nil, List.nil_append] at hR
        rw [List.take_of_length_le hil]
        repeat' first | with_reducible refine AW_seq ?_ | with_reducible refine AW_block ?_ | ((first | with_reducible refine AW_skip ?_ | with_reducible refine AW_exit ?_ | with_reducible refine AW_region hTt ?_ | fail); conv => whnf) | (exact absurd hb (by omega)) | (refine AW_cond rfl (fun hb => ?_) (fun hb => ?_) <;> first | (replace hb := of_decide_eq_true hb; try simp only [List.length_map] at hb) | (replace hb := of_decide_eq_false hb; try simp only [List.length_map] at hb)) | (refine fun hln => ?_; (try rw [List.length_map] at hln); unfold maxLen at hln; conv => whnf) | fail
        clear hil hi' hA
        refine AW_loop (fun i : Nat => [(54, iv .i64 i), (53, iv .i64 ts.length), (52, rowsAV ts), (8, .x (.h 33)), (6, .x (.d (.v (.slice none 0 0)))), (3, .x (.b 3 0)), (1, faultsAV fs), (2, rowsAV ts)]) (fun i => [(33, mapF (numF fs 0)), (3, netCells n)])
          (fun i => i ≤ ts.length ∧ askedR n fs ts = firstErr ((ts.drop i).map (insErr n))) (fun i => ts.length - i) 0 ⟨Nat.zero_le _, hR⟩ impA ?_
        clear hR
        rintro i ⟨hi', hR⟩
        rcases Nat.lt_or_ge i ts.length with hil | hil
        · obtain ⟨t, ht⟩ : ∃ t, ts[i]? = some t := ⟨_, List.getElem?_eq_getElem hil⟩
          have hdr : ts.drop i = t :: ts.drop (i + 1) := by
            rw [List.drop_eq_getElem_cons hil]
            congr 1
            rw [List.getElem?_eq_getElem hil] at ht
            exact Option.some.inj ht
          rw [hdr, List.map_cons, firstErr_cons] at hR
          have hte := pins_fn n ok.h1 ok.h6 t
          by_cases he : insErr n t = 0
          · rw [if_pos he] at hR
            rw [he] at hte
            repeat' first | with_reducible refine AW_seq ?_ | with_reducible refine AW_block ?_ | ((first | with_reducible refine AW_skip ?_ | with_reducible refine AW_exit ?_ | with_reducible refine AW_region hTt ?_ | fail); conv => whnf) | (exact absurd hb (by omega)) | ((first | with_reducible refine Exists.intro _ (And.intro (gd_any (And.intro (by omega) (row_some ht))) ?_) | ((refine ⟨_, (hte).call rfl rfl, ?_⟩); (rintro _ _ ⟨rfl, rfl⟩)) | fail); conv => whnf) | (refine AW_cond rfl (fun hb => absurd hb (by decide)) (fun _ => ?_)) | (refine AW_cond rfl (fun hb => ?_) (fun hb => ?_) <;> first | (replace hb := of_decide_eq_true hb; try simp only [List.length_map] at hb) | (replace hb := of_decide_eq_false hb; try simp only [List.length_map] at hb)) | ((first | refine ⟨_, wrap_of (by first | omega | (simp only [List.length_map]; omega)), ?_⟩ | refine andA ?_ | fail); conv => whnf) | fail
            exact ⟨i + 1, ⟨by omega, hR⟩, by omega, impA⟩
          · rw [if_neg he] at hR
            rw [show triedR n fs ts = ([], insErr n t) from by unfold triedR; rw [hR, if_neg he]]
            repeat' first | with_reducible refine AW_seq ?_ | with_reducible refine AW_block ?_ | ((first | with_reducible refine AW_skip ?_ | with_reducible refine AW_exit ?_ | with_reducible refine AW_ret ?_ | with_reducible refine AW_region hTt ?_ | fail); conv => whnf) | (exact absurd hb (by omega)) | ((first | with_reducible refine Exists.intro _ (And.intro (gd_any (And.intro (by omega) (row_some ht))) ?_) | ((refine ⟨_, (hte).call rfl rfl, ?_⟩); (rintro _ _ ⟨rfl, rfl⟩)) | fail); conv => whnf) | (refine AW_cond rfl (fun hb => ?_) (fun hb => ?_) <;> first | (replace hb := of_decide_eq_true hb; try simp only [List.length_map] at hb) | (replace hb := of_decide_eq_false hb; try simp only [List.length_map] at hb) | (simp only [List.length_map, bne_iff_ne, ne_eq, beq_iff_eq, bne_eq_false_iff_eq, beq_eq_false_iff_ne, decide_eq_true_eq, decide_eq_false_iff_not, Bool.not_eq_true', Bool.not_eq_false', Int.natCast_inj] at hb)) | ((refine andA ?_); conv => whnf) | fail
            exact ⟨_, rfl, _, rfl, LeAV1.nil 1, LeAV1.refl _, trivial⟩
        · rw [List.drop_eq_nil_of_le hil] at hR
          have hR : askedR n fs ts = 0 := hR
          have h := AskOK.of hR
          have hfl := h.fl
          have htl := h.tl
          rw [show triedR n fs ts = (ts.map fun t => lanesR n fs t, 0) from if_pos hR]
          have hbm := build_map n ok.h1 ok.h6 ok.hl (numF fs 0) (num_ok h)
          have hrr := hr hR
          repeat' first | with_reducible refine AW_seq ?_ | with_reducible refine AW_block ?_ | ((first | with_reducible refine AW_skip ?_ | with_reducible refine AW_exit ?_ | with_reducible refine AW_region hTt ?_ | fail); conv => whnf) | (exact absurd hb (by omega)) | ((refine ⟨_, (hbm).frame (asc [(700, 33), (19, 900), (17, 901)]) (by repeat (first | exact trivial | refine ⟨rfl, ?_⟩)) rfl (by rintro _ _ ⟨_, rfl, rfl⟩; rfl), ?_⟩); (rintro _ _ ⟨_, _, ⟨_, rfl, rfl⟩, rfl, rfl⟩); conv => whnf) | (refine AW_cond rfl (fun hb => ?_) (fun hb => ?_) <;> first | (replace hb := of_decide_eq_true hb; try simp only [List.length_map] at hb) | (replace hb := of_decide_eq_false hb; try simp only [List.length_map] at hb)) | (refine fun hln => ?_; (try rw [List.length_map] at hln); unfold maxLen at hln; conv => whnf) | fail
          clear hil hi' hR
          rename_i s2
          have hsk := num_lanes h
          have hrun : ∀ (q : BQ') (t : List Int), t.length ≤ 4096 → ACall Tryz.prog 51 [.x (.b 900 0), iv .i64 (((fs.map faultPV).length : Int) + 1), sl t] (sB n 0 (skF n (numF fs 0) (List.range (numF fs 0).length)) s2 (dl0 n) q.1 q.2.1 q.2.2)
              (fun r σ' => ∃ p : Nat × Nat × List W16, r = rowsAV (lanesR n fs t) ∧ σ' = sB n 0 (skF n (numF fs 0) (List.range (numF fs 0).length)) s2 (dl0 n) p.1 p.2.1 p.2.2) := fun q t htt => by
            rw [List.length_map]
            exact hrr n ok _ _ (skF_len n _ _) _ _ _ _ _ hsk t htt
          refine AW_imp (Imp.nil 6 53 1 (fr' := [(70, iv .i64 0), (69, iv .i64 ts.length), (68, rowsAV ts), (13, .x (.b 900 0)), (6, .x (.o 6 0 0)), (1, faultsAV fs)])
            (σ' := sB n 0 (skF n (numF fs 0) (List.range (numF fs 0).length)) s2 (dl0 n) 0 0 []) rfl ?_ ?_ rfl rfl) ?_
          · exact ⟨⟨_, rfl, .inl rfl⟩, ⟨_, congrArg (fun k : Nat => some (iv .i64 k)) (List.length_map _), .inl rfl⟩, ⟨_, rfl, .inl rfl⟩, ⟨_, rfl, .inl rfl⟩, ⟨_, rfl, .inr ⟨rfl, rfl⟩⟩, ⟨_, rfl, .inl rfl⟩, trivial⟩
          · exact ⟨⟨_, rfl, .inl rfl⟩, ⟨_, rfl, .inl rfl⟩, ⟨_, rfl, .inl rfl⟩, ⟨_, rfl, .inl rfl⟩, trivial⟩
          refine AW_loop (fun p : Nat × BQ' => [(70, iv .i64 p.1), (69, iv .i64 ts.length), (68, rowsAV ts), (13, .x (.b 900 0)), (6, .x (.o 6 p.1 p.1)), (1, faultsAV fs)])
            (fun p => (6, .chain 53 1 p.1 (cubePV ((ts.take p.1).map fun t => lanesR n fs t))) :: sB n 0 (skF n (numF fs 0) (List.range (numF fs 0).length)) s2 (dl0 n) p.2.1 p.2.2.1 p.2.2.2)
            (fun p => p.1 ≤ ts.length) (fun p => ts.length - p.1) (0, 0, 0, []) (Nat.zero_le _) impA ?_
          clear hb
          rintro ⟨i, q⟩ hi
          dsimp only at hi ⊢
          have hlen : (cubePV ((ts.take i).map fun t => lanesR n fs t)).length = i := by unfold cubePV; rw [List.length_map, List.length_map, List.length_take]; omega
          rcases Nat.lt_or_ge i ts.length with hil | hil
          · obtain ⟨t, ht⟩ : ∃ t, ts[i]? = some t := ⟨_, List.getElem?_eq_getElem hil⟩
            have hto := insErr_ok (h.t t (List.mem_of_getElem? ht))
            have hr := hrun q t (by omega)
            have hst : (cubePV ((ts.take i).map fun t => lanesR n fs t)).take i ++ [[rowsPV (lanesR n fs t)]] = cubePV ((ts.take (i + 1)).map fun t => lanesR n fs t) := by
              rw [List.take_of_length_le (Nat.le_of_eq hlen), List.take_add_one, ht]
              unfold cubePV
              rw [List.map_append, List.map_append]; rfl
            clear hrun hto hsk hbm
            repeat' first | with_reducible refine AW_seq ?_ | with_reducible refine AW_block ?_ | ((first | with_reducible refine AW_skip ?_ | with_reducible refine AW_exit ?_ | with_reducible refine AW_ret ?_ | with_reducible refine AW_region hTt ?_ | fail); conv => whnf) | (exact absurd hb (by omega)) | ((first | with_reducible refine Exists.intro _ (And.intro (gd_any (And.intro (by omega) (row_some ht))) ?_) | ((refine ⟨_, (hr).frame (asc []) (by repeat (first | exact trivial | refine ⟨rfl, ?_⟩)) rfl (by rintro _ _ ⟨_, rfl, rfl⟩; rfl), ?_⟩); (rintro _ _ ⟨_, _, ⟨_, rfl, rfl⟩, rfl, rfl⟩)) | refine And.intro ⟨Nat.le_of_eq hlen.symm, by show i + 1 ≤ maxLen; unfold maxLen; omega, by show (i + 1) * 24 ≤ 140737488355328; omega⟩ ?_ | fail); conv => whnf) | (refine AW_cond rfl (fun hb => ?_) (fun hb => ?_) <;> first | (replace hb := of_decide_eq_true hb; try simp only [List.length_map] at hb) | (replace hb := of_decide_eq_false hb; try simp only [List.length_map] at hb)) | ((first | refine ⟨_, wrap_of (by first | omega | (simp only [List.length_map]; omega)), ?_⟩ | refine andA ?_ | fail); conv => whnf) | (refine fun hln => ?_; (try rw [List.length_map] at hln); unfold maxLen at hln; conv => whnf) | fail
            rename_i q'
            exact ⟨(i + 1, q'), by show i + 1 ≤ ts.length; omega, by show ts.length - (i + 1) < ts.length - i; omega, impA⟩
          · have hie : i = ts.length := by omega
            subst hie
            clear hrun hsk hbm
            repeat' first | with_reducible refine AW_seq ?_ | with_reducible refine AW_block ?_ | ((first | with_reducible refine AW_skip ?_ | with_reducible refine AW_exit ?_ | with_reducible refine AW_ret ?_ | with_reducible refine AW_region hTt ?_ | fail); conv => whnf) | (exact absurd hb (by omega)) | (refine AW_cond rfl (fun hb => ?_) (fun hb => ?_) <;> first | (replace hb := of_decide_eq_true hb; try simp only [List.length_map] at hb) | (replace hb := of_decide_eq_false hb; try simp only [List.length_map] at hb)) | fail
            rw [List.take_of_length_le (Nat.le_refl _)] at hlen ⊢
            refine ⟨.t [cubeAV (ts.map fun t => lanesR n fs t), iv .i64 0], ?_, LeAV.refl _⟩
            show viewAV ((6, Ob.chain 53 1 ts.length (cubePV (ts.map fun t => lanesR n fs t))) :: sB n 0 (skF n (numF fs 0) (List.range (numF fs 0).length)) s2 (dl0 n) q.1 q.2.1 q.2.2) (.t [.x (.o 6 ts.length ts.length), iv .i64 0]) = _
            simp only [viewAV, viewAVs, viewAV1]
            rw [viewO' (σ := (6, Ob.chain 53 1 ts.length (cubePV (ts.map fun t => lanesR n fs t))) :: sB n 0 (skF n (numF fs 0) (List.range (numF fs 0).length)) s2 (dl0 n) q.1 q.2.1 q.2.2) rfl hlen.symm]
            rfl
  · rw [show triedR n fs ts = ([], (checkR n).2.2) from by
      have : askedR n fs ts = (checkR n).2.2 := by unfold askedR; rw [if_neg hc]
      unfold triedR; rw [this, if_neg hc]]
    repeat' first | with_reducible refine AW_seq ?_ | ((first | with_reducible refine AW_skip ?_ | with_reducible refine AW_ret ?_ | with_reducible refine AW_region hTt ?_ | fail); conv => whnf) | (exact absurd hb (by omega)) | ((refine ⟨_, (ck).call rfl rfl, ?_⟩); (rintro _ _ ⟨rfl, rfl⟩); conv => whnf) | (refine AW_cond rfl (fun hb => ?_) (fun hb => ?_) <;> first | (replace hb := of_decide_eq_true hb; try simp only [List.length_map] at hb) | (replace hb := of_decide_eq_false hb; try simp only [List.length_map] at hb) | (simp only [List.length_map, bne_iff_ne, ne_eq, beq_iff_eq, bne_eq_false_iff_eq, beq_eq_false_iff_ne, decide_eq_true_eq, decide_eq_false_iff_not, Bool.not_eq_true', Bool.not_eq_false', Int.natCast_inj] at hb)) | fail
    exact ⟨_, rfl, _, rfl, LeAV1.nil 1, LeAV1.refl _, trivial⟩
end Go.Proofs.YtfpaonfddaeamaaGreatDoor
namespace Go.Proofs.YtfpaonfddaeamaaGreatDoor
open Go Go.QL
set_option maxHeartbeats 3200000
attribute [local irreducible] ACall FnC
theorem equal_fn (a b : List Int) : FnC Tryz.prog 57 [sl a, sl b] (bv (sameInts a b)) := by
  refine FnC_of_AW hTt Tryz.func57 rfl (by kernel_rfl) (res := [.tmp 4]) rfl Tryz.ntmps57 (by simp) fun w0 K0 => ?_
  dsimp only [entry]
  by_cases hl : a.length = b.length
  · repeat' first | with_reducible refine AW_seq ?_ | with_reducible refine AW_block ?_ | ((first | with_reducible refine AW_skip ?_ | with_reducible refine AW_ret ?_ | with_reducible refine AW_region hTt ?_ | fail); conv => whnf) | (exact absurd hb (by omega)) | (refine AW_cond rfl (fun hb => ?_) (fun hb => ?_) <;> first | (replace hb := of_decide_eq_true hb; try simp only [List.length_map] at hb) | (replace hb := of_decide_eq_false hb; try simp only [List.length_map] at hb) | (simp only [List.length_map, bne_iff_ne, ne_eq, beq_iff_eq, bne_eq_false_iff_eq, beq_eq_false_iff_ne, decide_eq_true_eq, decide_eq_false_iff_not, Bool.not_eq_true', Bool.not_eq_false', Int.natCast_inj] at hb)) | (refine fun hln => ?_; (try rw [List.length_map] at hln); unfold maxLen at hln; conv => whnf) | fail
    refine AW_loop (fun i : Nat => [(13, iv .i64 i), (12, iv .i64 a.length), (11, sl a), (0, sl a), (1, sl b)]) (fun _ => []) (fun i => i ≤ a.length ∧ a.take i = b.take i) (fun i => a.length - i) 0 (by simp) impA ?_
    rintro i ⟨hi, htk⟩
    rcases Nat.lt_or_ge i a.length with hil | hil
    · obtain ⟨x, hx⟩ : ∃ x, a[i]? = some x := ⟨_, List.getElem?_eq_getElem hil⟩
      obtain ⟨y, hy⟩ : ∃ y, b[i]? = some y := ⟨_, List.getElem?_eq_getElem (by omega)⟩
      repeat' first | with_reducible refine AW_seq ?_ | with_reducible refine AW_block ?_ | ((first | with_reducible refine AW_skip ?_ | with_reducible refine AW_exit ?_ | with_reducible refine AW_ret ?_ | with_reducible refine AW_region hTt ?_ | refine AW_draw hTt hMix (id := 6) 8 false [0, 0, 3, 7, 0, 0, 48, 112, 255] (by kernel_rfl) rfl rfl (by kernel_rfl) ?_ | fail); conv => whnf) | (exact absurd hb (by omega)) | ((first | with_reducible refine Exists.intro _ (And.intro (gd_any (And.intro (by omega) (map_some hx))) ?_) | with_reducible refine Exists.intro _ (And.intro (gd_any (And.intro (by omega) (map_some hy))) ?_) | fail); conv => whnf) | (refine AW_cond rfl (fun hb => ?_) (fun hb => ?_) <;> first | (replace hb := of_decide_eq_true hb; try simp only [List.length_map] at hb) | (replace hb := of_decide_eq_false hb; try simp only [List.length_map] at hb) | (simp only [List.length_map, bne_iff_ne, ne_eq, beq_iff_eq, bne_eq_false_iff_eq, beq_eq_false_iff_ne, decide_eq_true_eq, decide_eq_false_iff_not, Bool.not_eq_true', Bool.not_eq_false', Int.natCast_inj] at hb)) | ((first | refine ⟨_, wrap_of (by first | omega | (simp only [List.length_map]; omega)), ?_⟩ | refine andA ?_ | fail); conv => whnf) | fail
      · have hxy : ¬ x = y := hb
        have hne : a ≠ b := fun h => by
          rw [h, hy] at hx
          exact hxy (Option.some.inj hx).symm
        have : sameInts a b = false := decide_eq_false hne
        rw [this]; rfl
      · refine ⟨i + 1, ⟨by omega, ?_⟩, by omega, impA⟩
        rw [List.take_add_one, List.take_add_one, htk, hx, hy, hb]
    · repeat' first | with_reducible refine AW_seq ?_ | with_reducible refine AW_block ?_ | ((first | with_reducible refine AW_skip ?_ | with_reducible refine AW_exit ?_ | with_reducible refine AW_ret ?_ | with_reducible refine AW_region hTt ?_ | refine AW_draw hTt hMix (id := 6) 8 false [0, 0, 3, 7, 0, 0, 48, 112, 255] (by kernel_rfl) rfl rfl (by kernel_rfl) ?_ | fail); conv => whnf) | (exact absurd hb (by omega)) | (refine AW_cond rfl (fun hb => ?_) (fun hb => ?_) <;> first | (replace hb := of_decide_eq_true hb; try simp only [List.length_map] at hb) | (replace hb := of_decide_eq_false hb; try simp only [List.length_map] at hb)) | fail
      have : sameInts a b = true := decide_eq_true (by
        have h1 := List.take_of_length_le (l := a) (i := i) (by omega)
        have h2 := List.take_of_length_le (l := b) (i := i) (by omega)
        rw [← h1, ← h2, htk])
      rw [this]; rfl
  · repeat' first | with_reducible refine AW_seq ?_ | ((first | with_reducible refine AW_skip ?_ | with_reducible refine AW_ret ?_ | with_reducible refine AW_region hTt ?_ | fail); conv => whnf) | (exact absurd hb (by omega)) | (refine AW_cond rfl (fun hb => ?_) (fun hb => ?_) <;> first | (replace hb := of_decide_eq_true hb; try simp only [List.length_map] at hb) | (replace hb := of_decide_eq_false hb; try simp only [List.length_map] at hb) | (simp only [List.length_map, bne_iff_ne, ne_eq, beq_iff_eq, bne_eq_false_iff_eq, beq_eq_false_iff_ne, decide_eq_true_eq, decide_eq_false_iff_not, Bool.not_eq_true', Bool.not_eq_false', Int.natCast_inj] at hb)) | (refine fun hln => ?_; (try rw [List.length_map] at hln); unfold maxLen at hln; conv => whnf) | fail
    have : sameInts a b = false := decide_eq_false fun h => hl (by rw [h])
    rw [this]; rfl
theorem sameInts_comm (a b : List Int) : sameInts a b = sameInts b a := decide_eq_decide.2 ⟨fun h => h.symm, fun h => h.symm⟩
theorem lanes_cons (n : NetT) (fs : List FaultT) (t : List Int) : lanesR n fs t = oR n fine t :: fs.map fun f => oR n f t := by
  unfold lanesR
  rw [List.range_succ_eq_map, List.map_cons, List.map_map]
  congr 1
  apply List.ext_getElem
  · simp
  · intro i h1 h2
    simp only [List.getElem_map, List.getElem_range, Function.comp]
    have : fAt fs (i + 1) = fs[i]'(by simpa using h2) := by
      show fs.getD i fine = _
      rw [List.getD_eq_getElem?_getD, List.getElem?_eq_getElem]; rfl
    rw [this]
theorem rows_some {L : List (List (List Int))} {i : Nat} {r : List (List Int)} (h : L[i]? = some r) : (cubePV L)[((i : Int)).toNat]? = some [rowsPV r] := by simp [cubePV, h]
def rowPVb' (n : NetT) (fs : List FaultT) (t : List Int) : List PV := [boolsPV (rowR n fs t)]
theorem ptable_fn (n : NetT) (hi : i64 n.inn) (fs : List FaultT) (ts : List (List Int)) (hr : askedR n fs ts = 0 → RunsAt (fs.length + 1)) : FnC Tryz.prog 30 [netAV n, faultsAV fs, rowsAV ts] (.t [tableAV (tableR n fs ts).1, iv .i64 (tableR n fs ts).2]) := by
  refine FnC_of_AWL hTt Tryz.func30 rfl (by kernel_rfl) (res := [.tmp 6, .tmp 7]) rfl Tryz.ntmps30 (by simp) fun w0 K0 => ?_
  dsimp only [entry]
  have htr := tried_fn n hi fs ts hr
  by_cases hc : askedR n fs ts = 0
  · have h := AskOK.of hc
    rw [show tableR n fs ts = (ts.map fun t => rowR n fs t, 0) from if_pos hc]
    rw [show triedR n fs ts = (ts.map fun t => lanesR n fs t, 0) from if_pos hc] at htr
    have hfl := h.fl
    have htl := h.tl
    repeat' first | with_reducible refine AW_seq ?_ | with_reducible refine AW_block ?_ | ((first | with_reducible refine AW_region hTt ?_ | ((refine ⟨_, (htr).call rfl rfl, ?_⟩); (rintro _ _ ⟨rfl, rfl⟩)) | fail); conv => whnf) | (refine fun hln => ?_; (try rw [List.length_map] at hln); unfold maxLen at hln; conv => whnf) | fail
    refine AW_imp (Imp.nil 6 67 1 (fr' := [(23, iv .i64 0), (22, iv .i64 ts.length), (21, cubeAV (ts.map fun t => lanesR n fs t)), (6, .x (.o 6 0 0)), (7, iv .i64 0)]) (σ' := []) rfl ?_ ?_ rfl rfl) ?_
    · exact ⟨⟨_, rfl, .inl rfl⟩, ⟨_, congrArg (fun k : Nat => some (iv .i64 k)) (by unfold cubePV; rw [List.length_map, List.length_map]), .inl rfl⟩, ⟨_, rfl, .inl rfl⟩, ⟨_, rfl, .inr ⟨rfl, rfl⟩⟩, ⟨_, rfl, .inl rfl⟩, trivial⟩
    · exact trivial
    refine AW_loop (fun i : Nat => [(23, iv .i64 i), (22, iv .i64 ts.length), (21, cubeAV (ts.map fun t => lanesR n fs t)), (6, .x (.o 6 i i)), (7, iv .i64 0)]) (fun i => [(6, .chain 67 1 i ((ts.take i).map (rowPVb' n fs)))])
      (fun i => i ≤ ts.length) (fun i => ts.length - i) 0 (Nat.zero_le _) impA ?_
    intro i hi'
    have hlen : (ts.take i).length = i := by rw [List.length_take]; omega
    have hlm : ((ts.take i).map (rowPVb' n fs)).length = i := by rw [List.length_map]; exact hlen
    rcases Nat.lt_or_ge i ts.length with hil | hil
    · obtain ⟨t, ht⟩ : ∃ t, ts[i]? = some t := ⟨_, List.getElem?_eq_getElem hil⟩
      have htL : (ts.map fun t => lanesR n fs t)[i]? = some (lanesR n fs t) := by rw [List.getElem?_map, ht]; rfl
      have hlc := lanes_cons n fs t
      have hll : (lanesR n fs t).length = fs.length + 1 := by rw [hlc]; simp
      have htail : (((lanesR n fs t).map fun r => [intsPV r]).take ((((lanesR n fs t).map fun r => [intsPV r]).length : Int)).toNat).drop (1 : Int).toNat = (fs.map fun f => oR n f t).map fun r => [intsPV r] := by
        rw [Int.toNat_natCast, List.take_of_length_le (Nat.le_refl _), hlc]; rfl
      have h0 : ((lanesR n fs t).map fun r => [intsPV r])[(0 : Int).toNat]? = some [intsPV (oR n fine t)] := by rw [hlc]; rfl
      repeat' first | with_reducible refine AW_seq ?_ | with_reducible refine AW_block ?_ | ((first | with_reducible refine AW_skip ?_ | with_reducible refine AW_exit ?_ | with_reducible refine AW_ret ?_ | with_reducible refine AW_region hTt ?_ | fail); conv => whnf) | (exact absurd hb (by omega)) | ((with_reducible refine Exists.intro _ (And.intro (gd_any (And.intro (by omega) (rows_some htL))) ?_)); conv => whnf) | (refine AW_cond rfl (fun hb => ?_) (fun hb => ?_) <;> first | (replace hb := of_decide_eq_true hb; try simp only [List.length_map] at hb) | (replace hb := of_decide_eq_false hb; try simp only [List.length_map] at hb)) | ((first | refine andA ?_ | with_reducible refine And.intro (gd_any (And.intro (by omega) (And.intro (by first | omega | (simp only [List.length_map]; omega)) (by first | omega | (simp only [List.length_map]; omega) | (simp only [List.length_set, List.length_map]; omega))))) ?_ | fail); conv => whnf) | (refine fun hln => ?_; (try rw [List.length_map] at hln); unfold maxLen at hln; conv => whnf) | fail
      refine AW_imp (Imp.nil 11 4 1 (fr' := [(30, iv .i64 0), (29, iv .i64 fs.length), (28, rowsAV (fs.map fun f => oR n f t)), (11, .x (.o 11 0 0)), (10, rowsAV (lanesR n fs t)), (23, iv .i64 i), (22, iv .i64 ts.length), (21, cubeAV (ts.map fun t => lanesR n fs t)), (6, .x (.o 6 i i)), (7, iv .i64 0)])
        (σ' := [(6, .chain 67 1 i ((ts.take i).map (rowPVb' n fs)))]) rfl ?_ ?_ rfl rfl) ?_
      · exact ⟨⟨_, rfl, .inl rfl⟩, ⟨_, congrArg (fun k : Nat => some (iv .i64 k)) (by rw [htail]; simp), .inl rfl⟩, ⟨_, congrArg (fun l => some (AV.x (.d (.s 1 l)))) htail, .inl rfl⟩, ⟨_, rfl, .inr ⟨rfl, rfl⟩⟩, ⟨_, rfl, .inl rfl⟩, ⟨_, rfl, .inl rfl⟩, ⟨_, rfl, .inl rfl⟩, ⟨_, rfl, .inl rfl⟩, ⟨_, rfl, .inl rfl⟩, ⟨_, rfl, .inl rfl⟩, trivial⟩
      · exact ⟨⟨_, rfl, .inl rfl⟩, trivial⟩
      refine AW_loop (fun k : Nat => [(30, iv .i64 k), (29, iv .i64 fs.length), (28, rowsAV (fs.map fun f => oR n f t)), (11, .x (.o 11 k k)), (10, rowsAV (lanesR n fs t)), (23, iv .i64 i), (22, iv .i64 ts.length), (21, cubeAV (ts.map fun t => lanesR n fs t)), (6, .x (.o 6 i i)), (7, iv .i64 0)])
        (fun k => [(11, .chain 4 1 k ((rowR n (fs.take k) t).map bPV)), (6, .chain 67 1 i ((ts.take i).map (rowPVb' n fs)))])
        (fun k => k ≤ fs.length) (fun k => fs.length - k) 0 (Nat.zero_le _) impA ?_
      intro k hk
      have hrl : (rowR n (fs.take k) t).length = k := by unfold rowR; rw [List.length_map, List.length_take]; omega
      rcases Nat.lt_or_ge k fs.length with hkl | hkl
      · obtain ⟨f, hf⟩ : ∃ f, fs[k]? = some f := ⟨_, List.getElem?_eq_getElem hkl⟩
        have hfr : (fs.map fun f => oR n f t)[k]? = some (oR n f t) := by rw [List.getElem?_map, hf]; rfl
        have heq := equal_fn (oR n f t) (oR n fine t)
        rw [sameInts_comm] at heq
        have hst : ((rowR n (fs.take k) t).map bPV).take k ++ [[PV.v (.bool (!sameInts (oR n fine t) (oR n f t)))]] = (rowR n (fs.take (k + 1)) t).map bPV := by
          rw [List.take_of_length_le (by rw [List.length_map]; omega), List.take_add_one, hf]
          unfold rowR
          rw [List.map_append, List.map_append]; rfl
        clear hlen htail hlm
        repeat' first | with_reducible refine AW_seq ?_ | with_reducible refine AW_block ?_ | ((first | with_reducible refine AW_skip ?_ | with_reducible refine AW_exit ?_ | with_reducible refine AW_region hTt ?_ | fail); conv => whnf) | (exact absurd hb (by omega)) | ((first | with_reducible refine Exists.intro _ (And.intro (gd_any (And.intro (by omega) (row_some hfr))) ?_) | with_reducible refine Exists.intro _ (And.intro (gd_any (And.intro (by omega) h0)) ?_) | ((refine ⟨_, (heq).call rfl rfl, ?_⟩); (rintro _ _ ⟨rfl, rfl⟩)) | fail); conv => whnf) | ((refine And.intro (by refine ⟨?_, ?_, ?_⟩ <;> simp [chunk, maxLen, hrl] <;> omega) ?_); conv => whnf) | (refine AW_cond rfl (fun hb => ?_) (fun hb => ?_) <;> first | (replace hb := of_decide_eq_true hb; try simp only [List.length_map] at hb) | (replace hb := of_decide_eq_false hb; try simp only [List.length_map] at hb)) | ((first | refine ⟨_, wrap_of (by first | omega | (simp only [List.length_map]; omega)), ?_⟩ | refine andA ?_ | fail); conv => whnf) | fail
        exact ⟨k + 1, by omega, by omega, impA⟩
      · have hke : k = fs.length := by omega
        subst hke
        rw [List.take_of_length_le (Nat.le_refl _)] at hrl ⊢
        have hfz : AV.x (.d (boolsPV (rowR n fs t))) = .x (.d (.s 1 (((rowR n fs t).map bPV).take fs.length))) := by
          rw [List.take_of_length_le (by rw [List.length_map]; omega)]; rfl
        refine AW_imp (Imp.freeze 11 (fr' := [(30, iv .i64 fs.length), (29, iv .i64 fs.length), (11, .x (.d (boolsPV (rowR n fs t)))), (23, iv .i64 i), (22, iv .i64 ts.length), (21, cubeAV (ts.map fun t => lanesR n fs t)), (6, .x (.o 6 i i)), (7, iv .i64 0)]) (σ' := [(6, .chain 67 1 i ((ts.take i).map (rowPVb' n fs)))]) rfl
          ⟨⟨_, rfl, .inl rfl⟩, ⟨_, rfl, .inl rfl⟩, ⟨_, rfl, .inr ⟨fs.length, rfl, by rw [List.length_map]; omega, hfz⟩⟩, ⟨_, rfl, .inl rfl⟩, ⟨_, rfl, .inl rfl⟩, ⟨_, rfl, .inl rfl⟩, ⟨_, rfl, .inl rfl⟩, ⟨_, rfl, .inl rfl⟩, trivial⟩ ⟨rfl, trivial⟩ rfl rfl) ?_
        have hst : ((ts.take i).map (rowPVb' n fs)).take i ++ [[boolsPV (rowR n fs t)]] = (ts.take (i + 1)).map (rowPVb' n fs) := by
          rw [List.take_of_length_le (by rw [List.length_map]; omega), List.take_add_one, ht, List.map_append]; rfl
        repeat' first | with_reducible refine AW_seq ?_ | with_reducible refine AW_block ?_ | ((first | with_reducible refine AW_skip ?_ | with_reducible refine AW_exit ?_ | with_reducible refine AW_region hTt ?_ | fail); conv => whnf) | (exact absurd hb (by omega)) | ((refine And.intro ⟨Nat.le_of_eq hlm.symm, by show i + 1 ≤ maxLen; unfold maxLen; omega, by show (i + 1) * 24 ≤ 140737488355328; omega⟩ ?_); conv => whnf) | (refine AW_cond rfl (fun hb => ?_) (fun hb => ?_) <;> first | (replace hb := of_decide_eq_true hb; try simp only [List.length_map] at hb) | (replace hb := of_decide_eq_false hb; try simp only [List.length_map] at hb)) | ((first | refine ⟨_, wrap_of (by first | omega | (simp only [List.length_map]; omega)), ?_⟩ | refine andA ?_ | fail); conv => whnf) | fail
        exact ⟨i + 1, by omega, by omega, impA⟩
    · have hie : i = ts.length := by omega
      subst hie
      repeat' first | with_reducible refine AW_seq ?_ | with_reducible refine AW_block ?_ | ((first | with_reducible refine AW_skip ?_ | with_reducible refine AW_exit ?_ | with_reducible refine AW_ret ?_ | with_reducible refine AW_region hTt ?_ | fail); conv => whnf) | (exact absurd hb (by omega)) | (refine AW_cond rfl (fun hb => ?_) (fun hb => ?_) <;> first | (replace hb := of_decide_eq_true hb; try simp only [List.length_map] at hb) | (replace hb := of_decide_eq_false hb; try simp only [List.length_map] at hb)) | fail
      refine ⟨.t [tableAV (ts.map fun t => rowR n fs t), iv .i64 0], ?_, LeAV.refl _⟩
      show viewAV _ (.t [.x (.o 6 ts.length ts.length), iv .i64 0]) = _
      simp only [viewAV, viewAVs, viewAV1]
      rw [viewO' (σ := [(6, Ob.chain 67 1 ts.length ((ts.take ts.length).map (rowPVb' n fs)))]) rfl hlm.symm, List.take_of_length_le (Nat.le_refl _)]
      unfold tableAV rowPVb'
      rw [List.map_map]; rfl
  · rw [show tableR n fs ts = ([], askedR n fs ts) from if_neg hc]
    rw [show triedR n fs ts = ([], askedR n fs ts) from if_neg hc] at htr
    repeat' first | with_reducible refine AW_seq ?_ | with_reducible refine AW_block ?_ | ((first | with_reducible refine AW_region hTt ?_ | ((refine ⟨_, (htr).call rfl rfl, ?_⟩); (rintro _ _ ⟨rfl, rfl⟩)) | fail); conv => whnf) | (refine fun hln => ?_; (try rw [List.length_map] at hln); unfold maxLen at hln; conv => whnf) | fail
    refine AW_loop (fun i : Unit => [(23, iv .i64 0), (22, iv .i64 0), (6, .x (.d (.v (.slice none 0 0)))), (7, iv .i64 (askedR n fs ts))]) (fun _ => []) (fun _ => True) (fun _ => 0) () trivial impA ?_
    intro _ _
    repeat' first | with_reducible refine AW_seq ?_ | ((first | with_reducible refine AW_exit ?_ | with_reducible refine AW_ret ?_ | with_reducible refine AW_region hTt ?_ | fail); conv => whnf) | (refine AW_cond rfl (fun hb => absurd hb (by decide)) (fun _ => ?_)) | fail
    exact ⟨_, rfl, _, rfl, LeAV1.nil 1, LeAV1.refl _, trivial⟩
end Go.Proofs.YtfpaonfddaeamaaGreatDoor
namespace Go.Proofs.YtfpaonfddaeamaaGreatDoor
open Go Go.QL
set_option maxHeartbeats 3200000
attribute [local irreducible] ACall FnC YC
theorem coverR_nil (m : Nat) : coverR [] m = coverR [] 0 := by
  have h : holdsR [] (numsI ([] : List (List Bool)).length) m = holdsR [] (numsI ([] : List (List Bool)).length) 0 := by
    funext l
    simp [holdsR, hasR, numsI]
  unfold coverR
  rw [h]
theorem cover_any {R : List (List Bool)} {m : Nat} (hm : m ≤ 4096) (hw : Wide R m) (hn : R.length ≤ 100) : FnC Tryz.prog 58 [.x (.d (rowsB R))] (.x (.d (coverR R m))) := by
  by_cases hR : R = []
  · subst hR
    rw [coverR_nil]
    exact cover_fn (by omega) (fun r hr => by cases hr) (fun _ => rfl) hn
  · exact cover_fn hm hw (fun h => absurd h hR) hn
end Go.Proofs.YtfpaonfddaeamaaGreatDoor
namespace Go.Proofs.YtfpaonfddaeamaaGreatDoor
open Go Go.QL
set_option maxHeartbeats 3200000
attribute [local irreducible] ACall FnC YC
def pairTo (L : List (List Int)) (k : Nat) : List Bool := (List.range k).flatMap fun i => (L.take i).map fun b => !sameInts (L.getD i []) b
def pairRow (L : List (List Int)) : List Bool := pairTo L L.length
def wd (k : Nat) : Nat := ((List.range k).map fun i => min i k).sum
theorem wd_le : ∀ k, k ≤ 13 → wd k ≤ 4096 := by decide
theorem pairRow_len (L : List (List Int)) : (pairRow L).length = wd L.length := by
  unfold pairRow pairTo wd
  rw [List.length_flatMap]
  congr 1
  apply List.map_congr_left
  intro i _
  rw [List.length_map, List.length_take]
theorem pairTo_succ (L : List (List Int)) (k : Nat) : pairTo L (k + 1) = pairTo L k ++ (L.take k).map fun b => !sameInts (L.getD k []) b := by
  unfold pairTo; rw [List.range_succ, List.flatMap_append]; simp
theorem pairTo_le (L : List (List Int)) : ∀ k, (pairTo L k).length ≤ k * k
  | 0 => Nat.le_refl _
  | k + 1 => by
    rw [pairTo_succ, List.length_append, List.length_map, List.length_take]
    have := pairTo_le L k
    rw [Nat.add_mul, Nat.mul_add]
    omega
def tellRow (n : NetT) (fs : List FaultT) (t : List Int) : List PV := [boolsPV (pairRow (lanesR n fs t))]
def tellP (n : NetT) (fs : List FaultT) (ts : List (List Int)) : PV × Int :=
  if askedR n fs ts = 0 then (coverR (ts.map fun t => pairRow (lanesR n fs t)) (wd (fs.length + 1)), 0) else (.v (.slice none 0 0), askedR n fs ts)
theorem ptell_fn (n : NetT) (hi : i64 n.inn) (fs : List FaultT) (ts : List (List Int)) (hr : askedR n fs ts = 0 → RunsAt (fs.length + 1)) : FnC Tryz.prog 31 [netAV n, faultsAV fs, rowsAV ts] (.t [.x (.d (tellP n fs ts).1), iv .i64 (tellP n fs ts).2]) := by
  have htr := tried_fn n hi fs ts hr
  by_cases hc : askedR n fs ts = 0
  · have h := AskOK.of hc
    rw [show tellP n fs ts = (coverR (ts.map fun t => pairRow (lanesR n fs t)) (wd (fs.length + 1)), 0) from if_pos hc]
    rw [show triedR n fs ts = (ts.map fun t => lanesR n fs t, 0) from if_pos hc] at htr
    have hfl := h.fl
    have htl := h.tl
    have hwl := wd_le (fs.length + 1) (by omega)
    have hll : ∀ t, (lanesR n fs t).length = fs.length + 1 := fun t => by rw [lanes_cons]; simp
    have hcv := cover_any (R := ts.map fun t => pairRow (lanesR n fs t)) (m := wd (fs.length + 1)) hwl (by
      intro r hr
      rw [List.mem_map] at hr
      obtain ⟨t, _, rfl⟩ := hr
      rw [pairRow_len, hll]) (by rw [List.length_map]; omega)
    dsimp only at htr ⊢
    generalize coverR (ts.map fun t => pairRow (lanesR n fs t)) (wd (fs.length + 1)) = C at hcv
    clear hwl
    refine FnC_of_AW hTt Tryz.func31 rfl (by kernel_rfl) (res := [.tmp 6, .tmp 7]) rfl Tryz.ntmps31 (by simp) fun w0 K0 => ?_
    dsimp only [entry]
    repeat' first | with_reducible refine AW_seq ?_ | with_reducible refine AW_block ?_ | ((first | with_reducible refine AW_skip ?_ | with_reducible refine AW_region hTt ?_ | ((refine ⟨_, (htr).call rfl rfl, ?_⟩); (rintro _ _ ⟨rfl, rfl⟩)) | fail); conv => whnf) | (refine AW_cond rfl (fun hb => absurd hb (by decide)) (fun _ => ?_)) | (refine fun hln => ?_; (try rw [List.length_map] at hln); unfold maxLen at hln; conv => whnf) | fail
    refine AW_imp (Imp.nil 10 67 1 (fr' := [(30, iv .i64 0), (29, iv .i64 ts.length), (28, cubeAV (ts.map fun t => lanesR n fs t)), (10, .x (.o 10 0 0))]) (σ' := []) rfl ?_ ?_ rfl rfl) ?_
    · exact ⟨⟨_, rfl, .inl rfl⟩, ⟨_, congrArg (fun k : Nat => some (iv .i64 k)) (by unfold cubePV; rw [List.length_map, List.length_map]), .inl rfl⟩, ⟨_, rfl, .inl rfl⟩, ⟨_, rfl, .inr ⟨rfl, rfl⟩⟩, trivial⟩
    · exact trivial
    refine AW_loop (fun i : Nat => [(30, iv .i64 i), (29, iv .i64 ts.length), (28, cubeAV (ts.map fun t => lanesR n fs t)), (10, .x (.o 10 i i))]) (fun i => [(10, .chain 67 1 i ((ts.take i).map (tellRow n fs)))])
      (fun i => i ≤ ts.length) (fun i => ts.length - i) 0 (Nat.zero_le _) impA ?_
    intro i hi'
    have hlen : (ts.take i).length = i := by rw [List.length_take]; omega
    have hlm : ((ts.take i).map (tellRow n fs)).length = i := by rw [List.length_map]; exact hlen
    rcases Nat.lt_or_ge i ts.length with hil | hil
    · obtain ⟨t, ht⟩ : ∃ t, ts[i]? = some t := ⟨_, List.getElem?_eq_getElem hil⟩
      have htL : (ts.map fun t => lanesR n fs t)[i]? = some (lanesR n fs t) := by rw [List.getElem?_map, ht]; rfl
      have hL := hll t
      have hfz0 : tellRow n fs t = [boolsPV (pairRow (lanesR n fs t))] := rfl
      generalize lanesR n fs t = L at hL htL hfz0
      clear htr hcv hll h hc
      repeat' first | with_reducible refine AW_seq ?_ | with_reducible refine AW_block ?_ | ((first | with_reducible refine AW_skip ?_ | with_reducible refine AW_exit ?_ | with_reducible refine AW_region hTt ?_ | fail); conv => whnf) | (exact absurd hb (by omega)) | ((with_reducible refine Exists.intro _ (And.intro (gd_any (And.intro (by omega) (rows_some htL))) ?_)); conv => whnf) | (refine AW_cond rfl (fun hb => ?_) (fun hb => ?_) <;> first | (replace hb := of_decide_eq_true hb; try simp only [List.length_map] at hb) | (replace hb := of_decide_eq_false hb; try simp only [List.length_map] at hb)) | ((refine andA ?_); conv => whnf) | (refine fun hln => ?_; (try rw [List.length_map] at hln); unfold maxLen at hln; conv => whnf) | fail
      refine AW_imp (Imp.nil 13 4 1 (fr' := [(36, iv .i64 0), (35, iv .i64 L.length), (34, rowsAV L), (13, .x (.o 13 0 0)), (12, rowsAV L), (30, iv .i64 i), (29, iv .i64 ts.length), (28, cubeAV (ts.map fun t => lanesR n fs t)), (10, .x (.o 10 i i))])
        (σ' := [(10, .chain 67 1 i ((ts.take i).map (tellRow n fs)))]) rfl ?_ ?_ rfl rfl) ?_
      · exact ⟨⟨_, rfl, .inl rfl⟩, ⟨_, congrArg (fun k : Nat => some (iv .i64 k)) (List.length_map _), .inl rfl⟩, ⟨_, rfl, .inl rfl⟩, ⟨_, rfl, .inr ⟨rfl, rfl⟩⟩, ⟨_, rfl, .inl rfl⟩, ⟨_, rfl, .inl rfl⟩, ⟨_, rfl, .inl rfl⟩, ⟨_, rfl, .inl rfl⟩, ⟨_, rfl, .inl rfl⟩, trivial⟩
      · exact ⟨⟨_, rfl, .inl rfl⟩, trivial⟩
      refine AW_loop (fun k : Nat => [(36, iv .i64 k), (35, iv .i64 L.length), (34, rowsAV L), (13, .x (.o 13 (pairTo L k).length (pairTo L k).length)), (12, rowsAV L), (30, iv .i64 i), (29, iv .i64 ts.length), (28, cubeAV (ts.map fun t => lanesR n fs t)), (10, .x (.o 10 i i))])
        (fun k => [(13, .chain 4 1 (pairTo L k).length ((pairTo L k).map bPV)), (10, .chain 67 1 i ((ts.take i).map (tellRow n fs)))])
        (fun k => k ≤ L.length) (fun k => L.length - k) 0 (Nat.zero_le _) impA ?_
      intro k hk
      rcases Nat.lt_or_ge k L.length with hkl | hkl
      · obtain ⟨a, ha⟩ : ∃ a, L[k]? = some a := ⟨_, List.getElem?_eq_getElem hkl⟩
        have hg : L.getD k [] = a := by rw [List.getD_eq_getElem?_getD, ha]; rfl
        have hps := pairTo_succ L k
        rw [hg] at hps
        have hpl := pairTo_le L k
        have hkk : k * k ≤ 13 * 13 := Nat.mul_le_mul (by omega) (by omega)
        have hsl : ((L.map fun r => [intsPV r]).take ((k : Int)).toNat).drop (0 : Int).toNat = (L.take k).map fun r => [intsPV r] := by
          rw [Int.toNat_natCast, List.map_take]; rfl
        have htk : (L.take k).length = k := by rw [List.length_take]; omega
        generalize pairTo L k = p at hps hpl
        clear hlen hg
        repeat' first | with_reducible refine AW_seq ?_ | with_reducible refine AW_block ?_ | ((first | with_reducible refine AW_skip ?_ | with_reducible refine AW_exit ?_ | with_reducible refine AW_region hTt ?_ | fail); conv => whnf) | (exact absurd hb (by omega)) | ((first | with_reducible refine Exists.intro _ (And.intro (gd_any (And.intro (by omega) (row_some ha))) ?_) | refine And.intro (gd_any ⟨by omega, by rw [List.length_map]; omega⟩) ?_ | fail); conv => whnf) | (refine AW_cond rfl (fun hb => ?_) (fun hb => ?_) <;> first | (replace hb := of_decide_eq_true hb; try simp only [List.length_map] at hb) | (replace hb := of_decide_eq_false hb; try simp only [List.length_map] at hb)) | ((refine andA ?_); conv => whnf) | (refine fun hln => ?_; (try rw [List.length_map] at hln); unfold maxLen at hln; conv => whnf) | fail
        have hlk : (((L.map fun r => [intsPV r]).take ((k : Int)).toNat).drop (0 : Int).toNat).length = k := by rw [hsl, List.length_map, htk]
        generalize L.take k = S at hsl htk hps
        have h0 : p.map bPV = (p ++ (S.take 0).map fun b => !sameInts a b).map bPV := by simp
        refine AW_loop (fun j : Nat => [(45, iv .i64 j), (44, iv .i64 k), (43, rowsAV S), (15, sl a), (13, .x (.o 13 (p.length + j) (p.length + j))), (36, iv .i64 k), (35, iv .i64 L.length), (34, rowsAV L), (12, rowsAV L), (30, iv .i64 i), (29, iv .i64 ts.length), (28, cubeAV (ts.map fun t => lanesR n fs t)), (10, .x (.o 10 i i))])
          (fun j => [(13, .chain 4 1 (p.length + j) ((p ++ (S.take j).map fun b => !sameInts a b).map bPV)), (10, .chain 67 1 i ((ts.take i).map (tellRow n fs)))])
          (fun j => j ≤ k) (fun j => k - j) 0 (Nat.zero_le _) (Imp.forget (by repeat' (first | exact trivial | refine And.intro ?_ ?_ | exact congrArg (fun l => some (AV.x (.d (.s 1 l)))) hsl | exact congrArg (fun k : Nat => some (iv .i64 k)) hlk | exact chE h0 | rfl | exact ivE (by first | omega | (simp only [List.length_map, List.length_append, List.length_singleton] <;> omega)) | exact oE (by first | omega | (simp only [List.length_map, List.length_append, List.length_singleton] <;> omega)))) (by repeat' (first | exact trivial | refine And.intro ?_ ?_ | exact congrArg (fun l => some (AV.x (.d (.s 1 l)))) hsl | exact congrArg (fun k : Nat => some (iv .i64 k)) hlk | exact chE h0 | rfl | exact ivE (by first | omega | (simp only [List.length_map, List.length_append, List.length_singleton] <;> omega)) | exact oE (by first | omega | (simp only [List.length_map, List.length_append, List.length_singleton] <;> omega)))) (by kernel_rfl) (by kernel_rfl) (by kernel_rfl)) ?_
        clear h0 hsl hlk
        intro j hj
        rcases Nat.lt_or_ge j k with hjk | hjk
        · obtain ⟨b, hb'⟩ : ∃ b, S[j]? = some b := ⟨_, List.getElem?_eq_getElem (by omega)⟩
          have heq := equal_fn a b
          have hql : (p ++ (S.take j).map fun b => !sameInts a b).length = p.length + j := by rw [List.length_append, List.length_map, List.length_take]; omega
          have hst : ((p ++ (S.take j).map fun b => !sameInts a b).map bPV).take (p.length + j) ++ [[PV.v (.bool (!sameInts a b))]] = (p ++ (S.take (j + 1)).map fun b => !sameInts a b).map bPV := by
            rw [List.take_of_length_le (by rw [List.length_map, hql]; exact Nat.le_refl _), List.take_add_one, hb', List.map_append, List.map_append, List.map_append, List.map_append, List.append_assoc]; rfl
          generalize p ++ (S.take j).map (fun b => !sameInts a b) = q at hql hst
          clear hps
          repeat' first | with_reducible refine AW_seq ?_ | with_reducible refine AW_block ?_ | ((first | with_reducible refine AW_skip ?_ | with_reducible refine AW_exit ?_ | with_reducible refine AW_region hTt ?_ | fail); conv => whnf) | (exact absurd hb (by omega)) | ((first | with_reducible refine Exists.intro _ (And.intro (gd_any (And.intro (by omega) (row_some hb'))) ?_) | ((refine ⟨_, (heq).call rfl rfl, ?_⟩); (rintro _ _ ⟨rfl, rfl⟩)) | fail); conv => whnf) | ((refine And.intro (by refine ⟨?_, ?_, ?_⟩ <;> simp [chunk, maxLen, hql] <;> omega) ?_); conv => whnf) | (refine AW_cond rfl (fun hb => ?_) (fun hb => ?_) <;> first | (replace hb := of_decide_eq_true hb; try simp only [List.length_map] at hb) | (replace hb := of_decide_eq_false hb; try simp only [List.length_map] at hb)) | ((first | refine ⟨_, wrap_of (by first | omega | (simp only [List.length_map]; omega)), ?_⟩ | refine andA ?_ | fail); conv => whnf) | fail
          exact ⟨j + 1, hjk, by omega, impA⟩
        · have hje : j = k := by omega
          subst hje
          have hSj : S.take j = S := List.take_of_length_le (by omega)
          rw [hSj]
          repeat' first | with_reducible refine AW_seq ?_ | with_reducible refine AW_block ?_ | ((first | with_reducible refine AW_skip ?_ | with_reducible refine AW_exit ?_ | with_reducible refine AW_region hTt ?_ | fail); conv => whnf) | (exact absurd hb (by omega)) | (refine AW_cond rfl (fun hb => ?_) (fun hb => ?_) <;> first | (replace hb := of_decide_eq_true hb; try simp only [List.length_map] at hb) | (replace hb := of_decide_eq_false hb; try simp only [List.length_map] at hb)) | ((refine ⟨_, wrap_of (by first | omega | (simp only [List.length_map]; omega)), ?_⟩); conv => whnf) | fail
          have hpe : (pairTo L (j + 1)).length = p.length + j := by rw [hps, List.length_append, List.length_map, htk]
          refine ⟨j + 1, hkl, by omega, ?_⟩
          try dsimp only
          rw [hpe, hps]
          exact impA
      · have hke : k = L.length := by omega
        subst hke
        have hfz : AV.x (.d (boolsPV (pairRow L))) = .x (.d (.s 1 (((pairTo L L.length).map bPV).take (pairTo L L.length).length))) := by
          rw [List.take_of_length_le (by rw [List.length_map]; exact Nat.le_refl _)]; rfl
        have hfl' : (pairTo L L.length).length ≤ ((pairTo L L.length).map bPV).length := by rw [List.length_map]; exact Nat.le_refl _
        have hst : ((ts.take i).map (tellRow n fs)).take i ++ [[boolsPV (pairRow L)]] = (ts.take (i + 1)).map (tellRow n fs) := by
          rw [List.take_of_length_le (by omega), List.take_add_one, ht, List.map_append, ← hfz0]; rfl
        generalize pairRow L = u at hfz hst
        generalize pairTo L L.length = q at hfz hfl'
        repeat' first | ((refine AW_imp (Imp.freeze 13 (fr' := [(13, .x (.d (boolsPV u))), (30, iv .i64 i), (29, iv .i64 ts.length), (28, cubeAV (ts.map fun t => lanesR n fs t)), (10, .x (.o 10 i i))]) (σ' := [(10, .chain 67 1 i ((ts.take i).map (tellRow n fs)))]) rfl ⟨⟨_, rfl, .inr ⟨_, rfl, hfl', hfz⟩⟩, ⟨_, rfl, .inl rfl⟩, ⟨_, rfl, .inl rfl⟩, ⟨_, rfl, .inl rfl⟩, ⟨_, rfl, .inl rfl⟩, trivial⟩ ⟨rfl, trivial⟩ rfl rfl) (AW_region (id := 18) hTt ?_)); conv => whnf) | with_reducible refine AW_seq ?_ | with_reducible refine AW_block ?_ | ((first | with_reducible refine AW_skip ?_ | with_reducible refine AW_exit ?_ | with_reducible refine AW_region hTt ?_ | fail); conv => whnf) | (exact absurd hb (by omega)) | ((refine And.intro ⟨Nat.le_of_eq hlm.symm, by show i + 1 ≤ maxLen; unfold maxLen; omega, by show (i + 1) * 24 ≤ 140737488355328; omega⟩ ?_); conv => whnf) | (refine AW_cond rfl (fun hb => ?_) (fun hb => ?_) <;> first | (replace hb := of_decide_eq_true hb; try simp only [List.length_map] at hb) | (replace hb := of_decide_eq_false hb; try simp only [List.length_map] at hb)) | ((first | refine ⟨_, wrap_of (by first | omega | (simp only [List.length_map]; omega)), ?_⟩ | refine andA ?_ | fail); conv => whnf) | fail
        exact ⟨i + 1, hil, by omega, impA⟩
    · have hie : i = ts.length := by omega
      subst hie
      have hfz : AV.x (.d (rowsB (ts.map fun t => pairRow (lanesR n fs t)))) = .x (.d (.s 1 (((ts.take ts.length).map (tellRow n fs)).take ts.length))) := by
        rw [List.take_of_length_le (by omega), List.take_of_length_le (Nat.le_refl _)]; unfold rowsB; rw [List.map_map]; rfl
      repeat' first | ((refine AW_imp (Imp.freeze 10 (fr' := [(10, .x (.d (rowsB (ts.map fun t => pairRow (lanesR n fs t)))))]) (σ' := []) rfl ⟨⟨_, rfl, .inr ⟨_, rfl, Nat.le_of_eq hlm.symm, hfz⟩⟩, trivial⟩ trivial rfl rfl) (AW_region (id := 20) hTt ?_)); conv => whnf) | with_reducible refine AW_seq ?_ | with_reducible refine AW_block ?_ | ((first | with_reducible refine AW_skip ?_ | with_reducible refine AW_exit ?_ | with_reducible refine AW_ret ?_ | with_reducible refine AW_region hTt ?_ | fail); conv => whnf) | (exact absurd hb (by omega)) | ((refine ⟨_, (hcv).call rfl rfl, ?_⟩); (rintro _ _ ⟨rfl, rfl⟩); conv => whnf) | (refine AW_cond rfl (fun hb => ?_) (fun hb => ?_) <;> first | (replace hb := of_decide_eq_true hb; try simp only [List.length_map] at hb) | (replace hb := of_decide_eq_false hb; try simp only [List.length_map] at hb)) | fail
      rfl
  · rw [show tellP n fs ts = (.v (.slice none 0 0), askedR n fs ts) from if_neg hc]
    rw [show triedR n fs ts = ([], askedR n fs ts) from if_neg hc] at htr
    dsimp only at htr ⊢
    refine FnC_of_AW hTt Tryz.func31 rfl (by kernel_rfl) (res := [.tmp 6, .tmp 7]) rfl Tryz.ntmps31 (by simp) fun w0 K0 => ?_
    dsimp only [entry]
    repeat' first | with_reducible refine AW_seq ?_ | ((first | with_reducible refine AW_skip ?_ | with_reducible refine AW_ret ?_ | with_reducible refine AW_region hTt ?_ | fail); conv => whnf) | (exact absurd hb hc) | ((refine ⟨_, (htr).call rfl rfl, ?_⟩); (rintro _ _ ⟨rfl, rfl⟩); conv => whnf) | (refine AW_cond rfl (fun hb => ?_) (fun hb => ?_) <;> first | (replace hb := of_decide_eq_true hb; try simp only [List.length_map] at hb) | (replace hb := of_decide_eq_false hb; try simp only [List.length_map] at hb) | (simp only [List.length_map, bne_iff_ne, ne_eq, beq_iff_eq, bne_eq_false_iff_eq, beq_eq_false_iff_ne, decide_eq_true_eq, decide_eq_false_iff_not, Bool.not_eq_true', Bool.not_eq_false', Int.natCast_inj] at hb)) | fail
    rfl
end Go.Proofs.YtfpaonfddaeamaaGreatDoor
namespace Go.Proofs.YtfpaonfddaeamaaGreatDoor
open Go Go.QL
set_option maxHeartbeats 3200000
attribute [local irreducible] ACall FnC
theorem chosen_in (x : Int) (m : Nat) : ∀ y ∈ chosenS x m, 0 ≤ y ∧ y < m := by
  intro y hy
  unfold chosenS at hy
  rw [List.mem_map] at hy
  obtain ⟨i, hi, rfl⟩ := hy
  have := List.mem_range.1 (List.mem_filter.1 hi).1
  omega
def bestR (P : List Int → Bool) (all : List Int) (T : Nat) : Nat → List Int
  | 0 => all
  | x + 1 => if (beforeS (chosenS x T) (bestR P all T x) && P (chosenS x T)) = true then chosenS x T else bestR P all T x
def allR (ts : List (List Int)) : List Int := chosenS (2 ^ ts.length - 1) ts.length
def tellR (n : NetT) (fs : List FaultT) (ts : List (List Int)) : List Int × Int :=
  if askedR n fs ts = 0 then (bestR (fun l => tellsR n fs ts l (allR ts)) (allR ts) ts.length (2 ^ ts.length), 0) else ([], askedR n fs ts)
end Go.Proofs.YtfpaonfddaeamaaGreatDoor
namespace Go.Proofs.YtfpaonfddaeamaaGreatDoor
open Go Go.QL
def Asc (many : Nat) : Nat → List Int → Prop
  | _, [] => True
  | lo, x :: r => (lo : Int) ≤ x ∧ x < many ∧ Asc many (x + 1).toNat r
theorem asc_ge {many : Nat} : ∀ {s : List Int} {lo : Nat}, Asc many lo s → ∀ y ∈ s, (lo : Int) ≤ y ∧ y < many
  | [], _, _, y, hy => by cases hy
  | x :: r, lo, h, y, hy => by
    obtain ⟨h1, h2, h3⟩ := h
    rcases List.mem_cons.1 hy with rfl | hy
    · exact ⟨h1, h2⟩
    · have := asc_ge h3 y hy
      omega
theorem asc_len {many : Nat} : ∀ {s : List Int} {lo : Nat}, Asc many lo s → s.length ≤ many - lo
  | [], _, _ => Nat.zero_le _
  | x :: r, lo, h => by
    obtain ⟨h1, h2, h3⟩ := h
    have := asc_len h3
    simp only [List.length_cons]
    omega
theorem ext_mem {many : Nat} : ∀ (k : Nat) (l c : List Int), c ∈ extL many k l ↔ ∃ s, c = l ++ s ∧ s.length = k ∧ Asc many (nxL l) s
  | 0, l, c => by
    simp only [extL, List.mem_singleton]
    constructor
    · rintro rfl; exact ⟨[], by simp, rfl, trivial⟩
    · rintro ⟨s, rfl, h, _⟩; rw [List.length_eq_zero_iff.1 h, List.append_nil]
  | k + 1, l, c => by
    simp only [extL, List.mem_flatMap]
    constructor
    · rintro ⟨i, hi, hc⟩
      rw [List.mem_range'_1] at hi
      obtain ⟨s, rfl, hs, ha⟩ := (ext_mem k _ _).1 hc
      rw [nxL_snoc] at ha
      exact ⟨(i : Int) :: s, by simp, by simp [hs], by omega, by omega, ha⟩
    · rintro ⟨s, rfl, hs, ha⟩
      cases s with
      | nil => simp at hs
      | cons x r =>
        obtain ⟨h1, h2, h3⟩ := ha
        obtain ⟨i, rfl⟩ : ∃ i : Nat, x = i := ⟨x.toNat, by omega⟩
        refine ⟨i, List.mem_range'_1.2 ⟨by omega, by omega⟩, (ext_mem k _ _).2 ⟨r, by simp, by simpa using hs, ?_⟩⟩
        rw [nxL_snoc]; exact h3
theorem lex_app (s t : List Int) : ∀ l : List Int, lexS (l ++ s) (l ++ t) = lexS s t
  | [] => rfl
  | x :: r => by simp only [List.cons_append, lexS, if_true]; exact lex_app s t r
theorem lex_irr : ∀ l : List Int, lexS l l = false
  | [] => rfl
  | x :: r => by simp only [lexS, if_true]; exact lex_irr r
theorem lex_trans : ∀ {a b c : List Int}, lexS a b = true → lexS b c = true → lexS a c = true
  | [], _, _, h, _ => by simp [lexS] at h
  | _ :: _, [], _, h, _ => by simp [lexS] at h
  | _ :: _, _ :: _, [], _, h => by simp [lexS] at h
  | x :: r, y :: s, z :: t, h1, h2 => by
    simp only [lexS] at h1 h2 ⊢
    by_cases e : x = y
    · subst e
      rw [if_pos rfl] at h1
      by_cases e2 : x = z
      · subst e2
        rw [if_pos rfl] at h2 ⊢
        exact lex_trans h1 h2
      · rw [if_neg e2] at h2 ⊢; exact h2
    · rw [if_neg e] at h1
      have h1 := of_decide_eq_true h1
      by_cases e2 : y = z
      · subst e2
        rw [if_neg e]; exact decide_eq_true h1
      · rw [if_neg e2] at h2
        have h2 := of_decide_eq_true h2
        rw [if_neg (by omega)]; exact decide_eq_true (by omega)
theorem before_irr (l : List Int) : beforeS l l = false := by unfold beforeS; rw [if_pos rfl]; exact lex_irr l
theorem before_trans {a b c : List Int} (h1 : beforeS a b = true) (h2 : beforeS b c = true) : beforeS a c = true := by
  unfold beforeS at *
  by_cases e : a.length = b.length
  · rw [if_pos e] at h1
    by_cases e2 : b.length = c.length
    · rw [if_pos e2] at h2; rw [if_pos (by omega)]; exact lex_trans h1 h2
    · rw [if_neg e2] at h2; rw [if_neg (by omega)]
      have h2 := of_decide_eq_true h2
      exact decide_eq_true (by omega)
  · rw [if_neg e] at h1
    have h1 := of_decide_eq_true h1
    by_cases e2 : b.length = c.length
    · rw [if_neg (by omega)]; exact decide_eq_true (by omega)
    · rw [if_neg e2] at h2
      have h2 := of_decide_eq_true h2
      rw [if_neg (by omega)]
      exact decide_eq_true (by omega)
theorem ext_sorted (many : Nat) : ∀ (k : Nat) (l : List Int), (extL many k l).Pairwise fun a b => lexS a b = true
  | 0, l => List.pairwise_singleton _ _
  | k + 1, l => by
    simp only [extL]
    refine List.pairwise_flatMap.2 ⟨fun i _ => ext_sorted many k _, ?_⟩
    refine (List.pairwise_lt_range' (s := nxL l) (n := many - nxL l) (step := 1) (by omega)).imp ?_
    intro i j hij x hx y hy
    obtain ⟨s, rfl, _, _⟩ := (ext_mem k _ _).1 hx
    obtain ⟨t, rfl, _, _⟩ := (ext_mem k _ _).1 hy
    rw [List.append_assoc, List.append_assoc, lex_app]
    show (if (i : Int) = j then lexS s t else decide ((i : Int) < j)) = true
    rw [if_neg (by omega)]
    exact decide_eq_true (by omega)
theorem all_mem {many : Nat} {c : List Int} : c ∈ allL many ↔ Asc many 0 c := by
  unfold allL
  rw [List.mem_flatMap]
  constructor
  · rintro ⟨k, _, hc⟩
    obtain ⟨s, rfl, _, ha⟩ := (ext_mem k _ _).1 hc
    exact ha
  · intro h
    refine ⟨c.length, List.mem_range'_1.2 ⟨Nat.zero_le _, ?_⟩, (ext_mem _ _ _).2 ⟨c, rfl, rfl, h⟩⟩
    have := asc_len h
    omega
theorem all_sorted (many : Nat) : (allL many).Pairwise fun a b => beforeS a b = true := by
  unfold allL
  refine List.pairwise_flatMap.2 ⟨fun k _ => ?_, ?_⟩
  · refine List.Pairwise.imp_of_mem ?_ (ext_sorted many k [])
    intro a b ha hb h
    obtain ⟨s, rfl, hs, _⟩ := (ext_mem k _ _).1 ha
    obtain ⟨t, rfl, ht, _⟩ := (ext_mem k _ _).1 hb
    unfold beforeS
    rw [if_pos (by simp [hs, ht])]; exact h
  · refine (List.pairwise_lt_range' (s := 0) (n := many + 1) (step := 1) (by omega)).imp ?_
    intro i j hij x hx y hy
    obtain ⟨s, rfl, hs, _⟩ := (ext_mem i _ _).1 hx
    obtain ⟨t, rfl, ht, _⟩ := (ext_mem j _ _).1 hy
    unfold beforeS
    rw [if_neg (by simp [hs, ht]; omega)]
    exact decide_eq_true (by simp [hs, ht]; omega)
theorem goC_find {H : List Int → Bool} {Q : List Int → List Int → Prop} : ∀ {L : List (List Int)} (x : PV), L.Pairwise Q → (∃ l ∈ L, H l = true) →
    ∃ f ∈ L, H f = true ∧ (goC H L x).2 = intsPV f ∧ ∀ c ∈ L, H c = true → c = f ∨ Q f c
  | [], _, _, h => by obtain ⟨_, h, _⟩ := h; cases h
  | l :: r, x, hp, h => by
    simp only [goC]
    obtain ⟨hp1, hp2⟩ := List.pairwise_cons.1 hp
    by_cases hl : H l = true
    · rw [if_pos hl]
      refine ⟨l, List.mem_cons_self, hl, rfl, fun c hc _ => ?_⟩
      rcases List.mem_cons.1 hc with rfl | hc
      · exact .inl rfl
      · exact .inr (hp1 c hc)
    · rw [if_neg hl]
      have h' : ∃ l ∈ r, H l = true := by
        obtain ⟨m, hm, hH⟩ := h
        rcases List.mem_cons.1 hm with rfl | hm
        · exact absurd hH hl
        · exact ⟨m, hm, hH⟩
      obtain ⟨f, hf, hHf, hg, hmin⟩ := goC_find (intsPV l) hp2 h'
      refine ⟨f, List.mem_cons_of_mem _ hf, hHf, hg, fun c hc hHc => ?_⟩
      rcases List.mem_cons.1 hc with rfl | hc
      · exact absurd hHc hl
      · exact hmin c hc hHc
theorem best_spec {P : List Int → Bool} {all : List Int} {T : Nat} (hP : P all = true) : ∀ x, P (bestR P all T x) = true ∧ (bestR P all T x = all ∨ ∃ y, bestR P all T x = chosenS (y : Nat) T) ∧
    ∀ y : Nat, y < x → P (chosenS y T) = true → beforeS (chosenS y T) (bestR P all T x) = false
  | 0 => ⟨hP, .inl rfl, fun y hy => by omega⟩
  | x + 1 => by
    obtain ⟨h1, h2, h3⟩ := best_spec hP x
    simp only [bestR]
    by_cases hc : (beforeS (chosenS x T) (bestR P all T x) && P (chosenS x T)) = true
    · rw [if_pos hc]
      rw [Bool.and_eq_true] at hc
      refine ⟨hc.2, .inr ⟨x, rfl⟩, fun y hy hPy => ?_⟩
      by_cases e : y = x
      · subst e; exact before_irr _
      · cases hb : beforeS (chosenS y T) (chosenS x T) with
        | false => rfl
        | true => rw [← h3 y (by omega) hPy]; exact (before_trans hb hc.1).symm
    · rw [if_neg hc]
      refine ⟨h1, h2, fun y hy hPy => ?_⟩
      by_cases e : y = x
      · subst e
        cases hb : beforeS (chosenS y T) (bestR P all T y) with
        | false => rfl
        | true => rw [hb, hPy] at hc; exact absurd rfl hc
      · exact h3 y (by omega) hPy
theorem filter_asc {many : Nat} (p : Nat → Bool) : ∀ (k lo : Nat), lo + k ≤ many → Asc many lo (((List.range' lo k).filter p).map fun (i : Nat) => (i : Int))
  | 0, _, _ => trivial
  | k + 1, lo, h => by
    have ih := filter_asc (many := many) p k (lo + 1) (by omega)
    rw [List.range'_succ]
    by_cases hp : p lo = true
    · rw [List.filter_cons_of_pos hp]
      exact ⟨Int.le_refl _, by show (lo : Int) < many; omega, ih⟩
    · rw [List.filter_cons_of_neg hp]
      revert ih
      generalize (((List.range' (lo + 1) k).filter p).map fun (i : Nat) => (i : Int)) = s
      intro ih
      cases s with
      | nil => trivial
      | cons x r => exact ⟨by have := ih.1; omega, ih.2⟩
theorem chosen_asc (x : Int) (T : Nat) : Asc T 0 (chosenS x T) := by
  unfold chosenS
  rw [List.range_eq_range']
  exact filter_asc _ T 0 (by omega)
theorem asc_filter {many : Nat} : ∀ (k lo : Nat) (s : List Int), lo + k = many → Asc many lo s → ((List.range' lo k).filter fun (i : Nat) => decide ((i : Int) ∈ s)).map (fun (i : Nat) => (i : Int)) = s
  | 0, lo, s, h, ha => by
    have := asc_len ha
    rw [List.length_eq_zero_iff.1 (show s.length = 0 by omega)]; rfl
  | k + 1, lo, s, h, ha => by
    rw [List.range'_succ]
    cases s with
    | nil => simp
    | cons x r =>
      obtain ⟨h1, h2, h3⟩ := ha
      by_cases e : x = lo
      · subst e
        rw [List.filter_cons_of_pos (by simp)]
        have e1 : (((lo : Int) + 1).toNat) = lo + 1 := by omega
        rw [e1] at h3
        have ih := asc_filter k (lo + 1) r (by omega) h3
        rw [List.map_cons]
        congr 1
        rw [← ih]
        congr 1
        rw [ih]
        apply List.filter_congr
        intro i hi
        have := (List.mem_range'_1.1 hi).1
        apply decide_eq_decide.2
        rw [List.mem_cons]
        constructor
        · rintro (h | h)
          · omega
          · exact h
        · exact .inr
      · have hn : ¬ ((lo : Int) ∈ x :: r) := by
          intro hm
          rcases List.mem_cons.1 hm with rfl | hm
          · exact e rfl
          · have := (asc_ge h3 _ hm).1
            omega
        rw [List.filter_cons_of_neg (by simpa using hn)]
        exact asc_filter k (lo + 1) (x :: r) (by omega) ⟨by omega, h2, h3⟩
def numOf (p : Nat → Bool) : Nat → Nat
  | 0 => 0
  | k + 1 => if p k = true then 2 ^ k + numOf p k else numOf p k
theorem numOf_lt (p : Nat → Bool) : ∀ k, numOf p k < 2 ^ k
  | 0 => by simp [numOf]
  | k + 1 => by
    have := numOf_lt p k
    simp only [numOf]
    rw [Nat.pow_succ]
    split <;> omega
theorem numOf_bit (p : Nat → Bool) : ∀ (k i : Nat), i < k → (numOf p k).testBit i = p i
  | 0, i, h => by omega
  | k + 1, i, h => by
    have hlt := numOf_lt p k
    simp only [numOf]
    by_cases e : i = k
    · subst e
      split
      · rename_i hp; rw [Nat.testBit_two_pow_add_eq, Nat.testBit_lt_two_pow hlt, hp]; rfl
      · rename_i hp; rw [Nat.testBit_lt_two_pow hlt]; simpa using hp
    · split
      · rw [Nat.testBit_two_pow_add_gt (by omega)]; exact numOf_bit p k i (by omega)
      · exact numOf_bit p k i (by omega)
theorem bit_nat (x i : Nat) : (((x : Int) / 2 ^ i % 2) == 1) = x.testBit i := by
  rw [Nat.testBit_eq_decide_div_mod_eq]
  have : (x : Int) / 2 ^ i % 2 = ((x / 2 ^ i % 2 : Nat) : Int) := by simp
  rw [this]
  rw [Bool.eq_iff_iff]
  simp only [beq_iff_eq, decide_eq_true_eq]
  omega
theorem chosen_nat (x T : Nat) : chosenS (x : Int) T = ((List.range' 0 T).filter fun i => x.testBit i).map fun (i : Nat) => (i : Int) := by
  unfold chosenS
  rw [List.range_eq_range']
  congr 1
  apply List.filter_congr
  intro i _
  exact bit_nat x i
theorem asc_chosen {T : Nat} {s : List Int} (h : Asc T 0 s) : ∃ y : Nat, y < 2 ^ T ∧ chosenS (y : Int) T = s := by
  refine ⟨numOf (fun (i : Nat) => decide ((i : Int) ∈ s)) T, numOf_lt _ _, ?_⟩
  rw [chosen_nat]
  have := asc_filter T 0 s (by omega) h
  rw [← this]
  congr 1
  rw [this]
  apply List.filter_congr
  intro i hi
  exact numOf_bit _ T i (by have := (List.mem_range'_1.1 hi).2; omega)
theorem chosen_all (T : Nat) : chosenS (2 ^ T - 1) T = numsI T := by
  have e : ((2 : Int) ^ T - 1) = ((2 ^ T - 1 : Nat) : Int) := by
    have : 0 < 2 ^ T := Nat.pow_pos (by decide)
    rw [Int.natCast_sub this]; simp
  rw [e, chosen_nat]
  unfold numsI
  rw [List.range_eq_range']
  congr 1
  apply List.filter_eq_self.2
  intro i hi
  rw [Nat.testBit_two_pow_sub_one]
  have := (List.mem_range'_1.1 hi).2
  exact decide_eq_true (by omega)
theorem numsI_asc (T : Nat) : Asc T 0 (numsI T) := by rw [← chosen_all]; exact chosen_asc _ _
theorem holds_all (R : List (List Bool)) (all : List Int) (m : Nat) : holdsR R all m all = true := by
  unfold holdsR
  rw [List.all_eq_true]
  intro k _
  cases hasR R all k <;> rfl
theorem cover_best {R : List (List Bool)} {m : Nat} {P : List Int → Bool} (hP : ∀ c, Asc R.length 0 c → P c = holdsR R (numsI R.length) m c) :
    coverR R m = intsPV (bestR P (numsI R.length) R.length (2 ^ R.length)) := by
  have hH := holds_all R (numsI R.length) m
  obtain ⟨f, hf, hHf, hg, hmin⟩ := goC_find (H := holdsR R (numsI R.length) m) (.v (.slice none 0 0)) (all_sorted R.length) ⟨numsI R.length, all_mem.2 (numsI_asc _), hH⟩
  unfold coverR
  rw [hg]
  have hfa := all_mem.1 hf
  have hPa : P (numsI R.length) = true := by rw [hP _ (numsI_asc _)]; exact hH
  obtain ⟨h1, h2, h3⟩ := best_spec (T := R.length) hPa (2 ^ R.length)
  generalize bestR P (numsI R.length) R.length (2 ^ R.length) = b at h1 h2 h3
  have hba : Asc R.length 0 b := by
    rcases h2 with rfl | ⟨y, rfl⟩
    · exact numsI_asc _
    · exact chosen_asc _ _
  obtain ⟨y, hy, he⟩ := asc_chosen hfa
  have hfb : beforeS f b = false := by
    rw [← he]
    refine h3 y hy ?_
    rw [he, hP _ hfa]; exact hHf
  rcases hmin b (all_mem.2 hba) (by rw [← hP _ hba]; exact h1) with rfl | hq
  · rfl
  · rw [hfb] at hq; cases hq
theorem all_range_get {γ : Type} (C : List γ) (F : Nat → Bool) (G : γ → Bool) (h : ∀ k (hk : k < C.length), F k = G C[k]) : (List.range C.length).all F = C.all G := by
  rw [Bool.eq_iff_iff, List.all_eq_true, List.all_eq_true]
  constructor
  · intro h1 x hx
    obtain ⟨k, hk, rfl⟩ := List.getElem_of_mem hx
    rw [← h k hk]; exact h1 k (List.mem_range.2 hk)
  · intro h1 k hk
    have hk := List.mem_range.1 hk
    rw [h k hk]; exact h1 _ (List.getElem_mem hk)
theorem any_congr {l : List Int} {p q : Int → Bool} (h : ∀ i ∈ l, p i = q i) : l.any p = l.any q := by
  induction l with
  | nil => rfl
  | cons x r ih => rw [List.any_cons, List.any_cons, h x List.mem_cons_self, ih fun i hi => h i (List.mem_cons_of_mem _ hi)]
theorem bit_cols {γ : Type} (C : List γ) (ts : List (List Int)) (d : List Int → γ → Bool) {i k : Nat} (hi : i < ts.length) (hk : k < C.length) :
    bitR (ts.map fun t => C.map (d t)) i k = d (ts.getD i []) C[k] := by
  unfold bitR
  simp [List.getD_eq_getElem?_getD, hi, hk]
theorem holds_cols {γ : Type} (C : List γ) (ts : List (List Int)) (d : List Int → γ → Bool) (all l : List Int) (hall : ∀ i ∈ all, 0 ≤ i ∧ i < (ts.length : Int)) (hl : ∀ i ∈ l, 0 ≤ i ∧ i < (ts.length : Int)) :
    holdsR (ts.map fun t => C.map (d t)) all C.length l = C.all fun c => !((all.any fun i => d (ts.getD i.toNat []) c) && !(l.any fun i => d (ts.getD i.toNat []) c)) := by
  unfold holdsR
  refine all_range_get C _ _ fun k hk => ?_
  unfold hasR
  rw [any_congr (l := all) (q := fun i => d (ts.getD i.toNat []) C[k]) fun i hi => bit_cols C ts d (by have := hall i hi; omega) hk,
    any_congr (l := l) (q := fun i => d (ts.getD i.toNat []) C[k]) fun i hi => bit_cols C ts d (by have := hl i hi; omega) hk]
def pairs (K : Nat) : List (Nat × Nat) := (List.range K).flatMap fun a => (List.range a).map fun b => (a, b)
theorem pairRow_eq (L : List (List Int)) : pairRow L = (pairs L.length).map fun p => !sameInts (L.getD p.1 []) (L.getD p.2 []) := by
  unfold pairRow pairTo pairs
  rw [List.map_flatMap]
  rw [List.flatMap_def, List.flatMap_def]
  congr 1
  apply List.map_congr_left
  intro i hi
  have hi := List.mem_range.1 hi
  rw [List.map_map]
  apply List.ext_getElem
  · simp; omega
  · intro j h1 h2
    simp only [List.length_map, List.length_take, List.length_range] at h1 h2
    have : j < L.length := by omega
    simp [List.getD_eq_getElem?_getD, this]
theorem pairs_all (K : Nat) (F : Nat × Nat → Bool) : (pairs K).all F = (List.range K).all fun a => (List.range a).all fun b => F (a, b) := by
  unfold pairs
  rw [List.all_flatMap]
  congr 1
  funext a
  rw [List.all_map]; rfl
theorem pairs_mem {K : Nat} {p : Nat × Nat} : p ∈ pairs K ↔ p.2 < p.1 ∧ p.1 < K := by
  unfold pairs
  simp only [List.mem_flatMap, List.mem_map, List.mem_range]
  constructor
  · rintro ⟨a, ha, b, hb, rfl⟩; exact ⟨hb, ha⟩
  · intro h; exact ⟨p.1, h.2, p.2, h.1, rfl⟩
theorem lanes_pair (n : NetT) (fs : List FaultT) (t : List Int) : pairRow (lanesR n fs t) = (pairs (fs.length + 1)).map fun p => !sameInts (oR n (fAt fs p.1) t) (oR n (fAt fs p.2) t) := by
  have hl : (lanesR n fs t).length = fs.length + 1 := by unfold lanesR; simp
  rw [pairRow_eq, hl]
  apply List.map_congr_left
  intro p hp
  have := pairs_mem.1 hp
  have h1 : ∀ a, a < fs.length + 1 → (lanesR n fs t).getD a [] = oR n (fAt fs a) t := by
    intro a ha
    unfold lanesR
    simp [List.getD_eq_getElem?_getD, ha]
  rw [h1 _ (by omega), h1 _ (by omega)]
theorem wd_pairs (K : Nat) : (pairs K).length = wd K := by
  have := pairRow_len (List.replicate K [])
  rw [pairRow_eq, List.length_map, List.length_replicate] at this
  exact this
theorem tell_eq {n : NetT} {fs : List FaultT} {ts : List (List Int)} (h : askedR n fs ts = 0) : (tellP n fs ts).1 = intsPV (tellR n fs ts).1 := by
  unfold tellP tellR
  rw [if_pos h, if_pos h]
  dsimp only
  have hl : (ts.map fun t => pairRow (lanesR n fs t)).length = ts.length := List.length_map _
  have hc := cover_best (R := ts.map fun t => pairRow (lanesR n fs t)) (m := wd (fs.length + 1)) (P := fun l => tellsR n fs ts l (allR ts)) (by
    rw [hl]
    intro c hc
    have ha : allR ts = numsI ts.length := chosen_all _
    rw [← ha]
    have := holds_cols (pairs (fs.length + 1)) ts (fun t p => !sameInts (oR n (fAt fs p.1) t) (oR n (fAt fs p.2) t)) (allR ts) c (chosen_in _ _) (fun i hi => by have := asc_ge hc i hi; omega)
    rw [← wd_pairs]
    simp only [lanes_pair]
    rw [this, pairs_all]; rfl)
  rw [hc, hl, show allR ts = numsI ts.length from chosen_all _]
end Go.Proofs.YtfpaonfddaeamaaGreatDoor
namespace Go.Proofs.YtfpaonfddaeamaaGreatDoor
open Go Go.QL
set_option maxHeartbeats 800000
attribute [local irreducible] ACall FnC YC
end Go.Proofs.YtfpaonfddaeamaaGreatDoor
namespace Go.Proofs.YtfpaonfddaeamaaGreatDoor
open Go Go.QL
set_option maxHeartbeats 3200000
attribute [local irreducible] ACall FnC
theorem tab_some {L : List (List Bool)} {i : Nat} {r : List Bool} (h : L[i]? = some r) : (L.map fun r => [boolsPV r])[((i : Int)).toNat]? = some [boolsPV r] := by simp [h]
theorem bool_some {L : List Bool} {i : Nat} {b : Bool} (h : L[i]? = some b) : (L.map bPV)[((i : Int)).toNat]? = some [.v (.bool b)] := by
  rw [Int.toNat_natCast, List.getElem?_map, h]; rfl
theorem tables_ref (a b : List (List Bool)) : FnC Tryz.prog 33 [tableAV a, tableAV b] (bv (decide (a = b))) := by
  refine FnC_of_AW hTt Tryz.func33 rfl (by kernel_rfl) (res := [.tmp 4]) rfl Tryz.ntmps33 (by simp) fun w0 K0 => ?_
  dsimp only [entry]
  by_cases hl : a.length = b.length
  · repeat' first | with_reducible refine AW_seq ?_ | with_reducible refine AW_block ?_ | ((first | with_reducible refine AW_skip ?_ | with_reducible refine AW_ret ?_ | with_reducible refine AW_region hTt ?_ | fail); conv => whnf) | (exact absurd hb (by omega)) | (refine AW_cond rfl (fun hb => ?_) (fun hb => ?_) <;> first | (replace hb := of_decide_eq_true hb; try simp only [List.length_map] at hb) | (replace hb := of_decide_eq_false hb; try simp only [List.length_map] at hb) | (simp only [List.length_map, bne_iff_ne, ne_eq, beq_iff_eq, bne_eq_false_iff_eq, beq_eq_false_iff_ne, decide_eq_true_eq, decide_eq_false_iff_not, Bool.not_eq_true', Bool.not_eq_false', Int.natCast_inj] at hb)) | (refine fun hln => ?_; (try rw [List.length_map] at hln); unfold maxLen at hln; conv => whnf) | fail
    refine AW_loop (fun i : Nat => [(5, iv .i64 i), (0, tableAV a), (1, tableAV b)]) (fun _ => []) (fun i => i ≤ a.length ∧ a.take i = b.take i) (fun i => a.length - i) 0 (by simp) impA ?_
    rintro i ⟨hi, htk⟩
    rcases Nat.lt_or_ge i a.length with hil | hil
    · obtain ⟨x, hx⟩ : ∃ x, a[i]? = some x := ⟨_, List.getElem?_eq_getElem hil⟩
      obtain ⟨y, hy⟩ : ∃ y, b[i]? = some y := ⟨_, List.getElem?_eq_getElem (by omega)⟩
      have hfin : x ≠ y → decide (a = b) = false := fun hxy => decide_eq_false fun h => hxy (by rw [h, hy] at hx; exact (Option.some.inj hx).symm)
      have hst : x = y → a.take (i + 1) = b.take (i + 1) := fun h => by rw [List.take_add_one, List.take_add_one, htk, hx, hy, h]
      clear htk
      by_cases hxl : x.length = y.length
      · repeat' first | with_reducible refine AW_seq ?_ | with_reducible refine AW_block ?_ | ((first | with_reducible refine AW_skip ?_ | with_reducible refine AW_exit ?_ | with_reducible refine AW_ret ?_ | with_reducible refine AW_region hTt ?_ | refine AW_draw hTt hMix (id := 6) 10 false [0, 0, 3, 7, 15, 0, 0, 96, 224, 480, 1023] (by kernel_rfl) rfl rfl (by kernel_rfl) ?_ | fail); conv => whnf) | (exact absurd hb (by omega)) | ((first | with_reducible refine Exists.intro _ (And.intro (gd_any (And.intro (by omega) (tab_some hx))) ?_) | with_reducible refine Exists.intro _ (And.intro (gd_any (And.intro (by omega) (tab_some hy))) ?_) | fail); conv => whnf) | (refine AW_cond rfl (fun hb => ?_) (fun hb => ?_) <;> first | (replace hb := of_decide_eq_true hb; try simp only [List.length_map] at hb) | (replace hb := of_decide_eq_false hb; try simp only [List.length_map] at hb) | (simp only [List.length_map, bne_iff_ne, ne_eq, beq_iff_eq, bne_eq_false_iff_eq, beq_eq_false_iff_ne, decide_eq_true_eq, decide_eq_false_iff_not, Bool.not_eq_true', Bool.not_eq_false', Int.natCast_inj] at hb)) | ((refine andA ?_); conv => whnf) | (refine fun hln => ?_; (try rw [List.length_map] at hln); unfold maxLen at hln; conv => whnf) | fail
        refine AW_loop (fun k : Nat => [(6, iv .i64 k), (5, iv .i64 i), (0, tableAV a), (1, tableAV b)]) (fun _ => []) (fun k => k ≤ x.length ∧ x.take k = y.take k) (fun k => x.length - k) 0 (by simp) impA ?_
        rintro k ⟨hk, hkt⟩
        rcases Nat.lt_or_ge k x.length with hkl | hkl
        · obtain ⟨p, hp⟩ : ∃ p, x[k]? = some p := ⟨_, List.getElem?_eq_getElem hkl⟩
          obtain ⟨q, hq⟩ : ∃ q, y[k]? = some q := ⟨_, List.getElem?_eq_getElem (by omega)⟩
          have hpf : p ≠ q → decide (a = b) = false := fun hpq => hfin fun h => hpq (by rw [h, hq] at hp; exact (Option.some.inj hp).symm)
          have hks : p = q → x.take (k + 1) = y.take (k + 1) := fun h => by rw [List.take_add_one, List.take_add_one, hkt, hp, hq, h]
          clear hkt hst hfin
          by_cases hpq : p = q
          · subst hpq
            repeat' first | with_reducible refine AW_seq ?_ | with_reducible refine AW_block ?_ | ((first | with_reducible refine AW_skip ?_ | with_reducible refine AW_exit ?_ | with_reducible refine AW_ret ?_ | with_reducible refine AW_region hTt ?_ | refine AW_draw hTt hMix (id := 11) 14 false [0, 0, 3, 7, 0, 31, 63, 0, 0, 384, 896, 0, 3968, 8064, 16383] (by kernel_rfl) rfl rfl (by kernel_rfl) ?_ | fail); conv => whnf) | (exact absurd hb (by omega)) | (exfalso; simp at hb; done) | ((first | with_reducible refine Exists.intro _ (And.intro (gd_any (And.intro (by omega) (tab_some hx))) ?_) | with_reducible refine Exists.intro _ (And.intro (gd_any (And.intro (by omega) (tab_some hy))) ?_) | with_reducible refine Exists.intro _ (And.intro (gd_any (And.intro (by omega) (bool_some hp))) ?_) | with_reducible refine Exists.intro _ (And.intro (gd_any (And.intro (by omega) (bool_some hq))) ?_) | fail); conv => whnf) | (refine AW_cond rfl (fun hb => ?_) (fun hb => ?_) <;> first | (replace hb := of_decide_eq_true hb; try simp only [List.length_map] at hb) | (replace hb := of_decide_eq_false hb; try simp only [List.length_map] at hb) | (simp only [List.length_map, bne_iff_ne, ne_eq, beq_iff_eq, bne_eq_false_iff_eq, beq_eq_false_iff_ne, decide_eq_true_eq, decide_eq_false_iff_not, Bool.not_eq_true', Bool.not_eq_false', Int.natCast_inj] at hb)) | ((first | refine ⟨_, wrap_of (by first | omega | (simp only [List.length_map]; omega)), ?_⟩ | refine andA ?_ | fail); conv => whnf) | (refine fun hln => ?_; (try rw [List.length_map] at hln); unfold maxLen at hln; conv => whnf) | fail
            exact ⟨k + 1, ⟨hkl, hks rfl⟩, by omega, impA⟩
          · rw [hpf hpq]
            repeat' first | with_reducible refine AW_seq ?_ | with_reducible refine AW_block ?_ | ((first | with_reducible refine AW_skip ?_ | with_reducible refine AW_exit ?_ | with_reducible refine AW_ret ?_ | with_reducible refine AW_region hTt ?_ | refine AW_draw hTt hMix (id := 11) 14 false [0, 0, 3, 7, 0, 31, 63, 0, 0, 384, 896, 0, 3968, 8064, 16383] (by kernel_rfl) rfl rfl (by kernel_rfl) ?_ | fail); conv => whnf) | (exact absurd hb (by omega)) | ((first | with_reducible refine Exists.intro _ (And.intro (gd_any (And.intro (by omega) (tab_some hx))) ?_) | with_reducible refine Exists.intro _ (And.intro (gd_any (And.intro (by omega) (tab_some hy))) ?_) | with_reducible refine Exists.intro _ (And.intro (gd_any (And.intro (by omega) (bool_some hp))) ?_) | with_reducible refine Exists.intro _ (And.intro (gd_any (And.intro (by omega) (bool_some hq))) ?_) | fail); conv => whnf) | (refine AW_cond rfl (fun hb => ?_) (fun hb => ?_) <;> first | (replace hb := of_decide_eq_true hb; try simp only [List.length_map] at hb) | (replace hb := of_decide_eq_false hb; try simp only [List.length_map] at hb) | (simp only [List.length_map, bne_iff_ne, ne_eq, beq_iff_eq, bne_eq_false_iff_eq, beq_eq_false_iff_ne, decide_eq_true_eq, decide_eq_false_iff_not, Bool.not_eq_true', Bool.not_eq_false', Int.natCast_inj] at hb)) | ((refine andA ?_); conv => whnf) | (refine fun hln => ?_; (try rw [List.length_map] at hln); unfold maxLen at hln; conv => whnf) | fail
            rfl
        · have hxy : x = y := by
            have h1 := List.take_of_length_le (l := x) (i := k) (by omega)
            have h2 := List.take_of_length_le (l := y) (i := k) (by omega)
            rw [← h1, ← h2, hkt]
          repeat' first | with_reducible refine AW_seq ?_ | with_reducible refine AW_block ?_ | ((first | with_reducible refine AW_skip ?_ | with_reducible refine AW_exit ?_ | with_reducible refine AW_region hTt ?_ | refine AW_draw hTt hMix (id := 11) 14 false [0, 0, 3, 7, 0, 31, 63, 0, 0, 384, 896, 0, 3968, 8064, 16383] (by kernel_rfl) rfl rfl (by kernel_rfl) ?_ | fail); conv => whnf) | (exact absurd hb (by omega)) | ((with_reducible refine Exists.intro _ (And.intro (gd_any (And.intro (by omega) (tab_some hx))) ?_)); conv => whnf) | (refine AW_cond rfl (fun hb => ?_) (fun hb => ?_) <;> first | (replace hb := of_decide_eq_true hb; try simp only [List.length_map] at hb) | (replace hb := of_decide_eq_false hb; try simp only [List.length_map] at hb)) | ((first | refine ⟨_, wrap_of (by first | omega | (simp only [List.length_map]; omega)), ?_⟩ | refine andA ?_ | fail); conv => whnf) | (refine fun hln => ?_; (try rw [List.length_map] at hln); unfold maxLen at hln; conv => whnf) | fail
          exact ⟨i + 1, ⟨hil, hst hxy⟩, by omega, impA⟩
      · rw [hfin fun h => hxl (by rw [h])]
        repeat' first | with_reducible refine AW_seq ?_ | with_reducible refine AW_block ?_ | ((first | with_reducible refine AW_skip ?_ | with_reducible refine AW_exit ?_ | with_reducible refine AW_ret ?_ | with_reducible refine AW_region hTt ?_ | refine AW_draw hTt hMix (id := 6) 10 false [0, 0, 3, 7, 15, 0, 0, 96, 224, 480, 1023] (by kernel_rfl) rfl rfl (by kernel_rfl) ?_ | fail); conv => whnf) | (exact absurd hb (by omega)) | ((first | with_reducible refine Exists.intro _ (And.intro (gd_any (And.intro (by omega) (tab_some hx))) ?_) | with_reducible refine Exists.intro _ (And.intro (gd_any (And.intro (by omega) (tab_some hy))) ?_) | fail); conv => whnf) | (refine AW_cond rfl (fun hb => ?_) (fun hb => ?_) <;> first | (replace hb := of_decide_eq_true hb; try simp only [List.length_map] at hb) | (replace hb := of_decide_eq_false hb; try simp only [List.length_map] at hb) | (simp only [List.length_map, bne_iff_ne, ne_eq, beq_iff_eq, bne_eq_false_iff_eq, beq_eq_false_iff_ne, decide_eq_true_eq, decide_eq_false_iff_not, Bool.not_eq_true', Bool.not_eq_false', Int.natCast_inj] at hb)) | ((refine andA ?_); conv => whnf) | (refine fun hln => ?_; (try rw [List.length_map] at hln); unfold maxLen at hln; conv => whnf) | fail
        rfl
    · repeat' first | with_reducible refine AW_seq ?_ | with_reducible refine AW_block ?_ | ((first | with_reducible refine AW_skip ?_ | with_reducible refine AW_exit ?_ | with_reducible refine AW_ret ?_ | with_reducible refine AW_region hTt ?_ | refine AW_draw hTt hMix (id := 6) 10 false [0, 0, 3, 7, 15, 0, 0, 96, 224, 480, 1023] (by kernel_rfl) rfl rfl (by kernel_rfl) ?_ | fail); conv => whnf) | (exact absurd hb (by omega)) | (refine AW_cond rfl (fun hb => ?_) (fun hb => ?_) <;> first | (replace hb := of_decide_eq_true hb; try simp only [List.length_map] at hb) | (replace hb := of_decide_eq_false hb; try simp only [List.length_map] at hb)) | (refine fun hln => ?_; (try rw [List.length_map] at hln); unfold maxLen at hln; conv => whnf) | fail
      rw [show decide (a = b) = true from decide_eq_true (by
        have h1 := List.take_of_length_le (l := a) (i := i) (by omega)
        have h2 := List.take_of_length_le (l := b) (i := i) (by omega)
        rw [← h1, ← h2, htk])]
      rfl
  · rw [show decide (a = b) = false from decide_eq_false fun h => hl (by rw [h])]
    repeat' first | with_reducible refine AW_seq ?_ | with_reducible refine AW_block ?_ | ((first | with_reducible refine AW_skip ?_ | with_reducible refine AW_ret ?_ | with_reducible refine AW_region hTt ?_ | fail); conv => whnf) | (exact absurd hb (by omega)) | (refine AW_cond rfl (fun hb => ?_) (fun hb => ?_) <;> first | (replace hb := of_decide_eq_true hb; try simp only [List.length_map] at hb) | (replace hb := of_decide_eq_false hb; try simp only [List.length_map] at hb) | (simp only [List.length_map, bne_iff_ne, ne_eq, beq_iff_eq, bne_eq_false_iff_eq, beq_eq_false_iff_ne, decide_eq_true_eq, decide_eq_false_iff_not, Bool.not_eq_true', Bool.not_eq_false', Int.natCast_inj] at hb)) | (refine fun hln => ?_; (try rw [List.length_map] at hln); unfold maxLen at hln; conv => whnf) | fail
    rfl
end Go.Proofs.YtfpaonfddaeamaaGreatDoor
namespace Go.Proofs.YtfpaonfddaeamaaGreatDoor
open Go Go.QL
set_option maxHeartbeats 1600000
attribute [local irreducible] ACall FnC
structure Ent where
  p : Int × Int
  bef : Int × Int
  inp : Int
  path : List Int
def ent0 : Ent := ⟨(0, 0), (0, 0), 0, []⟩
abbrev StepT := Int × Int → Int → (Int × Int) × Bool
def seenE (E : List Ent) (q : Int × Int) : Bool := E.any fun e => e.p == q
def bfs (step : StepT) (N : Nat) : Nat → List Ent → Nat → Nat → Option (List Int)
  | 0, _, _, _ => none
  | f + 1, E, i, x =>
    if i < E.length then
      if x < N then
        if (step (E.getD i ent0).p x).2 = true then some ((E.getD i ent0).path ++ [(x : Int)])
        else if seenE E (step (E.getD i ent0).p x).1 = true then bfs step N f E i (x + 1)
        else bfs step N f (E ++ [⟨(step (E.getD i ent0).p x).1, (E.getD i ent0).p, x, (E.getD i ent0).path ++ [(x : Int)]⟩]) i (x + 1)
      else bfs step N f E (i + 1) 0
    else none
def fuel0 : Nat := 67000
def bound (i x : Nat) : Nat := (1025 - i) * 65 - x
def srch (step : StepT) (N : Nat) : Option (List Int) := bfs step N fuel0 [ent0] 0 0
def code (p : Int × Int) : Nat := p.1.toNat * 32 + p.2.toNat
def InR (p : Int × Int) : Prop := (0 ≤ p.1 ∧ p.1 < 32) ∧ (0 ≤ p.2 ∧ p.2 < 32)
theorem code_lt {p : Int × Int} (h : InR p) : code p < 1024 := by
  obtain ⟨⟨a, b⟩, c, d⟩ := h
  unfold code; omega
theorem code_inj {p q : Int × Int} (h : InR p) (k : InR q) (e : code p = code q) : p = q := by
  obtain ⟨⟨a, b⟩, c, d⟩ := h
  obtain ⟨⟨a', b'⟩, c', d'⟩ := k
  unfold code at e
  obtain ⟨x, y⟩ := p
  obtain ⟨x', y'⟩ := q
  dsimp only at *
  have : x = x' := by omega
  have : y = y' := by omega
  subst_vars; rfl
theorem left_all (m : Nat) : left [] m = m := by
  induction m with
  | zero => rfl
  | succ m ih => unfold left; rw [ih]; simp
structure SInv (N : Nat) (E : List Ent) : Prop where
  h0 : E[0]? = some ent0
  inj : ∀ (i j : Nat) (a b : Ent), E[i]? = some a → E[j]? = some b → a.p = b.p → i = j
  rng : ∀ e ∈ E, InR e.p
  par : ∀ (j : Nat) (e : Ent), 0 < j → E[j]? = some e → ∃ (j' : Nat) (e' : Ent), j' < j ∧ E[j']? = some e' ∧ e.bef = e'.p ∧ e.path = e'.path ++ [e.inp]
  len : E.length + left (E.map fun e => code e.p) 1024 ≤ 1024
  pth : ∀ (j : Nat) (e : Ent), E[j]? = some e → e.path.length ≤ j ∧ ∀ y ∈ e.path, 0 ≤ y ∧ y < N
theorem SInv.pos {N : Nat} {E : List Ent} (h : SInv N E) : 0 < E.length := (List.getElem?_eq_some_iff.1 h.h0).1
theorem SInv.le {N : Nat} {E : List Ent} (h : SInv N E) : E.length ≤ 1024 := by have := h.len; omega
theorem SInv.init (N : Nat) : SInv N [ent0] where
  h0 := rfl
  inj := fun i j a b h1 h2 _ => by
    have := (List.getElem?_eq_some_iff.1 h1).1
    have := (List.getElem?_eq_some_iff.1 h2).1
    simp at *; omega
  rng := fun e he => by
    rw [List.mem_singleton] at he; subst he
    exact ⟨⟨by decide, by decide⟩, by decide, by decide⟩
  par := fun j e hj h => by
    have := (List.getElem?_eq_some_iff.1 h).1
    simp at this; omega
  len := by
    have := left_lt [] (code ent0.p) 1024 (by decide) (by simp)
    rw [left_all] at this
    simp only [List.nil_append] at this
    simp only [List.map_cons, List.map_nil, List.length_singleton]
    omega
  pth := fun j e h => by
    have := (List.getElem?_eq_some_iff.1 h).1
    have hj : j = 0 := by simpa using this
    subst hj; cases h
    exact ⟨Nat.le_refl _, fun y hy => by cases hy⟩
theorem seen_no {E : List Ent} {q : Int × Int} (h : seenE E q = false) : ∀ e ∈ E, e.p ≠ q := by
  intro e he hq
  unfold seenE at h
  rw [List.any_eq_false] at h
  exact h e he (by simp [hq])
theorem seen_yes {E : List Ent} {q : Int × Int} (h : seenE E q = true) : ∃ (i : Nat) (e : Ent), E[i]? = some e ∧ e.p = q := by
  unfold seenE at h
  rw [List.any_eq_true] at h
  obtain ⟨e, he, hq⟩ := h
  obtain ⟨i, hi, rfl⟩ := List.getElem_of_mem he
  exact ⟨i, _, List.getElem?_eq_getElem hi, by simpa using hq⟩
theorem SInv.step {N : Nat} {E : List Ent} (h : SInv N E) {i x : Nat} {e : Ent} (hi : E[i]? = some e) (hx : x < N) {q : Int × Int} (hq : InR q) (hs : seenE E q = false) :
    SInv N (E ++ [⟨q, e.p, x, e.path ++ [(x : Int)]⟩]) := by
  have hil := (List.getElem?_eq_some_iff.1 hi).1
  have hne := seen_no hs
  have get : ∀ (j : Nat) (a : Ent), (E ++ [⟨q, e.p, x, e.path ++ [(x : Int)]⟩])[j]? = some a → (E[j]? = some a ∧ j < E.length) ∨ (j = E.length ∧ a = ⟨q, e.p, x, e.path ++ [(x : Int)]⟩) := by
    intro j a ha
    by_cases hj : j < E.length
    · rw [List.getElem?_append_left hj] at ha; exact .inl ⟨ha, hj⟩
    · rw [List.getElem?_append_right (by omega)] at ha
      have := (List.getElem?_eq_some_iff.1 ha).1
      have hj0 : j - E.length = 0 := by simpa using this
      rw [hj0] at ha; cases ha
      exact .inr ⟨by omega, rfl⟩
  refine ⟨?_, ?_, ?_, ?_, ?_, ?_⟩
  · rw [List.getElem?_append_left h.pos]; exact h.h0
  · intro a b ea eb ha hb hp
    rcases get a ea ha with ⟨ha, la⟩ | ⟨ha, rfl⟩ <;> rcases get b eb hb with ⟨hb, lb⟩ | ⟨hb, rfl⟩
    · exact h.inj a b ea eb ha hb hp
    · exact absurd hp (hne ea (List.mem_of_getElem? ha))
    · exact absurd hp.symm (hne eb (List.mem_of_getElem? hb))
    · omega
  · intro a ha
    rw [List.mem_append, List.mem_singleton] at ha
    rcases ha with ha | rfl
    · exact h.rng a ha
    · exact hq
  · intro j a hj ha
    rcases get j a ha with ⟨ha, la⟩ | ⟨rfl, rfl⟩
    · obtain ⟨j', e', h1, h2, h3⟩ := h.par j a hj ha
      exact ⟨j', e', h1, by rw [List.getElem?_append_left (by omega)]; exact h2, h3⟩
    · exact ⟨i, e, hil, by rw [List.getElem?_append_left hil]; exact hi, rfl, rfl⟩
  · have hc : code q ∉ E.map fun e => code e.p := by
      intro hm
      rw [List.mem_map] at hm
      obtain ⟨a, ha, hc⟩ := hm
      exact hne a ha (code_inj (h.rng a ha) hq hc)
    have hl := h.len
    have e2 : (E ++ [(⟨q, e.p, x, e.path ++ [(x : Int)]⟩ : Ent)]).map (fun e : Ent => code e.p) = E.map (fun e : Ent => code e.p) ++ [code q] := by rw [List.map_append]; rfl
    rw [e2, List.length_append, List.length_singleton]
    generalize E.map (fun e : Ent => code e.p) = S at hc hl ⊢
    have h2 := code_lt hq
    generalize code q = c at hc h2 ⊢
    have := left_lt S c 1024 h2 hc
    omega
  · intro j a ha
    rcases get j a ha with ⟨ha, la⟩ | ⟨rfl, rfl⟩
    · exact h.pth j a ha
    · obtain ⟨hl, hy⟩ := h.pth i e hi
      refine ⟨by simp; omega, fun y hm => ?_⟩
      simp only [List.mem_append, List.mem_singleton] at hm
      rcases hm with hm | rfl
      · exact hy y hm
      · omega
def stepS (a : NetT) (f : FaultT) (b : NetT) (g : FaultT) : StepT := fun p x =>
  (((beatR a f p.1 x).1, (beatR b g p.2 x).1), (beatR a f p.1 x).2 != (beatR b g p.2 x).2)
theorem stepS_in {a b : NetT} (oka : NetOK a) (okb : NetOK b) {f g : FaultT} (hf : FltOK f) (hg : FltOK g) (p : Int × Int) (x : Int) : InR (stepS a f b g p x).1 := by
  have h1 := beatR_st oka hf p.1 x
  have h2 := beatR_st okb hg p.2 x
  have p1 := pow32 oka.hd
  have p2 := pow32 okb.hd
  exact ⟨⟨h1.1, by show (beatR a f p.1 x).1 < 32; omega⟩, h2.1, by show (beatR b g p.2 x).1 < 32; omega⟩
def srchE (r : Option (List Int)) : AV := match r with
  | some l => outE (l, 0)
  | none => outE ([], 9)
end Go.Proofs.YtfpaonfddaeamaaGreatDoor
namespace Go.Proofs.YtfpaonfddaeamaaGreatDoor
open Go Go.QL
set_option maxHeartbeats 1600000
attribute [local irreducible] ACall FnC
structure SSt (Q : Type) where
  E : List Ent
  i : Nat
  x : Nat
  st : Nat
  f : Nat
  lv : (Int × Int) × Int
  q : Q
def pV (p : Int × Int) : Value := .agg #[.int .i64 p.1, .int .i64 p.2]
def fromAV (p : Int × Int) (x : Int) : AV := .a [.d (.v (.int .i64 p.1)), .d (.v (.int .i64 p.2)), .d (.v (.int .i64 x))]
def kvE (E : List Ent) : List (Value × AV) := E.map fun e => (pV e.p, fromAV e.bef e.inp)
def ePV (e : Ent) : List PV := [.v (.int .i64 e.p.1), .v (.int .i64 e.p.2)]
abbrev mapE (E : List Ent) : Ob := .x (.map (.st [.int .i64, .int .i64]) (kvE E))
theorem kvE_get {E : List Ent} {i : Nat} {e : Ent} (h : E[i]? = some e) : (kvE E)[i]? = some (pV e.p, fromAV e.bef e.inp) := by
  unfold kvE; rw [List.getElem?_map, h]; rfl
theorem kvE_app (E : List Ent) (e : Ent) : kvE (E ++ [e]) = kvE E ++ [(pV e.p, fromAV e.bef e.inp)] := by unfold kvE; rw [List.map_append]; rfl
theorem pV_inj {p q : Int × Int} (h : pV p = pV q) : p = q := by
  unfold pV at h
  injection h with h
  have h1 := congrArg Array.toList h
  simp at h1
  exact Prod.ext h1.1 h1.2
theorem kvE_no {E : List Ent} {q : Int × Int} (h : seenE E q = false) (i : Nat) (y : AV) : (kvE E)[i]? ≠ some (pV q, y) := by
  intro hc
  unfold kvE at hc
  rw [List.getElem?_map] at hc
  cases he : E[i]? with
  | none => rw [he] at hc; cases hc
  | some e =>
    rw [he] at hc
    have h1 : pV e.p = pV q := by injection hc with hc; injection hc
    exact seen_no h e (List.mem_of_getElem? he) (pV_inj h1)
theorem e_some {E : List Ent} {i : Nat} {e : Ent} (h : E[i]? = some e) : (E.map ePV)[((i : Int)).toNat]? = some [.v (.int .i64 e.p.1), .v (.int .i64 e.p.2)] := by simp [h, ePV]
theorem e_some0 {E : List Ent} {e : Ent} (h : E[0]? = some e) : (E.map ePV)[(0 : Int).toNat]? = some [.v (.int .i64 e.p.1), .v (.int .i64 e.p.2)] := by simp [h, ePV]
theorem shl_N (k : Int) (h0 : 0 ≤ k) (h1 : k ≤ 32) : IntKind.i64.wrap (1 * 2 ^ (min k.toNat IntKind.i64.bits)) = ((2 ^ k.toNat : Nat) : Int) := by
  rw [shl_one k h0 h1]; exact (Int.natCast_pow 2 _).symm
theorem N_le {n : NetT} (h6 : n.inn ≤ 6) : 2 ^ n.inn.toNat ≤ 64 := by
  have : n.inn.toNat ≤ 6 := by omega
  exact Nat.pow_le_pow_right (n := 2) (by decide) this
theorem ne_eqL {p : Int × Int} (h : p ≠ (0, 0)) : (!eqL [.int .i64 p.1, .int .i64 p.2] [.int .i64 0, .int .i64 0]) = true := by
  obtain ⟨a, b⟩ := p
  simp only [eqL, eqV, Bool.and_true, Bool.not_eq_true', Bool.and_eq_false_iff]
  by_cases ha : a = 0
  · right
    have : b ≠ 0 := fun hb => h (by rw [ha, hb])
    simpa using this
  · left; simpa using ha
abbrev BQ := Nat × Nat × List W16
abbrev sgS (n : NetT) (s1 : Nat) (sk : List (W16 × W16)) (s2 : Nat) (q : BQ) : Sg := (910, .box [.b 900 0]) :: sB n s1 sk s2 (dl0 n) q.1 q.2.1 q.2.2
theorem show_cl {n : NetT} (ok : NetOK n) {s1 : Nat} {sk : List (W16 × W16)} (hsk : sk.length = n.inn.toNat + n.gates.length) {s2 : Nat} {f : FaultT} (h0 : SkLane sk 0 fine) (h1 : SkLane sk 1 f) (hf : FltOK f) (q : BQ) (p : Int × Int) (x : Int) :
    ACall Tryz.prog 55 [pairAV p, iv .i64 x, .x (.b 910 0)] (sgS n s1 sk s2 q)
      (fun r σ' => ∃ q' : BQ, r = .t [pairAV (stepS n fine n f p x).1, bv (stepS n fine n f p x).2] ∧ σ' = sgS n s1 sk s2 q') := by
  refine (showc_fn ok hsk (s1 := s1) (s2 := s2) (s3 := q.1) (k := q.2.1) (nw := q.2.2) p x).mono ?_
  rintro r σ' ⟨s3', rfl, rfl⟩
  refine ⟨(s3', _, _), ?_, rfl⟩
  have a := lane_beat ok hsk h0 fine_ok (by decide) [p.1, p.2] (by simp) (by simp) x
  have b := lane_beat ok hsk h1 hf (by decide) [p.1, p.2] (by simp) (by simp) x
  have e : showS n sk p x = stepS n fine n f p x := by
    unfold showS stepS sigS
    rw [a.1, a.2, b.1, b.2]; rfl
  rw [e]
abbrev BQ2 := Nat × Nat × List W16 × Nat × Nat × List W16
abbrev sgD (a b : NetT) (s2 t2 : Nat) (q : BQ2) : Sg := sAB a b s2 q.1 q.2.1 q.2.2.1 t2 q.2.2.2.1 q.2.2.2.2.1 q.2.2.2.2.2
theorem diff_cl {a b : NetT} (oka : NetOK a) (okb : NetOK b) {s2 t2 : Nat} (q : BQ2) (p : Int × Int) (x : Int) :
    ACall Tryz.prog 59 [pairAV p, iv .i64 x, .x (.b 910 0), .x (.b 911 0)] (sgD a b s2 t2 q)
      (fun r σ' => ∃ q' : BQ2, r = .t [pairAV (stepS a fine b fine p x).1, bv (stepS a fine b fine p x).2] ∧ σ' = sgD a b s2 t2 q') := by
  refine (diffc_fn oka okb (s2 := s2) (s3 := q.1) (k := q.2.1) (nw := q.2.2.1) (t2 := t2) (t3 := q.2.2.2.1) (l := q.2.2.2.2.1) (mw := q.2.2.2.2.2) p x).mono ?_
  rintro r σ' ⟨s3', t3', rfl, rfl⟩
  refine ⟨(s3', _, _, t3', _, _), ?_, rfl⟩
  have h := lane_beat oka (sk0_len a) (sk0_lane a 0) fine_ok (by decide) [p.1] (by simp) (by simp) x
  have k := lane_beat okb (sk0_len b) (sk0_lane b 0) fine_ok (by decide) [p.2] (by simp) (by simp) x
  have e : diffS a b p x = stepS a fine b fine p x := by
    unfold diffS stepS sig0
    rw [h.1, h.2, k.1, k.2]; rfl
  rw [e]
end Go.Proofs.YtfpaonfddaeamaaGreatDoor
namespace Go.Proofs.YtfpaonfddaeamaaGreatDoor
open Go Go.QL
set_option maxHeartbeats 3200000
attribute [local irreducible] ACall FnC
theorem search_show0 {n : NetT} (ok : NetOK n) {s1 : Nat} {sk : List (W16 × W16)} (hsk : sk.length = n.inn.toNat + n.gates.length) {s2 : Nat} {f : FaultT} (h0 : SkLane sk 0 fine) (h1 : SkLane sk 1 f) (hf : FltOK f) (q0 : BQ) :
    ACall Tryz.prog 54 [iv .i64 n.inn, .x (.f (.func 55) [] [.b 910 0])] (sgS n s1 sk s2 (q0))
      (fun r σ' => ∃ q : BQ, LeAV r (srchE (srch (stepS n fine n f) (2 ^ n.inn.toNat))) ∧ σ' = sgS n s1 sk s2 (q)) := by
  have hn1 := ok.h1; have hn6 := ok.h6
  have hN6 := N_le hn6
  obtain ⟨N, hN⟩ : ∃ N : Nat, (2 ^ n.inn.toNat) = N := ⟨_, rfl⟩
  have hshl := shl_N n.inn (by omega) (by omega)
  rw [hN] at hN6 hshl ⊢
  refine ACall_of_AWD hTt Tryz.func54 rfl (by kernel_rfl) (res := [.tmp 4, .tmp 5]) rfl Tryz.ntmps54 (by simp) fun w0 K0 B => ?_
  dsimp only [entry]
  repeat' first | with_reducible refine AW_seq ?_ | with_reducible refine AW_block ?_ | with_reducible refine AW_scope ?_ | ((first | with_reducible refine AW_label ?_ | with_reducible refine AW_region hTt ?_ | refine ⟨kvE [ent0], .inr ⟨fun i y => by simp, rfl⟩, ?_⟩ | refine andA ?_ | fail); conv => whnf) | fail
  refine AW_loop (fun s : SSt BQ => [(10, iv .i64 s.i), (9, bv false), (8, .x (.b 8 0)), (7, .x (.o 23 s.st s.E.length)), (6, .x (.h 18)), (0, iv .i64 n.inn), (1, .x (.f (.func 55) [] [.b 910 0]))])
    (fun s => (8, .box [.d (.v (.int .i64 s.lv.1.1)), .d (.v (.int .i64 s.lv.1.2)), .d (.v (.int .i64 s.lv.2))]) :: (23, .chain 97 2 s.st (s.E.map ePV)) :: (18, mapE s.E) :: sgS n s1 sk s2 (s.q))
    (fun s => s.x = 0 ∧ s.i ≤ s.E.length ∧ SInv N s.E ∧ bound s.i 0 ≤ s.f ∧ srch (stepS n fine n f) N = bfs (stepS n fine n f) N s.f s.E s.i 0) (fun s => 1025 - s.i) ⟨[ent0], 0, 0, 0, fuel0, ((0, 0), 0), q0⟩
    ⟨rfl, Nat.zero_le _, SInv.init _, by show bound 0 0 ≤ fuel0; decide, rfl⟩ impA ?_
  rintro ⟨E, i, x, st, f0, lv, q⟩ ⟨hx0, hi, hE, hbd, hsr⟩
  dsimp only at hx0 hi hE hbd hsr ⊢
  subst hx0
  have hle := hE.le
  rcases Nat.lt_or_ge i E.length with hil | hil
  · repeat' first | with_reducible refine AW_seq ?_ | with_reducible refine AW_block ?_ | ((first | with_reducible refine AW_skip ?_ | with_reducible refine AW_exit ?_ | with_reducible refine AW_region hTt ?_ | fail); conv => whnf) | (exact absurd hb (by omega)) | ((refine ⟨_, hshl, ?_⟩); conv => whnf) | (refine AW_cond rfl (fun hb => ?_) (fun hb => ?_) <;> first | (replace hb := of_decide_eq_true hb; try simp only [List.length_map] at hb) | (replace hb := of_decide_eq_false hb; try simp only [List.length_map] at hb)) | ((refine andA ?_); conv => whnf) | (refine fun hln => ?_; (try rw [List.length_map] at hln); unfold maxLen at hln; conv => whnf) | fail
    refine AW_loop (fun s : SSt BQ => [(32, iv .i64 s.x), (31, iv .i64 N), (10, iv .i64 i), (9, bv false), (8, .x (.b 8 0)), (7, .x (.o 23 s.st s.E.length)), (6, .x (.h 18)), (0, iv .i64 n.inn), (1, .x (.f (.func 55) [] [.b 910 0]))])
      (fun s => (8, .box [.d (.v (.int .i64 s.lv.1.1)), .d (.v (.int .i64 s.lv.1.2)), .d (.v (.int .i64 s.lv.2))]) :: (23, .chain 97 2 s.st (s.E.map ePV)) :: (18, mapE s.E) :: sgS n s1 sk s2 (s.q))
      (fun s => s.i = i ∧ i < s.E.length ∧ s.x ≤ N ∧ SInv N s.E ∧ bound i s.x ≤ s.f ∧ srch (stepS n fine n f) N = bfs (stepS n fine n f) N s.f s.E i s.x) (fun s => N - s.x) ⟨E, i, 0, st, f0, lv, q⟩
      ⟨rfl, hil, Nat.zero_le _, hE, hbd, hsr⟩ impA ?_
    clear hsr hbd hE hle hi hil
    rintro ⟨E, i', x, st, f0, lv, q⟩ ⟨hii, hil, hx, hE, hbd, hsr⟩
    dsimp only at hii hil hx hE hbd hsr ⊢
    subst hii
    have hle := hE.le
    obtain ⟨f1, rfl⟩ : ∃ f1, f0 = f1 + 1 := ⟨f0 - 1, by unfold bound at hbd; omega⟩
    rcases Nat.lt_or_ge x N with hxN | hxN
    · obtain ⟨e, he⟩ : ∃ e, E[i']? = some e := ⟨_, List.getElem?_eq_getElem hil⟩
      have heD : E.getD i' ent0 = e := by rw [List.getD_eq_getElem?_getD, he]; rfl
      rw [bfs, if_pos hil, if_pos hxN, heD] at hsr
      have hcl := show_cl ok hsk (s1 := s1) (s2 := s2) h0 h1 hf q e.p x
      have hin := stepS_in ok ok fine_ok hf e.p x
      generalize hst : stepS n fine n f e.p x = sx at hsr hcl hin
      obtain ⟨nx, df⟩ := sx
      dsimp only at hsr hcl hin
      cases df with
      | true =>
        rw [if_pos rfl] at hsr
        rw [hsr]
        repeat' first | with_reducible refine AW_seq ?_ | with_reducible refine AW_block ?_ | ((first | with_reducible refine AW_skip ?_ | with_reducible refine AW_exit ?_ | with_reducible refine AW_region hTt ?_ | fail); conv => whnf) | (exact absurd hb (by omega)) | ((first | refine ⟨_, gd_any (e_some he), ⟨Nat.le_of_ble_eq_true rfl, rfl⟩, ?_⟩ | ((refine ⟨_, (hcl).frame (asc []) (by repeat (first | exact trivial | refine ⟨rfl, ?_⟩)) rfl (by rintro _ _ ⟨_, rfl, rfl⟩; rfl), ?_⟩); (rintro _ _ ⟨_, _, ⟨_, rfl, rfl⟩, rfl, rfl⟩)) | fail); conv => whnf) | (refine AW_cond rfl (fun _ => ?_) (fun hb => absurd hb (by decide))) | (refine AW_cond rfl (fun hb => absurd hb (by decide)) (fun _ => ?_)) | (refine AW_cond rfl (fun hb => ?_) (fun hb => ?_) <;> first | (replace hb := of_decide_eq_true hb; try simp only [List.length_map] at hb) | (replace hb := of_decide_eq_false hb; try simp only [List.length_map] at hb)) | ((first | refine andA ?_ | with_reducible refine And.intro (gd_any (And.intro (by omega) (And.intro (by first | omega | (simp only [List.length_map]; omega)) (by first | omega | (simp only [List.length_map]; omega) | (simp only [List.length_set, List.length_map]; omega))))) ?_ | fail); conv => whnf) | fail
        rename_i q' _ _
        have hpl := hE.pth i' e he
        refine AW_loop (fun s : Ent × Nat × List Int × Nat => [(16, .x (.o 72 s.2.2.2 s.2.2.1.length)), (6, .x (.h 18)), (17, .x (.b 17 0)), (7, .x (.o 23 st E.length))])
          (fun s => (72, .chain 3 1 s.2.2.2 (s.2.2.1.map iPV)) :: (17, .box [.d (.v (.int .i64 s.1.p.1)), .d (.v (.int .i64 s.1.p.2))]) :: (23, .chain 97 2 st (E.map ePV)) :: (18, mapE E) :: sgS n s1 sk s2 (q'))
          (fun s => E[s.2.1]? = some s.1 ∧ s.2.2.1 ++ s.1.path.reverse = (e.path ++ [(x : Int)]).reverse) (fun s => s.2.1) (e, i', [(x : Int)], 0) ⟨he, by simp⟩ impA ?_
        rintro ⟨⟨c, cb, ci, cp⟩, j, l, sl'⟩ ⟨hj, hl⟩
        dsimp only at hj hl ⊢
        have hcp := (hE.pth j _ hj).1
        have hll : l.length ≤ 1025 := by
          have := congrArg List.length hl
          simp only [List.length_append, List.length_reverse, List.length_singleton] at this
          omega
        rcases Nat.eq_zero_or_pos j with hj0 | hj0
        · subst hj0
          have hc0 := hE.h0
          rw [hj] at hc0
          injection hc0 with hc0
          have e1 : c = (0, 0) := congrArg Ent.p hc0
          have e2 : cp = [] := congrArg Ent.path hc0
          subst e1; subst e2
          clear hc0
          dsimp only
          repeat' first | with_reducible refine AW_seq ?_ | ((first | with_reducible refine AW_exit ?_ | with_reducible refine AW_region hTt ?_ | refine AW_draw hTt hMix (id := 24) 4 false [0, 0, 2, 6, 15] (by kernel_rfl) rfl rfl (by kernel_rfl) ?_ | refine ⟨_, gd_none (e_some0 hE.h0), ⟨Nat.le_of_ble_eq_true rfl, rfl⟩, ?_⟩ | fail); conv => whnf) | (refine AW_cond rfl (fun hb => absurd hb (by decide)) (fun _ => ?_)) | ((first | refine andA ?_ | with_reducible refine And.intro (gd_any (And.intro (by omega) (And.intro (by first | omega | (simp only [List.length_map]; omega)) (by first | omega | (simp only [List.length_map]; omega) | (simp only [List.length_set, List.length_map]; omega))))) ?_ | fail); conv => whnf) | fail
          have e3 : l = (e.path ++ [(x : Int)]).reverse := by simpa using hl
          have hrev := reverse_fn l sl' (by omega)
          repeat' first | with_reducible refine AW_seq ?_ | ((first | with_reducible refine AW_ret ?_ | with_reducible refine AW_region hTt ?_ | ((refine ⟨_, (hrev).frame (asc [(700, 72)]) (by repeat (first | exact trivial | refine ⟨rfl, ?_⟩)) rfl (by rintro _ _ ⟨rfl, rfl⟩; rfl), ?_⟩); (rintro _ _ ⟨_, _, ⟨rfl, rfl⟩, rfl, rfl⟩)) | fail); conv => whnf) | fail
          have e4 : l.reverse = e.path ++ [(x : Int)] := by rw [e3, List.reverse_reverse]
          refine ⟨_, sgS n s1 sk s2 (q'), ⟨rfl, rfl, rfl, rfl, rfl, trivial⟩, rfl, (?_ : _ = some (AV.t [sl (e.path ++ [(x : Int)]), iv .i64 0])), q', ?_, rfl⟩
          · rw [← e4]
            exact outKeep2 (x := .x (.o 72 sl' _)) (y := iv .i64 0) rfl (keepO (xs := l.reverse.map iPV) rfl rfl (by simp)) rfl
          · exact LeAV.refl _
        · have hne : c ≠ (0, 0) := by
            intro h0
            have := hE.inj j 0 _ ent0 hj hE.h0 h0
            omega
          have hnq := ne_eqL hne
          obtain ⟨j', e', hjj, hj', hb1, hb2⟩ := hE.par j _ hj0 hj
          dsimp only at hb1 hb2
          repeat' first | ((refine AW_imp (fr' := [(16, .x (.o 72 (sl' + 1) (l.length + 1))), (6, .x (.h 18)), (7, .x (.o 23 st E.length)), (91, .a [.d (.v (.int .i64 c.1)), .d (.v (.int .i64 c.2))])]) (σ' := (72, .chain 3 1 (sl' + 1) ((l ++ [ci]).map iPV)) :: (23, .chain 97 2 st (E.map ePV)) :: (18, mapE E) :: sgS n s1 sk s2 (q')) (Imp.forget (by repeat' (first | exact trivial | refine And.intro ?_ ?_ | exact chE (by rw [List.take_of_length_le (by simp), List.map_append]; try rfl) | rfl | exact ivE (by first | omega | (simp only [List.length_map, List.length_append, List.length_singleton] <;> omega)) | exact oE (by first | omega | (simp only [List.length_map, List.length_append, List.length_singleton] <;> omega)))) (by repeat' (first | exact trivial | refine And.intro ?_ ?_ | exact chE (by rw [List.take_of_length_le (by simp), List.map_append]; try rfl) | rfl | exact ivE (by first | omega | (simp only [List.length_map, List.length_append, List.length_singleton] <;> omega)) | exact oE (by first | omega | (simp only [List.length_map, List.length_append, List.length_singleton] <;> omega)))) (by kernel_rfl) (by kernel_rfl) (by kernel_rfl)) (AW_region (id := 28) hTt ?_)); conv => whnf) | with_reducible refine AW_seq ?_ | with_reducible refine AW_block ?_ | ((first | with_reducible refine AW_skip ?_ | with_reducible refine AW_region hTt ?_ | refine AW_draw hTt hMix (id := 24) 4 false [0, 0, 2, 6, 15] (by kernel_rfl) rfl rfl (by kernel_rfl) ?_ | refine ⟨_, gd_none (e_some0 hE.h0), ⟨Nat.le_of_ble_eq_true rfl, rfl⟩, ?_⟩ | fail); conv => whnf) | (refine AW_cond (b := true) (congrArg (fun z => some (none, bv z)) hnq) (fun _ => ?_) (fun hb => absurd hb (by decide))) | ((first | refine ⟨fromAV cb ci, true, .inl ⟨rfl, j, kvE_get hj⟩, rfl, ?_⟩ | refine andA ?_ | with_reducible refine And.intro (gd_any (And.intro (by omega) (And.intro (by first | omega | (simp only [List.length_map]; omega)) (by first | omega | (simp only [List.length_map]; omega) | (simp only [List.length_set, List.length_map]; omega))))) ?_ | fail); conv => whnf) | ((refine And.intro (by refine ⟨?_, ?_, ?_⟩ <;> simp [chunk, maxLen] <;> omega) ?_); conv => whnf) | fail
          subst hb1; subst hb2
          refine ⟨(e', j', l ++ [ci], sl' + 1), ⟨hj', ?_⟩, hjj, impA⟩
          rw [← hl]
          simp
      | false =>
        rw [if_neg (by decide)] at hsr
        by_cases hs : seenE E nx = true
        · rw [if_pos hs] at hsr
          obtain ⟨k, ek, hk, hkp⟩ := seen_yes hs
          subst hkp
          repeat' first | with_reducible refine AW_seq ?_ | with_reducible refine AW_block ?_ | ((first | with_reducible refine AW_skip ?_ | with_reducible refine AW_exit ?_ | with_reducible refine AW_region hTt ?_ | fail); conv => whnf) | (exact absurd hb (by omega)) | ((first | refine ⟨_, gd_any (e_some he), ⟨Nat.le_of_ble_eq_true rfl, rfl⟩, ?_⟩ | ((refine ⟨_, (hcl).frame (asc []) (by repeat (first | exact trivial | refine ⟨rfl, ?_⟩)) rfl (by rintro _ _ ⟨_, rfl, rfl⟩; rfl), ?_⟩); (rintro _ _ ⟨_, _, ⟨_, rfl, rfl⟩, rfl, rfl⟩)) | refine ⟨fromAV ek.bef ek.inp, true, .inl ⟨rfl, k, kvE_get hk⟩, rfl, ?_⟩ | fail); conv => whnf) | (refine AW_cond rfl (fun hb => absurd hb (by decide)) (fun _ => ?_)) | (refine AW_cond rfl (fun hb => ?_) (fun hb => ?_) <;> first | (replace hb := of_decide_eq_true hb; try simp only [List.length_map] at hb) | (replace hb := of_decide_eq_false hb; try simp only [List.length_map] at hb)) | ((first | refine ⟨_, wrap_of (by first | omega | (simp only [List.length_map]; omega)), ?_⟩ | refine andA ?_ | with_reducible refine And.intro (gd_any (And.intro (by omega) (And.intro (by first | omega | (simp only [List.length_map]; omega)) (by first | omega | (simp only [List.length_map]; omega) | (simp only [List.length_set, List.length_map]; omega))))) ?_ | fail); conv => whnf) | fail
          rename_i q' _ _
          exact ⟨⟨E, i', x + 1, st, f1, (e.p, x), q'⟩, ⟨rfl, hil, hxN, hE, by show bound i' (x + 1) ≤ f1; unfold bound at hbd ⊢; omega, hsr⟩, by show N - (x + 1) < N - x; omega, impA⟩
        · have hs' : seenE E nx = false := by simpa using hs
          rw [if_neg hs] at hsr
          have hE2 := hE.step he hxN hin hs'
          repeat' first | with_reducible refine AW_seq ?_ | with_reducible refine AW_block ?_ | ((first | with_reducible refine AW_skip ?_ | with_reducible refine AW_exit ?_ | with_reducible refine AW_region hTt ?_ | fail); conv => whnf) | (exact absurd hb (by omega)) | ((first | refine ⟨_, gd_any (e_some he), ⟨Nat.le_of_ble_eq_true rfl, rfl⟩, ?_⟩ | ((refine ⟨_, (hcl).frame (asc []) (by repeat (first | exact trivial | refine ⟨rfl, ?_⟩)) rfl (by rintro _ _ ⟨_, rfl, rfl⟩; rfl), ?_⟩); (rintro _ _ ⟨_, _, ⟨_, rfl, rfl⟩, rfl, rfl⟩)) | refine ⟨_, false, .inr ⟨rfl, rfl, kvE_no hs'⟩, rfl, ?_⟩ | refine ⟨kvE (E ++ [⟨nx, e.p, x, e.path ++ [(x : Int)]⟩]), .inr ⟨kvE_no hs', kvE_app _ _⟩, ?_⟩ | fail); conv => whnf) | (refine AW_cond rfl (fun _ => ?_) (fun hb => absurd hb (by decide))) | (refine AW_cond rfl (fun hb => absurd hb (by decide)) (fun _ => ?_)) | (refine AW_cond rfl (fun hb => ?_) (fun hb => ?_) <;> first | (replace hb := of_decide_eq_true hb; try simp only [List.length_map] at hb) | (replace hb := of_decide_eq_false hb; try simp only [List.length_map] at hb)) | ((first | refine ⟨_, wrap_of (by first | omega | (simp only [List.length_map]; omega)), ?_⟩ | refine andA ?_ | with_reducible refine And.intro (gd_any (And.intro (by omega) (And.intro (by first | omega | (simp only [List.length_map]; omega)) (by first | omega | (simp only [List.length_map]; omega) | (simp only [List.length_set, List.length_map]; omega))))) ?_ | fail); conv => whnf) | ((refine And.intro (by refine ⟨?_, ?_, ?_⟩ <;> simp [chunk, maxLen] <;> omega) ?_); conv => whnf) | fail
          rename_i q' _ _
          exact ⟨⟨E ++ [⟨nx, e.p, x, e.path ++ [(x : Int)]⟩], i', x + 1, st + 1, f1, (e.p, x), q'⟩, ⟨rfl, by show i' < (E ++ [_]).length; rw [List.length_append]; omega, hxN, hE2, by show bound i' (x + 1) ≤ f1; unfold bound at hbd ⊢; omega, hsr⟩, by show N - (x + 1) < N - x; omega,
            (Imp.forget (by repeat' (first | exact trivial | refine And.intro ?_ ?_ | exact chE (by rw [List.take_of_length_le (by simp), List.map_append]; try rfl) | exact oE (by rw [List.length_append]; rfl) | rfl | exact ivE (by first | omega | (simp only [List.length_map, List.length_append, List.length_singleton] <;> omega)) | exact oE (by first | omega | (simp only [List.length_map, List.length_append, List.length_singleton] <;> omega)))) (by repeat' (first | exact trivial | refine And.intro ?_ ?_ | exact chE (by rw [List.take_of_length_le (by simp), List.map_append]; try rfl) | exact oE (by rw [List.length_append]; rfl) | rfl | exact ivE (by first | omega | (simp only [List.length_map, List.length_append, List.length_singleton] <;> omega)) | exact oE (by first | omega | (simp only [List.length_map, List.length_append, List.length_singleton] <;> omega)))) (by kernel_rfl) (by kernel_rfl) (by kernel_rfl))⟩
    · have hxe : x = N := by omega
      subst hxe
      rw [bfs, if_pos hil, if_neg (by omega)] at hsr
      repeat' first | with_reducible refine AW_seq ?_ | with_reducible refine AW_block ?_ | ((first | with_reducible refine AW_skip ?_ | with_reducible refine AW_exit ?_ | with_reducible refine AW_region hTt ?_ | fail); conv => whnf) | (exact absurd hb (by omega)) | (refine AW_cond rfl (fun hb => ?_) (fun hb => ?_) <;> first | (replace hb := of_decide_eq_true hb; try simp only [List.length_map] at hb) | (replace hb := of_decide_eq_false hb; try simp only [List.length_map] at hb)) | ((refine ⟨_, wrap_of (by first | omega | (simp only [List.length_map]; omega)), ?_⟩); conv => whnf) | fail
      exact ⟨⟨E, i' + 1, 0, st, f1, lv, q⟩, ⟨rfl, hil, hE, by show bound (i' + 1) 0 ≤ f1; unfold bound at hbd ⊢; omega, hsr⟩, by show 1025 - (i' + 1) < 1025 - i'; omega, impA⟩
  · obtain ⟨f1, rfl⟩ : ∃ f1, f0 = f1 + 1 := ⟨f0 - 1, by unfold bound at hbd; omega⟩
    rw [bfs, if_neg (by omega)] at hsr
    rw [hsr]
    repeat' first | with_reducible refine AW_seq ?_ | with_reducible refine AW_block ?_ | ((first | with_reducible refine AW_skip ?_ | with_reducible refine AW_exit ?_ | with_reducible refine AW_ret ?_ | with_reducible refine AW_region hTt ?_ | fail); conv => whnf) | (exact absurd hb (by omega)) | (refine AW_cond rfl (fun _ => ?_) (fun hb => absurd hb (by decide))) | (refine AW_cond rfl (fun hb => ?_) (fun hb => ?_) <;> first | (replace hb := of_decide_eq_true hb; try simp only [List.length_map] at hb) | (replace hb := of_decide_eq_false hb; try simp only [List.length_map] at hb)) | ((refine andA ?_); conv => whnf) | (refine fun hln => ?_; (try rw [List.length_map] at hln); unfold maxLen at hln; conv => whnf) | fail
    exact ⟨_, sgS n s1 sk s2 (q), ⟨rfl, rfl, rfl, rfl, rfl, trivial⟩, rfl, rfl, q, ⟨_, rfl, LeAV1.nil 1, LeAV1.refl _, trivial⟩, rfl⟩
theorem search_show {n : NetT} (ok : NetOK n) {s1 : Nat} {sk : List (W16 × W16)} (hsk : sk.length = n.inn.toNat + n.gates.length) {s2 : Nat} {f : FaultT} (h0 : SkLane sk 0 fine) (h1 : SkLane sk 1 f) (hf : FltOK f) (q0 : BQ) :
    ACall Tryz.prog 54 [iv .i64 n.inn, .x (.f (.func 55) [] [.b 910 0])] (sgS n s1 sk s2 (q0))
      (fun r σ' => ∃ q : BQ, r = srchE (srch (stepS n fine n f) (2 ^ n.inn.toNat)) ∧ σ' = sgS n s1 sk s2 (q)) :=
  (search_show0 ok hsk h0 h1 hf q0).le fun r σ' ⟨q, h, e⟩ => ⟨_, h, q, rfl, e⟩
end Go.Proofs.YtfpaonfddaeamaaGreatDoor
namespace Go.Proofs.YtfpaonfddaeamaaGreatDoor
open Go Go.QL
set_option maxHeartbeats 3200000
attribute [local irreducible] ACall FnC
theorem search_diff0 {a b : NetT} (oka : NetOK a) (okb : NetOK b) {s2 t2 : Nat} (q0 : BQ2) :
    ACall Tryz.prog 54 [iv .i64 a.inn, .x (.f (.func 59) [] [.b 910 0, .b 911 0])] (sgD a b s2 t2 (q0))
      (fun r σ' => ∃ q : BQ2, LeAV r (srchE (srch (stepS a fine b fine) (2 ^ a.inn.toNat))) ∧ σ' = sgD a b s2 t2 (q)) := by
  have hn1 := oka.h1; have hn6 := oka.h6
  have hN6 := N_le hn6
  obtain ⟨N, hN⟩ : ∃ N : Nat, (2 ^ a.inn.toNat) = N := ⟨_, rfl⟩
  have hshl := shl_N a.inn (by omega) (by omega)
  rw [hN] at hN6 hshl ⊢
  refine ACall_of_AWD hTt Tryz.func54 rfl (by kernel_rfl) (res := [.tmp 4, .tmp 5]) rfl Tryz.ntmps54 (by simp) fun w0 K0 B => ?_
  dsimp only [entry]
  repeat' first | with_reducible refine AW_seq ?_ | with_reducible refine AW_block ?_ | with_reducible refine AW_scope ?_ | ((first | with_reducible refine AW_label ?_ | with_reducible refine AW_region hTt ?_ | refine ⟨kvE [ent0], .inr ⟨fun i y => by simp, rfl⟩, ?_⟩ | refine andA ?_ | fail); conv => whnf) | fail
  refine AW_loop (fun s : SSt BQ2 => [(10, iv .i64 s.i), (9, bv false), (8, .x (.b 8 0)), (7, .x (.o 23 s.st s.E.length)), (6, .x (.h 18)), (0, iv .i64 a.inn), (1, .x (.f (.func 59) [] [.b 910 0, .b 911 0]))])
    (fun s => (8, .box [.d (.v (.int .i64 s.lv.1.1)), .d (.v (.int .i64 s.lv.1.2)), .d (.v (.int .i64 s.lv.2))]) :: (23, .chain 97 2 s.st (s.E.map ePV)) :: (18, mapE s.E) :: sgD a b s2 t2 (s.q))
    (fun s => s.x = 0 ∧ s.i ≤ s.E.length ∧ SInv N s.E ∧ bound s.i 0 ≤ s.f ∧ srch (stepS a fine b fine) N = bfs (stepS a fine b fine) N s.f s.E s.i 0) (fun s => 1025 - s.i) ⟨[ent0], 0, 0, 0, fuel0, ((0, 0), 0), q0⟩
    ⟨rfl, Nat.zero_le _, SInv.init _, by show bound 0 0 ≤ fuel0; decide, rfl⟩ impA ?_
  rintro ⟨E, i, x, st, f0, lv, q⟩ ⟨hx0, hi, hE, hbd, hsr⟩
  dsimp only at hx0 hi hE hbd hsr ⊢
  subst hx0
  have hle := hE.le
  rcases Nat.lt_or_ge i E.length with hil | hil
  · repeat' first | with_reducible refine AW_seq ?_ | with_reducible refine AW_block ?_ | ((first | with_reducible refine AW_skip ?_ | with_reducible refine AW_exit ?_ | with_reducible refine AW_region hTt ?_ | fail); conv => whnf) | (exact absurd hb (by omega)) | ((refine ⟨_, hshl, ?_⟩); conv => whnf) | (refine AW_cond rfl (fun hb => ?_) (fun hb => ?_) <;> first | (replace hb := of_decide_eq_true hb; try simp only [List.length_map] at hb) | (replace hb := of_decide_eq_false hb; try simp only [List.length_map] at hb)) | ((refine andA ?_); conv => whnf) | (refine fun hln => ?_; (try rw [List.length_map] at hln); unfold maxLen at hln; conv => whnf) | fail
    refine AW_loop (fun s : SSt BQ2 => [(32, iv .i64 s.x), (31, iv .i64 N), (10, iv .i64 i), (9, bv false), (8, .x (.b 8 0)), (7, .x (.o 23 s.st s.E.length)), (6, .x (.h 18)), (0, iv .i64 a.inn), (1, .x (.f (.func 59) [] [.b 910 0, .b 911 0]))])
      (fun s => (8, .box [.d (.v (.int .i64 s.lv.1.1)), .d (.v (.int .i64 s.lv.1.2)), .d (.v (.int .i64 s.lv.2))]) :: (23, .chain 97 2 s.st (s.E.map ePV)) :: (18, mapE s.E) :: sgD a b s2 t2 (s.q))
      (fun s => s.i = i ∧ i < s.E.length ∧ s.x ≤ N ∧ SInv N s.E ∧ bound i s.x ≤ s.f ∧ srch (stepS a fine b fine) N = bfs (stepS a fine b fine) N s.f s.E i s.x) (fun s => N - s.x) ⟨E, i, 0, st, f0, lv, q⟩
      ⟨rfl, hil, Nat.zero_le _, hE, hbd, hsr⟩ impA ?_
    clear hsr hbd hE hle hi hil
    rintro ⟨E, i', x, st, f0, lv, q⟩ ⟨hii, hil, hx, hE, hbd, hsr⟩
    dsimp only at hii hil hx hE hbd hsr ⊢
    subst hii
    have hle := hE.le
    obtain ⟨f1, rfl⟩ : ∃ f1, f0 = f1 + 1 := ⟨f0 - 1, by unfold bound at hbd; omega⟩
    rcases Nat.lt_or_ge x N with hxN | hxN
    · obtain ⟨e, he⟩ : ∃ e, E[i']? = some e := ⟨_, List.getElem?_eq_getElem hil⟩
      have heD : E.getD i' ent0 = e := by rw [List.getD_eq_getElem?_getD, he]; rfl
      rw [bfs, if_pos hil, if_pos hxN, heD] at hsr
      have hcl := diff_cl oka okb (s2 := s2) (t2 := t2) q e.p x
      have hin := stepS_in oka okb fine_ok fine_ok e.p x
      generalize hst : stepS a fine b fine e.p x = sx at hsr hcl hin
      obtain ⟨nx, df⟩ := sx
      dsimp only at hsr hcl hin
      cases df with
      | true =>
        rw [if_pos rfl] at hsr
        rw [hsr]
        repeat' first | with_reducible refine AW_seq ?_ | with_reducible refine AW_block ?_ | ((first | with_reducible refine AW_skip ?_ | with_reducible refine AW_exit ?_ | with_reducible refine AW_region hTt ?_ | fail); conv => whnf) | (exact absurd hb (by omega)) | ((first | refine ⟨_, gd_any (e_some he), ⟨Nat.le_of_ble_eq_true rfl, rfl⟩, ?_⟩ | ((refine ⟨_, (hcl).frame (asc []) (by repeat (first | exact trivial | refine ⟨rfl, ?_⟩)) rfl (by rintro _ _ ⟨_, rfl, rfl⟩; rfl), ?_⟩); (rintro _ _ ⟨_, _, ⟨_, rfl, rfl⟩, rfl, rfl⟩)) | fail); conv => whnf) | (refine AW_cond rfl (fun _ => ?_) (fun hb => absurd hb (by decide))) | (refine AW_cond rfl (fun hb => absurd hb (by decide)) (fun _ => ?_)) | (refine AW_cond rfl (fun hb => ?_) (fun hb => ?_) <;> first | (replace hb := of_decide_eq_true hb; try simp only [List.length_map] at hb) | (replace hb := of_decide_eq_false hb; try simp only [List.length_map] at hb)) | ((first | refine andA ?_ | with_reducible refine And.intro (gd_any (And.intro (by omega) (And.intro (by first | omega | (simp only [List.length_map]; omega)) (by first | omega | (simp only [List.length_map]; omega) | (simp only [List.length_set, List.length_map]; omega))))) ?_ | fail); conv => whnf) | fail
        rename_i q' _ _
        have hpl := hE.pth i' e he
        refine AW_loop (fun s : Ent × Nat × List Int × Nat => [(16, .x (.o 72 s.2.2.2 s.2.2.1.length)), (6, .x (.h 18)), (17, .x (.b 17 0)), (7, .x (.o 23 st E.length))])
          (fun s => (72, .chain 3 1 s.2.2.2 (s.2.2.1.map iPV)) :: (17, .box [.d (.v (.int .i64 s.1.p.1)), .d (.v (.int .i64 s.1.p.2))]) :: (23, .chain 97 2 st (E.map ePV)) :: (18, mapE E) :: sgD a b s2 t2 (q'))
          (fun s => E[s.2.1]? = some s.1 ∧ s.2.2.1 ++ s.1.path.reverse = (e.path ++ [(x : Int)]).reverse) (fun s => s.2.1) (e, i', [(x : Int)], 0) ⟨he, by simp⟩ impA ?_
        rintro ⟨⟨c, cb, ci, cp⟩, j, l, sl'⟩ ⟨hj, hl⟩
        dsimp only at hj hl ⊢
        have hcp := (hE.pth j _ hj).1
        have hll : l.length ≤ 1025 := by
          have := congrArg List.length hl
          simp only [List.length_append, List.length_reverse, List.length_singleton] at this
          omega
        rcases Nat.eq_zero_or_pos j with hj0 | hj0
        · subst hj0
          have hc0 := hE.h0
          rw [hj] at hc0
          injection hc0 with hc0
          have e1 : c = (0, 0) := congrArg Ent.p hc0
          have e2 : cp = [] := congrArg Ent.path hc0
          subst e1; subst e2
          clear hc0
          dsimp only
          repeat' first | with_reducible refine AW_seq ?_ | ((first | with_reducible refine AW_exit ?_ | with_reducible refine AW_region hTt ?_ | refine AW_draw hTt hMix (id := 24) 4 false [0, 0, 2, 6, 15] (by kernel_rfl) rfl rfl (by kernel_rfl) ?_ | refine ⟨_, gd_none (e_some0 hE.h0), ⟨Nat.le_of_ble_eq_true rfl, rfl⟩, ?_⟩ | fail); conv => whnf) | (refine AW_cond rfl (fun hb => absurd hb (by decide)) (fun _ => ?_)) | ((first | refine andA ?_ | with_reducible refine And.intro (gd_any (And.intro (by omega) (And.intro (by first | omega | (simp only [List.length_map]; omega)) (by first | omega | (simp only [List.length_map]; omega) | (simp only [List.length_set, List.length_map]; omega))))) ?_ | fail); conv => whnf) | fail
          have e3 : l = (e.path ++ [(x : Int)]).reverse := by simpa using hl
          have hrev := reverse_fn l sl' (by omega)
          repeat' first | with_reducible refine AW_seq ?_ | ((first | with_reducible refine AW_ret ?_ | with_reducible refine AW_region hTt ?_ | ((refine ⟨_, (hrev).frame (asc [(700, 72)]) (by repeat (first | exact trivial | refine ⟨rfl, ?_⟩)) rfl (by rintro _ _ ⟨rfl, rfl⟩; rfl), ?_⟩); (rintro _ _ ⟨_, _, ⟨rfl, rfl⟩, rfl, rfl⟩)) | fail); conv => whnf) | fail
          have e4 : l.reverse = e.path ++ [(x : Int)] := by rw [e3, List.reverse_reverse]
          refine ⟨_, sgD a b s2 t2 (q'), ⟨rfl, rfl, rfl, rfl, rfl, rfl, rfl, rfl, rfl, rfl, trivial⟩, rfl, (?_ : _ = some (AV.t [sl (e.path ++ [(x : Int)]), iv .i64 0])), q', ?_, rfl⟩
          · rw [← e4]
            exact outKeep2 (x := .x (.o 72 sl' _)) (y := iv .i64 0) rfl (keepO (xs := l.reverse.map iPV) rfl rfl (by simp)) rfl
          · exact LeAV.refl _
        · have hne : c ≠ (0, 0) := by
            intro h0
            have := hE.inj j 0 _ ent0 hj hE.h0 h0
            omega
          have hnq := ne_eqL hne
          obtain ⟨j', e', hjj, hj', hb1, hb2⟩ := hE.par j _ hj0 hj
          dsimp only at hb1 hb2
          repeat' first | ((refine AW_imp (fr' := [(16, .x (.o 72 (sl' + 1) (l.length + 1))), (6, .x (.h 18)), (7, .x (.o 23 st E.length)), (91, .a [.d (.v (.int .i64 c.1)), .d (.v (.int .i64 c.2))])]) (σ' := (72, .chain 3 1 (sl' + 1) ((l ++ [ci]).map iPV)) :: (23, .chain 97 2 st (E.map ePV)) :: (18, mapE E) :: sgD a b s2 t2 (q')) (Imp.forget (by repeat' (first | exact trivial | refine And.intro ?_ ?_ | exact chE (by rw [List.take_of_length_le (by simp), List.map_append]; try rfl) | rfl | exact ivE (by first | omega | (simp only [List.length_map, List.length_append, List.length_singleton] <;> omega)) | exact oE (by first | omega | (simp only [List.length_map, List.length_append, List.length_singleton] <;> omega)))) (by repeat' (first | exact trivial | refine And.intro ?_ ?_ | exact chE (by rw [List.take_of_length_le (by simp), List.map_append]; try rfl) | rfl | exact ivE (by first | omega | (simp only [List.length_map, List.length_append, List.length_singleton] <;> omega)) | exact oE (by first | omega | (simp only [List.length_map, List.length_append, List.length_singleton] <;> omega)))) (by kernel_rfl) (by kernel_rfl) (by kernel_rfl)) (AW_region (id := 28) hTt ?_)); conv => whnf) | with_reducible refine AW_seq ?_ | with_reducible refine AW_block ?_ | ((first | with_reducible refine AW_skip ?_ | with_reducible refine AW_region hTt ?_ | refine AW_draw hTt hMix (id := 24) 4 false [0, 0, 2, 6, 15] (by kernel_rfl) rfl rfl (by kernel_rfl) ?_ | refine ⟨_, gd_none (e_some0 hE.h0), ⟨Nat.le_of_ble_eq_true rfl, rfl⟩, ?_⟩ | fail); conv => whnf) | (refine AW_cond (b := true) (congrArg (fun z => some (none, bv z)) hnq) (fun _ => ?_) (fun hb => absurd hb (by decide))) | ((first | refine ⟨fromAV cb ci, true, .inl ⟨rfl, j, kvE_get hj⟩, rfl, ?_⟩ | refine andA ?_ | with_reducible refine And.intro (gd_any (And.intro (by omega) (And.intro (by first | omega | (simp only [List.length_map]; omega)) (by first | omega | (simp only [List.length_map]; omega) | (simp only [List.length_set, List.length_map]; omega))))) ?_ | fail); conv => whnf) | ((refine And.intro (by refine ⟨?_, ?_, ?_⟩ <;> simp [chunk, maxLen] <;> omega) ?_); conv => whnf) | fail
          subst hb1; subst hb2
          refine ⟨(e', j', l ++ [ci], sl' + 1), ⟨hj', ?_⟩, hjj, impA⟩
          rw [← hl]
          simp
      | false =>
        rw [if_neg (by decide)] at hsr
        by_cases hs : seenE E nx = true
        · rw [if_pos hs] at hsr
          obtain ⟨k, ek, hk, hkp⟩ := seen_yes hs
          subst hkp
          repeat' first | with_reducible refine AW_seq ?_ | with_reducible refine AW_block ?_ | ((first | with_reducible refine AW_skip ?_ | with_reducible refine AW_exit ?_ | with_reducible refine AW_region hTt ?_ | fail); conv => whnf) | (exact absurd hb (by omega)) | ((first | refine ⟨_, gd_any (e_some he), ⟨Nat.le_of_ble_eq_true rfl, rfl⟩, ?_⟩ | ((refine ⟨_, (hcl).frame (asc []) (by repeat (first | exact trivial | refine ⟨rfl, ?_⟩)) rfl (by rintro _ _ ⟨_, rfl, rfl⟩; rfl), ?_⟩); (rintro _ _ ⟨_, _, ⟨_, rfl, rfl⟩, rfl, rfl⟩)) | refine ⟨fromAV ek.bef ek.inp, true, .inl ⟨rfl, k, kvE_get hk⟩, rfl, ?_⟩ | fail); conv => whnf) | (refine AW_cond rfl (fun hb => absurd hb (by decide)) (fun _ => ?_)) | (refine AW_cond rfl (fun hb => ?_) (fun hb => ?_) <;> first | (replace hb := of_decide_eq_true hb; try simp only [List.length_map] at hb) | (replace hb := of_decide_eq_false hb; try simp only [List.length_map] at hb)) | ((first | refine ⟨_, wrap_of (by first | omega | (simp only [List.length_map]; omega)), ?_⟩ | refine andA ?_ | with_reducible refine And.intro (gd_any (And.intro (by omega) (And.intro (by first | omega | (simp only [List.length_map]; omega)) (by first | omega | (simp only [List.length_map]; omega) | (simp only [List.length_set, List.length_map]; omega))))) ?_ | fail); conv => whnf) | fail
          rename_i q' _ _
          exact ⟨⟨E, i', x + 1, st, f1, (e.p, x), q'⟩, ⟨rfl, hil, hxN, hE, by show bound i' (x + 1) ≤ f1; unfold bound at hbd ⊢; omega, hsr⟩, by show N - (x + 1) < N - x; omega, impA⟩
        · have hs' : seenE E nx = false := by simpa using hs
          rw [if_neg hs] at hsr
          have hE2 := hE.step he hxN hin hs'
          repeat' first | with_reducible refine AW_seq ?_ | with_reducible refine AW_block ?_ | ((first | with_reducible refine AW_skip ?_ | with_reducible refine AW_exit ?_ | with_reducible refine AW_region hTt ?_ | fail); conv => whnf) | (exact absurd hb (by omega)) | ((first | refine ⟨_, gd_any (e_some he), ⟨Nat.le_of_ble_eq_true rfl, rfl⟩, ?_⟩ | ((refine ⟨_, (hcl).frame (asc []) (by repeat (first | exact trivial | refine ⟨rfl, ?_⟩)) rfl (by rintro _ _ ⟨_, rfl, rfl⟩; rfl), ?_⟩); (rintro _ _ ⟨_, _, ⟨_, rfl, rfl⟩, rfl, rfl⟩)) | refine ⟨_, false, .inr ⟨rfl, rfl, kvE_no hs'⟩, rfl, ?_⟩ | refine ⟨kvE (E ++ [⟨nx, e.p, x, e.path ++ [(x : Int)]⟩]), .inr ⟨kvE_no hs', kvE_app _ _⟩, ?_⟩ | fail); conv => whnf) | (refine AW_cond rfl (fun _ => ?_) (fun hb => absurd hb (by decide))) | (refine AW_cond rfl (fun hb => absurd hb (by decide)) (fun _ => ?_)) | (refine AW_cond rfl (fun hb => ?_) (fun hb => ?_) <;> first | (replace hb := of_decide_eq_true hb; try simp only [List.length_map] at hb) | (replace hb := of_decide_eq_false hb; try simp only [List.length_map] at hb)) | ((first | refine ⟨_, wrap_of (by first | omega | (simp only [List.length_map]; omega)), ?_⟩ | refine andA ?_ | with_reducible refine And.intro (gd_any (And.intro (by omega) (And.intro (by first | omega | (simp only [List.length_map]; omega)) (by first | omega | (simp only [List.length_map]; omega) | (simp only [List.length_set, List.length_map]; omega))))) ?_ | fail); conv => whnf) | ((refine And.intro (by refine ⟨?_, ?_, ?_⟩ <;> simp [chunk, maxLen] <;> omega) ?_); conv => whnf) | fail
          rename_i q' _ _
          exact ⟨⟨E ++ [⟨nx, e.p, x, e.path ++ [(x : Int)]⟩], i', x + 1, st + 1, f1, (e.p, x), q'⟩, ⟨rfl, by show i' < (E ++ [_]).length; rw [List.length_append]; omega, hxN, hE2, by show bound i' (x + 1) ≤ f1; unfold bound at hbd ⊢; omega, hsr⟩, by show N - (x + 1) < N - x; omega,
            (Imp.forget (by repeat' (first | exact trivial | refine And.intro ?_ ?_ | exact chE (by rw [List.take_of_length_le (by simp), List.map_append]; try rfl) | exact oE (by rw [List.length_append]; rfl) | rfl | exact ivE (by first | omega | (simp only [List.length_map, List.length_append, List.length_singleton] <;> omega)) | exact oE (by first | omega | (simp only [List.length_map, List.length_append, List.length_singleton] <;> omega)))) (by repeat' (first | exact trivial | refine And.intro ?_ ?_ | exact chE (by rw [List.take_of_length_le (by simp), List.map_append]; try rfl) | exact oE (by rw [List.length_append]; rfl) | rfl | exact ivE (by first | omega | (simp only [List.length_map, List.length_append, List.length_singleton] <;> omega)) | exact oE (by first | omega | (simp only [List.length_map, List.length_append, List.length_singleton] <;> omega)))) (by kernel_rfl) (by kernel_rfl) (by kernel_rfl))⟩
    · have hxe : x = N := by omega
      subst hxe
      rw [bfs, if_pos hil, if_neg (by omega)] at hsr
      repeat' first | with_reducible refine AW_seq ?_ | with_reducible refine AW_block ?_ | ((first | with_reducible refine AW_skip ?_ | with_reducible refine AW_exit ?_ | with_reducible refine AW_region hTt ?_ | fail); conv => whnf) | (exact absurd hb (by omega)) | (refine AW_cond rfl (fun hb => ?_) (fun hb => ?_) <;> first | (replace hb := of_decide_eq_true hb; try simp only [List.length_map] at hb) | (replace hb := of_decide_eq_false hb; try simp only [List.length_map] at hb)) | ((refine ⟨_, wrap_of (by first | omega | (simp only [List.length_map]; omega)), ?_⟩); conv => whnf) | fail
      exact ⟨⟨E, i' + 1, 0, st, f1, lv, q⟩, ⟨rfl, hil, hE, by show bound (i' + 1) 0 ≤ f1; unfold bound at hbd ⊢; omega, hsr⟩, by show 1025 - (i' + 1) < 1025 - i'; omega, impA⟩
  · obtain ⟨f1, rfl⟩ : ∃ f1, f0 = f1 + 1 := ⟨f0 - 1, by unfold bound at hbd; omega⟩
    rw [bfs, if_neg (by omega)] at hsr
    rw [hsr]
    repeat' first | with_reducible refine AW_seq ?_ | with_reducible refine AW_block ?_ | ((first | with_reducible refine AW_skip ?_ | with_reducible refine AW_exit ?_ | with_reducible refine AW_ret ?_ | with_reducible refine AW_region hTt ?_ | fail); conv => whnf) | (exact absurd hb (by omega)) | (refine AW_cond rfl (fun _ => ?_) (fun hb => absurd hb (by decide))) | (refine AW_cond rfl (fun hb => ?_) (fun hb => ?_) <;> first | (replace hb := of_decide_eq_true hb; try simp only [List.length_map] at hb) | (replace hb := of_decide_eq_false hb; try simp only [List.length_map] at hb)) | ((refine andA ?_); conv => whnf) | (refine fun hln => ?_; (try rw [List.length_map] at hln); unfold maxLen at hln; conv => whnf) | fail
    exact ⟨_, sgD a b s2 t2 (q), ⟨rfl, rfl, rfl, rfl, rfl, rfl, rfl, rfl, rfl, rfl, trivial⟩, rfl, rfl, q, ⟨_, rfl, LeAV1.nil 1, LeAV1.refl _, trivial⟩, rfl⟩
theorem search_diff {a b : NetT} (oka : NetOK a) (okb : NetOK b) {s2 t2 : Nat} (q0 : BQ2) :
    ACall Tryz.prog 54 [iv .i64 a.inn, .x (.f (.func 59) [] [.b 910 0, .b 911 0])] (sgD a b s2 t2 (q0))
      (fun r σ' => ∃ q : BQ2, r = srchE (srch (stepS a fine b fine) (2 ^ a.inn.toNat)) ∧ σ' = sgD a b s2 t2 (q)) :=
  (search_diff0 oka okb q0).le fun r σ' ⟨q, h, e⟩ => ⟨_, h, q, rfl, e⟩
end Go.Proofs.YtfpaonfddaeamaaGreatDoor
namespace Go.Proofs.YtfpaonfddaeamaaGreatDoor
open Go Go.QL
set_option maxHeartbeats 1600000
attribute [local irreducible] ACall FnC
theorem build_nil' (n : NetT) (h1 : 1 ≤ n.inn) (h6 : n.inn ≤ 6) (hl : n.gates.length ≤ 24) :
    ACall Tryz.prog 50 [netAV n, .x (.d (.v (.map none)))] []
      (fun r σ' => r = .x (.b 19 0) ∧ σ' = sB2 n 19 17 0 (sk0 n) (dl0 n).length (dl0 n)) := by
  refine ACall_of_AWD hTt Tryz.func50 rfl (by kernel_rfl) (res := [.tmp 4]) rfl Tryz.ntmps50 (by simp) fun w0 K0 B => ?_
  dsimp only [entry]
  repeat' first | with_reducible refine AW_seq ?_ | with_reducible refine AW_block ?_ | ((first | with_reducible refine AW_region hTt ?_ | refine AW_draw hTt hMix (id := 1) 8 true [0, 0, 2, 0, 8, 24, 62, 126, 255, 511, 1023] (by kernel_rfl) rfl rfl (by kernel_rfl) ?_ | refine ⟨_, wrap_of (by first | omega | (simp only [List.length_map]; omega)), ?_⟩ | refine andA ?_ | with_reducible refine And.intro (And.intro (by omega) (And.intro (by first | omega | (simp only [List.length_map]; omega)) (by first | omega | (simp only [List.length_map, List.length_set]; omega)))) ?_ | fail); conv => whnf) | fail
  have eN : (n.inn + ((List.map gPV n.gates).length : Int)).toNat = (sk0 n).length := by
    unfold sk0; rw [List.length_map, List.length_replicate]; omega
  have eC : List.replicate (n.inn + ((List.map gPV n.gates).length : Int)).toNat [PV.v (.int .u16 0), PV.v (.int .u16 0)] = (sk0 n).map sPV := by
    rw [eN]; unfold sk0; rw [List.length_replicate, List.map_replicate]; rfl
  refine AW_loop (fun _ : Unit => [(21, .x (.h 21)), (2, .x (.b 2 0)), (5, .x (.b 19 0))])
    (fun _ => [(21, .x (.mapIter none 0 [] 0)), (2, .box [.d (.v (.int .i64 n.inn)), .d (gatesPV n.gates), .d (intsPV n.out)]), (19, .box [.d (.v (.int .i64 n.inn)), .d (gatesPV n.gates), .d (intsPV n.out), .o 17 0 (sk0 n).length, .d (.v (.slice none 0 0)), .d (.v (.slice none 0 0))]), (17, .chain 112 2 0 ((sk0 n).map sPV))])
    (fun _ => True) (fun _ => 0) () trivial
    (Imp.forget ⟨rfl, rfl, rfl, trivial⟩ ⟨rfl, rfl, congrArg (fun k => some (Ob.box [.d (.v (.int .i64 n.inn)), .d (gatesPV n.gates), .d (intsPV n.out), .o 17 0 k, .d (.v (.slice none 0 0)), .d (.v (.slice none 0 0))])) eN, congrArg (fun l => some (Ob.chain 112 2 0 l)) eC, trivial⟩ rfl) ?_
  rintro ⟨⟩ -
  repeat' first | with_reducible refine AW_seq ?_ | with_reducible refine AW_block ?_ | ((first | with_reducible refine AW_exit ?_ | with_reducible refine AW_region hTt ?_ | fail); conv => whnf) | (refine AW_cond rfl (fun hb => absurd hb (by decide)) (fun _ => ?_)) | ((refine andA ?_); conv => whnf) | (refine fun hln => ?_; (try rw [List.length_map] at hln); unfold maxLen at hln; conv => whnf) | fail
  refine AW_imp (Imp.nil 902 3 1 (fr' := [(46, iv .i64 0), (45, iv .i64 n.gates.length), (44, .x (.d (gatesPV n.gates))), (2, .x (.b 2 0)), (5, .x (.b 19 0))])
    (σ' := [(2, .box [.d (.v (.int .i64 n.inn)), .d (gatesPV n.gates), .d (intsPV n.out)]), (19, .box [.d (.v (.int .i64 n.inn)), .d (gatesPV n.gates), .d (intsPV n.out), .o 17 0 (sk0 n).length, .o 902 0 0, .d (.v (.slice none 0 0))]), (17, .chain 112 2 0 ((sk0 n).map sPV))]) rfl ?_ ?_ rfl rfl) ?_
  · exact ⟨⟨_, rfl, .inl rfl⟩, ⟨_, congrArg (fun k : Nat => some (iv .i64 k)) (List.length_map _), .inl rfl⟩, ⟨_, rfl, .inl rfl⟩, ⟨_, rfl, .inl rfl⟩, ⟨_, rfl, .inl rfl⟩, trivial⟩
  · exact ⟨⟨_, rfl, .inl rfl⟩, ⟨_, rfl, .inr ⟨_, _, rfl, rfl, .inl rfl, .inl rfl, .inl rfl, .inl rfl, .inr ⟨rfl, rfl⟩, .inl rfl, trivial⟩⟩, ⟨_, rfl, .inl rfl⟩, trivial⟩
  refine AW_imp (Imp.nil 903 111 1 (fr' := [(46, iv .i64 0), (45, iv .i64 n.gates.length), (44, .x (.d (gatesPV n.gates))), (2, .x (.b 2 0)), (5, .x (.b 19 0))])
    (σ' := [(902, .chain 3 1 0 []), (2, .box [.d (.v (.int .i64 n.inn)), .d (gatesPV n.gates), .d (intsPV n.out)]), (19, .box [.d (.v (.int .i64 n.inn)), .d (gatesPV n.gates), .d (intsPV n.out), .o 17 0 (sk0 n).length, .o 902 0 0, .o 903 0 0]), (17, .chain 112 2 0 ((sk0 n).map sPV))]) rfl ?_ ?_ rfl rfl) ?_
  · exact ⟨⟨_, rfl, .inl rfl⟩, ⟨_, rfl, .inl rfl⟩, ⟨_, rfl, .inl rfl⟩, ⟨_, rfl, .inl rfl⟩, ⟨_, rfl, .inl rfl⟩, trivial⟩
  · exact ⟨⟨_, rfl, .inl rfl⟩, ⟨_, rfl, .inl rfl⟩, ⟨_, rfl, .inr ⟨_, _, rfl, rfl, .inl rfl, .inl rfl, .inl rfl, .inl rfl, .inl rfl, .inr ⟨rfl, rfl⟩, trivial⟩⟩, ⟨_, rfl, .inl rfl⟩, trivial⟩
  refine AW_loop (fun p : Nat × Nat => [(46, iv .i64 p.1), (45, iv .i64 n.gates.length), (44, .x (.d (gatesPV n.gates))), (2, .x (.b 2 0)), (5, .x (.b 19 0))])
    (fun p => (2, .box [.d (.v (.int .i64 n.inn)), .d (gatesPV n.gates), .d (intsPV n.out)]) :: sB2 n 19 17 0 (sk0 n) p.2 (dlS n p.1)) (fun p => p.1 ≤ n.gates.length ∧ p.2 = (dlS n p.1).length) (fun p => n.gates.length - p.1) (0, 0) ⟨Nat.zero_le _, rfl⟩
    (Imp.forget ⟨rfl, rfl, rfl, rfl, rfl, trivial⟩ ⟨rfl, rfl, rfl, rfl, rfl, trivial⟩ rfl) ?_
  rintro ⟨i, st⟩ ⟨hi, hst⟩
  dsimp only at hi hst ⊢
  have hdl := dlS_len n i hi
  have hdle := delays_le (n.gates.take i)
  rw [List.length_take] at hdle
  rcases Nat.lt_or_ge i n.gates.length with hil | hil
  · have hge : n.gates.getD i gate0 = n.gates[i] := by rw [List.getD_eq_getElem?_getD, List.getElem?_eq_getElem (by omega)]; rfl
    repeat' first | with_reducible refine AW_seq ?_ | with_reducible refine AW_block ?_ | ((first | with_reducible refine AW_skip ?_ | with_reducible refine AW_exit ?_ | with_reducible refine AW_ret ?_ | with_reducible refine AW_region hTt ?_ | refine AW_drawM hTt hMix (id := 10) 10 [0] true [0, 0, 2, 6, 14, 0, 32, 0, 224, 480, 1022, 2047, 4095, 8191] _ (by kernel_rfl) rfl rfl (by kernel_rfl) rfl (by kernel_rfl) (by kernel_rfl) ?_ | refine LateGo.mk ⟨_, rfl, ?_⟩ | fail); conv => whnf) | (exact absurd hb (by omega)) | (refine AW_cond rfl (fun hb => ?_) (fun hb => ?_) <;> first | (replace hb := of_decide_eq_true hb; try simp only [List.length_map] at hb) | (replace hb := of_decide_eq_false hb; try simp only [List.length_map] at hb)) | ((first | refine ⟨_, wrap_of (by first | omega | (simp only [List.length_map]; omega)), ?_⟩ | refine andA ?_ | with_reducible refine Exists.intro _ (And.intro (gd_any (And.intro (by omega) (map_get (by omega)))) ?_) | fail); conv => whnf) | ((refine And.intro (by refine ⟨?_, ?_, ?_⟩ <;> simp [chunk, maxLen] <;> omega) ?_); conv => whnf) | fail
    iterate 1
      · have e := dlS_succ n i
        rw [hge, if_pos hb] at e
        have l1 : (dlS n i).length + 1 = (dlS n (i + 1)).length := by rw [e]; simp
        have e1 : ((dlS n i).map iPV).take (dlS n i).length ++ [[PV.v (.int .i64 (n.inn + i))]] = (dlS n (i + 1)).map iPV := by
          rw [e, List.take_of_length_le (by simp), List.map_append]; rfl
        exact ⟨(i + 1, st + 1), ⟨by show i + 1 ≤ n.gates.length; omega, by show st + 1 = (dlS n (i + 1)).length; omega⟩, by show n.gates.length - (i + 1) < n.gates.length - i; omega,
          Imp.forget ⟨rfl, rfl, rfl, rfl, rfl, trivial⟩ ⟨rfl, congrArg (fun k => some (Ob.box [.d (.v (.int .i64 n.inn)), .d (gatesPV n.gates), .d (intsPV n.out), .o 17 0 (sk0 n).length, .o 902 (st + 1) k, .o 903 0 0])) l1, rfl, congrArg (fun l => some (Ob.chain 3 1 (st + 1) l)) e1, rfl, trivial⟩ rfl⟩
    · have e := dlS_succ n i
      rw [hge, if_neg hb] at e
      refine ⟨(i + 1, st), ⟨by show i + 1 ≤ n.gates.length; omega, by show st = (dlS n (i + 1)).length; rw [e]; exact hst⟩, by show n.gates.length - (i + 1) < n.gates.length - i; omega, ?_⟩
      dsimp only
      rw [e]
      exact Imp.forget ⟨rfl, rfl, rfl, rfl, rfl, trivial⟩ ⟨rfl, rfl, rfl, rfl, rfl, trivial⟩ rfl
  · have hie : i = n.gates.length := by omega
    subst hie
    repeat' first | with_reducible refine AW_seq ?_ | with_reducible refine AW_block ?_ | ((first | with_reducible refine AW_skip ?_ | with_reducible refine AW_exit ?_ | with_reducible refine AW_ret ?_ | with_reducible refine AW_region hTt ?_ | fail); conv => whnf) | (exact absurd hb (by omega)) | (refine AW_cond rfl (fun hb => ?_) (fun hb => ?_) <;> first | (replace hb := of_decide_eq_true hb; try simp only [List.length_map] at hb) | (replace hb := of_decide_eq_false hb; try simp only [List.length_map] at hb)) | fail
    subst hst
    exact ⟨_, sB2 n 19 17 0 (sk0 n) (dl0 n).length (dlS n n.gates.length), ⟨rfl, rfl, rfl, rfl, trivial⟩, rfl, rfl, rfl, rfl⟩
def srchP (r : Option (List Int)) : List Int × Int := match r with
  | some l => (l, 0)
  | none => ([], 9)
theorem srchE_eq (r : Option (List Int)) : srchE r = outE (srchP r) := by cases r <;> rfl
def showR (n : NetT) (f : FaultT) : List Int × Int :=
  if (checkR n).2.2 = 0 then (if faultErr n f = 0 then srchP (srch (stepS n fine n f) (2 ^ n.inn.toNat)) else ([], faultErr n f)) else ([], (checkR n).2.2)
def diffR (a b : NetT) : List Int × Int :=
  if (checkR a).2.2 = 0 then (if (checkR b).2.2 = 0 then (if a.inn = b.inn ∧ a.out.length = b.out.length then srchP (srch (stepS a fine b fine) (2 ^ a.inn.toNat)) else ([], 2)) else ([], (checkR b).2.2)) else ([], (checkR a).2.2)
theorem sk_lane1 (n : NetT) (f : FaultT) : SkLane (skF n [(1, f)] (List.range 1)) 0 fine ∧ SkLane (skF n [(1, f)] (List.range 1)) 1 f := by
  constructor
  · refine skF_lane n [(1, f)] 0 (by decide) fine (fun j l' f' h e => ?_) (.inr ⟨rfl, fun j f' h => ?_⟩)
    · cases j with
      | zero => cases h; cases e
      | succ j => simp at h
    · cases j with
      | zero => cases h
      | succ j => simp at h
  · refine skF_lane n [(1, f)] 1 (by decide) f (fun j l' f' h e => ?_) (.inl ⟨0, rfl⟩)
    cases j with
    | zero => cases h; rfl
    | succ j => simp at h
theorem pshow_fn (n : NetT) (hi : i64 n.inn) (f : FaultT) : FnC Tryz.prog 28 [netAV n, faultAV f] (outE (showR n f)) := by
  refine FnC_of_AWL hTt Tryz.func28 rfl (by kernel_rfl) (res := [.tmp 4, .tmp 5]) rfl Tryz.ntmps28 (by simp) fun w0 K0 => ?_
  dsimp only [entry]
  by_cases hc : (checkR n).2.2 = 0
  · have ok := NetOK.of hc
    by_cases hf : faultErr n f = 0
    · rw [show showR n f = srchP (srch (stepS n fine n f) (2 ^ n.inn.toNat)) from by unfold showR; rw [if_pos hc, if_pos hf]]
      have hbm := build_map n ok.h1 ok.h6 ok.hl [(1, f)] (flt1 hf 1 (by decide))
      have hse : ∀ s2, ACall Tryz.prog 54 [iv .i64 n.inn, .x (.f (.func 55) [] [.b 910 0])] (sgS n 0 (skF n [(1, f)] (List.range 1)) s2 (0, 0, []))
          (fun r σ' => ∃ q : BQ, r = outE (srchP (srch (stepS n fine n f) (2 ^ n.inn.toNat))) ∧ σ' = sgS n 0 (skF n [(1, f)] (List.range 1)) s2 q) := fun s2 =>
        (search_show ok (skF_len n _ _) (sk_lane1 n f).1 (sk_lane1 n f).2 (faultErr_flt hf) (0, 0, [])).mono fun r σ' ⟨q, h1, h2⟩ => ⟨q, h1.trans (srchE_eq _), h2⟩
      repeat' first | with_reducible refine AW_seq ?_ | ((first | with_reducible refine AW_skip ?_ | with_reducible refine AW_ret ?_ | with_reducible refine AW_region hTt ?_ | fail); conv => whnf) | (exact absurd hb (by omega)) | ((first | ((refine ⟨_, (pcheck_fn n hi).call rfl rfl, ?_⟩); (rintro _ _ ⟨rfl, rfl⟩)) | ((refine ⟨_, (pwrong_fn n f ok.h1 ok.h6 ok.hl).call rfl rfl, ?_⟩); (rintro _ _ ⟨rfl, rfl⟩)) | refine And.intro (by first | rfl | decide) ?_ | refine ⟨[(.int .i64 1, faultAV f)], .inr ⟨fun i y => by simp, rfl⟩, ?_⟩ | ((refine ⟨_, (hbm).frame (asc [(700, 27), (19, 900), (17, 901)]) (by repeat (first | exact trivial | refine ⟨rfl, ?_⟩)) rfl (by rintro _ _ ⟨_, rfl, rfl⟩; rfl), ?_⟩); (rintro _ _ ⟨_, _, ⟨_, rfl, rfl⟩, rfl, rfl⟩)) | ((refine ⟨_, (hse _).frame (asc [(910, 10)]) (by repeat (first | exact trivial | refine ⟨rfl, ?_⟩)) rfl (by rintro _ _ ⟨_, rfl, rfl⟩; rfl), ?_⟩); (rintro _ _ ⟨_, _, ⟨_, rfl, rfl⟩, rfl, rfl⟩)) | fail); conv => whnf) | (refine AW_cond rfl (fun hb => ?_) (fun hb => ?_) <;> first | (replace hb := of_decide_eq_true hb; try simp only [List.length_map] at hb) | (replace hb := of_decide_eq_false hb; try simp only [List.length_map] at hb) | (simp only [List.length_map, bne_iff_ne, ne_eq, beq_iff_eq, bne_eq_false_iff_eq, beq_eq_false_iff_ne, decide_eq_true_eq, decide_eq_false_iff_not, Bool.not_eq_true', Bool.not_eq_false', Int.natCast_inj] at hb)) | ((refine andA ?_); conv => whnf) | fail
      exact ⟨_, rfl, LeAV.refl _⟩
    · rw [show showR n f = ([], faultErr n f) from by unfold showR; rw [if_pos hc, if_neg hf]]
      repeat' first | with_reducible refine AW_seq ?_ | ((first | with_reducible refine AW_skip ?_ | with_reducible refine AW_ret ?_ | with_reducible refine AW_region hTt ?_ | fail); conv => whnf) | (exact absurd hb (by omega)) | ((first | ((refine ⟨_, (pcheck_fn n hi).call rfl rfl, ?_⟩); (rintro _ _ ⟨rfl, rfl⟩)) | ((refine ⟨_, (pwrong_fn n f ok.h1 ok.h6 ok.hl).call rfl rfl, ?_⟩); (rintro _ _ ⟨rfl, rfl⟩)) | fail); conv => whnf) | (refine AW_cond rfl (fun hb => ?_) (fun hb => ?_) <;> first | (replace hb := of_decide_eq_true hb; try simp only [List.length_map] at hb) | (replace hb := of_decide_eq_false hb; try simp only [List.length_map] at hb) | (simp only [List.length_map, bne_iff_ne, ne_eq, beq_iff_eq, bne_eq_false_iff_eq, beq_eq_false_iff_ne, decide_eq_true_eq, decide_eq_false_iff_not, Bool.not_eq_true', Bool.not_eq_false', Int.natCast_inj] at hb)) | fail
      exact ⟨_, rfl, _, rfl, LeAV1.nil 1, LeAV1.refl _, trivial⟩
  · rw [show showR n f = ([], (checkR n).2.2) from by unfold showR; rw [if_neg hc]]
    repeat' first | with_reducible refine AW_seq ?_ | ((first | with_reducible refine AW_skip ?_ | with_reducible refine AW_ret ?_ | with_reducible refine AW_region hTt ?_ | fail); conv => whnf) | (exact absurd hb (by omega)) | ((refine ⟨_, (pcheck_fn n hi).call rfl rfl, ?_⟩); (rintro _ _ ⟨rfl, rfl⟩); conv => whnf) | (refine AW_cond rfl (fun hb => ?_) (fun hb => ?_) <;> first | (replace hb := of_decide_eq_true hb; try simp only [List.length_map] at hb) | (replace hb := of_decide_eq_false hb; try simp only [List.length_map] at hb) | (simp only [List.length_map, bne_iff_ne, ne_eq, beq_iff_eq, bne_eq_false_iff_eq, beq_eq_false_iff_ne, decide_eq_true_eq, decide_eq_false_iff_not, Bool.not_eq_true', Bool.not_eq_false', Int.natCast_inj] at hb)) | fail
    exact ⟨_, rfl, _, rfl, LeAV1.nil 1, LeAV1.refl _, trivial⟩
def netPV (n : NetT) : List PV := [.v (.int .i64 n.inn), gatesPV n.gates, intsPV n.out]
theorem pdiffer_fn (a b : NetT) (ha : i64 a.inn) (hbn : i64 b.inn) : FnC Tryz.prog 32 [netAV a, netAV b] (outE (diffR a b)) := by
  refine FnC_of_AWL hTt Tryz.func32 rfl (by kernel_rfl) (res := [.tmp 4, .tmp 5]) rfl Tryz.ntmps32 (by simp) fun w0 K0 => ?_
  dsimp only [entry]
  repeat' first | with_reducible refine AW_seq ?_ | with_reducible refine AW_block ?_ | ((with_reducible refine AW_region hTt ?_); conv => whnf) | (refine fun hln => ?_; (try rw [List.length_map] at hln); unfold maxLen at hln; conv => whnf) | fail
  refine AW_loop (fun i : Nat => [(17, iv .i64 i), (16, iv .i64 2), (15, .x (.d (.s 3 [netPV a, netPV b]))), (2, .x (.b 2 0)), (3, .x (.b 3 0))])
    (fun _ => [(3, netCells b), (2, netCells a)]) (fun i => i ≤ 2 ∧ (1 ≤ i → (checkR a).2.2 = 0) ∧ (2 ≤ i → (checkR b).2.2 = 0)) (fun i => 2 - i) 0 (by omega) impA ?_
  rintro i ⟨hi, hca, hcb⟩
  have h3 : i = 0 ∨ i = 1 ∨ i = 2 := by omega
  rcases h3 with rfl | rfl | rfl
  · by_cases hc : (checkR a).2.2 = 0
    · repeat' first | with_reducible refine AW_seq ?_ | with_reducible refine AW_block ?_ | ((first | with_reducible refine AW_skip ?_ | with_reducible refine AW_ret ?_ | with_reducible refine AW_region hTt ?_ | refine ⟨netPV a, gd_none ⟨by decide, rfl⟩, ?_⟩ | fail); conv => whnf) | (exact absurd hb (by omega)) | ((refine ⟨_, (pcheck_fn a ha).call rfl rfl, ?_⟩); (rintro _ _ ⟨rfl, rfl⟩); conv => whnf) | (refine AW_cond rfl (fun _ => ?_) (fun hb => absurd hb (by decide))) | (refine AW_cond rfl (fun hb => ?_) (fun hb => ?_) <;> first | (replace hb := of_decide_eq_true hb; try simp only [List.length_map] at hb) | (replace hb := of_decide_eq_false hb; try simp only [List.length_map] at hb) | (simp only [List.length_map, bne_iff_ne, ne_eq, beq_iff_eq, bne_eq_false_iff_eq, beq_eq_false_iff_ne, decide_eq_true_eq, decide_eq_false_iff_not, Bool.not_eq_true', Bool.not_eq_false', Int.natCast_inj] at hb)) | ((first | refine ⟨_, wrap_of (by first | omega | (simp only [List.length_map]; omega)), ?_⟩ | refine andA ?_ | fail); conv => whnf) | fail
      exact ⟨1, ⟨by decide, fun _ => hc, fun h => absurd h (by decide)⟩, by decide, impA⟩
    · rw [show diffR a b = ([], (checkR a).2.2) from by unfold diffR; rw [if_neg hc]]
      repeat' first | with_reducible refine AW_seq ?_ | with_reducible refine AW_block ?_ | ((first | with_reducible refine AW_skip ?_ | with_reducible refine AW_ret ?_ | with_reducible refine AW_region hTt ?_ | refine ⟨netPV a, gd_none ⟨by decide, rfl⟩, ?_⟩ | fail); conv => whnf) | (exact absurd hb (by omega)) | ((refine ⟨_, (pcheck_fn a ha).call rfl rfl, ?_⟩); (rintro _ _ ⟨rfl, rfl⟩); conv => whnf) | (refine AW_cond rfl (fun _ => ?_) (fun hb => absurd hb (by decide))) | (refine AW_cond rfl (fun hb => ?_) (fun hb => ?_) <;> first | (replace hb := of_decide_eq_true hb; try simp only [List.length_map] at hb) | (replace hb := of_decide_eq_false hb; try simp only [List.length_map] at hb) | (simp only [List.length_map, bne_iff_ne, ne_eq, beq_iff_eq, bne_eq_false_iff_eq, beq_eq_false_iff_ne, decide_eq_true_eq, decide_eq_false_iff_not, Bool.not_eq_true', Bool.not_eq_false', Int.natCast_inj] at hb)) | ((refine andA ?_); conv => whnf) | fail
      exact ⟨_, rfl, _, rfl, LeAV1.nil 1, LeAV1.refl _, trivial⟩
  · have hca := hca (by decide)
    by_cases hc : (checkR b).2.2 = 0
    · repeat' first | with_reducible refine AW_seq ?_ | with_reducible refine AW_block ?_ | ((first | with_reducible refine AW_skip ?_ | with_reducible refine AW_ret ?_ | with_reducible refine AW_region hTt ?_ | refine ⟨netPV b, gd_none ⟨by decide, rfl⟩, ?_⟩ | fail); conv => whnf) | (exact absurd hb (by omega)) | ((refine ⟨_, (pcheck_fn b hbn).call rfl rfl, ?_⟩); (rintro _ _ ⟨rfl, rfl⟩); conv => whnf) | (refine AW_cond rfl (fun _ => ?_) (fun hb => absurd hb (by decide))) | (refine AW_cond rfl (fun hb => ?_) (fun hb => ?_) <;> first | (replace hb := of_decide_eq_true hb; try simp only [List.length_map] at hb) | (replace hb := of_decide_eq_false hb; try simp only [List.length_map] at hb) | (simp only [List.length_map, bne_iff_ne, ne_eq, beq_iff_eq, bne_eq_false_iff_eq, beq_eq_false_iff_ne, decide_eq_true_eq, decide_eq_false_iff_not, Bool.not_eq_true', Bool.not_eq_false', Int.natCast_inj] at hb)) | ((first | refine ⟨_, wrap_of (by first | omega | (simp only [List.length_map]; omega)), ?_⟩ | refine andA ?_ | fail); conv => whnf) | fail
      exact ⟨2, ⟨by decide, fun _ => hca, fun _ => hc⟩, by decide, impA⟩
    · rw [show diffR a b = ([], (checkR b).2.2) from by unfold diffR; rw [if_pos hca, if_neg hc]]
      repeat' first | with_reducible refine AW_seq ?_ | with_reducible refine AW_block ?_ | ((first | with_reducible refine AW_skip ?_ | with_reducible refine AW_ret ?_ | with_reducible refine AW_region hTt ?_ | refine ⟨netPV b, gd_none ⟨by decide, rfl⟩, ?_⟩ | fail); conv => whnf) | (exact absurd hb (by omega)) | ((refine ⟨_, (pcheck_fn b hbn).call rfl rfl, ?_⟩); (rintro _ _ ⟨rfl, rfl⟩); conv => whnf) | (refine AW_cond rfl (fun _ => ?_) (fun hb => absurd hb (by decide))) | (refine AW_cond rfl (fun hb => ?_) (fun hb => ?_) <;> first | (replace hb := of_decide_eq_true hb; try simp only [List.length_map] at hb) | (replace hb := of_decide_eq_false hb; try simp only [List.length_map] at hb) | (simp only [List.length_map, bne_iff_ne, ne_eq, beq_iff_eq, bne_eq_false_iff_eq, beq_eq_false_iff_ne, decide_eq_true_eq, decide_eq_false_iff_not, Bool.not_eq_true', Bool.not_eq_false', Int.natCast_inj] at hb)) | ((refine andA ?_); conv => whnf) | fail
      exact ⟨_, rfl, _, rfl, LeAV1.nil 1, LeAV1.refl _, trivial⟩
  · have hca := hca (by decide)
    have hcb := hcb (by decide)
    have oka := NetOK.of hca
    have okb := NetOK.of hcb
    have oa4 := oka.o4
    have ob4 := okb.o4
    by_cases hne : a.inn = b.inn ∧ a.out.length = b.out.length
    · rw [show diffR a b = srchP (srch (stepS a fine b fine) (2 ^ a.inn.toNat)) from by unfold diffR; rw [if_pos hca, if_pos hcb, if_pos hne]]
      have b1 := DC.ACall.anew (build_nil' a oka.h1 oka.h6 oka.hl) (asc [(19, 900), (17, 901)]) (args' := [netAV a, .x (.d (.v (.map none)))]) (rv' := .x (.b 900 0)) (nob' := sB2 a 900 901 0 (sk0 a) (dl0 a).length (dl0 a)) rfl rfl rfl rfl
      have b2 := DC.ACall.anew (build_nil' b okb.h1 okb.h6 okb.hl) (asc [(19, 800), (17, 801), (902, 802), (903, 803)]) (args' := [netAV b, .x (.d (.v (.map none)))]) (rv' := .x (.b 800 0))
        (nob' := [(800, .box [.d (.v (.int .i64 b.inn)), .d (gatesPV b.gates), .d (intsPV b.out), .o 801 0 (sk0 b).length, .o 802 (dl0 b).length (dl0 b).length, .o 803 0 0]), (801, .chain 112 2 0 ((sk0 b).map sPV)), (802, .chain 3 1 (dl0 b).length ((dl0 b).map iPV)), (803, .chain 111 1 0 [])]) rfl rfl rfl rfl
      have hse : ACall Tryz.prog 54 [iv .i64 a.inn, .x (.f (.func 59) [] [.b 910 0, .b 911 0])] (sgD a b (dl0 a).length (dl0 b).length (0, 0, [], 0, 0, []))
          (fun r σ' => ∃ q : BQ2, r = outE (srchP (srch (stepS a fine b fine) (2 ^ a.inn.toNat))) ∧ σ' = sgD a b (dl0 a).length (dl0 b).length q) :=
        (search_diff oka okb (0, 0, [], 0, 0, [])).mono fun r σ' ⟨q, h1, h2⟩ => ⟨q, h1.trans (srchE_eq _), h2⟩
      repeat' first | ((refine DC.AW_drawC hTt hMix (id := 10) 6 true [0, 1, 0, 7, 0, 0, 63, 127] (by kernel_rfl) rfl rfl (by kernel_rfl) ?_); conv => whnf) | with_reducible refine AW_seq ?_ | ((first | with_reducible refine AW_skip ?_ | with_reducible refine AW_exit ?_ | with_reducible refine AW_ret ?_ | with_reducible refine AW_region hTt ?_ | fail); conv => whnf) | (exfalso; simp [hne.1, hne.2] at hb; done) | ((first | refine ⟨_, _, rfl, b1, ?_⟩ | refine ⟨_, _, rfl, b2, ?_⟩ | ((refine ⟨_, (hse).frame (asc [(910, 11), (911, 12)]) (by repeat (first | exact trivial | refine ⟨rfl, ?_⟩)) rfl (by rintro _ _ ⟨_, rfl, rfl⟩; rfl), ?_⟩); (rintro _ _ ⟨_, _, ⟨_, rfl, rfl⟩, rfl, rfl⟩)) | fail); conv => whnf) | (refine AW_cond rfl (fun hb => absurd hb (by decide)) (fun _ => ?_)) | (refine AW_cond rfl (fun hb => ?_) (fun hb => ?_) <;> first | (replace hb := of_decide_eq_true hb; try simp only [List.length_map] at hb) | (replace hb := of_decide_eq_false hb; try simp only [List.length_map] at hb) | (simp only [List.length_map, bne_iff_ne, ne_eq, beq_iff_eq, bne_eq_false_iff_eq, beq_eq_false_iff_ne, decide_eq_true_eq, decide_eq_false_iff_not, Bool.not_eq_true', Bool.not_eq_false', Int.natCast_inj] at hb)) | ((refine andA ?_); conv => whnf) | fail
      exact ⟨_, rfl, LeAV.refl _⟩
    · rw [show diffR a b = ([], 2) from by unfold diffR; rw [if_pos hca, if_pos hcb, if_neg hne]]
      repeat' first | with_reducible refine AW_seq ?_ | ((first | with_reducible refine AW_skip ?_ | with_reducible refine AW_exit ?_ | with_reducible refine AW_ret ?_ | with_reducible refine AW_region hTt ?_ | refine AW_draw hTt hMix (id := 10) 6 true [0, 1, 0, 7, 0, 0, 63, 127] (by kernel_rfl) rfl rfl (by kernel_rfl) ?_ | fail); conv => whnf) | (exfalso; simp at hb; exact hne ⟨by omega, by omega⟩) | (refine AW_cond rfl (fun hb => absurd hb (by decide)) (fun _ => ?_)) | (refine AW_cond rfl (fun hb => ?_) (fun hb => ?_) <;> first | (replace hb := of_decide_eq_true hb; try simp only [List.length_map] at hb) | (replace hb := of_decide_eq_false hb; try simp only [List.length_map] at hb) | (simp only [List.length_map, bne_iff_ne, ne_eq, beq_iff_eq, bne_eq_false_iff_eq, beq_eq_false_iff_ne, decide_eq_true_eq, decide_eq_false_iff_not, Bool.not_eq_true', Bool.not_eq_false', Int.natCast_inj] at hb)) | ((refine andA ?_); conv => whnf) | fail
      exact ⟨_, rfl, _, rfl, LeAV1.nil 1, LeAV1.refl _, trivial⟩
end Go.Proofs.YtfpaonfddaeamaaGreatDoor
namespace Go.Proofs.YtfpaonfddaeamaaGreatDoor
open Go Go.QL
set_option maxHeartbeats 3200000
attribute [local irreducible] ACall FnC YC
theorem runs_5 : RunsAt 5 := fun n ok s1 sk hsk s2 s3 k' nw flt hl xs hxl => run_5 ok hsk hl xs hxl
def exF : List FaultT := [⟨7, 0⟩, ⟨2, 1⟩, ⟨6, 0⟩, ⟨4, 0⟩]
def exT : List (List Int) := [[3, 0], [0], [3, 1, 0]]
def exB : List (List Bool) := [[true, true, false, true], [false, true, false, false], [true, true, true, true]]
theorem ex_i64 : i64 adder.inn := by unfold i64; decide
theorem ex_asked : askedR adder exF exT = 0 := by kernel_rfl
theorem ex_run : runR adder [3, 1, 0] = ([0, 0, 1], 0) := by kernel_rfl
theorem ex_step : stepP adder 1 1 = (1, 0, 0) := by kernel_rfl
theorem ex_show : showR adder ⟨6, 0⟩ = ([3, 1, 0], 0) := by kernel_rfl
theorem ex_table : tableR adder exF exT = (exB, 0) := by kernel_rfl
theorem ex_tell : tellR adder exF exT = ([0, 2], 0) := by kernel_rfl
theorem ex_tellP : tellP adder exF exT = (intsPV [0, 2], 0) := by
  have h := tell_eq ex_asked
  rw [ex_tell] at h
  have h2 : (tellP adder exF exT).2 = 0 := by unfold tellP; rw [if_pos ex_asked]
  exact Prod.ext h h2
theorem ex_diff : (diffR adder adder).2 = 9 := by kernel_rfl
def exText : ByteArray := ⟨#[105, 110, 112, 117, 116, 115, 32, 50, 10, 100, 101, 108, 97, 121, 32, 55, 10, 120, 111, 114, 32, 48, 32, 49, 10, 120, 111, 114, 32, 51, 32, 50, 10, 97, 110, 100, 32, 48, 32, 49, 10, 97, 110, 100, 32, 51, 32, 50, 10, 111, 114, 32, 53, 32, 54, 10, 111, 117, 116, 112, 117, 116, 115, 32, 52, 10]⟩
theorem ex_write : writeR adder = (exText, 0) := by kernel_rfl
end Go.Proofs.YtfpaonfddaeamaaGreatDoor
namespace Go.Proofs.YtfpaonfddaeamaaGreatDoor
open Go Go.QL
set_option maxHeartbeats 3200000
attribute [local irreducible] ACall FnC YC
theorem awake_fn : FnC Tryz.prog 10 [] (bv true) := by
  have hrun := prun_fn adder ex_i64 [3, 1, 0]
  rw [ex_run] at hrun
  have hstep := pstep_fn adder ex_i64 1 1
  rw [ex_step] at hstep
  have hshow := pshow_fn adder ex_i64 ⟨6, 0⟩
  rw [ex_show] at hshow
  have htab := ptable_fn adder ex_i64 exF exT (fun _ => runs_5)
  rw [ex_table] at htab
  have htell := ptell_fn adder ex_i64 exF exT (fun _ => runs_5)
  rw [ex_tellP] at htell
  have hdiff := pdiffer_fn adder adder ex_i64 ex_i64
  have e := ex_diff
  generalize diffR adder adder = D at hdiff e
  obtain ⟨d, z⟩ := D
  dsimp only at e
  subst e
  have hwrite := write_fn adder ex_i64
  rw [ex_write] at hwrite
  have htabs := tables_ref exB exB
  rw [decide_eq_true rfl] at htabs
  have i1 := ints_fn [0, 0, 1] [0, 0, 1]
  rw [show sameInts [0, 0, 1] [0, 0, 1] = true from rfl] at i1
  have i2 := ints_fn [3, 1, 0] [3, 1, 0]
  rw [show sameInts [3, 1, 0] [3, 1, 0] = true from rfl] at i2
  have i3 := ints_fn [0, 2] [0, 2]
  rw [show sameInts [0, 2] [0, 2] = true from rfl] at i3
  dsimp only at hrun hstep hshow htab htell hdiff hwrite
  refine FnC_of_AW hTt Tryz.func10 rfl (by kernel_rfl) (res := [.tmp 0]) rfl Tryz.ntmps10 (by simp) fun w0 K0 => ?_
  dsimp only [entry]
  repeat' first | with_reducible refine AW_seq ?_ | ((first | with_reducible refine AW_ret ?_ | with_reducible refine AW_region hTt ?_ | refine AW_draw hTt hMix (id := 2) 9 false [0, 0, 2, 6, 15, 31, 63, 63, 127, 511] (by kernel_rfl) rfl rfl (by kernel_rfl) ?_ | refine AW_draw hTt hMix (id := 4) 9 false [0, 0, 2, 6, 15, 31, 63, 63, 127, 511] (by kernel_rfl) rfl rfl (by kernel_rfl) ?_ | refine AW_draw hTt hMix (id := 5) 8 false [0, 0, 2, 7, 15, 31, 31, 63, 255] (by kernel_rfl) rfl rfl (by kernel_rfl) ?_ | refine AW_draw hTt hMix (id := 6) 8 false [0, 0, 2, 7, 15, 31, 31, 63, 255] (by kernel_rfl) rfl rfl (by kernel_rfl) ?_ | with_reducible refine Exists.intro _ (And.intro (gd_any (And.intro (by decide) rfl)) ?_) | ((refine ⟨_, (padder_fn).call rfl rfl, ?_⟩); (rintro _ _ ⟨rfl, rfl⟩)) | refine ⟨_, fun _ => (tests_fn).call rfl rfl, ?_⟩ | refine ⟨_, fun _ => (faults_fn).call rfl rfl, ?_⟩ | refine ⟨_, fun _ => (hrun).call rfl rfl, ?_⟩ | ((refine ⟨_, (hstep).call rfl rfl, ?_⟩); (rintro _ _ ⟨rfl, rfl⟩)) | refine ⟨_, fun _ => (hshow).call rfl rfl, ?_⟩ | refine ⟨_, fun _ => (htab).call rfl rfl, ?_⟩ | refine ⟨_, fun _ => (htell).call rfl rfl, ?_⟩ | ((refine ⟨_, (hdiff).call rfl rfl, ?_⟩); (rintro _ _ ⟨rfl, rfl⟩)) | ((refine ⟨_, (hwrite).call rfl rfl, ?_⟩); (rintro _ _ ⟨rfl, rfl⟩)) | refine ⟨_, fun _ => (htabs).call rfl rfl, ?_⟩ | refine ⟨_, fun _ => (i1).call rfl rfl, ?_⟩ | refine ⟨_, fun _ => (i2).call rfl rfl, ?_⟩ | refine ⟨_, fun _ => (i3).call rfl rfl, ?_⟩ | refine andA ?_ | fail); conv => whnf) | fail
  have key : ∀ b, b = true → some (bv b) = some (bv true) := by intro b h; rw [h]
  exact key _ (beq_self_eq_true exText.toList)
end Go.Proofs.YtfpaonfddaeamaaGreatDoor
namespace Go.Proofs.YtfpaonfddaeamaaGreatDoor
open Go Go.QL
set_option maxHeartbeats 3200000
attribute [local irreducible] ACall FnC
theorem eqL3 {a b c d e f : Int} : eqL [.int .i64 a, .int .i64 b, .int .i64 c] [.int .i64 d, .int .i64 e, .int .i64 f] = true ↔ a = d ∧ b = e ∧ c = f := by simp [eqL, eqV]
theorem nets_fn (a b : NetT) : FnC Tryz.prog 9 [netAV a, netAV b] (bv (decide (a = b))) := by
  refine FnC_of_AW hTt Tryz.func9 rfl (by kernel_rfl) (res := [.tmp 4]) rfl Tryz.ntmps9 (by simp) fun w0 K0 => ?_
  dsimp only [entry]
  have hin := ints_fn a.out b.out
  by_cases h1 : a.inn = b.inn
  · by_cases h2 : a.out = b.out
    · rw [show sameInts a.out b.out = true from decide_eq_true h2] at hin
      by_cases h3 : a.gates.length = b.gates.length
      · repeat' first | with_reducible refine AW_seq ?_ | with_reducible refine AW_block ?_ | ((first | with_reducible refine AW_skip ?_ | with_reducible refine AW_ret ?_ | with_reducible refine AW_region hTt ?_ | fail); conv => whnf) | (exfalso; simp [h1, h3] at hb; done) | ((refine ⟨_, fun _ => (hin).call rfl rfl, ?_⟩); conv => whnf) | (refine AW_cond rfl (fun hb => ?_) (fun hb => ?_) <;> first | (replace hb := of_decide_eq_true hb; try simp only [List.length_map] at hb) | (replace hb := of_decide_eq_false hb; try simp only [List.length_map] at hb) | (simp only [List.length_map, bne_iff_ne, ne_eq, beq_iff_eq, bne_eq_false_iff_eq, beq_eq_false_iff_ne, decide_eq_true_eq, decide_eq_false_iff_not, Bool.not_eq_true', Bool.not_eq_false', Int.natCast_inj] at hb)) | ((refine andA ?_); conv => whnf) | fail
        refine AW_loop (fun i : Nat => [(5, iv .i64 i), (2, .x (.b 2 0)), (3, .x (.b 3 0))]) (fun _ => [(2, netCells a), (3, netCells b)]) (fun i => i ≤ a.gates.length ∧ a.gates.take i = b.gates.take i) (fun i => a.gates.length - i) 0 (by simp) impA ?_
        rintro i ⟨hi, htk⟩
        rcases Nat.lt_or_ge i a.gates.length with hil | hil
        · obtain ⟨⟨k1, a1, b1⟩, hx⟩ : ∃ x, a.gates[i]? = some x := ⟨_, List.getElem?_eq_getElem hil⟩
          obtain ⟨⟨k2, a2, b2⟩, hy⟩ : ∃ y, b.gates[i]? = some y := ⟨_, List.getElem?_eq_getElem (by omega)⟩
          repeat' first | with_reducible refine AW_seq ?_ | with_reducible refine AW_block ?_ | ((first | with_reducible refine AW_skip ?_ | with_reducible refine AW_exit ?_ | with_reducible refine AW_ret ?_ | with_reducible refine AW_region hTt ?_ | refine AW_draw hTt hMix (id := 6) 10 false [0, 1, 0, 7, 15, 0, 32, 0, 224, 480, 1023] (by kernel_rfl) rfl rfl (by kernel_rfl) ?_ | fail); conv => whnf) | (exact absurd hb (by omega)) | ((first | with_reducible refine Exists.intro _ (And.intro (gd_any (And.intro (by omega) (gate_some hx))) ?_) | with_reducible refine Exists.intro _ (And.intro (gd_any (And.intro (by omega) (gate_some hy))) ?_) | fail); conv => whnf) | (refine AW_cond rfl (fun hb => ?_) (fun hb => ?_) <;> first | (replace hb := of_decide_eq_true hb; try simp only [List.length_map] at hb) | (replace hb := of_decide_eq_false hb; try simp only [List.length_map] at hb) | (simp only [List.length_map, bne_iff_ne, ne_eq, beq_iff_eq, bne_eq_false_iff_eq, beq_eq_false_iff_ne, decide_eq_true_eq, decide_eq_false_iff_not, Bool.not_eq_true', Bool.not_eq_false', Int.natCast_inj] at hb)) | ((first | refine ⟨_, wrap_of (by first | omega | (simp only [List.length_map]; omega)), ?_⟩ | refine andA ?_ | fail); conv => whnf) | (refine fun hln => ?_; (try rw [List.length_map] at hln); unfold maxLen at hln; conv => whnf) | fail
          · have hne : a ≠ b := fun h => by
              subst h
              rw [hx] at hy
              cases hy
              rw [eqL3.2 ⟨rfl, rfl, rfl⟩] at hb; cases hb
            rw [show decide (a = b) = false from decide_eq_false hne]; rfl
          · obtain ⟨rfl, rfl, rfl⟩ := eqL3.1 hb
            refine ⟨i + 1, ⟨by omega, ?_⟩, by omega, impA⟩
            rw [List.take_add_one, List.take_add_one, htk, hx, hy]
        · repeat' first | with_reducible refine AW_seq ?_ | with_reducible refine AW_block ?_ | ((first | with_reducible refine AW_skip ?_ | with_reducible refine AW_exit ?_ | with_reducible refine AW_ret ?_ | with_reducible refine AW_region hTt ?_ | refine AW_draw hTt hMix (id := 6) 10 false [0, 1, 0, 7, 15, 0, 32, 0, 224, 480, 1023] (by kernel_rfl) rfl rfl (by kernel_rfl) ?_ | fail); conv => whnf) | (exact absurd hb (by omega)) | (refine AW_cond rfl (fun hb => ?_) (fun hb => ?_) <;> first | (replace hb := of_decide_eq_true hb; try simp only [List.length_map] at hb) | (replace hb := of_decide_eq_false hb; try simp only [List.length_map] at hb)) | ((refine andA ?_); conv => whnf) | (refine fun hln => ?_; (try rw [List.length_map] at hln); unfold maxLen at hln; conv => whnf) | fail
          have : decide (a = b) = true := decide_eq_true (by
            have e1 := List.take_of_length_le (l := a.gates) (i := i) (by omega)
            have e2 := List.take_of_length_le (l := b.gates) (i := i) (by omega)
            have e3 : a.gates = b.gates := by rw [← e1, ← e2, htk]
            obtain ⟨x1, x2, x3⟩ := a
            obtain ⟨y1, y2, y3⟩ := b
            dsimp only at h1 h2 e3
            subst h1; subst h2; subst e3; rfl)
          rw [this]; rfl
      · rw [show decide (a = b) = false from decide_eq_false fun h => h3 (by rw [h])]
        repeat' first | with_reducible refine AW_seq ?_ | with_reducible refine AW_block ?_ | ((first | with_reducible refine AW_skip ?_ | with_reducible refine AW_ret ?_ | with_reducible refine AW_region hTt ?_ | fail); conv => whnf) | (exfalso; simp [h1] at hb; omega) | ((refine ⟨_, fun _ => (hin).call rfl rfl, ?_⟩); conv => whnf) | (refine AW_cond rfl (fun hb => ?_) (fun hb => ?_) <;> first | (replace hb := of_decide_eq_true hb; try simp only [List.length_map] at hb) | (replace hb := of_decide_eq_false hb; try simp only [List.length_map] at hb) | (simp only [List.length_map, bne_iff_ne, ne_eq, beq_iff_eq, bne_eq_false_iff_eq, beq_eq_false_iff_ne, decide_eq_true_eq, decide_eq_false_iff_not, Bool.not_eq_true', Bool.not_eq_false', Int.natCast_inj] at hb)) | ((refine andA ?_); conv => whnf) | fail
        rfl
    · rw [show sameInts a.out b.out = false from decide_eq_false h2] at hin
      rw [show decide (a = b) = false from decide_eq_false fun h => h2 (by rw [h])]
      repeat' first | with_reducible refine AW_seq ?_ | with_reducible refine AW_block ?_ | ((first | with_reducible refine AW_skip ?_ | with_reducible refine AW_ret ?_ | with_reducible refine AW_region hTt ?_ | fail); conv => whnf) | (exfalso; simp at hb; done) | ((refine ⟨_, fun _ => (hin).call rfl rfl, ?_⟩); conv => whnf) | (refine AW_cond rfl (fun hb => ?_) (fun hb => ?_) <;> first | (replace hb := of_decide_eq_true hb; try simp only [List.length_map] at hb) | (replace hb := of_decide_eq_false hb; try simp only [List.length_map] at hb) | (simp only [List.length_map, bne_iff_ne, ne_eq, beq_iff_eq, bne_eq_false_iff_eq, beq_eq_false_iff_ne, decide_eq_true_eq, decide_eq_false_iff_not, Bool.not_eq_true', Bool.not_eq_false', Int.natCast_inj] at hb)) | ((refine andA ?_); conv => whnf) | fail
      rfl
  · rw [show decide (a = b) = false from decide_eq_false fun h => h1 (by rw [h])]
    repeat' first | with_reducible refine AW_seq ?_ | with_reducible refine AW_block ?_ | ((first | with_reducible refine AW_skip ?_ | with_reducible refine AW_ret ?_ | with_reducible refine AW_region hTt ?_ | fail); conv => whnf) | (exfalso; simp [h1] at hb; done) | ((refine ⟨_, fun _ => (hin).call rfl rfl, ?_⟩); conv => whnf) | (refine AW_cond rfl (fun hb => ?_) (fun hb => ?_) <;> first | (replace hb := of_decide_eq_true hb; try simp only [List.length_map] at hb) | (replace hb := of_decide_eq_false hb; try simp only [List.length_map] at hb) | (simp only [List.length_map, bne_iff_ne, ne_eq, beq_iff_eq, bne_eq_false_iff_eq, beq_eq_false_iff_ne, decide_eq_true_eq, decide_eq_false_iff_not, Bool.not_eq_true', Bool.not_eq_false', Int.natCast_inj] at hb)) | ((refine andA ?_); conv => whnf) | fail
    rfl
end Go.Proofs.YtfpaonfddaeamaaGreatDoor
namespace Go.Proofs.YtfpaonfddaeamaaGreatDoor
open Go Go.QL Go.RowKit
set_option maxHeartbeats 3200000
attribute [local irreducible] ACall FnC Imp
theorem gtexts_fn (n : NetT) (hr : i64 n.inn) (s : ByteArray) : FnC Tryz.prog 3 [netAV n, sv s] (bv true) := by
  have w1 := write_fn n hr
  have w2 := rwrite_fn n
  have r1 := read_fn s
  have r2 := rread_fn s
  rw [← read_eq s] at r2
  generalize readR s = p at r1 r2
  generalize writeR n = q at w1 w2
  have nn := nets_fn p.1 p.1
  rw [decide_eq_true rfl] at nn
  have hq : (bif !(q.1.toList == q.1.toList) then true else (q.2 != q.2)) = false := by simp
  have hq2 : (!(q.1.toList == q.1.toList)) = false := by simp
  have hp : (p.2 == p.2) = true := by simp
  refine FnC_of_AW hTt Tryz.func3 rfl (by kernel_rfl) (res := [.tmp 4]) rfl Tryz.ntmps3 (by simp) fun w0 K0 => ?_
  dsimp only [entry]
  repeat' first | with_reducible refine AW_seq ?_ | ((first | with_reducible refine AW_skip ?_ | with_reducible refine AW_ret ?_ | with_reducible refine AW_region hTt ?_ | ((refine ⟨_, (w1).call rfl rfl, ?_⟩); (rintro _ _ ⟨rfl, rfl⟩)) | ((refine ⟨_, (w2).call rfl rfl, ?_⟩); (rintro _ _ ⟨rfl, rfl⟩)) | ((refine ⟨_, (r1).call rfl rfl, ?_⟩); (rintro _ _ ⟨rfl, rfl⟩)) | ((refine ⟨_, (r2).call rfl rfl, ?_⟩); (rintro _ _ ⟨rfl, rfl⟩)) | ((refine ⟨_, (nn).call rfl rfl, ?_⟩); (rintro _ _ ⟨rfl, rfl⟩)) | refine ⟨_, fun _ => (awake_fn).call rfl rfl, ?_⟩ | fail); conv => whnf) | (refine AW_condF hq rfl ?_) | ((refine andA ?_); conv => whnf) | fail
  have hfin : (bif bif true then p.2 == p.2 else false then true else false) = true := by simp
  exact congrArg (fun b => some (bv b)) hfin
theorem ground_fn (n : NetT) (hr : i64 n.inn) (s : ByteArray) : FnC Tryz.prog 4 [netAV n, sv s] (bv true) := by
  have w1 := write_fn n hr
  have r2 := read_fn s
  have hc2 := readR_cases s
  generalize readR s = p at r2 hc2
  obtain ⟨m, e⟩ := p
  dsimp only at hc2 r2
  by_cases hc : (checkR n).2.2 = 0
  · have hw : writeR n = (textB n, 0) := if_pos hc
    rw [hw] at w1
    have r1 := read_fn (textB n)
    rw [read_text hc] at r1
    have nn := nets_fn n n
    rw [decide_eq_true rfl] at nn
    have hz := textB_size (NetOK.of hc)
    generalize textB n = t at w1 r1 hz
    rcases hc2 with ⟨h1, rfl, _⟩ | ⟨h1, rfl, h3⟩
    · refine FnC_of_AW hTt Tryz.func4 rfl (by kernel_rfl) (res := [.tmp 4]) rfl Tryz.ntmps4 (by simp) fun w0 K0 => ?_
      dsimp only [entry]
      repeat' first | with_reducible refine AW_seq ?_ | ((first | with_reducible refine AW_skip ?_ | with_reducible refine AW_ret ?_ | with_reducible refine AW_region hTt ?_ | fail); conv => whnf) | (exact absurd trivial hb) | (exact absurd hb (by omega)) | ((first | ((refine ⟨_, (w1).call rfl rfl, ?_⟩); (rintro _ _ ⟨rfl, rfl⟩)) | ((refine ⟨_, (r1).call rfl rfl, ?_⟩); (rintro _ _ ⟨rfl, rfl⟩)) | refine ⟨_, fun _ => (nn).call rfl rfl, ?_⟩ | ((refine ⟨_, (r2).call rfl rfl, ?_⟩); (rintro _ _ ⟨rfl, rfl⟩)) | refine ⟨_, fun _ => (awake_fn).call rfl rfl, ?_⟩ | fail); conv => whnf) | (refine AW_cond rfl (fun hb => ?_) (fun hb => ?_) <;> first | (replace hb := of_decide_eq_true hb; try simp only [List.length_map] at hb) | (replace hb := of_decide_eq_false hb; try simp only [List.length_map] at hb) | (simp only [List.length_map, bne_iff_ne, ne_eq, beq_iff_eq, bne_eq_false_iff_eq, beq_eq_false_iff_ne, decide_eq_true_eq, decide_eq_false_iff_not, Bool.not_eq_true', Bool.not_eq_false', Int.natCast_inj] at hb) | skip) | ((refine andA ?_); conv => whnf) | (refine fun hln => ?_; (try rw [List.length_map] at hln); unfold maxLen at hln; conv => whnf) | fail
      rfl
    · have ok2 := NetOK.of h1
      have hi := ok2.h1; have h6 := ok2.h6
      have w2 := write_fn m ⟨by omega, by omega⟩
      rw [show writeR m = (textB m, 0) from if_pos h1, h3] at w2
      have hfin : (bif (bif true then (s.toList == s.toList) else false) then true else false) = true := by simp
      refine FnC_of_AW hTt Tryz.func4 rfl (by kernel_rfl) (res := [.tmp 4]) rfl Tryz.ntmps4 (by simp) fun w0 K0 => ?_
      dsimp only [entry]
      repeat' first | with_reducible refine AW_seq ?_ | ((first | with_reducible refine AW_skip ?_ | with_reducible refine AW_ret ?_ | with_reducible refine AW_region hTt ?_ | fail); conv => whnf) | (exact absurd trivial hb) | (exact absurd hb (by omega)) | ((first | ((refine ⟨_, (w1).call rfl rfl, ?_⟩); (rintro _ _ ⟨rfl, rfl⟩)) | ((refine ⟨_, (r1).call rfl rfl, ?_⟩); (rintro _ _ ⟨rfl, rfl⟩)) | refine ⟨_, fun _ => (nn).call rfl rfl, ?_⟩ | ((refine ⟨_, (r2).call rfl rfl, ?_⟩); (rintro _ _ ⟨rfl, rfl⟩)) | refine ⟨_, fun _ => (awake_fn).call rfl rfl, ?_⟩ | ((refine ⟨_, (w2).call rfl rfl, ?_⟩); (rintro _ _ ⟨rfl, rfl⟩)) | fail); conv => whnf) | (refine AW_cond rfl (fun hb => absurd hb (by decide)) (fun _ => ?_)) | (refine AW_cond rfl (fun hb => ?_) (fun hb => ?_) <;> first | (replace hb := of_decide_eq_true hb; try simp only [List.length_map] at hb) | (replace hb := of_decide_eq_false hb; try simp only [List.length_map] at hb) | (simp only [List.length_map, bne_iff_ne, ne_eq, beq_iff_eq, bne_eq_false_iff_eq, beq_eq_false_iff_ne, decide_eq_true_eq, decide_eq_false_iff_not, Bool.not_eq_true', Bool.not_eq_false', Int.natCast_inj] at hb) | skip) | ((refine andA ?_); conv => whnf) | fail
      exact congrArg (fun b => some (bv b)) hfin
  · have hw : writeR n = (⟨#[]⟩, (checkR n).2.2) := if_neg hc
    rw [hw] at w1
    rcases hc2 with ⟨h1, rfl, _⟩ | ⟨h1, rfl, h3⟩
    · refine FnC_of_AW hTt Tryz.func4 rfl (by kernel_rfl) (res := [.tmp 4]) rfl Tryz.ntmps4 (by simp) fun w0 K0 => ?_
      dsimp only [entry]
      repeat' first | with_reducible refine AW_seq ?_ | ((first | with_reducible refine AW_skip ?_ | with_reducible refine AW_ret ?_ | with_reducible refine AW_region hTt ?_ | fail); conv => whnf) | (exact absurd hb hc) | (exact absurd hb (by omega)) | ((first | ((refine ⟨_, (w1).call rfl rfl, ?_⟩); (rintro _ _ ⟨rfl, rfl⟩)) | ((refine ⟨_, (r2).call rfl rfl, ?_⟩); (rintro _ _ ⟨rfl, rfl⟩)) | refine ⟨_, fun _ => (awake_fn).call rfl rfl, ?_⟩ | fail); conv => whnf) | (refine AW_cond rfl (fun hb => ?_) (fun hb => ?_) <;> first | (replace hb := of_decide_eq_true hb; try simp only [List.length_map] at hb) | (replace hb := of_decide_eq_false hb; try simp only [List.length_map] at hb) | (simp only [List.length_map, bne_iff_ne, ne_eq, beq_iff_eq, bne_eq_false_iff_eq, beq_eq_false_iff_ne, decide_eq_true_eq, decide_eq_false_iff_not, Bool.not_eq_true', Bool.not_eq_false', Int.natCast_inj] at hb) | skip) | ((refine andA ?_); conv => whnf) | (refine fun hln => ?_; (try rw [List.length_map] at hln); unfold maxLen at hln; conv => whnf) | fail
      rfl
    · have ok2 := NetOK.of h1
      have hi := ok2.h1; have h6 := ok2.h6
      have w2 := write_fn m ⟨by omega, by omega⟩
      rw [show writeR m = (textB m, 0) from if_pos h1, h3] at w2
      have hfin : (bif (bif true then (s.toList == s.toList) else false) then true else false) = true := by simp
      refine FnC_of_AW hTt Tryz.func4 rfl (by kernel_rfl) (res := [.tmp 4]) rfl Tryz.ntmps4 (by simp) fun w0 K0 => ?_
      dsimp only [entry]
      repeat' first | with_reducible refine AW_seq ?_ | ((first | with_reducible refine AW_skip ?_ | with_reducible refine AW_ret ?_ | with_reducible refine AW_region hTt ?_ | fail); conv => whnf) | (exact absurd hb hc) | ((first | ((refine ⟨_, (w1).call rfl rfl, ?_⟩); (rintro _ _ ⟨rfl, rfl⟩)) | ((refine ⟨_, (r2).call rfl rfl, ?_⟩); (rintro _ _ ⟨rfl, rfl⟩)) | refine ⟨_, fun _ => (awake_fn).call rfl rfl, ?_⟩ | ((refine ⟨_, (w2).call rfl rfl, ?_⟩); (rintro _ _ ⟨rfl, rfl⟩)) | fail); conv => whnf) | (refine AW_cond rfl (fun hb => absurd hb (by decide)) (fun _ => ?_)) | (refine AW_cond rfl (fun hb => ?_) (fun hb => ?_) <;> first | (replace hb := of_decide_eq_true hb; try simp only [List.length_map] at hb) | (replace hb := of_decide_eq_false hb; try simp only [List.length_map] at hb) | (simp only [List.length_map, bne_iff_ne, ne_eq, beq_iff_eq, bne_eq_false_iff_eq, beq_eq_false_iff_ne, decide_eq_true_eq, decide_eq_false_iff_not, Bool.not_eq_true', Bool.not_eq_false', Int.natCast_inj] at hb) | skip) | ((refine andA ?_); conv => whnf) | fail
      exact congrArg (fun b => some (bv b)) hfin
end Go.Proofs.YtfpaonfddaeamaaGreatDoor
