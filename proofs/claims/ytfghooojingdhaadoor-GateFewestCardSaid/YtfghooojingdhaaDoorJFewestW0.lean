/- What the functions that this law reaches return: part 0. No condition. -/
import Derived.Test.YtfghooojingdhaaDoorJ05
set_option linter.all false
namespace Go.Proofs.YtfghooojingdhaaDoor
open Go Go.QL
def bytesAV (l : List Int) : AV := .x (.d (.s 1 (l.map fun n => [.v (.int .u8 n)])))
end Go.Proofs.YtfghooojingdhaaDoor
namespace Go.Proofs.YtfghooojingdhaaDoor
open Go Go.QL
set_option maxHeartbeats 3200000
attribute [local irreducible] ACall FnC
def lapartR (L : List (List (List Int))) (list : List Int) (a b : Nat) : Bool := list.any fun i => !sameInts ((L.getD i.toNat []).getD a []) ((L.getD i.toNat []).getD b [])
theorem cube_someI {L : List (List (List Int))} {i : Int} {r : List (List Int)} (h : L[i.toNat]? = some r) : (cubePV L)[i.toNat]? = some [rowsPV r] := by simp [cubePV, h]
theorem lapart_fn (L : List (List (List Int))) (k : Nat) (hk : ∀ r ∈ L, r.length = k) (list : List Int) (hl : ∀ i ∈ list, 0 ≤ i ∧ i < L.length) (a b : Nat) (ha : a < k) (hb' : b < k) :
    FnC Tryd.prog 81 [cubeAV L, sl list, iv .i64 a, iv .i64 b] (bv (lapartR L list a b)) := by
  refine FnC_of_AW hTt Tryd.func81 rfl (by kernel_rfl) (res := [.tmp 8]) rfl Tryd.ntmps81 (by simp) fun w0 K0 => ?_
  dsimp only [entry]
  repeat' first | with_reducible refine AW_seq ?_ | with_reducible refine AW_block ?_ | ((with_reducible refine AW_region hTt ?_); conv => whnf) | fail
  refine AW_loop (fun i : Nat => [(9, iv .i64 i), (0, cubeAV L), (1, sl list), (2, iv .i64 a), (3, iv .i64 b)]) (fun _ => []) (fun i => i ≤ list.length ∧ lapartR L list a b = lapartR L (list.drop i) a b) (fun i => list.length - i) 0 ⟨Nat.zero_le _, rfl⟩ impA ?_
  rintro i ⟨hi, hs⟩
  rcases Nat.lt_or_ge i list.length with hil | hil
  · obtain ⟨x, hx⟩ : ∃ x, list[i]? = some x := ⟨_, List.getElem?_eq_getElem hil⟩
    have hxr := hl x (List.mem_of_getElem? hx)
    obtain ⟨r, hr⟩ : ∃ r, L[x.toNat]? = some r := ⟨_, List.getElem?_eq_getElem (by omega)⟩
    have hrk := hk r (List.mem_of_getElem? hr)
    obtain ⟨u, hu⟩ : ∃ u, r[a]? = some u := ⟨_, List.getElem?_eq_getElem (by omega)⟩
    obtain ⟨v, hv⟩ : ∃ v, r[b]? = some v := ⟨_, List.getElem?_eq_getElem (by omega)⟩
    have hdr : list.drop i = x :: list.drop (i + 1) := by
      rw [List.drop_eq_getElem_cons hil]
      congr 1
      rw [List.getElem?_eq_getElem hil] at hx
      exact Option.some.inj hx
    have hst : lapartR L list a b = (!sameInts u v || lapartR L (list.drop (i + 1)) a b) := by
      rw [hs, hdr]
      unfold lapartR
      rw [List.any_cons, List.getD_eq_getElem?_getD (l := L), hr, Option.getD_some, List.getD_eq_getElem?_getD (l := r), hu, List.getD_eq_getElem?_getD (l := r), hv]; rfl
    have o1 := ints_fn u v
    clear hs hdr
    generalize sameInts u v = q at hst o1
    cases q with
    | true =>
      repeat' first | with_reducible refine AW_seq ?_ | with_reducible refine AW_block ?_ | ((first | with_reducible refine AW_skip ?_ | with_reducible refine AW_exit ?_ | with_reducible refine AW_ret ?_ | with_reducible refine AW_region hTt ?_ | refine AW_draw hTt hMix (id := 4) 20 false [0, 0, 0, 6, 14, 31, 63, 0, 255, 511, 0, 0, 0, 6144, 14336, 31744, 64512, 0, 261120, 523264, 1048575, 2097151] (by kernel_rfl) rfl rfl (by kernel_rfl) ?_ | fail); conv => whnf) | (exact absurd hb (by omega)) | ((first | with_reducible refine Exists.intro _ (And.intro (gd_any (And.intro (by omega) (map_some hx))) ?_) | with_reducible refine Exists.intro _ (And.intro (gd_any (And.intro (by omega) (cube_someI hr))) ?_) | with_reducible refine Exists.intro _ (And.intro (gd_any (And.intro (by omega) (row_some hu))) ?_) | with_reducible refine Exists.intro _ (And.intro (gd_any (And.intro (by omega) (row_some hv))) ?_) | ((refine ⟨_, (o1).call rfl rfl, ?_⟩); (rintro _ _ ⟨rfl, rfl⟩)) | fail); conv => whnf) | (refine AW_cond rfl (fun hb => absurd hb (by decide)) (fun _ => ?_)) | (refine AW_cond rfl (fun hb => ?_) (fun hb => ?_) <;> first | (replace hb := of_decide_eq_true hb; try simp only [List.length_map] at hb) | (replace hb := of_decide_eq_false hb; try simp only [List.length_map] at hb) | (simp only [List.length_map, bne_iff_ne, ne_eq, beq_iff_eq, bne_eq_false_iff_eq, beq_eq_false_iff_ne, decide_eq_true_eq, decide_eq_false_iff_not, Bool.not_eq_true', Bool.not_eq_false', Int.natCast_inj] at hb) | skip) | ((first | refine ⟨_, wrap_of (by first | omega | (simp only [List.length_map]; omega)), ?_⟩ | refine andA ?_ | fail); conv => whnf) | (refine fun hln => ?_; (try rw [List.length_map] at hln); unfold maxLen at hln; conv => whnf) | fail
      exact ⟨i + 1, ⟨hil, hst⟩, by omega, impA⟩
    | false =>
      rw [show lapartR L list a b = true from hst]
      repeat' first | with_reducible refine AW_seq ?_ | with_reducible refine AW_block ?_ | ((first | with_reducible refine AW_skip ?_ | with_reducible refine AW_exit ?_ | with_reducible refine AW_ret ?_ | with_reducible refine AW_region hTt ?_ | refine AW_draw hTt hMix (id := 4) 20 false [0, 0, 0, 6, 14, 31, 63, 0, 255, 511, 0, 0, 0, 6144, 14336, 31744, 64512, 0, 261120, 523264, 1048575, 2097151] (by kernel_rfl) rfl rfl (by kernel_rfl) ?_ | fail); conv => whnf) | (exact absurd hb (by omega)) | ((first | with_reducible refine Exists.intro _ (And.intro (gd_any (And.intro (by omega) (map_some hx))) ?_) | with_reducible refine Exists.intro _ (And.intro (gd_any (And.intro (by omega) (cube_someI hr))) ?_) | with_reducible refine Exists.intro _ (And.intro (gd_any (And.intro (by omega) (row_some hu))) ?_) | with_reducible refine Exists.intro _ (And.intro (gd_any (And.intro (by omega) (row_some hv))) ?_) | ((refine ⟨_, (o1).call rfl rfl, ?_⟩); (rintro _ _ ⟨rfl, rfl⟩)) | fail); conv => whnf) | (refine AW_cond rfl (fun _ => ?_) (fun hb => absurd hb (by decide))) | (refine AW_cond rfl (fun hb => ?_) (fun hb => ?_) <;> first | (replace hb := of_decide_eq_true hb; try simp only [List.length_map] at hb) | (replace hb := of_decide_eq_false hb; try simp only [List.length_map] at hb) | (simp only [List.length_map, bne_iff_ne, ne_eq, beq_iff_eq, bne_eq_false_iff_eq, beq_eq_false_iff_ne, decide_eq_true_eq, decide_eq_false_iff_not, Bool.not_eq_true', Bool.not_eq_false', Int.natCast_inj] at hb) | skip) | ((refine andA ?_); conv => whnf) | (refine fun hln => ?_; (try rw [List.length_map] at hln); unfold maxLen at hln; conv => whnf) | fail
      rfl
  · rw [show lapartR L list a b = false from by rw [hs, List.drop_eq_nil_of_le hil]; rfl]
    repeat' first | with_reducible refine AW_seq ?_ | with_reducible refine AW_block ?_ | ((first | with_reducible refine AW_skip ?_ | with_reducible refine AW_exit ?_ | with_reducible refine AW_ret ?_ | with_reducible refine AW_region hTt ?_ | refine AW_draw hTt hMix (id := 4) 20 false [0, 0, 0, 6, 14, 31, 63, 0, 255, 511, 0, 0, 0, 6144, 14336, 31744, 64512, 0, 261120, 523264, 1048575, 2097151] (by kernel_rfl) rfl rfl (by kernel_rfl) ?_ | fail); conv => whnf) | (exact absurd hb (by omega)) | (refine AW_cond rfl (fun hb => ?_) (fun hb => ?_) <;> first | (replace hb := of_decide_eq_true hb; try simp only [List.length_map] at hb) | (replace hb := of_decide_eq_false hb; try simp only [List.length_map] at hb) | (simp only [List.length_map, bne_iff_ne, ne_eq, beq_iff_eq, bne_eq_false_iff_eq, beq_eq_false_iff_ne, decide_eq_true_eq, decide_eq_false_iff_not, Bool.not_eq_true', Bool.not_eq_false', Int.natCast_inj] at hb) | skip) | (refine fun hln => ?_; (try rw [List.length_map] at hln); unfold maxLen at hln; conv => whnf) | fail
    rfl
end Go.Proofs.YtfghooojingdhaaDoor
namespace Go.Proofs.YtfghooojingdhaaDoor
open Go Go.QL
set_option maxHeartbeats 1600000
def enoughR (L : List (List (List Int))) (whole list : List Int) (many upTo : Nat) : Bool :=
  (List.range many).all fun a => (List.range (min a upTo)).all fun b => !(lapartR L whole a b && !lapartR L list a b)
theorem lapart_apart (n : NetT) (fs : List FaultT) (ts : List (List Int)) {list : List Int} (hl : ∀ i ∈ list, 0 ≤ i ∧ i < (ts.length : Int)) {a b : Nat} (ha : a < fs.length + 1) (hb : b < fs.length + 1) :
    lapartR (ts.map fun t => lanesR n fs t) list a b = apartR n (fAt fs a) (fAt fs b) ts list := by
  unfold lapartR apartR
  apply any_congr
  intro i hi
  have := hl i hi
  obtain ⟨t, ht⟩ : ∃ t, ts[i.toNat]? = some t := ⟨_, List.getElem?_eq_getElem (by omega)⟩
  have e1 : (ts.map fun t => lanesR n fs t).getD i.toNat [] = lanesR n fs t := by rw [List.getD_eq_getElem?_getD, List.getElem?_map, ht]; rfl
  have e2 : ts.getD i.toNat [] = t := by rw [List.getD_eq_getElem?_getD, ht]; rfl
  have e3 : ∀ a, a < fs.length + 1 → (lanesR n fs t).getD a [] = oR n (fAt fs a) t := by
    intro a ha
    unfold lanesR
    simp [List.getD_eq_getElem?_getD, ha]
  rw [e1, e2, e3 a ha, e3 b hb]
theorem same_comm (a b : List Int) : sameInts a b = sameInts b a := by
  unfold sameInts
  exact decide_eq_decide.2 ⟨Eq.symm, Eq.symm⟩
theorem apart_comm (n : NetT) (f g : FaultT) (ts : List (List Int)) (list : List Int) : apartR n f g ts list = apartR n g f ts list := by
  unfold apartR
  apply any_congr
  intro i _
  rw [same_comm]
theorem enough_tells (n : NetT) (fs : List FaultT) (ts : List (List Int)) {whole list : List Int} (hw : ∀ i ∈ whole, 0 ≤ i ∧ i < (ts.length : Int)) (hl : ∀ i ∈ list, 0 ≤ i ∧ i < (ts.length : Int)) :
    enoughR (ts.map fun t => lanesR n fs t) whole list (fs.length + 1) (fs.length + 1) = tellsR n fs ts list whole := by
  unfold enoughR tellsR
  rw [Bool.eq_iff_iff, List.all_eq_true, List.all_eq_true]
  constructor
  · intro h a ha
    have ha' := List.mem_range.1 ha
    have h1 := h a ha
    rw [Nat.min_eq_left (by omega)] at h1
    rw [List.all_eq_true] at h1 ⊢
    intro b hb
    have hb' := List.mem_range.1 hb
    have := h1 b hb
    rw [lapart_apart n fs ts hw (by omega) (by omega), lapart_apart n fs ts hl (by omega) (by omega)] at this
    exact this
  · intro h a ha
    have ha' := List.mem_range.1 ha
    have h1 := h a ha
    rw [Nat.min_eq_left (by omega)]
    rw [List.all_eq_true] at h1 ⊢
    intro b hb
    have hb' := List.mem_range.1 hb
    rw [lapart_apart n fs ts hw (by omega) (by omega), lapart_apart n fs ts hl (by omega) (by omega)]
    exact h1 b hb
theorem enough_finds (n : NetT) (fs : List FaultT) (ts : List (List Int)) {whole list : List Int} (hw : ∀ i ∈ whole, 0 ≤ i ∧ i < (ts.length : Int)) (hl : ∀ i ∈ list, 0 ≤ i ∧ i < (ts.length : Int)) :
    enoughR (ts.map fun t => lanesR n fs t) whole list (fs.length + 1) 1 = findsR n fs ts list whole := by
  unfold enoughR findsR
  rw [Bool.eq_iff_iff, List.all_eq_true, List.all_eq_true]
  have hf : ∀ k (h : k < fs.length), fAt fs (k + 1) = fs[k] := by
    intro k h
    unfold fAt
    simp [List.getD_eq_getElem?_getD, h]
  have h0 : fAt fs 0 = fine := rfl
  constructor
  · intro h f hfm
    obtain ⟨k, hk, rfl⟩ := List.getElem_of_mem hfm
    have h1 := h (k + 1) (List.mem_range.2 (by omega))
    rw [Nat.min_eq_right (by omega), List.all_eq_true] at h1
    have h2 := h1 0 (by simp)
    rw [lapart_apart n fs ts hw (by omega) (by omega), lapart_apart n fs ts hl (by omega) (by omega), hf k hk, h0, apart_comm, apart_comm n fs[k]] at h2
    exact h2
  · intro h a ha
    have ha' := List.mem_range.1 ha
    rw [List.all_eq_true]
    intro b hb
    have hb' := List.mem_range.1 hb
    obtain ⟨k, rfl⟩ : ∃ k, a = k + 1 := ⟨a - 1, by omega⟩
    have hb0 : b = 0 := by omega
    subst hb0
    have hk : k < fs.length := by omega
    have h2 := h _ (List.getElem_mem hk)
    rw [lapart_apart n fs ts hw (by omega) (by omega), lapart_apart n fs ts hl (by omega) (by omega), hf k hk, h0, apart_comm, apart_comm n fs[k]]
    exact h2
theorem best_says {P : List Int → Bool} {T : Nat} (hP : P (numsI T) = true) : P (bestR P (numsI T) T (2 ^ T)) = true ∧ Asc T 0 (bestR P (numsI T) T (2 ^ T)) ∧
    ∀ c, Asc T 0 c → P c = true → (bestR P (numsI T) T (2 ^ T)).length ≤ c.length := by
  obtain ⟨h1, h2, h3⟩ := best_spec (T := T) hP (2 ^ T)
  refine ⟨h1, ?_, fun c hc hPc => ?_⟩
  · rcases h2 with h2 | ⟨y, h2⟩
    · rw [h2]; exact numsI_asc _
    · rw [h2]; exact chosen_asc _ _
  · obtain ⟨y, hy, he⟩ := asc_chosen hc
    have := h3 y hy (by rw [he]; exact hPc)
    rw [he] at this
    exact before_len this
theorem asc_steps {many : Nat} : ∀ {s : List Int} {lo : Nat}, Asc many lo s → ∀ (i : Nat) (x y : Int), s[i]? = some x → s[i + 1]? = some y → x < y
  | [], _, _, i, x, y, h, _ => by simp at h
  | z :: r, lo, h, i, x, y, hx, hy => by
    obtain ⟨h1, h2, h3⟩ := h
    cases i with
    | zero =>
      cases hx
      rw [List.getElem?_cons_succ] at hy
      have := asc_ge h3 y (List.mem_of_getElem? hy)
      omega
    | succ i =>
      rw [List.getElem?_cons_succ] at hx hy
      exact asc_steps h3 i x y hx hy
theorem all_self (n : NetT) (fs : List FaultT) (ts : List (List Int)) (l : List Int) : findsR n fs ts l l = true ∧ tellsR n fs ts l l = true := by
  constructor
  · unfold findsR
    rw [List.all_eq_true]
    intro f _
    cases apartR n fine f ts l <;> rfl
  · unfold tellsR
    rw [List.all_eq_true]
    intro a _
    rw [List.all_eq_true]
    intro b _
    unfold pairR
    cases apartR n (fAt fs a) (fAt fs b) ts l <;> rfl
end Go.Proofs.YtfghooojingdhaaDoor
namespace Go.Proofs.YtfghooojingdhaaDoor
open Go Go.QL
theorem ask_run {n : NetT} {fs : List FaultT} {ts : List (List Int)} (h : AskOK n fs ts) {t : List Int} (ht : t ∈ ts) : runR n t = (oR n fine t, 0) := by
  unfold runR
  rw [if_pos h.chk, if_pos (h.t t ht)]; rfl
theorem ask_stuck {n : NetT} {fs : List FaultT} {ts : List (List Int)} (h : AskOK n fs ts) {f : FaultT} (hf : f ∈ fs) {t : List Int} (ht : t ∈ ts) : stuckR n f t = (oR n f t, 0) := by
  unfold stuckR
  rw [if_pos h.chk, if_pos (h.f f hf), if_pos (h.t t ht)]; rfl
end Go.Proofs.YtfghooojingdhaaDoor
namespace Go.Proofs.YtfghooojingdhaaDoor
open Go Go.QL
set_option maxHeartbeats 3200000
attribute [local irreducible] ACall FnC
theorem run_2 {n : NetT} (ok : NetOK n) {s1 : Nat} {sk : List (W16 × W16)} (hsk : sk.length = n.inn.toNat + n.gates.length) {s2 s3 k' : Nat} {nw : List W16}
    {flt : Nat → FaultT} (hl : LanesOK sk flt 2) (xs : List Int) (hxl : xs.length ≤ 4096) :
    ACall Tryd.prog 71 [.x (.b 900 0), iv .i64 2, sl xs] (sB n s1 sk s2 (dl0 n) s3 k' nw)
      (fun r σ' => ∃ p : Nat × Nat × List W16, r = rowsAV ((List.range 2).map fun l => outsR n (flt l) xs xs.length) ∧ σ' = sB n s1 sk s2 (dl0 n) p.1 p.2.1 p.2.2) := by
  refine ACall_of_AWD hTt Tryd.func71 rfl (by kernel_rfl) (res := [.tmp 6]) rfl Tryd.ntmps71 (by simp) fun w0 K0 B => ?_
  dsimp only [entry]
  repeat' first | with_reducible refine AW_seq ?_ | with_reducible refine AW_block ?_ | ((first | with_reducible refine AW_region hTt ?_ | refine AW_draw hTt hMix (id := 1) 5 true [0, 1, 0, 4, 3, 31] (by kernel_rfl) rfl rfl (by kernel_rfl) ?_ | refine Or.inr ?_ | refine andA ?_ | fail); conv => whnf) | (refine fun hln => ?_; (try rw [List.length_map] at hln); unfold maxLen at hln; conv => whnf) | fail
  refine AW_imp (Imp.freeze 17 (fr' := frR n flt xs 2) (σ' := (15, .box (cellsN 2 0 0)) :: sB n s1 sk s2 (dl0 n) s3 k' nw) rfl ?_ ?_ rfl rfl) ?_
  · exact ⟨⟨_, rfl, .inl rfl⟩, ⟨_, congrArg (fun k : Nat => some (iv .i64 k)) (List.length_map _), .inl rfl⟩, ⟨_, rfl, .inl rfl⟩, ⟨_, rfl, .inl rfl⟩, ⟨_, rfl, .inr ⟨2, rfl, Nat.le_of_ble_eq_true rfl, rfl⟩⟩, ⟨_, rfl, .inl rfl⟩, trivial⟩
  · exact ⟨rfl, rfl, rfl, rfl, rfl, trivial⟩
  refine AW_imp (Imp.nil 600 3 1 (fr' := frR n flt xs 2) (σ' := chN 0 ((15, .box (cellsN 2 0 1)) :: sB n s1 sk s2 (dl0 n) s3 k' nw)) rfl ⟨⟨_, rfl, .inl rfl⟩, ⟨_, rfl, .inl rfl⟩, ⟨_, rfl, .inl rfl⟩, ⟨_, rfl, .inl rfl⟩, ⟨_, rfl, .inl rfl⟩, ⟨_, rfl, .inl rfl⟩, trivial⟩ ?_ rfl rfl) ?_
  · exact ⟨⟨_, rfl, .inr ⟨_, _, rfl, rfl, .inr ⟨rfl, rfl⟩, .inl rfl, trivial⟩⟩, ⟨_, rfl, .inl rfl⟩, ⟨_, rfl, .inl rfl⟩, ⟨_, rfl, .inl rfl⟩, ⟨_, rfl, .inl rfl⟩, trivial⟩
  refine AW_imp (Imp.nil 601 3 1 (fr' := frR n flt xs 2) (σ' := chN 1 ((15, .box (cellsN 2 0 2)) :: sB n s1 sk s2 (dl0 n) s3 k' nw)) rfl ⟨⟨_, rfl, .inl rfl⟩, ⟨_, rfl, .inl rfl⟩, ⟨_, rfl, .inl rfl⟩, ⟨_, rfl, .inl rfl⟩, ⟨_, rfl, .inl rfl⟩, ⟨_, rfl, .inl rfl⟩, trivial⟩ ?_ rfl rfl) ?_
  · exact ⟨⟨_, rfl, .inl rfl⟩, ⟨_, rfl, .inr ⟨_, _, rfl, rfl, .inl rfl, .inr ⟨rfl, rfl⟩, trivial⟩⟩, ⟨_, rfl, .inl rfl⟩, ⟨_, rfl, .inl rfl⟩, ⟨_, rfl, .inl rfl⟩, ⟨_, rfl, .inl rfl⟩, trivial⟩
  refine AW_loop (fun p : Nat × Nat × Nat × List W16 => [(20, iv .i64 p.1), (19, iv .i64 xs.length), (18, sl xs), (7, .x (.sb 15 0 2 2)), (8, sl (stsL n flt xs 2 p.1)), (0, .x (.b 900 0))])
    (fun p => (15, .box [.o 600 (p.1) (p.1), .o 601 (p.1) (p.1)]) :: (600, rwOb n (flt 0) xs (p.1)) :: (601, rwOb n (flt 1) xs (p.1)) :: sB n s1 sk s2 (dl0 n) p.2.1 p.2.2.1 p.2.2.2)
    (fun p => p.1 ≤ xs.length) (fun p => xs.length - p.1) (0, s3, k', nw) (Nat.zero_le _) impA ?_
  rintro ⟨t, a, b, c⟩ ht
  dsimp only at ht ⊢
  rcases Nat.lt_or_ge t xs.length with htl | htl
  · have hbeat := fun s3 k' nw => beat_lanes ok (s1 := s1) hsk (s2 := s2) (s3 := s3) (k' := k') (nw := nw) (k := 2) (by decide) hl xs t xs[t] (getDI htl)
    have hol := otsL_len n flt xs 2 t
    repeat' first | with_reducible refine AW_seq ?_ | with_reducible refine AW_block ?_ | ((first | with_reducible refine AW_skip ?_ | with_reducible refine AW_exit ?_ | with_reducible refine AW_ret ?_ | with_reducible refine AW_region hTt ?_ | fail); conv => whnf) | (exact absurd hb (by omega)) | ((refine ⟨_, (hbeat a b c).frame (asc []) (by repeat (first | exact trivial | refine ⟨rfl, ?_⟩)) rfl (by rintro _ _ ⟨_, rfl, rfl⟩; rfl), ?_⟩); (rintro _ _ ⟨_, _, ⟨_, rfl, rfl⟩, rfl, rfl⟩); conv => whnf) | (refine AW_cond rfl (fun hb => ?_) (fun hb => ?_) <;> first | (replace hb := of_decide_eq_true hb; try simp only [List.length_map] at hb) | (replace hb := of_decide_eq_false hb; try simp only [List.length_map] at hb) | (simp only [List.length_map, bne_iff_ne, ne_eq, beq_iff_eq, bne_eq_false_iff_eq, beq_eq_false_iff_ne, decide_eq_true_eq, decide_eq_false_iff_not, Bool.not_eq_true', Bool.not_eq_false', Int.natCast_inj] at hb) | skip) | ((first | refine andA ?_ | with_reducible refine Exists.intro _ (And.intro (gd_any (And.intro (by omega) (map_get (by omega)))) ?_) | fail); conv => whnf) | (refine fun hln => ?_; (try rw [List.length_map] at hln); unfold maxLen at hln; conv => whnf) | fail
    rename_i pp
    refine AW_loop (fun l : Nat => [(33, iv .i64 l), (32, iv .i64 2), (31, sl (otsL n flt xs 2 t)), (20, iv .i64 t), (19, iv .i64 xs.length), (18, sl xs), (7, .x (.sb 15 0 2 2)), (8, sl (stsL n flt xs 2 (t + 1))), (0, .x (.b 900 0))])
      (fun l => (15, .box [.o 600 (t + bt 0 l) (t + bt 0 l), .o 601 (t + bt 1 l) (t + bt 1 l)]) :: (600, rwOb n (flt 0) xs (t + bt 0 l)) :: (601, rwOb n (flt 1) xs (t + bt 1 l)) :: sB n s1 sk s2 (dl0 n) pp.1 pp.2.1 pp.2.2) (fun l => l ≤ 2) (fun l => 2 - l) 0 (Nat.zero_le _) impA ?_
    intro l hlk
    rcases Nat.lt_or_ge l 2 with hll | hll
    · have hg := ots_at n flt xs t hll
      have e := row_app n (flt l) xs t l
      have hq := bt_self l
      have hz := outsR_len n (flt l) xs (t + bt l l)
      obtain ⟨j, hj⟩ : ∃ j, j = l + 1 := ⟨_, rfl⟩
      have hl' : l = 0 ∨ l = 1 := by omega
      clear hol hbeat ht hlk hll
      rcases hl' with rfl | rfl
      all_goals
        repeat' first | with_reducible refine AW_seq ?_ | with_reducible refine AW_block ?_ | ((first | with_reducible refine AW_skip ?_ | with_reducible refine AW_region hTt ?_ | with_reducible refine Exists.intro _ (And.intro (gd_any (And.intro (by omega) hg)) ?_) | refine And.intro (gd_any (And.intro (by decide) (by decide))) ?_ | fail); conv => whnf) | ((refine And.intro ?_ ?_; focus (refine ⟨?_, ?_, ?_⟩ <;> simp [chunk, maxLen] <;> omega)); conv => whnf) | (refine AW_cond rfl (fun _ => ?_) (fun hb => absurd hb (by decide))) | ((first | refine ⟨_, wrap_of (by first | omega | (simp only [List.length_map]; omega)), ?_⟩ | refine andA ?_ | fail); conv => whnf) | fail
        exact ⟨j, by omega, by omega, by subst hj; exact impA⟩
    have hle : l = 2 := by omega
    subst hle
    repeat' first | with_reducible refine AW_seq ?_ | ((first | with_reducible refine AW_exit ?_ | with_reducible refine AW_region hTt ?_ | fail); conv => whnf) | (refine AW_cond rfl (fun hb => absurd hb (by decide)) (fun _ => ?_)) | ((refine ⟨_, wrap_of (by first | omega | (simp only [List.length_map]; omega)), ?_⟩); conv => whnf) | fail
    exact ⟨(t + 1, pp.1, pp.2.1, pp.2.2), by show t + 1 ≤ xs.length; omega, by show xs.length - (t + 1) < xs.length - t; omega, impA⟩
  · have hte : t = xs.length := by omega
    subst hte
    repeat' first | with_reducible refine AW_seq ?_ | with_reducible refine AW_block ?_ | ((first | with_reducible refine AW_skip ?_ | with_reducible refine AW_exit ?_ | with_reducible refine AW_ret ?_ | with_reducible refine AW_region hTt ?_ | fail); conv => whnf) | (exact absurd hb (by omega)) | (refine AW_cond rfl (fun hb => ?_) (fun hb => ?_) <;> first | (replace hb := of_decide_eq_true hb; try simp only [List.length_map] at hb) | (replace hb := of_decide_eq_false hb; try simp only [List.length_map] at hb) | (simp only [List.length_map, bne_iff_ne, ne_eq, beq_iff_eq, bne_eq_false_iff_eq, beq_eq_false_iff_ne, decide_eq_true_eq, decide_eq_false_iff_not, Bool.not_eq_true', Bool.not_eq_false', Int.natCast_inj] at hb) | skip) | fail
    refine ⟨_, sB n s1 sk s2 (dl0 n) a b c, ⟨rfl, rfl, rfl, rfl, trivial⟩, rfl, (?_ : _ = some (rowsAV ((List.range 2).map fun l => outsR n (flt l) xs xs.length))), (a, b, c), rfl, rfl⟩
    have hk := keepRows (σ := (15, .box [.o 600 xs.length xs.length, .o 601 xs.length xs.length]) :: (600, rwOb n (flt 0) xs xs.length) :: (601, rwOb n (flt 1) xs xs.length) :: sB n s1 sk s2 (dl0 n) a b c) (σ' := sB n s1 sk s2 (dl0 n) a b c) (id := 15) (n := 2) (cap := 2) (ps := [PV.s 1 ((outsR n (flt 0) xs xs.length).map iPV), PV.s 1 ((outsR n (flt 1) xs xs.length).map iPV)]) rfl rfl
      (by repeat' first | exact rfl | refine rowPVs_cons (rowPV_o rfl rfl (by rw [List.length_map, outsR_len])) ?_) rfl
    exact outKeep1 (x := .x (.sb 15 0 2 2)) rfl hk
end Go.Proofs.YtfghooojingdhaaDoor
namespace Go.Proofs.YtfghooojingdhaaDoor
open Go Go.QL
set_option maxHeartbeats 3200000
attribute [local irreducible] ACall FnC
theorem run_3 {n : NetT} (ok : NetOK n) {s1 : Nat} {sk : List (W16 × W16)} (hsk : sk.length = n.inn.toNat + n.gates.length) {s2 s3 k' : Nat} {nw : List W16}
    {flt : Nat → FaultT} (hl : LanesOK sk flt 3) (xs : List Int) (hxl : xs.length ≤ 4096) :
    ACall Tryd.prog 71 [.x (.b 900 0), iv .i64 3, sl xs] (sB n s1 sk s2 (dl0 n) s3 k' nw)
      (fun r σ' => ∃ p : Nat × Nat × List W16, r = rowsAV ((List.range 3).map fun l => outsR n (flt l) xs xs.length) ∧ σ' = sB n s1 sk s2 (dl0 n) p.1 p.2.1 p.2.2) := by
  refine ACall_of_AWD hTt Tryd.func71 rfl (by kernel_rfl) (res := [.tmp 6]) rfl Tryd.ntmps71 (by simp) fun w0 K0 B => ?_
  dsimp only [entry]
  repeat' first | with_reducible refine AW_seq ?_ | with_reducible refine AW_block ?_ | ((first | with_reducible refine AW_region hTt ?_ | refine AW_draw hTt hMix (id := 1) 5 true [0, 1, 0, 4, 3, 31] (by kernel_rfl) rfl rfl (by kernel_rfl) ?_ | refine Or.inr ?_ | refine andA ?_ | fail); conv => whnf) | (refine fun hln => ?_; (try rw [List.length_map] at hln); unfold maxLen at hln; conv => whnf) | fail
  refine AW_imp (Imp.freeze 17 (fr' := frR n flt xs 3) (σ' := (15, .box (cellsN 3 0 0)) :: sB n s1 sk s2 (dl0 n) s3 k' nw) rfl ?_ ?_ rfl rfl) ?_
  · exact ⟨⟨_, rfl, .inl rfl⟩, ⟨_, congrArg (fun k : Nat => some (iv .i64 k)) (List.length_map _), .inl rfl⟩, ⟨_, rfl, .inl rfl⟩, ⟨_, rfl, .inl rfl⟩, ⟨_, rfl, .inr ⟨3, rfl, Nat.le_of_ble_eq_true rfl, rfl⟩⟩, ⟨_, rfl, .inl rfl⟩, trivial⟩
  · exact ⟨rfl, rfl, rfl, rfl, rfl, trivial⟩
  refine AW_imp (Imp.nil 600 3 1 (fr' := frR n flt xs 3) (σ' := chN 0 ((15, .box (cellsN 3 0 1)) :: sB n s1 sk s2 (dl0 n) s3 k' nw)) rfl ⟨⟨_, rfl, .inl rfl⟩, ⟨_, rfl, .inl rfl⟩, ⟨_, rfl, .inl rfl⟩, ⟨_, rfl, .inl rfl⟩, ⟨_, rfl, .inl rfl⟩, ⟨_, rfl, .inl rfl⟩, trivial⟩ ?_ rfl rfl) ?_
  · exact ⟨⟨_, rfl, .inr ⟨_, _, rfl, rfl, .inr ⟨rfl, rfl⟩, .inl rfl, .inl rfl, trivial⟩⟩, ⟨_, rfl, .inl rfl⟩, ⟨_, rfl, .inl rfl⟩, ⟨_, rfl, .inl rfl⟩, ⟨_, rfl, .inl rfl⟩, trivial⟩
  refine AW_imp (Imp.nil 601 3 1 (fr' := frR n flt xs 3) (σ' := chN 1 ((15, .box (cellsN 3 0 2)) :: sB n s1 sk s2 (dl0 n) s3 k' nw)) rfl ⟨⟨_, rfl, .inl rfl⟩, ⟨_, rfl, .inl rfl⟩, ⟨_, rfl, .inl rfl⟩, ⟨_, rfl, .inl rfl⟩, ⟨_, rfl, .inl rfl⟩, ⟨_, rfl, .inl rfl⟩, trivial⟩ ?_ rfl rfl) ?_
  · exact ⟨⟨_, rfl, .inl rfl⟩, ⟨_, rfl, .inr ⟨_, _, rfl, rfl, .inl rfl, .inr ⟨rfl, rfl⟩, .inl rfl, trivial⟩⟩, ⟨_, rfl, .inl rfl⟩, ⟨_, rfl, .inl rfl⟩, ⟨_, rfl, .inl rfl⟩, ⟨_, rfl, .inl rfl⟩, trivial⟩
  refine AW_imp (Imp.nil 602 3 1 (fr' := frR n flt xs 3) (σ' := chN 2 ((15, .box (cellsN 3 0 3)) :: sB n s1 sk s2 (dl0 n) s3 k' nw)) rfl ⟨⟨_, rfl, .inl rfl⟩, ⟨_, rfl, .inl rfl⟩, ⟨_, rfl, .inl rfl⟩, ⟨_, rfl, .inl rfl⟩, ⟨_, rfl, .inl rfl⟩, ⟨_, rfl, .inl rfl⟩, trivial⟩ ?_ rfl rfl) ?_
  · exact ⟨⟨_, rfl, .inl rfl⟩, ⟨_, rfl, .inl rfl⟩, ⟨_, rfl, .inr ⟨_, _, rfl, rfl, .inl rfl, .inl rfl, .inr ⟨rfl, rfl⟩, trivial⟩⟩, ⟨_, rfl, .inl rfl⟩, ⟨_, rfl, .inl rfl⟩, ⟨_, rfl, .inl rfl⟩, ⟨_, rfl, .inl rfl⟩, trivial⟩
  refine AW_loop (fun p : Nat × Nat × Nat × List W16 => [(20, iv .i64 p.1), (19, iv .i64 xs.length), (18, sl xs), (7, .x (.sb 15 0 3 3)), (8, sl (stsL n flt xs 3 p.1)), (0, .x (.b 900 0))])
    (fun p => (15, .box [.o 600 (p.1) (p.1), .o 601 (p.1) (p.1), .o 602 (p.1) (p.1)]) :: (600, rwOb n (flt 0) xs (p.1)) :: (601, rwOb n (flt 1) xs (p.1)) :: (602, rwOb n (flt 2) xs (p.1)) :: sB n s1 sk s2 (dl0 n) p.2.1 p.2.2.1 p.2.2.2)
    (fun p => p.1 ≤ xs.length) (fun p => xs.length - p.1) (0, s3, k', nw) (Nat.zero_le _) impA ?_
  rintro ⟨t, a, b, c⟩ ht
  dsimp only at ht ⊢
  rcases Nat.lt_or_ge t xs.length with htl | htl
  · have hbeat := fun s3 k' nw => beat_lanes ok (s1 := s1) hsk (s2 := s2) (s3 := s3) (k' := k') (nw := nw) (k := 3) (by decide) hl xs t xs[t] (getDI htl)
    have hol := otsL_len n flt xs 3 t
    repeat' first | with_reducible refine AW_seq ?_ | with_reducible refine AW_block ?_ | ((first | with_reducible refine AW_skip ?_ | with_reducible refine AW_exit ?_ | with_reducible refine AW_ret ?_ | with_reducible refine AW_region hTt ?_ | fail); conv => whnf) | (exact absurd hb (by omega)) | ((refine ⟨_, (hbeat a b c).frame (asc []) (by repeat (first | exact trivial | refine ⟨rfl, ?_⟩)) rfl (by rintro _ _ ⟨_, rfl, rfl⟩; rfl), ?_⟩); (rintro _ _ ⟨_, _, ⟨_, rfl, rfl⟩, rfl, rfl⟩); conv => whnf) | (refine AW_cond rfl (fun hb => ?_) (fun hb => ?_) <;> first | (replace hb := of_decide_eq_true hb; try simp only [List.length_map] at hb) | (replace hb := of_decide_eq_false hb; try simp only [List.length_map] at hb) | (simp only [List.length_map, bne_iff_ne, ne_eq, beq_iff_eq, bne_eq_false_iff_eq, beq_eq_false_iff_ne, decide_eq_true_eq, decide_eq_false_iff_not, Bool.not_eq_true', Bool.not_eq_false', Int.natCast_inj] at hb) | skip) | ((first | refine andA ?_ | with_reducible refine Exists.intro _ (And.intro (gd_any (And.intro (by omega) (map_get (by omega)))) ?_) | fail); conv => whnf) | (refine fun hln => ?_; (try rw [List.length_map] at hln); unfold maxLen at hln; conv => whnf) | fail
    rename_i pp
    refine AW_loop (fun l : Nat => [(33, iv .i64 l), (32, iv .i64 3), (31, sl (otsL n flt xs 3 t)), (20, iv .i64 t), (19, iv .i64 xs.length), (18, sl xs), (7, .x (.sb 15 0 3 3)), (8, sl (stsL n flt xs 3 (t + 1))), (0, .x (.b 900 0))])
      (fun l => (15, .box [.o 600 (t + bt 0 l) (t + bt 0 l), .o 601 (t + bt 1 l) (t + bt 1 l), .o 602 (t + bt 2 l) (t + bt 2 l)]) :: (600, rwOb n (flt 0) xs (t + bt 0 l)) :: (601, rwOb n (flt 1) xs (t + bt 1 l)) :: (602, rwOb n (flt 2) xs (t + bt 2 l)) :: sB n s1 sk s2 (dl0 n) pp.1 pp.2.1 pp.2.2) (fun l => l ≤ 3) (fun l => 3 - l) 0 (Nat.zero_le _) impA ?_
    intro l hlk
    rcases Nat.lt_or_ge l 3 with hll | hll
    · have hg := ots_at n flt xs t hll
      have e := row_app n (flt l) xs t l
      have hq := bt_self l
      have hz := outsR_len n (flt l) xs (t + bt l l)
      obtain ⟨j, hj⟩ : ∃ j, j = l + 1 := ⟨_, rfl⟩
      have hl' : l = 0 ∨ l = 1 ∨ l = 2 := by omega
      clear hol hbeat ht hlk hll
      rcases hl' with rfl | rfl | rfl
      all_goals
        repeat' first | with_reducible refine AW_seq ?_ | with_reducible refine AW_block ?_ | ((first | with_reducible refine AW_skip ?_ | with_reducible refine AW_region hTt ?_ | with_reducible refine Exists.intro _ (And.intro (gd_any (And.intro (by omega) hg)) ?_) | refine And.intro (gd_any (And.intro (by decide) (by decide))) ?_ | fail); conv => whnf) | ((refine And.intro ?_ ?_; focus (refine ⟨?_, ?_, ?_⟩ <;> simp [chunk, maxLen] <;> omega)); conv => whnf) | (refine AW_cond rfl (fun _ => ?_) (fun hb => absurd hb (by decide))) | ((first | refine ⟨_, wrap_of (by first | omega | (simp only [List.length_map]; omega)), ?_⟩ | refine andA ?_ | fail); conv => whnf) | fail
        exact ⟨j, by omega, by omega, by subst hj; exact impA⟩
    have hle : l = 3 := by omega
    subst hle
    repeat' first | with_reducible refine AW_seq ?_ | ((first | with_reducible refine AW_exit ?_ | with_reducible refine AW_region hTt ?_ | fail); conv => whnf) | (refine AW_cond rfl (fun hb => absurd hb (by decide)) (fun _ => ?_)) | ((refine ⟨_, wrap_of (by first | omega | (simp only [List.length_map]; omega)), ?_⟩); conv => whnf) | fail
    exact ⟨(t + 1, pp.1, pp.2.1, pp.2.2), by show t + 1 ≤ xs.length; omega, by show xs.length - (t + 1) < xs.length - t; omega, impA⟩
  · have hte : t = xs.length := by omega
    subst hte
    repeat' first | with_reducible refine AW_seq ?_ | with_reducible refine AW_block ?_ | ((first | with_reducible refine AW_skip ?_ | with_reducible refine AW_exit ?_ | with_reducible refine AW_ret ?_ | with_reducible refine AW_region hTt ?_ | fail); conv => whnf) | (exact absurd hb (by omega)) | (refine AW_cond rfl (fun hb => ?_) (fun hb => ?_) <;> first | (replace hb := of_decide_eq_true hb; try simp only [List.length_map] at hb) | (replace hb := of_decide_eq_false hb; try simp only [List.length_map] at hb) | (simp only [List.length_map, bne_iff_ne, ne_eq, beq_iff_eq, bne_eq_false_iff_eq, beq_eq_false_iff_ne, decide_eq_true_eq, decide_eq_false_iff_not, Bool.not_eq_true', Bool.not_eq_false', Int.natCast_inj] at hb) | skip) | fail
    refine ⟨_, sB n s1 sk s2 (dl0 n) a b c, ⟨rfl, rfl, rfl, rfl, trivial⟩, rfl, (?_ : _ = some (rowsAV ((List.range 3).map fun l => outsR n (flt l) xs xs.length))), (a, b, c), rfl, rfl⟩
    have hk := keepRows (σ := (15, .box [.o 600 xs.length xs.length, .o 601 xs.length xs.length, .o 602 xs.length xs.length]) :: (600, rwOb n (flt 0) xs xs.length) :: (601, rwOb n (flt 1) xs xs.length) :: (602, rwOb n (flt 2) xs xs.length) :: sB n s1 sk s2 (dl0 n) a b c) (σ' := sB n s1 sk s2 (dl0 n) a b c) (id := 15) (n := 3) (cap := 3) (ps := [PV.s 1 ((outsR n (flt 0) xs xs.length).map iPV), PV.s 1 ((outsR n (flt 1) xs xs.length).map iPV), PV.s 1 ((outsR n (flt 2) xs xs.length).map iPV)]) rfl rfl
      (by repeat' first | exact rfl | refine rowPVs_cons (rowPV_o rfl rfl (by rw [List.length_map, outsR_len])) ?_) rfl
    exact outKeep1 (x := .x (.sb 15 0 3 3)) rfl hk
end Go.Proofs.YtfghooojingdhaaDoor
namespace Go.Proofs.YtfghooojingdhaaDoor
open Go Go.QL
set_option maxHeartbeats 3200000
attribute [local irreducible] ACall FnC
theorem run_4 {n : NetT} (ok : NetOK n) {s1 : Nat} {sk : List (W16 × W16)} (hsk : sk.length = n.inn.toNat + n.gates.length) {s2 s3 k' : Nat} {nw : List W16}
    {flt : Nat → FaultT} (hl : LanesOK sk flt 4) (xs : List Int) (hxl : xs.length ≤ 4096) :
    ACall Tryd.prog 71 [.x (.b 900 0), iv .i64 4, sl xs] (sB n s1 sk s2 (dl0 n) s3 k' nw)
      (fun r σ' => ∃ p : Nat × Nat × List W16, r = rowsAV ((List.range 4).map fun l => outsR n (flt l) xs xs.length) ∧ σ' = sB n s1 sk s2 (dl0 n) p.1 p.2.1 p.2.2) := by
  refine ACall_of_AWD hTt Tryd.func71 rfl (by kernel_rfl) (res := [.tmp 6]) rfl Tryd.ntmps71 (by simp) fun w0 K0 B => ?_
  dsimp only [entry]
  repeat' first | with_reducible refine AW_seq ?_ | with_reducible refine AW_block ?_ | ((first | with_reducible refine AW_region hTt ?_ | refine AW_draw hTt hMix (id := 1) 5 true [0, 1, 0, 4, 3, 31] (by kernel_rfl) rfl rfl (by kernel_rfl) ?_ | refine Or.inr ?_ | refine andA ?_ | fail); conv => whnf) | (refine fun hln => ?_; (try rw [List.length_map] at hln); unfold maxLen at hln; conv => whnf) | fail
  refine AW_imp (Imp.freeze 17 (fr' := frR n flt xs 4) (σ' := (15, .box (cellsN 4 0 0)) :: sB n s1 sk s2 (dl0 n) s3 k' nw) rfl ?_ ?_ rfl rfl) ?_
  · exact ⟨⟨_, rfl, .inl rfl⟩, ⟨_, congrArg (fun k : Nat => some (iv .i64 k)) (List.length_map _), .inl rfl⟩, ⟨_, rfl, .inl rfl⟩, ⟨_, rfl, .inl rfl⟩, ⟨_, rfl, .inr ⟨4, rfl, Nat.le_of_ble_eq_true rfl, rfl⟩⟩, ⟨_, rfl, .inl rfl⟩, trivial⟩
  · exact ⟨rfl, rfl, rfl, rfl, rfl, trivial⟩
  refine AW_imp (Imp.nil 600 3 1 (fr' := frR n flt xs 4) (σ' := chN 0 ((15, .box (cellsN 4 0 1)) :: sB n s1 sk s2 (dl0 n) s3 k' nw)) rfl ⟨⟨_, rfl, .inl rfl⟩, ⟨_, rfl, .inl rfl⟩, ⟨_, rfl, .inl rfl⟩, ⟨_, rfl, .inl rfl⟩, ⟨_, rfl, .inl rfl⟩, ⟨_, rfl, .inl rfl⟩, trivial⟩ ?_ rfl rfl) ?_
  · exact ⟨⟨_, rfl, .inr ⟨_, _, rfl, rfl, .inr ⟨rfl, rfl⟩, .inl rfl, .inl rfl, .inl rfl, trivial⟩⟩, ⟨_, rfl, .inl rfl⟩, ⟨_, rfl, .inl rfl⟩, ⟨_, rfl, .inl rfl⟩, ⟨_, rfl, .inl rfl⟩, trivial⟩
  refine AW_imp (Imp.nil 601 3 1 (fr' := frR n flt xs 4) (σ' := chN 1 ((15, .box (cellsN 4 0 2)) :: sB n s1 sk s2 (dl0 n) s3 k' nw)) rfl ⟨⟨_, rfl, .inl rfl⟩, ⟨_, rfl, .inl rfl⟩, ⟨_, rfl, .inl rfl⟩, ⟨_, rfl, .inl rfl⟩, ⟨_, rfl, .inl rfl⟩, ⟨_, rfl, .inl rfl⟩, trivial⟩ ?_ rfl rfl) ?_
  · exact ⟨⟨_, rfl, .inl rfl⟩, ⟨_, rfl, .inr ⟨_, _, rfl, rfl, .inl rfl, .inr ⟨rfl, rfl⟩, .inl rfl, .inl rfl, trivial⟩⟩, ⟨_, rfl, .inl rfl⟩, ⟨_, rfl, .inl rfl⟩, ⟨_, rfl, .inl rfl⟩, ⟨_, rfl, .inl rfl⟩, trivial⟩
  refine AW_imp (Imp.nil 602 3 1 (fr' := frR n flt xs 4) (σ' := chN 2 ((15, .box (cellsN 4 0 3)) :: sB n s1 sk s2 (dl0 n) s3 k' nw)) rfl ⟨⟨_, rfl, .inl rfl⟩, ⟨_, rfl, .inl rfl⟩, ⟨_, rfl, .inl rfl⟩, ⟨_, rfl, .inl rfl⟩, ⟨_, rfl, .inl rfl⟩, ⟨_, rfl, .inl rfl⟩, trivial⟩ ?_ rfl rfl) ?_
  · exact ⟨⟨_, rfl, .inl rfl⟩, ⟨_, rfl, .inl rfl⟩, ⟨_, rfl, .inr ⟨_, _, rfl, rfl, .inl rfl, .inl rfl, .inr ⟨rfl, rfl⟩, .inl rfl, trivial⟩⟩, ⟨_, rfl, .inl rfl⟩, ⟨_, rfl, .inl rfl⟩, ⟨_, rfl, .inl rfl⟩, ⟨_, rfl, .inl rfl⟩, trivial⟩
  refine AW_imp (Imp.nil 603 3 1 (fr' := frR n flt xs 4) (σ' := chN 3 ((15, .box (cellsN 4 0 4)) :: sB n s1 sk s2 (dl0 n) s3 k' nw)) rfl ⟨⟨_, rfl, .inl rfl⟩, ⟨_, rfl, .inl rfl⟩, ⟨_, rfl, .inl rfl⟩, ⟨_, rfl, .inl rfl⟩, ⟨_, rfl, .inl rfl⟩, ⟨_, rfl, .inl rfl⟩, trivial⟩ ?_ rfl rfl) ?_
  · exact ⟨⟨_, rfl, .inl rfl⟩, ⟨_, rfl, .inl rfl⟩, ⟨_, rfl, .inl rfl⟩, ⟨_, rfl, .inr ⟨_, _, rfl, rfl, .inl rfl, .inl rfl, .inl rfl, .inr ⟨rfl, rfl⟩, trivial⟩⟩, ⟨_, rfl, .inl rfl⟩, ⟨_, rfl, .inl rfl⟩, ⟨_, rfl, .inl rfl⟩, ⟨_, rfl, .inl rfl⟩, trivial⟩
  refine AW_loop (fun p : Nat × Nat × Nat × List W16 => [(20, iv .i64 p.1), (19, iv .i64 xs.length), (18, sl xs), (7, .x (.sb 15 0 4 4)), (8, sl (stsL n flt xs 4 p.1)), (0, .x (.b 900 0))])
    (fun p => (15, .box [.o 600 (p.1) (p.1), .o 601 (p.1) (p.1), .o 602 (p.1) (p.1), .o 603 (p.1) (p.1)]) :: (600, rwOb n (flt 0) xs (p.1)) :: (601, rwOb n (flt 1) xs (p.1)) :: (602, rwOb n (flt 2) xs (p.1)) :: (603, rwOb n (flt 3) xs (p.1)) :: sB n s1 sk s2 (dl0 n) p.2.1 p.2.2.1 p.2.2.2)
    (fun p => p.1 ≤ xs.length) (fun p => xs.length - p.1) (0, s3, k', nw) (Nat.zero_le _) impA ?_
  rintro ⟨t, a, b, c⟩ ht
  dsimp only at ht ⊢
  rcases Nat.lt_or_ge t xs.length with htl | htl
  · have hbeat := fun s3 k' nw => beat_lanes ok (s1 := s1) hsk (s2 := s2) (s3 := s3) (k' := k') (nw := nw) (k := 4) (by decide) hl xs t xs[t] (getDI htl)
    have hol := otsL_len n flt xs 4 t
    repeat' first | with_reducible refine AW_seq ?_ | with_reducible refine AW_block ?_ | ((first | with_reducible refine AW_skip ?_ | with_reducible refine AW_exit ?_ | with_reducible refine AW_ret ?_ | with_reducible refine AW_region hTt ?_ | fail); conv => whnf) | (exact absurd hb (by omega)) | ((refine ⟨_, (hbeat a b c).frame (asc []) (by repeat (first | exact trivial | refine ⟨rfl, ?_⟩)) rfl (by rintro _ _ ⟨_, rfl, rfl⟩; rfl), ?_⟩); (rintro _ _ ⟨_, _, ⟨_, rfl, rfl⟩, rfl, rfl⟩); conv => whnf) | (refine AW_cond rfl (fun hb => ?_) (fun hb => ?_) <;> first | (replace hb := of_decide_eq_true hb; try simp only [List.length_map] at hb) | (replace hb := of_decide_eq_false hb; try simp only [List.length_map] at hb) | (simp only [List.length_map, bne_iff_ne, ne_eq, beq_iff_eq, bne_eq_false_iff_eq, beq_eq_false_iff_ne, decide_eq_true_eq, decide_eq_false_iff_not, Bool.not_eq_true', Bool.not_eq_false', Int.natCast_inj] at hb) | skip) | ((first | refine andA ?_ | with_reducible refine Exists.intro _ (And.intro (gd_any (And.intro (by omega) (map_get (by omega)))) ?_) | fail); conv => whnf) | (refine fun hln => ?_; (try rw [List.length_map] at hln); unfold maxLen at hln; conv => whnf) | fail
    rename_i pp
    refine AW_loop (fun l : Nat => [(33, iv .i64 l), (32, iv .i64 4), (31, sl (otsL n flt xs 4 t)), (20, iv .i64 t), (19, iv .i64 xs.length), (18, sl xs), (7, .x (.sb 15 0 4 4)), (8, sl (stsL n flt xs 4 (t + 1))), (0, .x (.b 900 0))])
      (fun l => (15, .box [.o 600 (t + bt 0 l) (t + bt 0 l), .o 601 (t + bt 1 l) (t + bt 1 l), .o 602 (t + bt 2 l) (t + bt 2 l), .o 603 (t + bt 3 l) (t + bt 3 l)]) :: (600, rwOb n (flt 0) xs (t + bt 0 l)) :: (601, rwOb n (flt 1) xs (t + bt 1 l)) :: (602, rwOb n (flt 2) xs (t + bt 2 l)) :: (603, rwOb n (flt 3) xs (t + bt 3 l)) :: sB n s1 sk s2 (dl0 n) pp.1 pp.2.1 pp.2.2) (fun l => l ≤ 4) (fun l => 4 - l) 0 (Nat.zero_le _) impA ?_
    intro l hlk
    rcases Nat.lt_or_ge l 4 with hll | hll
    · have hg := ots_at n flt xs t hll
      have e := row_app n (flt l) xs t l
      have hq := bt_self l
      have hz := outsR_len n (flt l) xs (t + bt l l)
      obtain ⟨j, hj⟩ : ∃ j, j = l + 1 := ⟨_, rfl⟩
      have hl' : l = 0 ∨ l = 1 ∨ l = 2 ∨ l = 3 := by omega
      clear hol hbeat ht hlk hll
      rcases hl' with rfl | rfl | rfl | rfl
      all_goals
        repeat' first | with_reducible refine AW_seq ?_ | with_reducible refine AW_block ?_ | ((first | with_reducible refine AW_skip ?_ | with_reducible refine AW_region hTt ?_ | with_reducible refine Exists.intro _ (And.intro (gd_any (And.intro (by omega) hg)) ?_) | refine And.intro (gd_any (And.intro (by decide) (by decide))) ?_ | fail); conv => whnf) | ((refine And.intro ?_ ?_; focus (refine ⟨?_, ?_, ?_⟩ <;> simp [chunk, maxLen] <;> omega)); conv => whnf) | (refine AW_cond rfl (fun _ => ?_) (fun hb => absurd hb (by decide))) | ((first | refine ⟨_, wrap_of (by first | omega | (simp only [List.length_map]; omega)), ?_⟩ | refine andA ?_ | fail); conv => whnf) | fail
        exact ⟨j, by omega, by omega, by subst hj; exact impA⟩
    have hle : l = 4 := by omega
    subst hle
    repeat' first | with_reducible refine AW_seq ?_ | ((first | with_reducible refine AW_exit ?_ | with_reducible refine AW_region hTt ?_ | fail); conv => whnf) | (refine AW_cond rfl (fun hb => absurd hb (by decide)) (fun _ => ?_)) | ((refine ⟨_, wrap_of (by first | omega | (simp only [List.length_map]; omega)), ?_⟩); conv => whnf) | fail
    exact ⟨(t + 1, pp.1, pp.2.1, pp.2.2), by show t + 1 ≤ xs.length; omega, by show xs.length - (t + 1) < xs.length - t; omega, impA⟩
  · have hte : t = xs.length := by omega
    subst hte
    repeat' first | with_reducible refine AW_seq ?_ | with_reducible refine AW_block ?_ | ((first | with_reducible refine AW_skip ?_ | with_reducible refine AW_exit ?_ | with_reducible refine AW_ret ?_ | with_reducible refine AW_region hTt ?_ | fail); conv => whnf) | (exact absurd hb (by omega)) | (refine AW_cond rfl (fun hb => ?_) (fun hb => ?_) <;> first | (replace hb := of_decide_eq_true hb; try simp only [List.length_map] at hb) | (replace hb := of_decide_eq_false hb; try simp only [List.length_map] at hb) | (simp only [List.length_map, bne_iff_ne, ne_eq, beq_iff_eq, bne_eq_false_iff_eq, beq_eq_false_iff_ne, decide_eq_true_eq, decide_eq_false_iff_not, Bool.not_eq_true', Bool.not_eq_false', Int.natCast_inj] at hb) | skip) | fail
    refine ⟨_, sB n s1 sk s2 (dl0 n) a b c, ⟨rfl, rfl, rfl, rfl, trivial⟩, rfl, (?_ : _ = some (rowsAV ((List.range 4).map fun l => outsR n (flt l) xs xs.length))), (a, b, c), rfl, rfl⟩
    have hk := keepRows (σ := (15, .box [.o 600 xs.length xs.length, .o 601 xs.length xs.length, .o 602 xs.length xs.length, .o 603 xs.length xs.length]) :: (600, rwOb n (flt 0) xs xs.length) :: (601, rwOb n (flt 1) xs xs.length) :: (602, rwOb n (flt 2) xs xs.length) :: (603, rwOb n (flt 3) xs xs.length) :: sB n s1 sk s2 (dl0 n) a b c) (σ' := sB n s1 sk s2 (dl0 n) a b c) (id := 15) (n := 4) (cap := 4) (ps := [PV.s 1 ((outsR n (flt 0) xs xs.length).map iPV), PV.s 1 ((outsR n (flt 1) xs xs.length).map iPV), PV.s 1 ((outsR n (flt 2) xs xs.length).map iPV), PV.s 1 ((outsR n (flt 3) xs xs.length).map iPV)]) rfl rfl
      (by repeat' first | exact rfl | refine rowPVs_cons (rowPV_o rfl rfl (by rw [List.length_map, outsR_len])) ?_) rfl
    exact outKeep1 (x := .x (.sb 15 0 4 4)) rfl hk
end Go.Proofs.YtfghooojingdhaaDoor
namespace Go.Proofs.YtfghooojingdhaaDoor
open Go Go.QL
set_option maxHeartbeats 3200000
attribute [local irreducible] ACall FnC
theorem run_6 {n : NetT} (ok : NetOK n) {s1 : Nat} {sk : List (W16 × W16)} (hsk : sk.length = n.inn.toNat + n.gates.length) {s2 s3 k' : Nat} {nw : List W16}
    {flt : Nat → FaultT} (hl : LanesOK sk flt 6) (xs : List Int) (hxl : xs.length ≤ 4096) :
    ACall Tryd.prog 71 [.x (.b 900 0), iv .i64 6, sl xs] (sB n s1 sk s2 (dl0 n) s3 k' nw)
      (fun r σ' => ∃ p : Nat × Nat × List W16, r = rowsAV ((List.range 6).map fun l => outsR n (flt l) xs xs.length) ∧ σ' = sB n s1 sk s2 (dl0 n) p.1 p.2.1 p.2.2) := by
  refine ACall_of_AWD hTt Tryd.func71 rfl (by kernel_rfl) (res := [.tmp 6]) rfl Tryd.ntmps71 (by simp) fun w0 K0 B => ?_
  dsimp only [entry]
  repeat' first | with_reducible refine AW_seq ?_ | with_reducible refine AW_block ?_ | ((first | with_reducible refine AW_region hTt ?_ | refine AW_draw hTt hMix (id := 1) 5 true [0, 1, 0, 4, 3, 31] (by kernel_rfl) rfl rfl (by kernel_rfl) ?_ | refine Or.inr ?_ | refine andA ?_ | fail); conv => whnf) | (refine fun hln => ?_; (try rw [List.length_map] at hln); unfold maxLen at hln; conv => whnf) | fail
  refine AW_imp (Imp.freeze 17 (fr' := frR n flt xs 6) (σ' := (15, .box (cellsN 6 0 0)) :: sB n s1 sk s2 (dl0 n) s3 k' nw) rfl ?_ ?_ rfl rfl) ?_
  · exact ⟨⟨_, rfl, .inl rfl⟩, ⟨_, congrArg (fun k : Nat => some (iv .i64 k)) (List.length_map _), .inl rfl⟩, ⟨_, rfl, .inl rfl⟩, ⟨_, rfl, .inl rfl⟩, ⟨_, rfl, .inr ⟨6, rfl, Nat.le_of_ble_eq_true rfl, rfl⟩⟩, ⟨_, rfl, .inl rfl⟩, trivial⟩
  · exact ⟨rfl, rfl, rfl, rfl, rfl, trivial⟩
  refine AW_imp (Imp.nil 600 3 1 (fr' := frR n flt xs 6) (σ' := chN 0 ((15, .box (cellsN 6 0 1)) :: sB n s1 sk s2 (dl0 n) s3 k' nw)) rfl ⟨⟨_, rfl, .inl rfl⟩, ⟨_, rfl, .inl rfl⟩, ⟨_, rfl, .inl rfl⟩, ⟨_, rfl, .inl rfl⟩, ⟨_, rfl, .inl rfl⟩, ⟨_, rfl, .inl rfl⟩, trivial⟩ ?_ rfl rfl) ?_
  · exact ⟨⟨_, rfl, .inr ⟨_, _, rfl, rfl, .inr ⟨rfl, rfl⟩, .inl rfl, .inl rfl, .inl rfl, .inl rfl, .inl rfl, trivial⟩⟩, ⟨_, rfl, .inl rfl⟩, ⟨_, rfl, .inl rfl⟩, ⟨_, rfl, .inl rfl⟩, ⟨_, rfl, .inl rfl⟩, trivial⟩
  refine AW_imp (Imp.nil 601 3 1 (fr' := frR n flt xs 6) (σ' := chN 1 ((15, .box (cellsN 6 0 2)) :: sB n s1 sk s2 (dl0 n) s3 k' nw)) rfl ⟨⟨_, rfl, .inl rfl⟩, ⟨_, rfl, .inl rfl⟩, ⟨_, rfl, .inl rfl⟩, ⟨_, rfl, .inl rfl⟩, ⟨_, rfl, .inl rfl⟩, ⟨_, rfl, .inl rfl⟩, trivial⟩ ?_ rfl rfl) ?_
  · exact ⟨⟨_, rfl, .inl rfl⟩, ⟨_, rfl, .inr ⟨_, _, rfl, rfl, .inl rfl, .inr ⟨rfl, rfl⟩, .inl rfl, .inl rfl, .inl rfl, .inl rfl, trivial⟩⟩, ⟨_, rfl, .inl rfl⟩, ⟨_, rfl, .inl rfl⟩, ⟨_, rfl, .inl rfl⟩, ⟨_, rfl, .inl rfl⟩, trivial⟩
  refine AW_imp (Imp.nil 602 3 1 (fr' := frR n flt xs 6) (σ' := chN 2 ((15, .box (cellsN 6 0 3)) :: sB n s1 sk s2 (dl0 n) s3 k' nw)) rfl ⟨⟨_, rfl, .inl rfl⟩, ⟨_, rfl, .inl rfl⟩, ⟨_, rfl, .inl rfl⟩, ⟨_, rfl, .inl rfl⟩, ⟨_, rfl, .inl rfl⟩, ⟨_, rfl, .inl rfl⟩, trivial⟩ ?_ rfl rfl) ?_
  · exact ⟨⟨_, rfl, .inl rfl⟩, ⟨_, rfl, .inl rfl⟩, ⟨_, rfl, .inr ⟨_, _, rfl, rfl, .inl rfl, .inl rfl, .inr ⟨rfl, rfl⟩, .inl rfl, .inl rfl, .inl rfl, trivial⟩⟩, ⟨_, rfl, .inl rfl⟩, ⟨_, rfl, .inl rfl⟩, ⟨_, rfl, .inl rfl⟩, ⟨_, rfl, .inl rfl⟩, trivial⟩
  refine AW_imp (Imp.nil 603 3 1 (fr' := frR n flt xs 6) (σ' := chN 3 ((15, .box (cellsN 6 0 4)) :: sB n s1 sk s2 (dl0 n) s3 k' nw)) rfl ⟨⟨_, rfl, .inl rfl⟩, ⟨_, rfl, .inl rfl⟩, ⟨_, rfl, .inl rfl⟩, ⟨_, rfl, .inl rfl⟩, ⟨_, rfl, .inl rfl⟩, ⟨_, rfl, .inl rfl⟩, trivial⟩ ?_ rfl rfl) ?_
  · exact ⟨⟨_, rfl, .inl rfl⟩, ⟨_, rfl, .inl rfl⟩, ⟨_, rfl, .inl rfl⟩, ⟨_, rfl, .inr ⟨_, _, rfl, rfl, .inl rfl, .inl rfl, .inl rfl, .inr ⟨rfl, rfl⟩, .inl rfl, .inl rfl, trivial⟩⟩, ⟨_, rfl, .inl rfl⟩, ⟨_, rfl, .inl rfl⟩, ⟨_, rfl, .inl rfl⟩, ⟨_, rfl, .inl rfl⟩, trivial⟩
  refine AW_imp (Imp.nil 604 3 1 (fr' := frR n flt xs 6) (σ' := chN 4 ((15, .box (cellsN 6 0 5)) :: sB n s1 sk s2 (dl0 n) s3 k' nw)) rfl ⟨⟨_, rfl, .inl rfl⟩, ⟨_, rfl, .inl rfl⟩, ⟨_, rfl, .inl rfl⟩, ⟨_, rfl, .inl rfl⟩, ⟨_, rfl, .inl rfl⟩, ⟨_, rfl, .inl rfl⟩, trivial⟩ ?_ rfl rfl) ?_
  · exact ⟨⟨_, rfl, .inl rfl⟩, ⟨_, rfl, .inl rfl⟩, ⟨_, rfl, .inl rfl⟩, ⟨_, rfl, .inl rfl⟩, ⟨_, rfl, .inr ⟨_, _, rfl, rfl, .inl rfl, .inl rfl, .inl rfl, .inl rfl, .inr ⟨rfl, rfl⟩, .inl rfl, trivial⟩⟩, ⟨_, rfl, .inl rfl⟩, ⟨_, rfl, .inl rfl⟩, ⟨_, rfl, .inl rfl⟩, ⟨_, rfl, .inl rfl⟩, trivial⟩
  refine AW_imp (Imp.nil 605 3 1 (fr' := frR n flt xs 6) (σ' := chN 5 ((15, .box (cellsN 6 0 6)) :: sB n s1 sk s2 (dl0 n) s3 k' nw)) rfl ⟨⟨_, rfl, .inl rfl⟩, ⟨_, rfl, .inl rfl⟩, ⟨_, rfl, .inl rfl⟩, ⟨_, rfl, .inl rfl⟩, ⟨_, rfl, .inl rfl⟩, ⟨_, rfl, .inl rfl⟩, trivial⟩ ?_ rfl rfl) ?_
  · exact ⟨⟨_, rfl, .inl rfl⟩, ⟨_, rfl, .inl rfl⟩, ⟨_, rfl, .inl rfl⟩, ⟨_, rfl, .inl rfl⟩, ⟨_, rfl, .inl rfl⟩, ⟨_, rfl, .inr ⟨_, _, rfl, rfl, .inl rfl, .inl rfl, .inl rfl, .inl rfl, .inl rfl, .inr ⟨rfl, rfl⟩, trivial⟩⟩, ⟨_, rfl, .inl rfl⟩, ⟨_, rfl, .inl rfl⟩, ⟨_, rfl, .inl rfl⟩, ⟨_, rfl, .inl rfl⟩, trivial⟩
  refine AW_loop (fun p : Nat × Nat × Nat × List W16 => [(20, iv .i64 p.1), (19, iv .i64 xs.length), (18, sl xs), (7, .x (.sb 15 0 6 6)), (8, sl (stsL n flt xs 6 p.1)), (0, .x (.b 900 0))])
    (fun p => (15, .box [.o 600 (p.1) (p.1), .o 601 (p.1) (p.1), .o 602 (p.1) (p.1), .o 603 (p.1) (p.1), .o 604 (p.1) (p.1), .o 605 (p.1) (p.1)]) :: (600, rwOb n (flt 0) xs (p.1)) :: (601, rwOb n (flt 1) xs (p.1)) :: (602, rwOb n (flt 2) xs (p.1)) :: (603, rwOb n (flt 3) xs (p.1)) :: (604, rwOb n (flt 4) xs (p.1)) :: (605, rwOb n (flt 5) xs (p.1)) :: sB n s1 sk s2 (dl0 n) p.2.1 p.2.2.1 p.2.2.2)
    (fun p => p.1 ≤ xs.length) (fun p => xs.length - p.1) (0, s3, k', nw) (Nat.zero_le _) impA ?_
  rintro ⟨t, a, b, c⟩ ht
  dsimp only at ht ⊢
  rcases Nat.lt_or_ge t xs.length with htl | htl
  · have hbeat := fun s3 k' nw => beat_lanes ok (s1 := s1) hsk (s2 := s2) (s3 := s3) (k' := k') (nw := nw) (k := 6) (by decide) hl xs t xs[t] (getDI htl)
    have hol := otsL_len n flt xs 6 t
    repeat' first | with_reducible refine AW_seq ?_ | with_reducible refine AW_block ?_ | ((first | with_reducible refine AW_skip ?_ | with_reducible refine AW_exit ?_ | with_reducible refine AW_ret ?_ | with_reducible refine AW_region hTt ?_ | fail); conv => whnf) | (exact absurd hb (by omega)) | ((refine ⟨_, (hbeat a b c).frame (asc []) (by repeat (first | exact trivial | refine ⟨rfl, ?_⟩)) rfl (by rintro _ _ ⟨_, rfl, rfl⟩; rfl), ?_⟩); (rintro _ _ ⟨_, _, ⟨_, rfl, rfl⟩, rfl, rfl⟩); conv => whnf) | (refine AW_cond rfl (fun hb => ?_) (fun hb => ?_) <;> first | (replace hb := of_decide_eq_true hb; try simp only [List.length_map] at hb) | (replace hb := of_decide_eq_false hb; try simp only [List.length_map] at hb) | (simp only [List.length_map, bne_iff_ne, ne_eq, beq_iff_eq, bne_eq_false_iff_eq, beq_eq_false_iff_ne, decide_eq_true_eq, decide_eq_false_iff_not, Bool.not_eq_true', Bool.not_eq_false', Int.natCast_inj] at hb) | skip) | ((first | refine andA ?_ | with_reducible refine Exists.intro _ (And.intro (gd_any (And.intro (by omega) (map_get (by omega)))) ?_) | fail); conv => whnf) | (refine fun hln => ?_; (try rw [List.length_map] at hln); unfold maxLen at hln; conv => whnf) | fail
    rename_i pp
    refine AW_loop (fun l : Nat => [(33, iv .i64 l), (32, iv .i64 6), (31, sl (otsL n flt xs 6 t)), (20, iv .i64 t), (19, iv .i64 xs.length), (18, sl xs), (7, .x (.sb 15 0 6 6)), (8, sl (stsL n flt xs 6 (t + 1))), (0, .x (.b 900 0))])
      (fun l => (15, .box [.o 600 (t + bt 0 l) (t + bt 0 l), .o 601 (t + bt 1 l) (t + bt 1 l), .o 602 (t + bt 2 l) (t + bt 2 l), .o 603 (t + bt 3 l) (t + bt 3 l), .o 604 (t + bt 4 l) (t + bt 4 l), .o 605 (t + bt 5 l) (t + bt 5 l)]) :: (600, rwOb n (flt 0) xs (t + bt 0 l)) :: (601, rwOb n (flt 1) xs (t + bt 1 l)) :: (602, rwOb n (flt 2) xs (t + bt 2 l)) :: (603, rwOb n (flt 3) xs (t + bt 3 l)) :: (604, rwOb n (flt 4) xs (t + bt 4 l)) :: (605, rwOb n (flt 5) xs (t + bt 5 l)) :: sB n s1 sk s2 (dl0 n) pp.1 pp.2.1 pp.2.2) (fun l => l ≤ 6) (fun l => 6 - l) 0 (Nat.zero_le _) impA ?_
    intro l hlk
    rcases Nat.lt_or_ge l 6 with hll | hll
    · have hg := ots_at n flt xs t hll
      have e := row_app n (flt l) xs t l
      have hq := bt_self l
      have hz := outsR_len n (flt l) xs (t + bt l l)
      obtain ⟨j, hj⟩ : ∃ j, j = l + 1 := ⟨_, rfl⟩
      have hl' : l = 0 ∨ l = 1 ∨ l = 2 ∨ l = 3 ∨ l = 4 ∨ l = 5 := by omega
      clear hol hbeat ht hlk hll
      rcases hl' with rfl | rfl | rfl | rfl | rfl | rfl
      all_goals
        repeat' first | with_reducible refine AW_seq ?_ | with_reducible refine AW_block ?_ | ((first | with_reducible refine AW_skip ?_ | with_reducible refine AW_region hTt ?_ | with_reducible refine Exists.intro _ (And.intro (gd_any (And.intro (by omega) hg)) ?_) | refine And.intro (gd_any (And.intro (by decide) (by decide))) ?_ | fail); conv => whnf) | ((refine And.intro ?_ ?_; focus (refine ⟨?_, ?_, ?_⟩ <;> simp [chunk, maxLen] <;> omega)); conv => whnf) | (refine AW_cond rfl (fun _ => ?_) (fun hb => absurd hb (by decide))) | ((first | refine ⟨_, wrap_of (by first | omega | (simp only [List.length_map]; omega)), ?_⟩ | refine andA ?_ | fail); conv => whnf) | fail
        exact ⟨j, by omega, by omega, by subst hj; exact impA⟩
    have hle : l = 6 := by omega
    subst hle
    repeat' first | with_reducible refine AW_seq ?_ | ((first | with_reducible refine AW_exit ?_ | with_reducible refine AW_region hTt ?_ | fail); conv => whnf) | (refine AW_cond rfl (fun hb => absurd hb (by decide)) (fun _ => ?_)) | ((refine ⟨_, wrap_of (by first | omega | (simp only [List.length_map]; omega)), ?_⟩); conv => whnf) | fail
    exact ⟨(t + 1, pp.1, pp.2.1, pp.2.2), by show t + 1 ≤ xs.length; omega, by show xs.length - (t + 1) < xs.length - t; omega, impA⟩
  · have hte : t = xs.length := by omega
    subst hte
    repeat' first | with_reducible refine AW_seq ?_ | with_reducible refine AW_block ?_ | ((first | with_reducible refine AW_skip ?_ | with_reducible refine AW_exit ?_ | with_reducible refine AW_ret ?_ | with_reducible refine AW_region hTt ?_ | fail); conv => whnf) | (exact absurd hb (by omega)) | (refine AW_cond rfl (fun hb => ?_) (fun hb => ?_) <;> first | (replace hb := of_decide_eq_true hb; try simp only [List.length_map] at hb) | (replace hb := of_decide_eq_false hb; try simp only [List.length_map] at hb) | (simp only [List.length_map, bne_iff_ne, ne_eq, beq_iff_eq, bne_eq_false_iff_eq, beq_eq_false_iff_ne, decide_eq_true_eq, decide_eq_false_iff_not, Bool.not_eq_true', Bool.not_eq_false', Int.natCast_inj] at hb) | skip) | fail
    refine ⟨_, sB n s1 sk s2 (dl0 n) a b c, ⟨rfl, rfl, rfl, rfl, trivial⟩, rfl, (?_ : _ = some (rowsAV ((List.range 6).map fun l => outsR n (flt l) xs xs.length))), (a, b, c), rfl, rfl⟩
    have hk := keepRows (σ := (15, .box [.o 600 xs.length xs.length, .o 601 xs.length xs.length, .o 602 xs.length xs.length, .o 603 xs.length xs.length, .o 604 xs.length xs.length, .o 605 xs.length xs.length]) :: (600, rwOb n (flt 0) xs xs.length) :: (601, rwOb n (flt 1) xs xs.length) :: (602, rwOb n (flt 2) xs xs.length) :: (603, rwOb n (flt 3) xs xs.length) :: (604, rwOb n (flt 4) xs xs.length) :: (605, rwOb n (flt 5) xs xs.length) :: sB n s1 sk s2 (dl0 n) a b c) (σ' := sB n s1 sk s2 (dl0 n) a b c) (id := 15) (n := 6) (cap := 6) (ps := [PV.s 1 ((outsR n (flt 0) xs xs.length).map iPV), PV.s 1 ((outsR n (flt 1) xs xs.length).map iPV), PV.s 1 ((outsR n (flt 2) xs xs.length).map iPV), PV.s 1 ((outsR n (flt 3) xs xs.length).map iPV), PV.s 1 ((outsR n (flt 4) xs xs.length).map iPV), PV.s 1 ((outsR n (flt 5) xs xs.length).map iPV)]) rfl rfl
      (by repeat' first | exact rfl | refine rowPVs_cons (rowPV_o rfl rfl (by rw [List.length_map, outsR_len])) ?_) rfl
    exact outKeep1 (x := .x (.sb 15 0 6 6)) rfl hk
end Go.Proofs.YtfghooojingdhaaDoor
namespace Go.Proofs.YtfghooojingdhaaDoor
open Go Go.QL
set_option maxHeartbeats 3200000
attribute [local irreducible] ACall FnC
theorem run_7 {n : NetT} (ok : NetOK n) {s1 : Nat} {sk : List (W16 × W16)} (hsk : sk.length = n.inn.toNat + n.gates.length) {s2 s3 k' : Nat} {nw : List W16}
    {flt : Nat → FaultT} (hl : LanesOK sk flt 7) (xs : List Int) (hxl : xs.length ≤ 4096) :
    ACall Tryd.prog 71 [.x (.b 900 0), iv .i64 7, sl xs] (sB n s1 sk s2 (dl0 n) s3 k' nw)
      (fun r σ' => ∃ p : Nat × Nat × List W16, r = rowsAV ((List.range 7).map fun l => outsR n (flt l) xs xs.length) ∧ σ' = sB n s1 sk s2 (dl0 n) p.1 p.2.1 p.2.2) := by
  refine ACall_of_AWD hTt Tryd.func71 rfl (by kernel_rfl) (res := [.tmp 6]) rfl Tryd.ntmps71 (by simp) fun w0 K0 B => ?_
  dsimp only [entry]
  repeat' first | with_reducible refine AW_seq ?_ | with_reducible refine AW_block ?_ | ((first | with_reducible refine AW_region hTt ?_ | refine AW_draw hTt hMix (id := 1) 5 true [0, 1, 0, 4, 3, 31] (by kernel_rfl) rfl rfl (by kernel_rfl) ?_ | refine Or.inr ?_ | refine andA ?_ | fail); conv => whnf) | (refine fun hln => ?_; (try rw [List.length_map] at hln); unfold maxLen at hln; conv => whnf) | fail
  refine AW_imp (Imp.freeze 17 (fr' := frR n flt xs 7) (σ' := (15, .box (cellsN 7 0 0)) :: sB n s1 sk s2 (dl0 n) s3 k' nw) rfl ?_ ?_ rfl rfl) ?_
  · exact ⟨⟨_, rfl, .inl rfl⟩, ⟨_, congrArg (fun k : Nat => some (iv .i64 k)) (List.length_map _), .inl rfl⟩, ⟨_, rfl, .inl rfl⟩, ⟨_, rfl, .inl rfl⟩, ⟨_, rfl, .inr ⟨7, rfl, Nat.le_of_ble_eq_true rfl, rfl⟩⟩, ⟨_, rfl, .inl rfl⟩, trivial⟩
  · exact ⟨rfl, rfl, rfl, rfl, rfl, trivial⟩
  refine AW_imp (Imp.nil 600 3 1 (fr' := frR n flt xs 7) (σ' := chN 0 ((15, .box (cellsN 7 0 1)) :: sB n s1 sk s2 (dl0 n) s3 k' nw)) rfl ⟨⟨_, rfl, .inl rfl⟩, ⟨_, rfl, .inl rfl⟩, ⟨_, rfl, .inl rfl⟩, ⟨_, rfl, .inl rfl⟩, ⟨_, rfl, .inl rfl⟩, ⟨_, rfl, .inl rfl⟩, trivial⟩ ?_ rfl rfl) ?_
  · exact ⟨⟨_, rfl, .inr ⟨_, _, rfl, rfl, .inr ⟨rfl, rfl⟩, .inl rfl, .inl rfl, .inl rfl, .inl rfl, .inl rfl, .inl rfl, trivial⟩⟩, ⟨_, rfl, .inl rfl⟩, ⟨_, rfl, .inl rfl⟩, ⟨_, rfl, .inl rfl⟩, ⟨_, rfl, .inl rfl⟩, trivial⟩
  refine AW_imp (Imp.nil 601 3 1 (fr' := frR n flt xs 7) (σ' := chN 1 ((15, .box (cellsN 7 0 2)) :: sB n s1 sk s2 (dl0 n) s3 k' nw)) rfl ⟨⟨_, rfl, .inl rfl⟩, ⟨_, rfl, .inl rfl⟩, ⟨_, rfl, .inl rfl⟩, ⟨_, rfl, .inl rfl⟩, ⟨_, rfl, .inl rfl⟩, ⟨_, rfl, .inl rfl⟩, trivial⟩ ?_ rfl rfl) ?_
  · exact ⟨⟨_, rfl, .inl rfl⟩, ⟨_, rfl, .inr ⟨_, _, rfl, rfl, .inl rfl, .inr ⟨rfl, rfl⟩, .inl rfl, .inl rfl, .inl rfl, .inl rfl, .inl rfl, trivial⟩⟩, ⟨_, rfl, .inl rfl⟩, ⟨_, rfl, .inl rfl⟩, ⟨_, rfl, .inl rfl⟩, ⟨_, rfl, .inl rfl⟩, trivial⟩
  refine AW_imp (Imp.nil 602 3 1 (fr' := frR n flt xs 7) (σ' := chN 2 ((15, .box (cellsN 7 0 3)) :: sB n s1 sk s2 (dl0 n) s3 k' nw)) rfl ⟨⟨_, rfl, .inl rfl⟩, ⟨_, rfl, .inl rfl⟩, ⟨_, rfl, .inl rfl⟩, ⟨_, rfl, .inl rfl⟩, ⟨_, rfl, .inl rfl⟩, ⟨_, rfl, .inl rfl⟩, trivial⟩ ?_ rfl rfl) ?_
  · exact ⟨⟨_, rfl, .inl rfl⟩, ⟨_, rfl, .inl rfl⟩, ⟨_, rfl, .inr ⟨_, _, rfl, rfl, .inl rfl, .inl rfl, .inr ⟨rfl, rfl⟩, .inl rfl, .inl rfl, .inl rfl, .inl rfl, trivial⟩⟩, ⟨_, rfl, .inl rfl⟩, ⟨_, rfl, .inl rfl⟩, ⟨_, rfl, .inl rfl⟩, ⟨_, rfl, .inl rfl⟩, trivial⟩
  refine AW_imp (Imp.nil 603 3 1 (fr' := frR n flt xs 7) (σ' := chN 3 ((15, .box (cellsN 7 0 4)) :: sB n s1 sk s2 (dl0 n) s3 k' nw)) rfl ⟨⟨_, rfl, .inl rfl⟩, ⟨_, rfl, .inl rfl⟩, ⟨_, rfl, .inl rfl⟩, ⟨_, rfl, .inl rfl⟩, ⟨_, rfl, .inl rfl⟩, ⟨_, rfl, .inl rfl⟩, trivial⟩ ?_ rfl rfl) ?_
  · exact ⟨⟨_, rfl, .inl rfl⟩, ⟨_, rfl, .inl rfl⟩, ⟨_, rfl, .inl rfl⟩, ⟨_, rfl, .inr ⟨_, _, rfl, rfl, .inl rfl, .inl rfl, .inl rfl, .inr ⟨rfl, rfl⟩, .inl rfl, .inl rfl, .inl rfl, trivial⟩⟩, ⟨_, rfl, .inl rfl⟩, ⟨_, rfl, .inl rfl⟩, ⟨_, rfl, .inl rfl⟩, ⟨_, rfl, .inl rfl⟩, trivial⟩
  refine AW_imp (Imp.nil 604 3 1 (fr' := frR n flt xs 7) (σ' := chN 4 ((15, .box (cellsN 7 0 5)) :: sB n s1 sk s2 (dl0 n) s3 k' nw)) rfl ⟨⟨_, rfl, .inl rfl⟩, ⟨_, rfl, .inl rfl⟩, ⟨_, rfl, .inl rfl⟩, ⟨_, rfl, .inl rfl⟩, ⟨_, rfl, .inl rfl⟩, ⟨_, rfl, .inl rfl⟩, trivial⟩ ?_ rfl rfl) ?_
  · exact ⟨⟨_, rfl, .inl rfl⟩, ⟨_, rfl, .inl rfl⟩, ⟨_, rfl, .inl rfl⟩, ⟨_, rfl, .inl rfl⟩, ⟨_, rfl, .inr ⟨_, _, rfl, rfl, .inl rfl, .inl rfl, .inl rfl, .inl rfl, .inr ⟨rfl, rfl⟩, .inl rfl, .inl rfl, trivial⟩⟩, ⟨_, rfl, .inl rfl⟩, ⟨_, rfl, .inl rfl⟩, ⟨_, rfl, .inl rfl⟩, ⟨_, rfl, .inl rfl⟩, trivial⟩
  refine AW_imp (Imp.nil 605 3 1 (fr' := frR n flt xs 7) (σ' := chN 5 ((15, .box (cellsN 7 0 6)) :: sB n s1 sk s2 (dl0 n) s3 k' nw)) rfl ⟨⟨_, rfl, .inl rfl⟩, ⟨_, rfl, .inl rfl⟩, ⟨_, rfl, .inl rfl⟩, ⟨_, rfl, .inl rfl⟩, ⟨_, rfl, .inl rfl⟩, ⟨_, rfl, .inl rfl⟩, trivial⟩ ?_ rfl rfl) ?_
  · exact ⟨⟨_, rfl, .inl rfl⟩, ⟨_, rfl, .inl rfl⟩, ⟨_, rfl, .inl rfl⟩, ⟨_, rfl, .inl rfl⟩, ⟨_, rfl, .inl rfl⟩, ⟨_, rfl, .inr ⟨_, _, rfl, rfl, .inl rfl, .inl rfl, .inl rfl, .inl rfl, .inl rfl, .inr ⟨rfl, rfl⟩, .inl rfl, trivial⟩⟩, ⟨_, rfl, .inl rfl⟩, ⟨_, rfl, .inl rfl⟩, ⟨_, rfl, .inl rfl⟩, ⟨_, rfl, .inl rfl⟩, trivial⟩
  refine AW_imp (Imp.nil 606 3 1 (fr' := frR n flt xs 7) (σ' := chN 6 ((15, .box (cellsN 7 0 7)) :: sB n s1 sk s2 (dl0 n) s3 k' nw)) rfl ⟨⟨_, rfl, .inl rfl⟩, ⟨_, rfl, .inl rfl⟩, ⟨_, rfl, .inl rfl⟩, ⟨_, rfl, .inl rfl⟩, ⟨_, rfl, .inl rfl⟩, ⟨_, rfl, .inl rfl⟩, trivial⟩ ?_ rfl rfl) ?_
  · exact ⟨⟨_, rfl, .inl rfl⟩, ⟨_, rfl, .inl rfl⟩, ⟨_, rfl, .inl rfl⟩, ⟨_, rfl, .inl rfl⟩, ⟨_, rfl, .inl rfl⟩, ⟨_, rfl, .inl rfl⟩, ⟨_, rfl, .inr ⟨_, _, rfl, rfl, .inl rfl, .inl rfl, .inl rfl, .inl rfl, .inl rfl, .inl rfl, .inr ⟨rfl, rfl⟩, trivial⟩⟩, ⟨_, rfl, .inl rfl⟩, ⟨_, rfl, .inl rfl⟩, ⟨_, rfl, .inl rfl⟩, ⟨_, rfl, .inl rfl⟩, trivial⟩
  refine AW_loop (fun p : Nat × Nat × Nat × List W16 => [(20, iv .i64 p.1), (19, iv .i64 xs.length), (18, sl xs), (7, .x (.sb 15 0 7 7)), (8, sl (stsL n flt xs 7 p.1)), (0, .x (.b 900 0))])
    (fun p => (15, .box [.o 600 (p.1) (p.1), .o 601 (p.1) (p.1), .o 602 (p.1) (p.1), .o 603 (p.1) (p.1), .o 604 (p.1) (p.1), .o 605 (p.1) (p.1), .o 606 (p.1) (p.1)]) :: (600, rwOb n (flt 0) xs (p.1)) :: (601, rwOb n (flt 1) xs (p.1)) :: (602, rwOb n (flt 2) xs (p.1)) :: (603, rwOb n (flt 3) xs (p.1)) :: (604, rwOb n (flt 4) xs (p.1)) :: (605, rwOb n (flt 5) xs (p.1)) :: (606, rwOb n (flt 6) xs (p.1)) :: sB n s1 sk s2 (dl0 n) p.2.1 p.2.2.1 p.2.2.2)
    (fun p => p.1 ≤ xs.length) (fun p => xs.length - p.1) (0, s3, k', nw) (Nat.zero_le _) impA ?_
  rintro ⟨t, a, b, c⟩ ht
  dsimp only at ht ⊢
  rcases Nat.lt_or_ge t xs.length with htl | htl
  · have hbeat := fun s3 k' nw => beat_lanes ok (s1 := s1) hsk (s2 := s2) (s3 := s3) (k' := k') (nw := nw) (k := 7) (by decide) hl xs t xs[t] (getDI htl)
    have hol := otsL_len n flt xs 7 t
    repeat' first | with_reducible refine AW_seq ?_ | with_reducible refine AW_block ?_ | ((first | with_reducible refine AW_skip ?_ | with_reducible refine AW_exit ?_ | with_reducible refine AW_ret ?_ | with_reducible refine AW_region hTt ?_ | fail); conv => whnf) | (exact absurd hb (by omega)) | ((refine ⟨_, (hbeat a b c).frame (asc []) (by repeat (first | exact trivial | refine ⟨rfl, ?_⟩)) rfl (by rintro _ _ ⟨_, rfl, rfl⟩; rfl), ?_⟩); (rintro _ _ ⟨_, _, ⟨_, rfl, rfl⟩, rfl, rfl⟩); conv => whnf) | (refine AW_cond rfl (fun hb => ?_) (fun hb => ?_) <;> first | (replace hb := of_decide_eq_true hb; try simp only [List.length_map] at hb) | (replace hb := of_decide_eq_false hb; try simp only [List.length_map] at hb) | (simp only [List.length_map, bne_iff_ne, ne_eq, beq_iff_eq, bne_eq_false_iff_eq, beq_eq_false_iff_ne, decide_eq_true_eq, decide_eq_false_iff_not, Bool.not_eq_true', Bool.not_eq_false', Int.natCast_inj] at hb) | skip) | ((first | refine andA ?_ | with_reducible refine Exists.intro _ (And.intro (gd_any (And.intro (by omega) (map_get (by omega)))) ?_) | fail); conv => whnf) | (refine fun hln => ?_; (try rw [List.length_map] at hln); unfold maxLen at hln; conv => whnf) | fail
    rename_i pp
    refine AW_loop (fun l : Nat => [(33, iv .i64 l), (32, iv .i64 7), (31, sl (otsL n flt xs 7 t)), (20, iv .i64 t), (19, iv .i64 xs.length), (18, sl xs), (7, .x (.sb 15 0 7 7)), (8, sl (stsL n flt xs 7 (t + 1))), (0, .x (.b 900 0))])
      (fun l => (15, .box [.o 600 (t + bt 0 l) (t + bt 0 l), .o 601 (t + bt 1 l) (t + bt 1 l), .o 602 (t + bt 2 l) (t + bt 2 l), .o 603 (t + bt 3 l) (t + bt 3 l), .o 604 (t + bt 4 l) (t + bt 4 l), .o 605 (t + bt 5 l) (t + bt 5 l), .o 606 (t + bt 6 l) (t + bt 6 l)]) :: (600, rwOb n (flt 0) xs (t + bt 0 l)) :: (601, rwOb n (flt 1) xs (t + bt 1 l)) :: (602, rwOb n (flt 2) xs (t + bt 2 l)) :: (603, rwOb n (flt 3) xs (t + bt 3 l)) :: (604, rwOb n (flt 4) xs (t + bt 4 l)) :: (605, rwOb n (flt 5) xs (t + bt 5 l)) :: (606, rwOb n (flt 6) xs (t + bt 6 l)) :: sB n s1 sk s2 (dl0 n) pp.1 pp.2.1 pp.2.2) (fun l => l ≤ 7) (fun l => 7 - l) 0 (Nat.zero_le _) impA ?_
    intro l hlk
    rcases Nat.lt_or_ge l 7 with hll | hll
    · have hg := ots_at n flt xs t hll
      have e := row_app n (flt l) xs t l
      have hq := bt_self l
      have hz := outsR_len n (flt l) xs (t + bt l l)
      obtain ⟨j, hj⟩ : ∃ j, j = l + 1 := ⟨_, rfl⟩
      have hl' : l = 0 ∨ l = 1 ∨ l = 2 ∨ l = 3 ∨ l = 4 ∨ l = 5 ∨ l = 6 := by omega
      clear hol hbeat ht hlk hll
      rcases hl' with rfl | rfl | rfl | rfl | rfl | rfl | rfl
      all_goals
        repeat' first | with_reducible refine AW_seq ?_ | with_reducible refine AW_block ?_ | ((first | with_reducible refine AW_skip ?_ | with_reducible refine AW_region hTt ?_ | with_reducible refine Exists.intro _ (And.intro (gd_any (And.intro (by omega) hg)) ?_) | refine And.intro (gd_any (And.intro (by decide) (by decide))) ?_ | fail); conv => whnf) | ((refine And.intro ?_ ?_; focus (refine ⟨?_, ?_, ?_⟩ <;> simp [chunk, maxLen] <;> omega)); conv => whnf) | (refine AW_cond rfl (fun _ => ?_) (fun hb => absurd hb (by decide))) | ((first | refine ⟨_, wrap_of (by first | omega | (simp only [List.length_map]; omega)), ?_⟩ | refine andA ?_ | fail); conv => whnf) | fail
        exact ⟨j, by omega, by omega, by subst hj; exact impA⟩
    have hle : l = 7 := by omega
    subst hle
    repeat' first | with_reducible refine AW_seq ?_ | ((first | with_reducible refine AW_exit ?_ | with_reducible refine AW_region hTt ?_ | fail); conv => whnf) | (refine AW_cond rfl (fun hb => absurd hb (by decide)) (fun _ => ?_)) | ((refine ⟨_, wrap_of (by first | omega | (simp only [List.length_map]; omega)), ?_⟩); conv => whnf) | fail
    exact ⟨(t + 1, pp.1, pp.2.1, pp.2.2), by show t + 1 ≤ xs.length; omega, by show xs.length - (t + 1) < xs.length - t; omega, impA⟩
  · have hte : t = xs.length := by omega
    subst hte
    repeat' first | with_reducible refine AW_seq ?_ | with_reducible refine AW_block ?_ | ((first | with_reducible refine AW_skip ?_ | with_reducible refine AW_exit ?_ | with_reducible refine AW_ret ?_ | with_reducible refine AW_region hTt ?_ | fail); conv => whnf) | (exact absurd hb (by omega)) | (refine AW_cond rfl (fun hb => ?_) (fun hb => ?_) <;> first | (replace hb := of_decide_eq_true hb; try simp only [List.length_map] at hb) | (replace hb := of_decide_eq_false hb; try simp only [List.length_map] at hb) | (simp only [List.length_map, bne_iff_ne, ne_eq, beq_iff_eq, bne_eq_false_iff_eq, beq_eq_false_iff_ne, decide_eq_true_eq, decide_eq_false_iff_not, Bool.not_eq_true', Bool.not_eq_false', Int.natCast_inj] at hb) | skip) | fail
    refine ⟨_, sB n s1 sk s2 (dl0 n) a b c, ⟨rfl, rfl, rfl, rfl, trivial⟩, rfl, (?_ : _ = some (rowsAV ((List.range 7).map fun l => outsR n (flt l) xs xs.length))), (a, b, c), rfl, rfl⟩
    have hk := keepRows (σ := (15, .box [.o 600 xs.length xs.length, .o 601 xs.length xs.length, .o 602 xs.length xs.length, .o 603 xs.length xs.length, .o 604 xs.length xs.length, .o 605 xs.length xs.length, .o 606 xs.length xs.length]) :: (600, rwOb n (flt 0) xs xs.length) :: (601, rwOb n (flt 1) xs xs.length) :: (602, rwOb n (flt 2) xs xs.length) :: (603, rwOb n (flt 3) xs xs.length) :: (604, rwOb n (flt 4) xs xs.length) :: (605, rwOb n (flt 5) xs xs.length) :: (606, rwOb n (flt 6) xs xs.length) :: sB n s1 sk s2 (dl0 n) a b c) (σ' := sB n s1 sk s2 (dl0 n) a b c) (id := 15) (n := 7) (cap := 7) (ps := [PV.s 1 ((outsR n (flt 0) xs xs.length).map iPV), PV.s 1 ((outsR n (flt 1) xs xs.length).map iPV), PV.s 1 ((outsR n (flt 2) xs xs.length).map iPV), PV.s 1 ((outsR n (flt 3) xs xs.length).map iPV), PV.s 1 ((outsR n (flt 4) xs xs.length).map iPV), PV.s 1 ((outsR n (flt 5) xs xs.length).map iPV), PV.s 1 ((outsR n (flt 6) xs xs.length).map iPV)]) rfl rfl
      (by repeat' first | exact rfl | refine rowPVs_cons (rowPV_o rfl rfl (by rw [List.length_map, outsR_len])) ?_) rfl
    exact outKeep1 (x := .x (.sb 15 0 7 7)) rfl hk
end Go.Proofs.YtfghooojingdhaaDoor
namespace Go.Proofs.YtfghooojingdhaaDoor
open Go Go.QL
set_option maxHeartbeats 3200000
attribute [local irreducible] ACall FnC
theorem run_8 {n : NetT} (ok : NetOK n) {s1 : Nat} {sk : List (W16 × W16)} (hsk : sk.length = n.inn.toNat + n.gates.length) {s2 s3 k' : Nat} {nw : List W16}
    {flt : Nat → FaultT} (hl : LanesOK sk flt 8) (xs : List Int) (hxl : xs.length ≤ 4096) :
    ACall Tryd.prog 71 [.x (.b 900 0), iv .i64 8, sl xs] (sB n s1 sk s2 (dl0 n) s3 k' nw)
      (fun r σ' => ∃ p : Nat × Nat × List W16, r = rowsAV ((List.range 8).map fun l => outsR n (flt l) xs xs.length) ∧ σ' = sB n s1 sk s2 (dl0 n) p.1 p.2.1 p.2.2) := by
  refine ACall_of_AWD hTt Tryd.func71 rfl (by kernel_rfl) (res := [.tmp 6]) rfl Tryd.ntmps71 (by simp) fun w0 K0 B => ?_
  dsimp only [entry]
  repeat' first | with_reducible refine AW_seq ?_ | with_reducible refine AW_block ?_ | ((first | with_reducible refine AW_region hTt ?_ | refine AW_draw hTt hMix (id := 1) 5 true [0, 1, 0, 4, 3, 31] (by kernel_rfl) rfl rfl (by kernel_rfl) ?_ | refine Or.inr ?_ | refine andA ?_ | fail); conv => whnf) | (refine fun hln => ?_; (try rw [List.length_map] at hln); unfold maxLen at hln; conv => whnf) | fail
  refine AW_imp (Imp.freeze 17 (fr' := frR n flt xs 8) (σ' := (15, .box (cellsN 8 0 0)) :: sB n s1 sk s2 (dl0 n) s3 k' nw) rfl ?_ ?_ rfl rfl) ?_
  · exact ⟨⟨_, rfl, .inl rfl⟩, ⟨_, congrArg (fun k : Nat => some (iv .i64 k)) (List.length_map _), .inl rfl⟩, ⟨_, rfl, .inl rfl⟩, ⟨_, rfl, .inl rfl⟩, ⟨_, rfl, .inr ⟨8, rfl, Nat.le_of_ble_eq_true rfl, rfl⟩⟩, ⟨_, rfl, .inl rfl⟩, trivial⟩
  · exact ⟨rfl, rfl, rfl, rfl, rfl, trivial⟩
  refine AW_imp (Imp.nil 600 3 1 (fr' := frR n flt xs 8) (σ' := chN 0 ((15, .box (cellsN 8 0 1)) :: sB n s1 sk s2 (dl0 n) s3 k' nw)) rfl ⟨⟨_, rfl, .inl rfl⟩, ⟨_, rfl, .inl rfl⟩, ⟨_, rfl, .inl rfl⟩, ⟨_, rfl, .inl rfl⟩, ⟨_, rfl, .inl rfl⟩, ⟨_, rfl, .inl rfl⟩, trivial⟩ ?_ rfl rfl) ?_
  · exact ⟨⟨_, rfl, .inr ⟨_, _, rfl, rfl, .inr ⟨rfl, rfl⟩, .inl rfl, .inl rfl, .inl rfl, .inl rfl, .inl rfl, .inl rfl, .inl rfl, trivial⟩⟩, ⟨_, rfl, .inl rfl⟩, ⟨_, rfl, .inl rfl⟩, ⟨_, rfl, .inl rfl⟩, ⟨_, rfl, .inl rfl⟩, trivial⟩
  refine AW_imp (Imp.nil 601 3 1 (fr' := frR n flt xs 8) (σ' := chN 1 ((15, .box (cellsN 8 0 2)) :: sB n s1 sk s2 (dl0 n) s3 k' nw)) rfl ⟨⟨_, rfl, .inl rfl⟩, ⟨_, rfl, .inl rfl⟩, ⟨_, rfl, .inl rfl⟩, ⟨_, rfl, .inl rfl⟩, ⟨_, rfl, .inl rfl⟩, ⟨_, rfl, .inl rfl⟩, trivial⟩ ?_ rfl rfl) ?_
  · exact ⟨⟨_, rfl, .inl rfl⟩, ⟨_, rfl, .inr ⟨_, _, rfl, rfl, .inl rfl, .inr ⟨rfl, rfl⟩, .inl rfl, .inl rfl, .inl rfl, .inl rfl, .inl rfl, .inl rfl, trivial⟩⟩, ⟨_, rfl, .inl rfl⟩, ⟨_, rfl, .inl rfl⟩, ⟨_, rfl, .inl rfl⟩, ⟨_, rfl, .inl rfl⟩, trivial⟩
  refine AW_imp (Imp.nil 602 3 1 (fr' := frR n flt xs 8) (σ' := chN 2 ((15, .box (cellsN 8 0 3)) :: sB n s1 sk s2 (dl0 n) s3 k' nw)) rfl ⟨⟨_, rfl, .inl rfl⟩, ⟨_, rfl, .inl rfl⟩, ⟨_, rfl, .inl rfl⟩, ⟨_, rfl, .inl rfl⟩, ⟨_, rfl, .inl rfl⟩, ⟨_, rfl, .inl rfl⟩, trivial⟩ ?_ rfl rfl) ?_
  · exact ⟨⟨_, rfl, .inl rfl⟩, ⟨_, rfl, .inl rfl⟩, ⟨_, rfl, .inr ⟨_, _, rfl, rfl, .inl rfl, .inl rfl, .inr ⟨rfl, rfl⟩, .inl rfl, .inl rfl, .inl rfl, .inl rfl, .inl rfl, trivial⟩⟩, ⟨_, rfl, .inl rfl⟩, ⟨_, rfl, .inl rfl⟩, ⟨_, rfl, .inl rfl⟩, ⟨_, rfl, .inl rfl⟩, trivial⟩
  refine AW_imp (Imp.nil 603 3 1 (fr' := frR n flt xs 8) (σ' := chN 3 ((15, .box (cellsN 8 0 4)) :: sB n s1 sk s2 (dl0 n) s3 k' nw)) rfl ⟨⟨_, rfl, .inl rfl⟩, ⟨_, rfl, .inl rfl⟩, ⟨_, rfl, .inl rfl⟩, ⟨_, rfl, .inl rfl⟩, ⟨_, rfl, .inl rfl⟩, ⟨_, rfl, .inl rfl⟩, trivial⟩ ?_ rfl rfl) ?_
  · exact ⟨⟨_, rfl, .inl rfl⟩, ⟨_, rfl, .inl rfl⟩, ⟨_, rfl, .inl rfl⟩, ⟨_, rfl, .inr ⟨_, _, rfl, rfl, .inl rfl, .inl rfl, .inl rfl, .inr ⟨rfl, rfl⟩, .inl rfl, .inl rfl, .inl rfl, .inl rfl, trivial⟩⟩, ⟨_, rfl, .inl rfl⟩, ⟨_, rfl, .inl rfl⟩, ⟨_, rfl, .inl rfl⟩, ⟨_, rfl, .inl rfl⟩, trivial⟩
  refine AW_imp (Imp.nil 604 3 1 (fr' := frR n flt xs 8) (σ' := chN 4 ((15, .box (cellsN 8 0 5)) :: sB n s1 sk s2 (dl0 n) s3 k' nw)) rfl ⟨⟨_, rfl, .inl rfl⟩, ⟨_, rfl, .inl rfl⟩, ⟨_, rfl, .inl rfl⟩, ⟨_, rfl, .inl rfl⟩, ⟨_, rfl, .inl rfl⟩, ⟨_, rfl, .inl rfl⟩, trivial⟩ ?_ rfl rfl) ?_
  · exact ⟨⟨_, rfl, .inl rfl⟩, ⟨_, rfl, .inl rfl⟩, ⟨_, rfl, .inl rfl⟩, ⟨_, rfl, .inl rfl⟩, ⟨_, rfl, .inr ⟨_, _, rfl, rfl, .inl rfl, .inl rfl, .inl rfl, .inl rfl, .inr ⟨rfl, rfl⟩, .inl rfl, .inl rfl, .inl rfl, trivial⟩⟩, ⟨_, rfl, .inl rfl⟩, ⟨_, rfl, .inl rfl⟩, ⟨_, rfl, .inl rfl⟩, ⟨_, rfl, .inl rfl⟩, trivial⟩
  refine AW_imp (Imp.nil 605 3 1 (fr' := frR n flt xs 8) (σ' := chN 5 ((15, .box (cellsN 8 0 6)) :: sB n s1 sk s2 (dl0 n) s3 k' nw)) rfl ⟨⟨_, rfl, .inl rfl⟩, ⟨_, rfl, .inl rfl⟩, ⟨_, rfl, .inl rfl⟩, ⟨_, rfl, .inl rfl⟩, ⟨_, rfl, .inl rfl⟩, ⟨_, rfl, .inl rfl⟩, trivial⟩ ?_ rfl rfl) ?_
  · exact ⟨⟨_, rfl, .inl rfl⟩, ⟨_, rfl, .inl rfl⟩, ⟨_, rfl, .inl rfl⟩, ⟨_, rfl, .inl rfl⟩, ⟨_, rfl, .inl rfl⟩, ⟨_, rfl, .inr ⟨_, _, rfl, rfl, .inl rfl, .inl rfl, .inl rfl, .inl rfl, .inl rfl, .inr ⟨rfl, rfl⟩, .inl rfl, .inl rfl, trivial⟩⟩, ⟨_, rfl, .inl rfl⟩, ⟨_, rfl, .inl rfl⟩, ⟨_, rfl, .inl rfl⟩, ⟨_, rfl, .inl rfl⟩, trivial⟩
  refine AW_imp (Imp.nil 606 3 1 (fr' := frR n flt xs 8) (σ' := chN 6 ((15, .box (cellsN 8 0 7)) :: sB n s1 sk s2 (dl0 n) s3 k' nw)) rfl ⟨⟨_, rfl, .inl rfl⟩, ⟨_, rfl, .inl rfl⟩, ⟨_, rfl, .inl rfl⟩, ⟨_, rfl, .inl rfl⟩, ⟨_, rfl, .inl rfl⟩, ⟨_, rfl, .inl rfl⟩, trivial⟩ ?_ rfl rfl) ?_
  · exact ⟨⟨_, rfl, .inl rfl⟩, ⟨_, rfl, .inl rfl⟩, ⟨_, rfl, .inl rfl⟩, ⟨_, rfl, .inl rfl⟩, ⟨_, rfl, .inl rfl⟩, ⟨_, rfl, .inl rfl⟩, ⟨_, rfl, .inr ⟨_, _, rfl, rfl, .inl rfl, .inl rfl, .inl rfl, .inl rfl, .inl rfl, .inl rfl, .inr ⟨rfl, rfl⟩, .inl rfl, trivial⟩⟩, ⟨_, rfl, .inl rfl⟩, ⟨_, rfl, .inl rfl⟩, ⟨_, rfl, .inl rfl⟩, ⟨_, rfl, .inl rfl⟩, trivial⟩
  refine AW_imp (Imp.nil 607 3 1 (fr' := frR n flt xs 8) (σ' := chN 7 ((15, .box (cellsN 8 0 8)) :: sB n s1 sk s2 (dl0 n) s3 k' nw)) rfl ⟨⟨_, rfl, .inl rfl⟩, ⟨_, rfl, .inl rfl⟩, ⟨_, rfl, .inl rfl⟩, ⟨_, rfl, .inl rfl⟩, ⟨_, rfl, .inl rfl⟩, ⟨_, rfl, .inl rfl⟩, trivial⟩ ?_ rfl rfl) ?_
  · exact ⟨⟨_, rfl, .inl rfl⟩, ⟨_, rfl, .inl rfl⟩, ⟨_, rfl, .inl rfl⟩, ⟨_, rfl, .inl rfl⟩, ⟨_, rfl, .inl rfl⟩, ⟨_, rfl, .inl rfl⟩, ⟨_, rfl, .inl rfl⟩, ⟨_, rfl, .inr ⟨_, _, rfl, rfl, .inl rfl, .inl rfl, .inl rfl, .inl rfl, .inl rfl, .inl rfl, .inl rfl, .inr ⟨rfl, rfl⟩, trivial⟩⟩, ⟨_, rfl, .inl rfl⟩, ⟨_, rfl, .inl rfl⟩, ⟨_, rfl, .inl rfl⟩, ⟨_, rfl, .inl rfl⟩, trivial⟩
  refine AW_loop (fun p : Nat × Nat × Nat × List W16 => [(20, iv .i64 p.1), (19, iv .i64 xs.length), (18, sl xs), (7, .x (.sb 15 0 8 8)), (8, sl (stsL n flt xs 8 p.1)), (0, .x (.b 900 0))])
    (fun p => (15, .box [.o 600 (p.1) (p.1), .o 601 (p.1) (p.1), .o 602 (p.1) (p.1), .o 603 (p.1) (p.1), .o 604 (p.1) (p.1), .o 605 (p.1) (p.1), .o 606 (p.1) (p.1), .o 607 (p.1) (p.1)]) :: (600, rwOb n (flt 0) xs (p.1)) :: (601, rwOb n (flt 1) xs (p.1)) :: (602, rwOb n (flt 2) xs (p.1)) :: (603, rwOb n (flt 3) xs (p.1)) :: (604, rwOb n (flt 4) xs (p.1)) :: (605, rwOb n (flt 5) xs (p.1)) :: (606, rwOb n (flt 6) xs (p.1)) :: (607, rwOb n (flt 7) xs (p.1)) :: sB n s1 sk s2 (dl0 n) p.2.1 p.2.2.1 p.2.2.2)
    (fun p => p.1 ≤ xs.length) (fun p => xs.length - p.1) (0, s3, k', nw) (Nat.zero_le _) impA ?_
  rintro ⟨t, a, b, c⟩ ht
  dsimp only at ht ⊢
  rcases Nat.lt_or_ge t xs.length with htl | htl
  · have hbeat := fun s3 k' nw => beat_lanes ok (s1 := s1) hsk (s2 := s2) (s3 := s3) (k' := k') (nw := nw) (k := 8) (by decide) hl xs t xs[t] (getDI htl)
    have hol := otsL_len n flt xs 8 t
    repeat' first | with_reducible refine AW_seq ?_ | with_reducible refine AW_block ?_ | ((first | with_reducible refine AW_skip ?_ | with_reducible refine AW_exit ?_ | with_reducible refine AW_ret ?_ | with_reducible refine AW_region hTt ?_ | fail); conv => whnf) | (exact absurd hb (by omega)) | ((refine ⟨_, (hbeat a b c).frame (asc []) (by repeat (first | exact trivial | refine ⟨rfl, ?_⟩)) rfl (by rintro _ _ ⟨_, rfl, rfl⟩; rfl), ?_⟩); (rintro _ _ ⟨_, _, ⟨_, rfl, rfl⟩, rfl, rfl⟩); conv => whnf) | (refine AW_cond rfl (fun hb => ?_) (fun hb => ?_) <;> first | (replace hb := of_decide_eq_true hb; try simp only [List.length_map] at hb) | (replace hb := of_decide_eq_false hb; try simp only [List.length_map] at hb) | (simp only [List.length_map, bne_iff_ne, ne_eq, beq_iff_eq, bne_eq_false_iff_eq, beq_eq_false_iff_ne, decide_eq_true_eq, decide_eq_false_iff_not, Bool.not_eq_true', Bool.not_eq_false', Int.natCast_inj] at hb) | skip) | ((first | refine andA ?_ | with_reducible refine Exists.intro _ (And.intro (gd_any (And.intro (by omega) (map_get (by omega)))) ?_) | fail); conv => whnf) | (refine fun hln => ?_; (try rw [List.length_map] at hln); unfold maxLen at hln; conv => whnf) | fail
    rename_i pp
    refine AW_loop (fun l : Nat => [(33, iv .i64 l), (32, iv .i64 8), (31, sl (otsL n flt xs 8 t)), (20, iv .i64 t), (19, iv .i64 xs.length), (18, sl xs), (7, .x (.sb 15 0 8 8)), (8, sl (stsL n flt xs 8 (t + 1))), (0, .x (.b 900 0))])
      (fun l => (15, .box [.o 600 (t + bt 0 l) (t + bt 0 l), .o 601 (t + bt 1 l) (t + bt 1 l), .o 602 (t + bt 2 l) (t + bt 2 l), .o 603 (t + bt 3 l) (t + bt 3 l), .o 604 (t + bt 4 l) (t + bt 4 l), .o 605 (t + bt 5 l) (t + bt 5 l), .o 606 (t + bt 6 l) (t + bt 6 l), .o 607 (t + bt 7 l) (t + bt 7 l)]) :: (600, rwOb n (flt 0) xs (t + bt 0 l)) :: (601, rwOb n (flt 1) xs (t + bt 1 l)) :: (602, rwOb n (flt 2) xs (t + bt 2 l)) :: (603, rwOb n (flt 3) xs (t + bt 3 l)) :: (604, rwOb n (flt 4) xs (t + bt 4 l)) :: (605, rwOb n (flt 5) xs (t + bt 5 l)) :: (606, rwOb n (flt 6) xs (t + bt 6 l)) :: (607, rwOb n (flt 7) xs (t + bt 7 l)) :: sB n s1 sk s2 (dl0 n) pp.1 pp.2.1 pp.2.2) (fun l => l ≤ 8) (fun l => 8 - l) 0 (Nat.zero_le _) impA ?_
    intro l hlk
    rcases Nat.lt_or_ge l 8 with hll | hll
    · have hg := ots_at n flt xs t hll
      have e := row_app n (flt l) xs t l
      have hq := bt_self l
      have hz := outsR_len n (flt l) xs (t + bt l l)
      obtain ⟨j, hj⟩ : ∃ j, j = l + 1 := ⟨_, rfl⟩
      have hl' : l = 0 ∨ l = 1 ∨ l = 2 ∨ l = 3 ∨ l = 4 ∨ l = 5 ∨ l = 6 ∨ l = 7 := by omega
      clear hol hbeat ht hlk hll
      rcases hl' with rfl | rfl | rfl | rfl | rfl | rfl | rfl | rfl
      all_goals
        repeat' first | with_reducible refine AW_seq ?_ | with_reducible refine AW_block ?_ | ((first | with_reducible refine AW_skip ?_ | with_reducible refine AW_region hTt ?_ | with_reducible refine Exists.intro _ (And.intro (gd_any (And.intro (by omega) hg)) ?_) | refine And.intro (gd_any (And.intro (by decide) (by decide))) ?_ | fail); conv => whnf) | ((refine And.intro ?_ ?_; focus (refine ⟨?_, ?_, ?_⟩ <;> simp [chunk, maxLen] <;> omega)); conv => whnf) | (refine AW_cond rfl (fun _ => ?_) (fun hb => absurd hb (by decide))) | ((first | refine ⟨_, wrap_of (by first | omega | (simp only [List.length_map]; omega)), ?_⟩ | refine andA ?_ | fail); conv => whnf) | fail
        exact ⟨j, by omega, by omega, by subst hj; exact impA⟩
    have hle : l = 8 := by omega
    subst hle
    repeat' first | with_reducible refine AW_seq ?_ | ((first | with_reducible refine AW_exit ?_ | with_reducible refine AW_region hTt ?_ | fail); conv => whnf) | (refine AW_cond rfl (fun hb => absurd hb (by decide)) (fun _ => ?_)) | ((refine ⟨_, wrap_of (by first | omega | (simp only [List.length_map]; omega)), ?_⟩); conv => whnf) | fail
    exact ⟨(t + 1, pp.1, pp.2.1, pp.2.2), by show t + 1 ≤ xs.length; omega, by show xs.length - (t + 1) < xs.length - t; omega, impA⟩
  · have hte : t = xs.length := by omega
    subst hte
    repeat' first | with_reducible refine AW_seq ?_ | with_reducible refine AW_block ?_ | ((first | with_reducible refine AW_skip ?_ | with_reducible refine AW_exit ?_ | with_reducible refine AW_ret ?_ | with_reducible refine AW_region hTt ?_ | fail); conv => whnf) | (exact absurd hb (by omega)) | (refine AW_cond rfl (fun hb => ?_) (fun hb => ?_) <;> first | (replace hb := of_decide_eq_true hb; try simp only [List.length_map] at hb) | (replace hb := of_decide_eq_false hb; try simp only [List.length_map] at hb) | (simp only [List.length_map, bne_iff_ne, ne_eq, beq_iff_eq, bne_eq_false_iff_eq, beq_eq_false_iff_ne, decide_eq_true_eq, decide_eq_false_iff_not, Bool.not_eq_true', Bool.not_eq_false', Int.natCast_inj] at hb) | skip) | fail
    refine ⟨_, sB n s1 sk s2 (dl0 n) a b c, ⟨rfl, rfl, rfl, rfl, trivial⟩, rfl, (?_ : _ = some (rowsAV ((List.range 8).map fun l => outsR n (flt l) xs xs.length))), (a, b, c), rfl, rfl⟩
    have hk := keepRows (σ := (15, .box [.o 600 xs.length xs.length, .o 601 xs.length xs.length, .o 602 xs.length xs.length, .o 603 xs.length xs.length, .o 604 xs.length xs.length, .o 605 xs.length xs.length, .o 606 xs.length xs.length, .o 607 xs.length xs.length]) :: (600, rwOb n (flt 0) xs xs.length) :: (601, rwOb n (flt 1) xs xs.length) :: (602, rwOb n (flt 2) xs xs.length) :: (603, rwOb n (flt 3) xs xs.length) :: (604, rwOb n (flt 4) xs xs.length) :: (605, rwOb n (flt 5) xs xs.length) :: (606, rwOb n (flt 6) xs xs.length) :: (607, rwOb n (flt 7) xs xs.length) :: sB n s1 sk s2 (dl0 n) a b c) (σ' := sB n s1 sk s2 (dl0 n) a b c) (id := 15) (n := 8) (cap := 8) (ps := [PV.s 1 ((outsR n (flt 0) xs xs.length).map iPV), PV.s 1 ((outsR n (flt 1) xs xs.length).map iPV), PV.s 1 ((outsR n (flt 2) xs xs.length).map iPV), PV.s 1 ((outsR n (flt 3) xs xs.length).map iPV), PV.s 1 ((outsR n (flt 4) xs xs.length).map iPV), PV.s 1 ((outsR n (flt 5) xs xs.length).map iPV), PV.s 1 ((outsR n (flt 6) xs xs.length).map iPV), PV.s 1 ((outsR n (flt 7) xs xs.length).map iPV)]) rfl rfl
      (by repeat' first | exact rfl | refine rowPVs_cons (rowPV_o rfl rfl (by rw [List.length_map, outsR_len])) ?_) rfl
    exact outKeep1 (x := .x (.sb 15 0 8 8)) rfl hk
end Go.Proofs.YtfghooojingdhaaDoor
namespace Go.Proofs.YtfghooojingdhaaDoor
open Go Go.QL
set_option maxHeartbeats 3200000
attribute [local irreducible] ACall FnC
theorem run_9 {n : NetT} (ok : NetOK n) {s1 : Nat} {sk : List (W16 × W16)} (hsk : sk.length = n.inn.toNat + n.gates.length) {s2 s3 k' : Nat} {nw : List W16}
    {flt : Nat → FaultT} (hl : LanesOK sk flt 9) (xs : List Int) (hxl : xs.length ≤ 4096) :
    ACall Tryd.prog 71 [.x (.b 900 0), iv .i64 9, sl xs] (sB n s1 sk s2 (dl0 n) s3 k' nw)
      (fun r σ' => ∃ p : Nat × Nat × List W16, r = rowsAV ((List.range 9).map fun l => outsR n (flt l) xs xs.length) ∧ σ' = sB n s1 sk s2 (dl0 n) p.1 p.2.1 p.2.2) := by
  refine ACall_of_AWD hTt Tryd.func71 rfl (by kernel_rfl) (res := [.tmp 6]) rfl Tryd.ntmps71 (by simp) fun w0 K0 B => ?_
  dsimp only [entry]
  repeat' first | with_reducible refine AW_seq ?_ | with_reducible refine AW_block ?_ | ((first | with_reducible refine AW_region hTt ?_ | refine AW_draw hTt hMix (id := 1) 5 true [0, 1, 0, 4, 3, 31] (by kernel_rfl) rfl rfl (by kernel_rfl) ?_ | refine Or.inr ?_ | refine andA ?_ | fail); conv => whnf) | (refine fun hln => ?_; (try rw [List.length_map] at hln); unfold maxLen at hln; conv => whnf) | fail
  refine AW_imp (Imp.freeze 17 (fr' := frR n flt xs 9) (σ' := (15, .box (cellsN 9 0 0)) :: sB n s1 sk s2 (dl0 n) s3 k' nw) rfl ?_ ?_ rfl rfl) ?_
  · exact ⟨⟨_, rfl, .inl rfl⟩, ⟨_, congrArg (fun k : Nat => some (iv .i64 k)) (List.length_map _), .inl rfl⟩, ⟨_, rfl, .inl rfl⟩, ⟨_, rfl, .inl rfl⟩, ⟨_, rfl, .inr ⟨9, rfl, Nat.le_of_ble_eq_true rfl, rfl⟩⟩, ⟨_, rfl, .inl rfl⟩, trivial⟩
  · exact ⟨rfl, rfl, rfl, rfl, rfl, trivial⟩
  refine AW_imp (Imp.nil 600 3 1 (fr' := frR n flt xs 9) (σ' := chN 0 ((15, .box (cellsN 9 0 1)) :: sB n s1 sk s2 (dl0 n) s3 k' nw)) rfl ⟨⟨_, rfl, .inl rfl⟩, ⟨_, rfl, .inl rfl⟩, ⟨_, rfl, .inl rfl⟩, ⟨_, rfl, .inl rfl⟩, ⟨_, rfl, .inl rfl⟩, ⟨_, rfl, .inl rfl⟩, trivial⟩ ?_ rfl rfl) ?_
  · exact ⟨⟨_, rfl, .inr ⟨_, _, rfl, rfl, .inr ⟨rfl, rfl⟩, .inl rfl, .inl rfl, .inl rfl, .inl rfl, .inl rfl, .inl rfl, .inl rfl, .inl rfl, trivial⟩⟩, ⟨_, rfl, .inl rfl⟩, ⟨_, rfl, .inl rfl⟩, ⟨_, rfl, .inl rfl⟩, ⟨_, rfl, .inl rfl⟩, trivial⟩
  refine AW_imp (Imp.nil 601 3 1 (fr' := frR n flt xs 9) (σ' := chN 1 ((15, .box (cellsN 9 0 2)) :: sB n s1 sk s2 (dl0 n) s3 k' nw)) rfl ⟨⟨_, rfl, .inl rfl⟩, ⟨_, rfl, .inl rfl⟩, ⟨_, rfl, .inl rfl⟩, ⟨_, rfl, .inl rfl⟩, ⟨_, rfl, .inl rfl⟩, ⟨_, rfl, .inl rfl⟩, trivial⟩ ?_ rfl rfl) ?_
  · exact ⟨⟨_, rfl, .inl rfl⟩, ⟨_, rfl, .inr ⟨_, _, rfl, rfl, .inl rfl, .inr ⟨rfl, rfl⟩, .inl rfl, .inl rfl, .inl rfl, .inl rfl, .inl rfl, .inl rfl, .inl rfl, trivial⟩⟩, ⟨_, rfl, .inl rfl⟩, ⟨_, rfl, .inl rfl⟩, ⟨_, rfl, .inl rfl⟩, ⟨_, rfl, .inl rfl⟩, trivial⟩
  refine AW_imp (Imp.nil 602 3 1 (fr' := frR n flt xs 9) (σ' := chN 2 ((15, .box (cellsN 9 0 3)) :: sB n s1 sk s2 (dl0 n) s3 k' nw)) rfl ⟨⟨_, rfl, .inl rfl⟩, ⟨_, rfl, .inl rfl⟩, ⟨_, rfl, .inl rfl⟩, ⟨_, rfl, .inl rfl⟩, ⟨_, rfl, .inl rfl⟩, ⟨_, rfl, .inl rfl⟩, trivial⟩ ?_ rfl rfl) ?_
  · exact ⟨⟨_, rfl, .inl rfl⟩, ⟨_, rfl, .inl rfl⟩, ⟨_, rfl, .inr ⟨_, _, rfl, rfl, .inl rfl, .inl rfl, .inr ⟨rfl, rfl⟩, .inl rfl, .inl rfl, .inl rfl, .inl rfl, .inl rfl, .inl rfl, trivial⟩⟩, ⟨_, rfl, .inl rfl⟩, ⟨_, rfl, .inl rfl⟩, ⟨_, rfl, .inl rfl⟩, ⟨_, rfl, .inl rfl⟩, trivial⟩
  refine AW_imp (Imp.nil 603 3 1 (fr' := frR n flt xs 9) (σ' := chN 3 ((15, .box (cellsN 9 0 4)) :: sB n s1 sk s2 (dl0 n) s3 k' nw)) rfl ⟨⟨_, rfl, .inl rfl⟩, ⟨_, rfl, .inl rfl⟩, ⟨_, rfl, .inl rfl⟩, ⟨_, rfl, .inl rfl⟩, ⟨_, rfl, .inl rfl⟩, ⟨_, rfl, .inl rfl⟩, trivial⟩ ?_ rfl rfl) ?_
  · exact ⟨⟨_, rfl, .inl rfl⟩, ⟨_, rfl, .inl rfl⟩, ⟨_, rfl, .inl rfl⟩, ⟨_, rfl, .inr ⟨_, _, rfl, rfl, .inl rfl, .inl rfl, .inl rfl, .inr ⟨rfl, rfl⟩, .inl rfl, .inl rfl, .inl rfl, .inl rfl, .inl rfl, trivial⟩⟩, ⟨_, rfl, .inl rfl⟩, ⟨_, rfl, .inl rfl⟩, ⟨_, rfl, .inl rfl⟩, ⟨_, rfl, .inl rfl⟩, trivial⟩
  refine AW_imp (Imp.nil 604 3 1 (fr' := frR n flt xs 9) (σ' := chN 4 ((15, .box (cellsN 9 0 5)) :: sB n s1 sk s2 (dl0 n) s3 k' nw)) rfl ⟨⟨_, rfl, .inl rfl⟩, ⟨_, rfl, .inl rfl⟩, ⟨_, rfl, .inl rfl⟩, ⟨_, rfl, .inl rfl⟩, ⟨_, rfl, .inl rfl⟩, ⟨_, rfl, .inl rfl⟩, trivial⟩ ?_ rfl rfl) ?_
  · exact ⟨⟨_, rfl, .inl rfl⟩, ⟨_, rfl, .inl rfl⟩, ⟨_, rfl, .inl rfl⟩, ⟨_, rfl, .inl rfl⟩, ⟨_, rfl, .inr ⟨_, _, rfl, rfl, .inl rfl, .inl rfl, .inl rfl, .inl rfl, .inr ⟨rfl, rfl⟩, .inl rfl, .inl rfl, .inl rfl, .inl rfl, trivial⟩⟩, ⟨_, rfl, .inl rfl⟩, ⟨_, rfl, .inl rfl⟩, ⟨_, rfl, .inl rfl⟩, ⟨_, rfl, .inl rfl⟩, trivial⟩
  refine AW_imp (Imp.nil 605 3 1 (fr' := frR n flt xs 9) (σ' := chN 5 ((15, .box (cellsN 9 0 6)) :: sB n s1 sk s2 (dl0 n) s3 k' nw)) rfl ⟨⟨_, rfl, .inl rfl⟩, ⟨_, rfl, .inl rfl⟩, ⟨_, rfl, .inl rfl⟩, ⟨_, rfl, .inl rfl⟩, ⟨_, rfl, .inl rfl⟩, ⟨_, rfl, .inl rfl⟩, trivial⟩ ?_ rfl rfl) ?_
  · exact ⟨⟨_, rfl, .inl rfl⟩, ⟨_, rfl, .inl rfl⟩, ⟨_, rfl, .inl rfl⟩, ⟨_, rfl, .inl rfl⟩, ⟨_, rfl, .inl rfl⟩, ⟨_, rfl, .inr ⟨_, _, rfl, rfl, .inl rfl, .inl rfl, .inl rfl, .inl rfl, .inl rfl, .inr ⟨rfl, rfl⟩, .inl rfl, .inl rfl, .inl rfl, trivial⟩⟩, ⟨_, rfl, .inl rfl⟩, ⟨_, rfl, .inl rfl⟩, ⟨_, rfl, .inl rfl⟩, ⟨_, rfl, .inl rfl⟩, trivial⟩
  refine AW_imp (Imp.nil 606 3 1 (fr' := frR n flt xs 9) (σ' := chN 6 ((15, .box (cellsN 9 0 7)) :: sB n s1 sk s2 (dl0 n) s3 k' nw)) rfl ⟨⟨_, rfl, .inl rfl⟩, ⟨_, rfl, .inl rfl⟩, ⟨_, rfl, .inl rfl⟩, ⟨_, rfl, .inl rfl⟩, ⟨_, rfl, .inl rfl⟩, ⟨_, rfl, .inl rfl⟩, trivial⟩ ?_ rfl rfl) ?_
  · exact ⟨⟨_, rfl, .inl rfl⟩, ⟨_, rfl, .inl rfl⟩, ⟨_, rfl, .inl rfl⟩, ⟨_, rfl, .inl rfl⟩, ⟨_, rfl, .inl rfl⟩, ⟨_, rfl, .inl rfl⟩, ⟨_, rfl, .inr ⟨_, _, rfl, rfl, .inl rfl, .inl rfl, .inl rfl, .inl rfl, .inl rfl, .inl rfl, .inr ⟨rfl, rfl⟩, .inl rfl, .inl rfl, trivial⟩⟩, ⟨_, rfl, .inl rfl⟩, ⟨_, rfl, .inl rfl⟩, ⟨_, rfl, .inl rfl⟩, ⟨_, rfl, .inl rfl⟩, trivial⟩
  refine AW_imp (Imp.nil 607 3 1 (fr' := frR n flt xs 9) (σ' := chN 7 ((15, .box (cellsN 9 0 8)) :: sB n s1 sk s2 (dl0 n) s3 k' nw)) rfl ⟨⟨_, rfl, .inl rfl⟩, ⟨_, rfl, .inl rfl⟩, ⟨_, rfl, .inl rfl⟩, ⟨_, rfl, .inl rfl⟩, ⟨_, rfl, .inl rfl⟩, ⟨_, rfl, .inl rfl⟩, trivial⟩ ?_ rfl rfl) ?_
  · exact ⟨⟨_, rfl, .inl rfl⟩, ⟨_, rfl, .inl rfl⟩, ⟨_, rfl, .inl rfl⟩, ⟨_, rfl, .inl rfl⟩, ⟨_, rfl, .inl rfl⟩, ⟨_, rfl, .inl rfl⟩, ⟨_, rfl, .inl rfl⟩, ⟨_, rfl, .inr ⟨_, _, rfl, rfl, .inl rfl, .inl rfl, .inl rfl, .inl rfl, .inl rfl, .inl rfl, .inl rfl, .inr ⟨rfl, rfl⟩, .inl rfl, trivial⟩⟩, ⟨_, rfl, .inl rfl⟩, ⟨_, rfl, .inl rfl⟩, ⟨_, rfl, .inl rfl⟩, ⟨_, rfl, .inl rfl⟩, trivial⟩
  refine AW_imp (Imp.nil 608 3 1 (fr' := frR n flt xs 9) (σ' := chN 8 ((15, .box (cellsN 9 0 9)) :: sB n s1 sk s2 (dl0 n) s3 k' nw)) rfl ⟨⟨_, rfl, .inl rfl⟩, ⟨_, rfl, .inl rfl⟩, ⟨_, rfl, .inl rfl⟩, ⟨_, rfl, .inl rfl⟩, ⟨_, rfl, .inl rfl⟩, ⟨_, rfl, .inl rfl⟩, trivial⟩ ?_ rfl rfl) ?_
  · exact ⟨⟨_, rfl, .inl rfl⟩, ⟨_, rfl, .inl rfl⟩, ⟨_, rfl, .inl rfl⟩, ⟨_, rfl, .inl rfl⟩, ⟨_, rfl, .inl rfl⟩, ⟨_, rfl, .inl rfl⟩, ⟨_, rfl, .inl rfl⟩, ⟨_, rfl, .inl rfl⟩, ⟨_, rfl, .inr ⟨_, _, rfl, rfl, .inl rfl, .inl rfl, .inl rfl, .inl rfl, .inl rfl, .inl rfl, .inl rfl, .inl rfl, .inr ⟨rfl, rfl⟩, trivial⟩⟩, ⟨_, rfl, .inl rfl⟩, ⟨_, rfl, .inl rfl⟩, ⟨_, rfl, .inl rfl⟩, ⟨_, rfl, .inl rfl⟩, trivial⟩
  refine AW_loop (fun p : Nat × Nat × Nat × List W16 => [(20, iv .i64 p.1), (19, iv .i64 xs.length), (18, sl xs), (7, .x (.sb 15 0 9 9)), (8, sl (stsL n flt xs 9 p.1)), (0, .x (.b 900 0))])
    (fun p => (15, .box [.o 600 (p.1) (p.1), .o 601 (p.1) (p.1), .o 602 (p.1) (p.1), .o 603 (p.1) (p.1), .o 604 (p.1) (p.1), .o 605 (p.1) (p.1), .o 606 (p.1) (p.1), .o 607 (p.1) (p.1), .o 608 (p.1) (p.1)]) :: (600, rwOb n (flt 0) xs (p.1)) :: (601, rwOb n (flt 1) xs (p.1)) :: (602, rwOb n (flt 2) xs (p.1)) :: (603, rwOb n (flt 3) xs (p.1)) :: (604, rwOb n (flt 4) xs (p.1)) :: (605, rwOb n (flt 5) xs (p.1)) :: (606, rwOb n (flt 6) xs (p.1)) :: (607, rwOb n (flt 7) xs (p.1)) :: (608, rwOb n (flt 8) xs (p.1)) :: sB n s1 sk s2 (dl0 n) p.2.1 p.2.2.1 p.2.2.2)
    (fun p => p.1 ≤ xs.length) (fun p => xs.length - p.1) (0, s3, k', nw) (Nat.zero_le _) impA ?_
  rintro ⟨t, a, b, c⟩ ht
  dsimp only at ht ⊢
  rcases Nat.lt_or_ge t xs.length with htl | htl
  · have hbeat := fun s3 k' nw => beat_lanes ok (s1 := s1) hsk (s2 := s2) (s3 := s3) (k' := k') (nw := nw) (k := 9) (by decide) hl xs t xs[t] (getDI htl)
    have hol := otsL_len n flt xs 9 t
    repeat' first | with_reducible refine AW_seq ?_ | with_reducible refine AW_block ?_ | ((first | with_reducible refine AW_skip ?_ | with_reducible refine AW_exit ?_ | with_reducible refine AW_ret ?_ | with_reducible refine AW_region hTt ?_ | fail); conv => whnf) | (exact absurd hb (by omega)) | ((refine ⟨_, (hbeat a b c).frame (asc []) (by repeat (first | exact trivial | refine ⟨rfl, ?_⟩)) rfl (by rintro _ _ ⟨_, rfl, rfl⟩; rfl), ?_⟩); (rintro _ _ ⟨_, _, ⟨_, rfl, rfl⟩, rfl, rfl⟩); conv => whnf) | (refine AW_cond rfl (fun hb => ?_) (fun hb => ?_) <;> first | (replace hb := of_decide_eq_true hb; try simp only [List.length_map] at hb) | (replace hb := of_decide_eq_false hb; try simp only [List.length_map] at hb) | (simp only [List.length_map, bne_iff_ne, ne_eq, beq_iff_eq, bne_eq_false_iff_eq, beq_eq_false_iff_ne, decide_eq_true_eq, decide_eq_false_iff_not, Bool.not_eq_true', Bool.not_eq_false', Int.natCast_inj] at hb) | skip) | ((first | refine andA ?_ | with_reducible refine Exists.intro _ (And.intro (gd_any (And.intro (by omega) (map_get (by omega)))) ?_) | fail); conv => whnf) | (refine fun hln => ?_; (try rw [List.length_map] at hln); unfold maxLen at hln; conv => whnf) | fail
    rename_i pp
    refine AW_loop (fun l : Nat => [(33, iv .i64 l), (32, iv .i64 9), (31, sl (otsL n flt xs 9 t)), (20, iv .i64 t), (19, iv .i64 xs.length), (18, sl xs), (7, .x (.sb 15 0 9 9)), (8, sl (stsL n flt xs 9 (t + 1))), (0, .x (.b 900 0))])
      (fun l => (15, .box [.o 600 (t + bt 0 l) (t + bt 0 l), .o 601 (t + bt 1 l) (t + bt 1 l), .o 602 (t + bt 2 l) (t + bt 2 l), .o 603 (t + bt 3 l) (t + bt 3 l), .o 604 (t + bt 4 l) (t + bt 4 l), .o 605 (t + bt 5 l) (t + bt 5 l), .o 606 (t + bt 6 l) (t + bt 6 l), .o 607 (t + bt 7 l) (t + bt 7 l), .o 608 (t + bt 8 l) (t + bt 8 l)]) :: (600, rwOb n (flt 0) xs (t + bt 0 l)) :: (601, rwOb n (flt 1) xs (t + bt 1 l)) :: (602, rwOb n (flt 2) xs (t + bt 2 l)) :: (603, rwOb n (flt 3) xs (t + bt 3 l)) :: (604, rwOb n (flt 4) xs (t + bt 4 l)) :: (605, rwOb n (flt 5) xs (t + bt 5 l)) :: (606, rwOb n (flt 6) xs (t + bt 6 l)) :: (607, rwOb n (flt 7) xs (t + bt 7 l)) :: (608, rwOb n (flt 8) xs (t + bt 8 l)) :: sB n s1 sk s2 (dl0 n) pp.1 pp.2.1 pp.2.2) (fun l => l ≤ 9) (fun l => 9 - l) 0 (Nat.zero_le _) impA ?_
    intro l hlk
    rcases Nat.lt_or_ge l 9 with hll | hll
    · have hg := ots_at n flt xs t hll
      have e := row_app n (flt l) xs t l
      have hq := bt_self l
      have hz := outsR_len n (flt l) xs (t + bt l l)
      obtain ⟨j, hj⟩ : ∃ j, j = l + 1 := ⟨_, rfl⟩
      have hl' : l = 0 ∨ l = 1 ∨ l = 2 ∨ l = 3 ∨ l = 4 ∨ l = 5 ∨ l = 6 ∨ l = 7 ∨ l = 8 := by omega
      clear hol hbeat ht hlk hll
      rcases hl' with rfl | rfl | rfl | rfl | rfl | rfl | rfl | rfl | rfl
      all_goals
        repeat' first | with_reducible refine AW_seq ?_ | with_reducible refine AW_block ?_ | ((first | with_reducible refine AW_skip ?_ | with_reducible refine AW_region hTt ?_ | with_reducible refine Exists.intro _ (And.intro (gd_any (And.intro (by omega) hg)) ?_) | refine And.intro (gd_any (And.intro (by decide) (by decide))) ?_ | fail); conv => whnf) | ((refine And.intro ?_ ?_; focus (refine ⟨?_, ?_, ?_⟩ <;> simp [chunk, maxLen] <;> omega)); conv => whnf) | (refine AW_cond rfl (fun _ => ?_) (fun hb => absurd hb (by decide))) | ((first | refine ⟨_, wrap_of (by first | omega | (simp only [List.length_map]; omega)), ?_⟩ | refine andA ?_ | fail); conv => whnf) | fail
        exact ⟨j, by omega, by omega, by subst hj; exact impA⟩
    have hle : l = 9 := by omega
    subst hle
    repeat' first | with_reducible refine AW_seq ?_ | ((first | with_reducible refine AW_exit ?_ | with_reducible refine AW_region hTt ?_ | fail); conv => whnf) | (refine AW_cond rfl (fun hb => absurd hb (by decide)) (fun _ => ?_)) | ((refine ⟨_, wrap_of (by first | omega | (simp only [List.length_map]; omega)), ?_⟩); conv => whnf) | fail
    exact ⟨(t + 1, pp.1, pp.2.1, pp.2.2), by show t + 1 ≤ xs.length; omega, by show xs.length - (t + 1) < xs.length - t; omega, impA⟩
  · have hte : t = xs.length := by omega
    subst hte
    repeat' first | with_reducible refine AW_seq ?_ | with_reducible refine AW_block ?_ | ((first | with_reducible refine AW_skip ?_ | with_reducible refine AW_exit ?_ | with_reducible refine AW_ret ?_ | with_reducible refine AW_region hTt ?_ | fail); conv => whnf) | (exact absurd hb (by omega)) | (refine AW_cond rfl (fun hb => ?_) (fun hb => ?_) <;> first | (replace hb := of_decide_eq_true hb; try simp only [List.length_map] at hb) | (replace hb := of_decide_eq_false hb; try simp only [List.length_map] at hb) | (simp only [List.length_map, bne_iff_ne, ne_eq, beq_iff_eq, bne_eq_false_iff_eq, beq_eq_false_iff_ne, decide_eq_true_eq, decide_eq_false_iff_not, Bool.not_eq_true', Bool.not_eq_false', Int.natCast_inj] at hb) | skip) | fail
    refine ⟨_, sB n s1 sk s2 (dl0 n) a b c, ⟨rfl, rfl, rfl, rfl, trivial⟩, rfl, (?_ : _ = some (rowsAV ((List.range 9).map fun l => outsR n (flt l) xs xs.length))), (a, b, c), rfl, rfl⟩
    have hk := keepRows (σ := (15, .box [.o 600 xs.length xs.length, .o 601 xs.length xs.length, .o 602 xs.length xs.length, .o 603 xs.length xs.length, .o 604 xs.length xs.length, .o 605 xs.length xs.length, .o 606 xs.length xs.length, .o 607 xs.length xs.length, .o 608 xs.length xs.length]) :: (600, rwOb n (flt 0) xs xs.length) :: (601, rwOb n (flt 1) xs xs.length) :: (602, rwOb n (flt 2) xs xs.length) :: (603, rwOb n (flt 3) xs xs.length) :: (604, rwOb n (flt 4) xs xs.length) :: (605, rwOb n (flt 5) xs xs.length) :: (606, rwOb n (flt 6) xs xs.length) :: (607, rwOb n (flt 7) xs xs.length) :: (608, rwOb n (flt 8) xs xs.length) :: sB n s1 sk s2 (dl0 n) a b c) (σ' := sB n s1 sk s2 (dl0 n) a b c) (id := 15) (n := 9) (cap := 9) (ps := [PV.s 1 ((outsR n (flt 0) xs xs.length).map iPV), PV.s 1 ((outsR n (flt 1) xs xs.length).map iPV), PV.s 1 ((outsR n (flt 2) xs xs.length).map iPV), PV.s 1 ((outsR n (flt 3) xs xs.length).map iPV), PV.s 1 ((outsR n (flt 4) xs xs.length).map iPV), PV.s 1 ((outsR n (flt 5) xs xs.length).map iPV), PV.s 1 ((outsR n (flt 6) xs xs.length).map iPV), PV.s 1 ((outsR n (flt 7) xs xs.length).map iPV), PV.s 1 ((outsR n (flt 8) xs xs.length).map iPV)]) rfl rfl
      (by repeat' first | exact rfl | refine rowPVs_cons (rowPV_o rfl rfl (by rw [List.length_map, outsR_len])) ?_) rfl
    exact outKeep1 (x := .x (.sb 15 0 9 9)) rfl hk
end Go.Proofs.YtfghooojingdhaaDoor
namespace Go.Proofs.YtfghooojingdhaaDoor
open Go Go.QL
set_option maxHeartbeats 3200000
attribute [local irreducible] ACall FnC
theorem run_10 {n : NetT} (ok : NetOK n) {s1 : Nat} {sk : List (W16 × W16)} (hsk : sk.length = n.inn.toNat + n.gates.length) {s2 s3 k' : Nat} {nw : List W16}
    {flt : Nat → FaultT} (hl : LanesOK sk flt 10) (xs : List Int) (hxl : xs.length ≤ 4096) :
    ACall Tryd.prog 71 [.x (.b 900 0), iv .i64 10, sl xs] (sB n s1 sk s2 (dl0 n) s3 k' nw)
      (fun r σ' => ∃ p : Nat × Nat × List W16, r = rowsAV ((List.range 10).map fun l => outsR n (flt l) xs xs.length) ∧ σ' = sB n s1 sk s2 (dl0 n) p.1 p.2.1 p.2.2) := by
  refine ACall_of_AWD hTt Tryd.func71 rfl (by kernel_rfl) (res := [.tmp 6]) rfl Tryd.ntmps71 (by simp) fun w0 K0 B => ?_
  dsimp only [entry]
  repeat' first | with_reducible refine AW_seq ?_ | with_reducible refine AW_block ?_ | ((first | with_reducible refine AW_region hTt ?_ | refine AW_draw hTt hMix (id := 1) 5 true [0, 1, 0, 4, 3, 31] (by kernel_rfl) rfl rfl (by kernel_rfl) ?_ | refine Or.inr ?_ | refine andA ?_ | fail); conv => whnf) | (refine fun hln => ?_; (try rw [List.length_map] at hln); unfold maxLen at hln; conv => whnf) | fail
  refine AW_imp (Imp.freeze 17 (fr' := frR n flt xs 10) (σ' := (15, .box (cellsN 10 0 0)) :: sB n s1 sk s2 (dl0 n) s3 k' nw) rfl ?_ ?_ rfl rfl) ?_
  · exact ⟨⟨_, rfl, .inl rfl⟩, ⟨_, congrArg (fun k : Nat => some (iv .i64 k)) (List.length_map _), .inl rfl⟩, ⟨_, rfl, .inl rfl⟩, ⟨_, rfl, .inl rfl⟩, ⟨_, rfl, .inr ⟨10, rfl, Nat.le_of_ble_eq_true rfl, rfl⟩⟩, ⟨_, rfl, .inl rfl⟩, trivial⟩
  · exact ⟨rfl, rfl, rfl, rfl, rfl, trivial⟩
  refine AW_imp (Imp.nil 600 3 1 (fr' := frR n flt xs 10) (σ' := chN 0 ((15, .box (cellsN 10 0 1)) :: sB n s1 sk s2 (dl0 n) s3 k' nw)) rfl ⟨⟨_, rfl, .inl rfl⟩, ⟨_, rfl, .inl rfl⟩, ⟨_, rfl, .inl rfl⟩, ⟨_, rfl, .inl rfl⟩, ⟨_, rfl, .inl rfl⟩, ⟨_, rfl, .inl rfl⟩, trivial⟩ ?_ rfl rfl) ?_
  · exact ⟨⟨_, rfl, .inr ⟨_, _, rfl, rfl, .inr ⟨rfl, rfl⟩, .inl rfl, .inl rfl, .inl rfl, .inl rfl, .inl rfl, .inl rfl, .inl rfl, .inl rfl, .inl rfl, trivial⟩⟩, ⟨_, rfl, .inl rfl⟩, ⟨_, rfl, .inl rfl⟩, ⟨_, rfl, .inl rfl⟩, ⟨_, rfl, .inl rfl⟩, trivial⟩
  refine AW_imp (Imp.nil 601 3 1 (fr' := frR n flt xs 10) (σ' := chN 1 ((15, .box (cellsN 10 0 2)) :: sB n s1 sk s2 (dl0 n) s3 k' nw)) rfl ⟨⟨_, rfl, .inl rfl⟩, ⟨_, rfl, .inl rfl⟩, ⟨_, rfl, .inl rfl⟩, ⟨_, rfl, .inl rfl⟩, ⟨_, rfl, .inl rfl⟩, ⟨_, rfl, .inl rfl⟩, trivial⟩ ?_ rfl rfl) ?_
  · exact ⟨⟨_, rfl, .inl rfl⟩, ⟨_, rfl, .inr ⟨_, _, rfl, rfl, .inl rfl, .inr ⟨rfl, rfl⟩, .inl rfl, .inl rfl, .inl rfl, .inl rfl, .inl rfl, .inl rfl, .inl rfl, .inl rfl, trivial⟩⟩, ⟨_, rfl, .inl rfl⟩, ⟨_, rfl, .inl rfl⟩, ⟨_, rfl, .inl rfl⟩, ⟨_, rfl, .inl rfl⟩, trivial⟩
  refine AW_imp (Imp.nil 602 3 1 (fr' := frR n flt xs 10) (σ' := chN 2 ((15, .box (cellsN 10 0 3)) :: sB n s1 sk s2 (dl0 n) s3 k' nw)) rfl ⟨⟨_, rfl, .inl rfl⟩, ⟨_, rfl, .inl rfl⟩, ⟨_, rfl, .inl rfl⟩, ⟨_, rfl, .inl rfl⟩, ⟨_, rfl, .inl rfl⟩, ⟨_, rfl, .inl rfl⟩, trivial⟩ ?_ rfl rfl) ?_
  · exact ⟨⟨_, rfl, .inl rfl⟩, ⟨_, rfl, .inl rfl⟩, ⟨_, rfl, .inr ⟨_, _, rfl, rfl, .inl rfl, .inl rfl, .inr ⟨rfl, rfl⟩, .inl rfl, .inl rfl, .inl rfl, .inl rfl, .inl rfl, .inl rfl, .inl rfl, trivial⟩⟩, ⟨_, rfl, .inl rfl⟩, ⟨_, rfl, .inl rfl⟩, ⟨_, rfl, .inl rfl⟩, ⟨_, rfl, .inl rfl⟩, trivial⟩
  refine AW_imp (Imp.nil 603 3 1 (fr' := frR n flt xs 10) (σ' := chN 3 ((15, .box (cellsN 10 0 4)) :: sB n s1 sk s2 (dl0 n) s3 k' nw)) rfl ⟨⟨_, rfl, .inl rfl⟩, ⟨_, rfl, .inl rfl⟩, ⟨_, rfl, .inl rfl⟩, ⟨_, rfl, .inl rfl⟩, ⟨_, rfl, .inl rfl⟩, ⟨_, rfl, .inl rfl⟩, trivial⟩ ?_ rfl rfl) ?_
  · exact ⟨⟨_, rfl, .inl rfl⟩, ⟨_, rfl, .inl rfl⟩, ⟨_, rfl, .inl rfl⟩, ⟨_, rfl, .inr ⟨_, _, rfl, rfl, .inl rfl, .inl rfl, .inl rfl, .inr ⟨rfl, rfl⟩, .inl rfl, .inl rfl, .inl rfl, .inl rfl, .inl rfl, .inl rfl, trivial⟩⟩, ⟨_, rfl, .inl rfl⟩, ⟨_, rfl, .inl rfl⟩, ⟨_, rfl, .inl rfl⟩, ⟨_, rfl, .inl rfl⟩, trivial⟩
  refine AW_imp (Imp.nil 604 3 1 (fr' := frR n flt xs 10) (σ' := chN 4 ((15, .box (cellsN 10 0 5)) :: sB n s1 sk s2 (dl0 n) s3 k' nw)) rfl ⟨⟨_, rfl, .inl rfl⟩, ⟨_, rfl, .inl rfl⟩, ⟨_, rfl, .inl rfl⟩, ⟨_, rfl, .inl rfl⟩, ⟨_, rfl, .inl rfl⟩, ⟨_, rfl, .inl rfl⟩, trivial⟩ ?_ rfl rfl) ?_
  · exact ⟨⟨_, rfl, .inl rfl⟩, ⟨_, rfl, .inl rfl⟩, ⟨_, rfl, .inl rfl⟩, ⟨_, rfl, .inl rfl⟩, ⟨_, rfl, .inr ⟨_, _, rfl, rfl, .inl rfl, .inl rfl, .inl rfl, .inl rfl, .inr ⟨rfl, rfl⟩, .inl rfl, .inl rfl, .inl rfl, .inl rfl, .inl rfl, trivial⟩⟩, ⟨_, rfl, .inl rfl⟩, ⟨_, rfl, .inl rfl⟩, ⟨_, rfl, .inl rfl⟩, ⟨_, rfl, .inl rfl⟩, trivial⟩
  refine AW_imp (Imp.nil 605 3 1 (fr' := frR n flt xs 10) (σ' := chN 5 ((15, .box (cellsN 10 0 6)) :: sB n s1 sk s2 (dl0 n) s3 k' nw)) rfl ⟨⟨_, rfl, .inl rfl⟩, ⟨_, rfl, .inl rfl⟩, ⟨_, rfl, .inl rfl⟩, ⟨_, rfl, .inl rfl⟩, ⟨_, rfl, .inl rfl⟩, ⟨_, rfl, .inl rfl⟩, trivial⟩ ?_ rfl rfl) ?_
  · exact ⟨⟨_, rfl, .inl rfl⟩, ⟨_, rfl, .inl rfl⟩, ⟨_, rfl, .inl rfl⟩, ⟨_, rfl, .inl rfl⟩, ⟨_, rfl, .inl rfl⟩, ⟨_, rfl, .inr ⟨_, _, rfl, rfl, .inl rfl, .inl rfl, .inl rfl, .inl rfl, .inl rfl, .inr ⟨rfl, rfl⟩, .inl rfl, .inl rfl, .inl rfl, .inl rfl, trivial⟩⟩, ⟨_, rfl, .inl rfl⟩, ⟨_, rfl, .inl rfl⟩, ⟨_, rfl, .inl rfl⟩, ⟨_, rfl, .inl rfl⟩, trivial⟩
  refine AW_imp (Imp.nil 606 3 1 (fr' := frR n flt xs 10) (σ' := chN 6 ((15, .box (cellsN 10 0 7)) :: sB n s1 sk s2 (dl0 n) s3 k' nw)) rfl ⟨⟨_, rfl, .inl rfl⟩, ⟨_, rfl, .inl rfl⟩, ⟨_, rfl, .inl rfl⟩, ⟨_, rfl, .inl rfl⟩, ⟨_, rfl, .inl rfl⟩, ⟨_, rfl, .inl rfl⟩, trivial⟩ ?_ rfl rfl) ?_
  · exact ⟨⟨_, rfl, .inl rfl⟩, ⟨_, rfl, .inl rfl⟩, ⟨_, rfl, .inl rfl⟩, ⟨_, rfl, .inl rfl⟩, ⟨_, rfl, .inl rfl⟩, ⟨_, rfl, .inl rfl⟩, ⟨_, rfl, .inr ⟨_, _, rfl, rfl, .inl rfl, .inl rfl, .inl rfl, .inl rfl, .inl rfl, .inl rfl, .inr ⟨rfl, rfl⟩, .inl rfl, .inl rfl, .inl rfl, trivial⟩⟩, ⟨_, rfl, .inl rfl⟩, ⟨_, rfl, .inl rfl⟩, ⟨_, rfl, .inl rfl⟩, ⟨_, rfl, .inl rfl⟩, trivial⟩
  refine AW_imp (Imp.nil 607 3 1 (fr' := frR n flt xs 10) (σ' := chN 7 ((15, .box (cellsN 10 0 8)) :: sB n s1 sk s2 (dl0 n) s3 k' nw)) rfl ⟨⟨_, rfl, .inl rfl⟩, ⟨_, rfl, .inl rfl⟩, ⟨_, rfl, .inl rfl⟩, ⟨_, rfl, .inl rfl⟩, ⟨_, rfl, .inl rfl⟩, ⟨_, rfl, .inl rfl⟩, trivial⟩ ?_ rfl rfl) ?_
  · exact ⟨⟨_, rfl, .inl rfl⟩, ⟨_, rfl, .inl rfl⟩, ⟨_, rfl, .inl rfl⟩, ⟨_, rfl, .inl rfl⟩, ⟨_, rfl, .inl rfl⟩, ⟨_, rfl, .inl rfl⟩, ⟨_, rfl, .inl rfl⟩, ⟨_, rfl, .inr ⟨_, _, rfl, rfl, .inl rfl, .inl rfl, .inl rfl, .inl rfl, .inl rfl, .inl rfl, .inl rfl, .inr ⟨rfl, rfl⟩, .inl rfl, .inl rfl, trivial⟩⟩, ⟨_, rfl, .inl rfl⟩, ⟨_, rfl, .inl rfl⟩, ⟨_, rfl, .inl rfl⟩, ⟨_, rfl, .inl rfl⟩, trivial⟩
  refine AW_imp (Imp.nil 608 3 1 (fr' := frR n flt xs 10) (σ' := chN 8 ((15, .box (cellsN 10 0 9)) :: sB n s1 sk s2 (dl0 n) s3 k' nw)) rfl ⟨⟨_, rfl, .inl rfl⟩, ⟨_, rfl, .inl rfl⟩, ⟨_, rfl, .inl rfl⟩, ⟨_, rfl, .inl rfl⟩, ⟨_, rfl, .inl rfl⟩, ⟨_, rfl, .inl rfl⟩, trivial⟩ ?_ rfl rfl) ?_
  · exact ⟨⟨_, rfl, .inl rfl⟩, ⟨_, rfl, .inl rfl⟩, ⟨_, rfl, .inl rfl⟩, ⟨_, rfl, .inl rfl⟩, ⟨_, rfl, .inl rfl⟩, ⟨_, rfl, .inl rfl⟩, ⟨_, rfl, .inl rfl⟩, ⟨_, rfl, .inl rfl⟩, ⟨_, rfl, .inr ⟨_, _, rfl, rfl, .inl rfl, .inl rfl, .inl rfl, .inl rfl, .inl rfl, .inl rfl, .inl rfl, .inl rfl, .inr ⟨rfl, rfl⟩, .inl rfl, trivial⟩⟩, ⟨_, rfl, .inl rfl⟩, ⟨_, rfl, .inl rfl⟩, ⟨_, rfl, .inl rfl⟩, ⟨_, rfl, .inl rfl⟩, trivial⟩
  refine AW_imp (Imp.nil 609 3 1 (fr' := frR n flt xs 10) (σ' := chN 9 ((15, .box (cellsN 10 0 10)) :: sB n s1 sk s2 (dl0 n) s3 k' nw)) rfl ⟨⟨_, rfl, .inl rfl⟩, ⟨_, rfl, .inl rfl⟩, ⟨_, rfl, .inl rfl⟩, ⟨_, rfl, .inl rfl⟩, ⟨_, rfl, .inl rfl⟩, ⟨_, rfl, .inl rfl⟩, trivial⟩ ?_ rfl rfl) ?_
  · exact ⟨⟨_, rfl, .inl rfl⟩, ⟨_, rfl, .inl rfl⟩, ⟨_, rfl, .inl rfl⟩, ⟨_, rfl, .inl rfl⟩, ⟨_, rfl, .inl rfl⟩, ⟨_, rfl, .inl rfl⟩, ⟨_, rfl, .inl rfl⟩, ⟨_, rfl, .inl rfl⟩, ⟨_, rfl, .inl rfl⟩, ⟨_, rfl, .inr ⟨_, _, rfl, rfl, .inl rfl, .inl rfl, .inl rfl, .inl rfl, .inl rfl, .inl rfl, .inl rfl, .inl rfl, .inl rfl, .inr ⟨rfl, rfl⟩, trivial⟩⟩, ⟨_, rfl, .inl rfl⟩, ⟨_, rfl, .inl rfl⟩, ⟨_, rfl, .inl rfl⟩, ⟨_, rfl, .inl rfl⟩, trivial⟩
  refine AW_loop (fun p : Nat × Nat × Nat × List W16 => [(20, iv .i64 p.1), (19, iv .i64 xs.length), (18, sl xs), (7, .x (.sb 15 0 10 10)), (8, sl (stsL n flt xs 10 p.1)), (0, .x (.b 900 0))])
    (fun p => (15, .box [.o 600 (p.1) (p.1), .o 601 (p.1) (p.1), .o 602 (p.1) (p.1), .o 603 (p.1) (p.1), .o 604 (p.1) (p.1), .o 605 (p.1) (p.1), .o 606 (p.1) (p.1), .o 607 (p.1) (p.1), .o 608 (p.1) (p.1), .o 609 (p.1) (p.1)]) :: (600, rwOb n (flt 0) xs (p.1)) :: (601, rwOb n (flt 1) xs (p.1)) :: (602, rwOb n (flt 2) xs (p.1)) :: (603, rwOb n (flt 3) xs (p.1)) :: (604, rwOb n (flt 4) xs (p.1)) :: (605, rwOb n (flt 5) xs (p.1)) :: (606, rwOb n (flt 6) xs (p.1)) :: (607, rwOb n (flt 7) xs (p.1)) :: (608, rwOb n (flt 8) xs (p.1)) :: (609, rwOb n (flt 9) xs (p.1)) :: sB n s1 sk s2 (dl0 n) p.2.1 p.2.2.1 p.2.2.2)
    (fun p => p.1 ≤ xs.length) (fun p => xs.length - p.1) (0, s3, k', nw) (Nat.zero_le _) impA ?_
  rintro ⟨t, a, b, c⟩ ht
  dsimp only at ht ⊢
  rcases Nat.lt_or_ge t xs.length with htl | htl
  · have hbeat := fun s3 k' nw => beat_lanes ok (s1 := s1) hsk (s2 := s2) (s3 := s3) (k' := k') (nw := nw) (k := 10) (by decide) hl xs t xs[t] (getDI htl)
    have hol := otsL_len n flt xs 10 t
    repeat' first | with_reducible refine AW_seq ?_ | with_reducible refine AW_block ?_ | ((first | with_reducible refine AW_skip ?_ | with_reducible refine AW_exit ?_ | with_reducible refine AW_ret ?_ | with_reducible refine AW_region hTt ?_ | fail); conv => whnf) | (exact absurd hb (by omega)) | ((refine ⟨_, (hbeat a b c).frame (asc []) (by repeat (first | exact trivial | refine ⟨rfl, ?_⟩)) rfl (by rintro _ _ ⟨_, rfl, rfl⟩; rfl), ?_⟩); (rintro _ _ ⟨_, _, ⟨_, rfl, rfl⟩, rfl, rfl⟩); conv => whnf) | (refine AW_cond rfl (fun hb => ?_) (fun hb => ?_) <;> first | (replace hb := of_decide_eq_true hb; try simp only [List.length_map] at hb) | (replace hb := of_decide_eq_false hb; try simp only [List.length_map] at hb) | (simp only [List.length_map, bne_iff_ne, ne_eq, beq_iff_eq, bne_eq_false_iff_eq, beq_eq_false_iff_ne, decide_eq_true_eq, decide_eq_false_iff_not, Bool.not_eq_true', Bool.not_eq_false', Int.natCast_inj] at hb) | skip) | ((first | refine andA ?_ | with_reducible refine Exists.intro _ (And.intro (gd_any (And.intro (by omega) (map_get (by omega)))) ?_) | fail); conv => whnf) | (refine fun hln => ?_; (try rw [List.length_map] at hln); unfold maxLen at hln; conv => whnf) | fail
    rename_i pp
    refine AW_loop (fun l : Nat => [(33, iv .i64 l), (32, iv .i64 10), (31, sl (otsL n flt xs 10 t)), (20, iv .i64 t), (19, iv .i64 xs.length), (18, sl xs), (7, .x (.sb 15 0 10 10)), (8, sl (stsL n flt xs 10 (t + 1))), (0, .x (.b 900 0))])
      (fun l => (15, .box [.o 600 (t + bt 0 l) (t + bt 0 l), .o 601 (t + bt 1 l) (t + bt 1 l), .o 602 (t + bt 2 l) (t + bt 2 l), .o 603 (t + bt 3 l) (t + bt 3 l), .o 604 (t + bt 4 l) (t + bt 4 l), .o 605 (t + bt 5 l) (t + bt 5 l), .o 606 (t + bt 6 l) (t + bt 6 l), .o 607 (t + bt 7 l) (t + bt 7 l), .o 608 (t + bt 8 l) (t + bt 8 l), .o 609 (t + bt 9 l) (t + bt 9 l)]) :: (600, rwOb n (flt 0) xs (t + bt 0 l)) :: (601, rwOb n (flt 1) xs (t + bt 1 l)) :: (602, rwOb n (flt 2) xs (t + bt 2 l)) :: (603, rwOb n (flt 3) xs (t + bt 3 l)) :: (604, rwOb n (flt 4) xs (t + bt 4 l)) :: (605, rwOb n (flt 5) xs (t + bt 5 l)) :: (606, rwOb n (flt 6) xs (t + bt 6 l)) :: (607, rwOb n (flt 7) xs (t + bt 7 l)) :: (608, rwOb n (flt 8) xs (t + bt 8 l)) :: (609, rwOb n (flt 9) xs (t + bt 9 l)) :: sB n s1 sk s2 (dl0 n) pp.1 pp.2.1 pp.2.2) (fun l => l ≤ 10) (fun l => 10 - l) 0 (Nat.zero_le _) impA ?_
    intro l hlk
    rcases Nat.lt_or_ge l 10 with hll | hll
    · have hg := ots_at n flt xs t hll
      have e := row_app n (flt l) xs t l
      have hq := bt_self l
      have hz := outsR_len n (flt l) xs (t + bt l l)
      obtain ⟨j, hj⟩ : ∃ j, j = l + 1 := ⟨_, rfl⟩
      have hl' : l = 0 ∨ l = 1 ∨ l = 2 ∨ l = 3 ∨ l = 4 ∨ l = 5 ∨ l = 6 ∨ l = 7 ∨ l = 8 ∨ l = 9 := by omega
      clear hol hbeat ht hlk hll
      rcases hl' with rfl | rfl | rfl | rfl | rfl | rfl | rfl | rfl | rfl | rfl
      all_goals
        repeat' first | with_reducible refine AW_seq ?_ | with_reducible refine AW_block ?_ | ((first | with_reducible refine AW_skip ?_ | with_reducible refine AW_region hTt ?_ | with_reducible refine Exists.intro _ (And.intro (gd_any (And.intro (by omega) hg)) ?_) | refine And.intro (gd_any (And.intro (by decide) (by decide))) ?_ | fail); conv => whnf) | ((refine And.intro ?_ ?_; focus (refine ⟨?_, ?_, ?_⟩ <;> simp [chunk, maxLen] <;> omega)); conv => whnf) | (refine AW_cond rfl (fun _ => ?_) (fun hb => absurd hb (by decide))) | ((first | refine ⟨_, wrap_of (by first | omega | (simp only [List.length_map]; omega)), ?_⟩ | refine andA ?_ | fail); conv => whnf) | fail
        exact ⟨j, by omega, by omega, by subst hj; exact impA⟩
    have hle : l = 10 := by omega
    subst hle
    repeat' first | with_reducible refine AW_seq ?_ | ((first | with_reducible refine AW_exit ?_ | with_reducible refine AW_region hTt ?_ | fail); conv => whnf) | (refine AW_cond rfl (fun hb => absurd hb (by decide)) (fun _ => ?_)) | ((refine ⟨_, wrap_of (by first | omega | (simp only [List.length_map]; omega)), ?_⟩); conv => whnf) | fail
    exact ⟨(t + 1, pp.1, pp.2.1, pp.2.2), by show t + 1 ≤ xs.length; omega, by show xs.length - (t + 1) < xs.length - t; omega, impA⟩
  · have hte : t = xs.length := by omega
    subst hte
    repeat' first | with_reducible refine AW_seq ?_ | with_reducible refine AW_block ?_ | ((first | with_reducible refine AW_skip ?_ | with_reducible refine AW_exit ?_ | with_reducible refine AW_ret ?_ | with_reducible refine AW_region hTt ?_ | fail); conv => whnf) | (exact absurd hb (by omega)) | (refine AW_cond rfl (fun hb => ?_) (fun hb => ?_) <;> first | (replace hb := of_decide_eq_true hb; try simp only [List.length_map] at hb) | (replace hb := of_decide_eq_false hb; try simp only [List.length_map] at hb) | (simp only [List.length_map, bne_iff_ne, ne_eq, beq_iff_eq, bne_eq_false_iff_eq, beq_eq_false_iff_ne, decide_eq_true_eq, decide_eq_false_iff_not, Bool.not_eq_true', Bool.not_eq_false', Int.natCast_inj] at hb) | skip) | fail
    refine ⟨_, sB n s1 sk s2 (dl0 n) a b c, ⟨rfl, rfl, rfl, rfl, trivial⟩, rfl, (?_ : _ = some (rowsAV ((List.range 10).map fun l => outsR n (flt l) xs xs.length))), (a, b, c), rfl, rfl⟩
    have hk := keepRows (σ := (15, .box [.o 600 xs.length xs.length, .o 601 xs.length xs.length, .o 602 xs.length xs.length, .o 603 xs.length xs.length, .o 604 xs.length xs.length, .o 605 xs.length xs.length, .o 606 xs.length xs.length, .o 607 xs.length xs.length, .o 608 xs.length xs.length, .o 609 xs.length xs.length]) :: (600, rwOb n (flt 0) xs xs.length) :: (601, rwOb n (flt 1) xs xs.length) :: (602, rwOb n (flt 2) xs xs.length) :: (603, rwOb n (flt 3) xs xs.length) :: (604, rwOb n (flt 4) xs xs.length) :: (605, rwOb n (flt 5) xs xs.length) :: (606, rwOb n (flt 6) xs xs.length) :: (607, rwOb n (flt 7) xs xs.length) :: (608, rwOb n (flt 8) xs xs.length) :: (609, rwOb n (flt 9) xs xs.length) :: sB n s1 sk s2 (dl0 n) a b c) (σ' := sB n s1 sk s2 (dl0 n) a b c) (id := 15) (n := 10) (cap := 10) (ps := [PV.s 1 ((outsR n (flt 0) xs xs.length).map iPV), PV.s 1 ((outsR n (flt 1) xs xs.length).map iPV), PV.s 1 ((outsR n (flt 2) xs xs.length).map iPV), PV.s 1 ((outsR n (flt 3) xs xs.length).map iPV), PV.s 1 ((outsR n (flt 4) xs xs.length).map iPV), PV.s 1 ((outsR n (flt 5) xs xs.length).map iPV), PV.s 1 ((outsR n (flt 6) xs xs.length).map iPV), PV.s 1 ((outsR n (flt 7) xs xs.length).map iPV), PV.s 1 ((outsR n (flt 8) xs xs.length).map iPV), PV.s 1 ((outsR n (flt 9) xs xs.length).map iPV)]) rfl rfl
      (by repeat' first | exact rfl | refine rowPVs_cons (rowPV_o rfl rfl (by rw [List.length_map, outsR_len])) ?_) rfl
    exact outKeep1 (x := .x (.sb 15 0 10 10)) rfl hk
end Go.Proofs.YtfghooojingdhaaDoor
namespace Go.Proofs.YtfghooojingdhaaDoor
open Go Go.QL
set_option maxHeartbeats 3200000
attribute [local irreducible] ACall FnC
theorem run_11 {n : NetT} (ok : NetOK n) {s1 : Nat} {sk : List (W16 × W16)} (hsk : sk.length = n.inn.toNat + n.gates.length) {s2 s3 k' : Nat} {nw : List W16}
    {flt : Nat → FaultT} (hl : LanesOK sk flt 11) (xs : List Int) (hxl : xs.length ≤ 4096) :
    ACall Tryd.prog 71 [.x (.b 900 0), iv .i64 11, sl xs] (sB n s1 sk s2 (dl0 n) s3 k' nw)
      (fun r σ' => ∃ p : Nat × Nat × List W16, r = rowsAV ((List.range 11).map fun l => outsR n (flt l) xs xs.length) ∧ σ' = sB n s1 sk s2 (dl0 n) p.1 p.2.1 p.2.2) := by
  refine ACall_of_AWD hTt Tryd.func71 rfl (by kernel_rfl) (res := [.tmp 6]) rfl Tryd.ntmps71 (by simp) fun w0 K0 B => ?_
  dsimp only [entry]
  repeat' first | with_reducible refine AW_seq ?_ | with_reducible refine AW_block ?_ | ((first | with_reducible refine AW_region hTt ?_ | refine AW_draw hTt hMix (id := 1) 5 true [0, 1, 0, 4, 3, 31] (by kernel_rfl) rfl rfl (by kernel_rfl) ?_ | refine Or.inr ?_ | refine andA ?_ | fail); conv => whnf) | (refine fun hln => ?_; (try rw [List.length_map] at hln); unfold maxLen at hln; conv => whnf) | fail
  refine AW_imp (Imp.freeze 17 (fr' := frR n flt xs 11) (σ' := (15, .box (cellsN 11 0 0)) :: sB n s1 sk s2 (dl0 n) s3 k' nw) rfl ?_ ?_ rfl rfl) ?_
  · exact ⟨⟨_, rfl, .inl rfl⟩, ⟨_, congrArg (fun k : Nat => some (iv .i64 k)) (List.length_map _), .inl rfl⟩, ⟨_, rfl, .inl rfl⟩, ⟨_, rfl, .inl rfl⟩, ⟨_, rfl, .inr ⟨11, rfl, Nat.le_of_ble_eq_true rfl, rfl⟩⟩, ⟨_, rfl, .inl rfl⟩, trivial⟩
  · exact ⟨rfl, rfl, rfl, rfl, rfl, trivial⟩
  refine AW_imp (Imp.nil 600 3 1 (fr' := frR n flt xs 11) (σ' := chN 0 ((15, .box (cellsN 11 0 1)) :: sB n s1 sk s2 (dl0 n) s3 k' nw)) rfl ⟨⟨_, rfl, .inl rfl⟩, ⟨_, rfl, .inl rfl⟩, ⟨_, rfl, .inl rfl⟩, ⟨_, rfl, .inl rfl⟩, ⟨_, rfl, .inl rfl⟩, ⟨_, rfl, .inl rfl⟩, trivial⟩ ?_ rfl rfl) ?_
  · exact ⟨⟨_, rfl, .inr ⟨_, _, rfl, rfl, .inr ⟨rfl, rfl⟩, .inl rfl, .inl rfl, .inl rfl, .inl rfl, .inl rfl, .inl rfl, .inl rfl, .inl rfl, .inl rfl, .inl rfl, trivial⟩⟩, ⟨_, rfl, .inl rfl⟩, ⟨_, rfl, .inl rfl⟩, ⟨_, rfl, .inl rfl⟩, ⟨_, rfl, .inl rfl⟩, trivial⟩
  refine AW_imp (Imp.nil 601 3 1 (fr' := frR n flt xs 11) (σ' := chN 1 ((15, .box (cellsN 11 0 2)) :: sB n s1 sk s2 (dl0 n) s3 k' nw)) rfl ⟨⟨_, rfl, .inl rfl⟩, ⟨_, rfl, .inl rfl⟩, ⟨_, rfl, .inl rfl⟩, ⟨_, rfl, .inl rfl⟩, ⟨_, rfl, .inl rfl⟩, ⟨_, rfl, .inl rfl⟩, trivial⟩ ?_ rfl rfl) ?_
  · exact ⟨⟨_, rfl, .inl rfl⟩, ⟨_, rfl, .inr ⟨_, _, rfl, rfl, .inl rfl, .inr ⟨rfl, rfl⟩, .inl rfl, .inl rfl, .inl rfl, .inl rfl, .inl rfl, .inl rfl, .inl rfl, .inl rfl, .inl rfl, trivial⟩⟩, ⟨_, rfl, .inl rfl⟩, ⟨_, rfl, .inl rfl⟩, ⟨_, rfl, .inl rfl⟩, ⟨_, rfl, .inl rfl⟩, trivial⟩
  refine AW_imp (Imp.nil 602 3 1 (fr' := frR n flt xs 11) (σ' := chN 2 ((15, .box (cellsN 11 0 3)) :: sB n s1 sk s2 (dl0 n) s3 k' nw)) rfl ⟨⟨_, rfl, .inl rfl⟩, ⟨_, rfl, .inl rfl⟩, ⟨_, rfl, .inl rfl⟩, ⟨_, rfl, .inl rfl⟩, ⟨_, rfl, .inl rfl⟩, ⟨_, rfl, .inl rfl⟩, trivial⟩ ?_ rfl rfl) ?_
  · exact ⟨⟨_, rfl, .inl rfl⟩, ⟨_, rfl, .inl rfl⟩, ⟨_, rfl, .inr ⟨_, _, rfl, rfl, .inl rfl, .inl rfl, .inr ⟨rfl, rfl⟩, .inl rfl, .inl rfl, .inl rfl, .inl rfl, .inl rfl, .inl rfl, .inl rfl, .inl rfl, trivial⟩⟩, ⟨_, rfl, .inl rfl⟩, ⟨_, rfl, .inl rfl⟩, ⟨_, rfl, .inl rfl⟩, ⟨_, rfl, .inl rfl⟩, trivial⟩
  refine AW_imp (Imp.nil 603 3 1 (fr' := frR n flt xs 11) (σ' := chN 3 ((15, .box (cellsN 11 0 4)) :: sB n s1 sk s2 (dl0 n) s3 k' nw)) rfl ⟨⟨_, rfl, .inl rfl⟩, ⟨_, rfl, .inl rfl⟩, ⟨_, rfl, .inl rfl⟩, ⟨_, rfl, .inl rfl⟩, ⟨_, rfl, .inl rfl⟩, ⟨_, rfl, .inl rfl⟩, trivial⟩ ?_ rfl rfl) ?_
  · exact ⟨⟨_, rfl, .inl rfl⟩, ⟨_, rfl, .inl rfl⟩, ⟨_, rfl, .inl rfl⟩, ⟨_, rfl, .inr ⟨_, _, rfl, rfl, .inl rfl, .inl rfl, .inl rfl, .inr ⟨rfl, rfl⟩, .inl rfl, .inl rfl, .inl rfl, .inl rfl, .inl rfl, .inl rfl, .inl rfl, trivial⟩⟩, ⟨_, rfl, .inl rfl⟩, ⟨_, rfl, .inl rfl⟩, ⟨_, rfl, .inl rfl⟩, ⟨_, rfl, .inl rfl⟩, trivial⟩
  refine AW_imp (Imp.nil 604 3 1 (fr' := frR n flt xs 11) (σ' := chN 4 ((15, .box (cellsN 11 0 5)) :: sB n s1 sk s2 (dl0 n) s3 k' nw)) rfl ⟨⟨_, rfl, .inl rfl⟩, ⟨_, rfl, .inl rfl⟩, ⟨_, rfl, .inl rfl⟩, ⟨_, rfl, .inl rfl⟩, ⟨_, rfl, .inl rfl⟩, ⟨_, rfl, .inl rfl⟩, trivial⟩ ?_ rfl rfl) ?_
  · exact ⟨⟨_, rfl, .inl rfl⟩, ⟨_, rfl, .inl rfl⟩, ⟨_, rfl, .inl rfl⟩, ⟨_, rfl, .inl rfl⟩, ⟨_, rfl, .inr ⟨_, _, rfl, rfl, .inl rfl, .inl rfl, .inl rfl, .inl rfl, .inr ⟨rfl, rfl⟩, .inl rfl, .inl rfl, .inl rfl, .inl rfl, .inl rfl, .inl rfl, trivial⟩⟩, ⟨_, rfl, .inl rfl⟩, ⟨_, rfl, .inl rfl⟩, ⟨_, rfl, .inl rfl⟩, ⟨_, rfl, .inl rfl⟩, trivial⟩
  refine AW_imp (Imp.nil 605 3 1 (fr' := frR n flt xs 11) (σ' := chN 5 ((15, .box (cellsN 11 0 6)) :: sB n s1 sk s2 (dl0 n) s3 k' nw)) rfl ⟨⟨_, rfl, .inl rfl⟩, ⟨_, rfl, .inl rfl⟩, ⟨_, rfl, .inl rfl⟩, ⟨_, rfl, .inl rfl⟩, ⟨_, rfl, .inl rfl⟩, ⟨_, rfl, .inl rfl⟩, trivial⟩ ?_ rfl rfl) ?_
  · exact ⟨⟨_, rfl, .inl rfl⟩, ⟨_, rfl, .inl rfl⟩, ⟨_, rfl, .inl rfl⟩, ⟨_, rfl, .inl rfl⟩, ⟨_, rfl, .inl rfl⟩, ⟨_, rfl, .inr ⟨_, _, rfl, rfl, .inl rfl, .inl rfl, .inl rfl, .inl rfl, .inl rfl, .inr ⟨rfl, rfl⟩, .inl rfl, .inl rfl, .inl rfl, .inl rfl, .inl rfl, trivial⟩⟩, ⟨_, rfl, .inl rfl⟩, ⟨_, rfl, .inl rfl⟩, ⟨_, rfl, .inl rfl⟩, ⟨_, rfl, .inl rfl⟩, trivial⟩
  refine AW_imp (Imp.nil 606 3 1 (fr' := frR n flt xs 11) (σ' := chN 6 ((15, .box (cellsN 11 0 7)) :: sB n s1 sk s2 (dl0 n) s3 k' nw)) rfl ⟨⟨_, rfl, .inl rfl⟩, ⟨_, rfl, .inl rfl⟩, ⟨_, rfl, .inl rfl⟩, ⟨_, rfl, .inl rfl⟩, ⟨_, rfl, .inl rfl⟩, ⟨_, rfl, .inl rfl⟩, trivial⟩ ?_ rfl rfl) ?_
  · exact ⟨⟨_, rfl, .inl rfl⟩, ⟨_, rfl, .inl rfl⟩, ⟨_, rfl, .inl rfl⟩, ⟨_, rfl, .inl rfl⟩, ⟨_, rfl, .inl rfl⟩, ⟨_, rfl, .inl rfl⟩, ⟨_, rfl, .inr ⟨_, _, rfl, rfl, .inl rfl, .inl rfl, .inl rfl, .inl rfl, .inl rfl, .inl rfl, .inr ⟨rfl, rfl⟩, .inl rfl, .inl rfl, .inl rfl, .inl rfl, trivial⟩⟩, ⟨_, rfl, .inl rfl⟩, ⟨_, rfl, .inl rfl⟩, ⟨_, rfl, .inl rfl⟩, ⟨_, rfl, .inl rfl⟩, trivial⟩
  refine AW_imp (Imp.nil 607 3 1 (fr' := frR n flt xs 11) (σ' := chN 7 ((15, .box (cellsN 11 0 8)) :: sB n s1 sk s2 (dl0 n) s3 k' nw)) rfl ⟨⟨_, rfl, .inl rfl⟩, ⟨_, rfl, .inl rfl⟩, ⟨_, rfl, .inl rfl⟩, ⟨_, rfl, .inl rfl⟩, ⟨_, rfl, .inl rfl⟩, ⟨_, rfl, .inl rfl⟩, trivial⟩ ?_ rfl rfl) ?_
  · exact ⟨⟨_, rfl, .inl rfl⟩, ⟨_, rfl, .inl rfl⟩, ⟨_, rfl, .inl rfl⟩, ⟨_, rfl, .inl rfl⟩, ⟨_, rfl, .inl rfl⟩, ⟨_, rfl, .inl rfl⟩, ⟨_, rfl, .inl rfl⟩, ⟨_, rfl, .inr ⟨_, _, rfl, rfl, .inl rfl, .inl rfl, .inl rfl, .inl rfl, .inl rfl, .inl rfl, .inl rfl, .inr ⟨rfl, rfl⟩, .inl rfl, .inl rfl, .inl rfl, trivial⟩⟩, ⟨_, rfl, .inl rfl⟩, ⟨_, rfl, .inl rfl⟩, ⟨_, rfl, .inl rfl⟩, ⟨_, rfl, .inl rfl⟩, trivial⟩
  refine AW_imp (Imp.nil 608 3 1 (fr' := frR n flt xs 11) (σ' := chN 8 ((15, .box (cellsN 11 0 9)) :: sB n s1 sk s2 (dl0 n) s3 k' nw)) rfl ⟨⟨_, rfl, .inl rfl⟩, ⟨_, rfl, .inl rfl⟩, ⟨_, rfl, .inl rfl⟩, ⟨_, rfl, .inl rfl⟩, ⟨_, rfl, .inl rfl⟩, ⟨_, rfl, .inl rfl⟩, trivial⟩ ?_ rfl rfl) ?_
  · exact ⟨⟨_, rfl, .inl rfl⟩, ⟨_, rfl, .inl rfl⟩, ⟨_, rfl, .inl rfl⟩, ⟨_, rfl, .inl rfl⟩, ⟨_, rfl, .inl rfl⟩, ⟨_, rfl, .inl rfl⟩, ⟨_, rfl, .inl rfl⟩, ⟨_, rfl, .inl rfl⟩, ⟨_, rfl, .inr ⟨_, _, rfl, rfl, .inl rfl, .inl rfl, .inl rfl, .inl rfl, .inl rfl, .inl rfl, .inl rfl, .inl rfl, .inr ⟨rfl, rfl⟩, .inl rfl, .inl rfl, trivial⟩⟩, ⟨_, rfl, .inl rfl⟩, ⟨_, rfl, .inl rfl⟩, ⟨_, rfl, .inl rfl⟩, ⟨_, rfl, .inl rfl⟩, trivial⟩
  refine AW_imp (Imp.nil 609 3 1 (fr' := frR n flt xs 11) (σ' := chN 9 ((15, .box (cellsN 11 0 10)) :: sB n s1 sk s2 (dl0 n) s3 k' nw)) rfl ⟨⟨_, rfl, .inl rfl⟩, ⟨_, rfl, .inl rfl⟩, ⟨_, rfl, .inl rfl⟩, ⟨_, rfl, .inl rfl⟩, ⟨_, rfl, .inl rfl⟩, ⟨_, rfl, .inl rfl⟩, trivial⟩ ?_ rfl rfl) ?_
  · exact ⟨⟨_, rfl, .inl rfl⟩, ⟨_, rfl, .inl rfl⟩, ⟨_, rfl, .inl rfl⟩, ⟨_, rfl, .inl rfl⟩, ⟨_, rfl, .inl rfl⟩, ⟨_, rfl, .inl rfl⟩, ⟨_, rfl, .inl rfl⟩, ⟨_, rfl, .inl rfl⟩, ⟨_, rfl, .inl rfl⟩, ⟨_, rfl, .inr ⟨_, _, rfl, rfl, .inl rfl, .inl rfl, .inl rfl, .inl rfl, .inl rfl, .inl rfl, .inl rfl, .inl rfl, .inl rfl, .inr ⟨rfl, rfl⟩, .inl rfl, trivial⟩⟩, ⟨_, rfl, .inl rfl⟩, ⟨_, rfl, .inl rfl⟩, ⟨_, rfl, .inl rfl⟩, ⟨_, rfl, .inl rfl⟩, trivial⟩
  refine AW_imp (Imp.nil 610 3 1 (fr' := frR n flt xs 11) (σ' := chN 10 ((15, .box (cellsN 11 0 11)) :: sB n s1 sk s2 (dl0 n) s3 k' nw)) rfl ⟨⟨_, rfl, .inl rfl⟩, ⟨_, rfl, .inl rfl⟩, ⟨_, rfl, .inl rfl⟩, ⟨_, rfl, .inl rfl⟩, ⟨_, rfl, .inl rfl⟩, ⟨_, rfl, .inl rfl⟩, trivial⟩ ?_ rfl rfl) ?_
  · exact ⟨⟨_, rfl, .inl rfl⟩, ⟨_, rfl, .inl rfl⟩, ⟨_, rfl, .inl rfl⟩, ⟨_, rfl, .inl rfl⟩, ⟨_, rfl, .inl rfl⟩, ⟨_, rfl, .inl rfl⟩, ⟨_, rfl, .inl rfl⟩, ⟨_, rfl, .inl rfl⟩, ⟨_, rfl, .inl rfl⟩, ⟨_, rfl, .inl rfl⟩, ⟨_, rfl, .inr ⟨_, _, rfl, rfl, .inl rfl, .inl rfl, .inl rfl, .inl rfl, .inl rfl, .inl rfl, .inl rfl, .inl rfl, .inl rfl, .inl rfl, .inr ⟨rfl, rfl⟩, trivial⟩⟩, ⟨_, rfl, .inl rfl⟩, ⟨_, rfl, .inl rfl⟩, ⟨_, rfl, .inl rfl⟩, ⟨_, rfl, .inl rfl⟩, trivial⟩
  refine AW_loop (fun p : Nat × Nat × Nat × List W16 => [(20, iv .i64 p.1), (19, iv .i64 xs.length), (18, sl xs), (7, .x (.sb 15 0 11 11)), (8, sl (stsL n flt xs 11 p.1)), (0, .x (.b 900 0))])
    (fun p => (15, .box [.o 600 (p.1) (p.1), .o 601 (p.1) (p.1), .o 602 (p.1) (p.1), .o 603 (p.1) (p.1), .o 604 (p.1) (p.1), .o 605 (p.1) (p.1), .o 606 (p.1) (p.1), .o 607 (p.1) (p.1), .o 608 (p.1) (p.1), .o 609 (p.1) (p.1), .o 610 (p.1) (p.1)]) :: (600, rwOb n (flt 0) xs (p.1)) :: (601, rwOb n (flt 1) xs (p.1)) :: (602, rwOb n (flt 2) xs (p.1)) :: (603, rwOb n (flt 3) xs (p.1)) :: (604, rwOb n (flt 4) xs (p.1)) :: (605, rwOb n (flt 5) xs (p.1)) :: (606, rwOb n (flt 6) xs (p.1)) :: (607, rwOb n (flt 7) xs (p.1)) :: (608, rwOb n (flt 8) xs (p.1)) :: (609, rwOb n (flt 9) xs (p.1)) :: (610, rwOb n (flt 10) xs (p.1)) :: sB n s1 sk s2 (dl0 n) p.2.1 p.2.2.1 p.2.2.2)
    (fun p => p.1 ≤ xs.length) (fun p => xs.length - p.1) (0, s3, k', nw) (Nat.zero_le _) impA ?_
  rintro ⟨t, a, b, c⟩ ht
  dsimp only at ht ⊢
  rcases Nat.lt_or_ge t xs.length with htl | htl
  · have hbeat := fun s3 k' nw => beat_lanes ok (s1 := s1) hsk (s2 := s2) (s3 := s3) (k' := k') (nw := nw) (k := 11) (by decide) hl xs t xs[t] (getDI htl)
    have hol := otsL_len n flt xs 11 t
    repeat' first | with_reducible refine AW_seq ?_ | with_reducible refine AW_block ?_ | ((first | with_reducible refine AW_skip ?_ | with_reducible refine AW_exit ?_ | with_reducible refine AW_ret ?_ | with_reducible refine AW_region hTt ?_ | fail); conv => whnf) | (exact absurd hb (by omega)) | ((refine ⟨_, (hbeat a b c).frame (asc []) (by repeat (first | exact trivial | refine ⟨rfl, ?_⟩)) rfl (by rintro _ _ ⟨_, rfl, rfl⟩; rfl), ?_⟩); (rintro _ _ ⟨_, _, ⟨_, rfl, rfl⟩, rfl, rfl⟩); conv => whnf) | (refine AW_cond rfl (fun hb => ?_) (fun hb => ?_) <;> first | (replace hb := of_decide_eq_true hb; try simp only [List.length_map] at hb) | (replace hb := of_decide_eq_false hb; try simp only [List.length_map] at hb) | (simp only [List.length_map, bne_iff_ne, ne_eq, beq_iff_eq, bne_eq_false_iff_eq, beq_eq_false_iff_ne, decide_eq_true_eq, decide_eq_false_iff_not, Bool.not_eq_true', Bool.not_eq_false', Int.natCast_inj] at hb) | skip) | ((first | refine andA ?_ | with_reducible refine Exists.intro _ (And.intro (gd_any (And.intro (by omega) (map_get (by omega)))) ?_) | fail); conv => whnf) | (refine fun hln => ?_; (try rw [List.length_map] at hln); unfold maxLen at hln; conv => whnf) | fail
    rename_i pp
    refine AW_loop (fun l : Nat => [(33, iv .i64 l), (32, iv .i64 11), (31, sl (otsL n flt xs 11 t)), (20, iv .i64 t), (19, iv .i64 xs.length), (18, sl xs), (7, .x (.sb 15 0 11 11)), (8, sl (stsL n flt xs 11 (t + 1))), (0, .x (.b 900 0))])
      (fun l => (15, .box [.o 600 (t + bt 0 l) (t + bt 0 l), .o 601 (t + bt 1 l) (t + bt 1 l), .o 602 (t + bt 2 l) (t + bt 2 l), .o 603 (t + bt 3 l) (t + bt 3 l), .o 604 (t + bt 4 l) (t + bt 4 l), .o 605 (t + bt 5 l) (t + bt 5 l), .o 606 (t + bt 6 l) (t + bt 6 l), .o 607 (t + bt 7 l) (t + bt 7 l), .o 608 (t + bt 8 l) (t + bt 8 l), .o 609 (t + bt 9 l) (t + bt 9 l), .o 610 (t + bt 10 l) (t + bt 10 l)]) :: (600, rwOb n (flt 0) xs (t + bt 0 l)) :: (601, rwOb n (flt 1) xs (t + bt 1 l)) :: (602, rwOb n (flt 2) xs (t + bt 2 l)) :: (603, rwOb n (flt 3) xs (t + bt 3 l)) :: (604, rwOb n (flt 4) xs (t + bt 4 l)) :: (605, rwOb n (flt 5) xs (t + bt 5 l)) :: (606, rwOb n (flt 6) xs (t + bt 6 l)) :: (607, rwOb n (flt 7) xs (t + bt 7 l)) :: (608, rwOb n (flt 8) xs (t + bt 8 l)) :: (609, rwOb n (flt 9) xs (t + bt 9 l)) :: (610, rwOb n (flt 10) xs (t + bt 10 l)) :: sB n s1 sk s2 (dl0 n) pp.1 pp.2.1 pp.2.2) (fun l => l ≤ 11) (fun l => 11 - l) 0 (Nat.zero_le _) impA ?_
    intro l hlk
    rcases Nat.lt_or_ge l 11 with hll | hll
    · have hg := ots_at n flt xs t hll
      have e := row_app n (flt l) xs t l
      have hq := bt_self l
      have hz := outsR_len n (flt l) xs (t + bt l l)
      obtain ⟨j, hj⟩ : ∃ j, j = l + 1 := ⟨_, rfl⟩
      have hl' : l = 0 ∨ l = 1 ∨ l = 2 ∨ l = 3 ∨ l = 4 ∨ l = 5 ∨ l = 6 ∨ l = 7 ∨ l = 8 ∨ l = 9 ∨ l = 10 := by omega
      clear hol hbeat ht hlk hll
      rcases hl' with rfl | rfl | rfl | rfl | rfl | rfl | rfl | rfl | rfl | rfl | rfl
      all_goals
        repeat' first | with_reducible refine AW_seq ?_ | with_reducible refine AW_block ?_ | ((first | with_reducible refine AW_skip ?_ | with_reducible refine AW_region hTt ?_ | with_reducible refine Exists.intro _ (And.intro (gd_any (And.intro (by omega) hg)) ?_) | refine And.intro (gd_any (And.intro (by decide) (by decide))) ?_ | fail); conv => whnf) | ((refine And.intro ?_ ?_; focus (refine ⟨?_, ?_, ?_⟩ <;> simp [chunk, maxLen] <;> omega)); conv => whnf) | (refine AW_cond rfl (fun _ => ?_) (fun hb => absurd hb (by decide))) | ((first | refine ⟨_, wrap_of (by first | omega | (simp only [List.length_map]; omega)), ?_⟩ | refine andA ?_ | fail); conv => whnf) | fail
        exact ⟨j, by omega, by omega, by subst hj; exact impA⟩
    have hle : l = 11 := by omega
    subst hle
    repeat' first | with_reducible refine AW_seq ?_ | ((first | with_reducible refine AW_exit ?_ | with_reducible refine AW_region hTt ?_ | fail); conv => whnf) | (refine AW_cond rfl (fun hb => absurd hb (by decide)) (fun _ => ?_)) | ((refine ⟨_, wrap_of (by first | omega | (simp only [List.length_map]; omega)), ?_⟩); conv => whnf) | fail
    exact ⟨(t + 1, pp.1, pp.2.1, pp.2.2), by show t + 1 ≤ xs.length; omega, by show xs.length - (t + 1) < xs.length - t; omega, impA⟩
  · have hte : t = xs.length := by omega
    subst hte
    repeat' first | with_reducible refine AW_seq ?_ | with_reducible refine AW_block ?_ | ((first | with_reducible refine AW_skip ?_ | with_reducible refine AW_exit ?_ | with_reducible refine AW_ret ?_ | with_reducible refine AW_region hTt ?_ | fail); conv => whnf) | (exact absurd hb (by omega)) | (refine AW_cond rfl (fun hb => ?_) (fun hb => ?_) <;> first | (replace hb := of_decide_eq_true hb; try simp only [List.length_map] at hb) | (replace hb := of_decide_eq_false hb; try simp only [List.length_map] at hb) | (simp only [List.length_map, bne_iff_ne, ne_eq, beq_iff_eq, bne_eq_false_iff_eq, beq_eq_false_iff_ne, decide_eq_true_eq, decide_eq_false_iff_not, Bool.not_eq_true', Bool.not_eq_false', Int.natCast_inj] at hb) | skip) | fail
    refine ⟨_, sB n s1 sk s2 (dl0 n) a b c, ⟨rfl, rfl, rfl, rfl, trivial⟩, rfl, (?_ : _ = some (rowsAV ((List.range 11).map fun l => outsR n (flt l) xs xs.length))), (a, b, c), rfl, rfl⟩
    have hk := keepRows (σ := (15, .box [.o 600 xs.length xs.length, .o 601 xs.length xs.length, .o 602 xs.length xs.length, .o 603 xs.length xs.length, .o 604 xs.length xs.length, .o 605 xs.length xs.length, .o 606 xs.length xs.length, .o 607 xs.length xs.length, .o 608 xs.length xs.length, .o 609 xs.length xs.length, .o 610 xs.length xs.length]) :: (600, rwOb n (flt 0) xs xs.length) :: (601, rwOb n (flt 1) xs xs.length) :: (602, rwOb n (flt 2) xs xs.length) :: (603, rwOb n (flt 3) xs xs.length) :: (604, rwOb n (flt 4) xs xs.length) :: (605, rwOb n (flt 5) xs xs.length) :: (606, rwOb n (flt 6) xs xs.length) :: (607, rwOb n (flt 7) xs xs.length) :: (608, rwOb n (flt 8) xs xs.length) :: (609, rwOb n (flt 9) xs xs.length) :: (610, rwOb n (flt 10) xs xs.length) :: sB n s1 sk s2 (dl0 n) a b c) (σ' := sB n s1 sk s2 (dl0 n) a b c) (id := 15) (n := 11) (cap := 11) (ps := [PV.s 1 ((outsR n (flt 0) xs xs.length).map iPV), PV.s 1 ((outsR n (flt 1) xs xs.length).map iPV), PV.s 1 ((outsR n (flt 2) xs xs.length).map iPV), PV.s 1 ((outsR n (flt 3) xs xs.length).map iPV), PV.s 1 ((outsR n (flt 4) xs xs.length).map iPV), PV.s 1 ((outsR n (flt 5) xs xs.length).map iPV), PV.s 1 ((outsR n (flt 6) xs xs.length).map iPV), PV.s 1 ((outsR n (flt 7) xs xs.length).map iPV), PV.s 1 ((outsR n (flt 8) xs xs.length).map iPV), PV.s 1 ((outsR n (flt 9) xs xs.length).map iPV), PV.s 1 ((outsR n (flt 10) xs xs.length).map iPV)]) rfl rfl
      (by repeat' first | exact rfl | refine rowPVs_cons (rowPV_o rfl rfl (by rw [List.length_map, outsR_len])) ?_) rfl
    exact outKeep1 (x := .x (.sb 15 0 11 11)) rfl hk
end Go.Proofs.YtfghooojingdhaaDoor
namespace Go.Proofs.YtfghooojingdhaaDoor
open Go Go.QL
set_option maxHeartbeats 3200000
attribute [local irreducible] ACall FnC
theorem run_12 {n : NetT} (ok : NetOK n) {s1 : Nat} {sk : List (W16 × W16)} (hsk : sk.length = n.inn.toNat + n.gates.length) {s2 s3 k' : Nat} {nw : List W16}
    {flt : Nat → FaultT} (hl : LanesOK sk flt 12) (xs : List Int) (hxl : xs.length ≤ 4096) :
    ACall Tryd.prog 71 [.x (.b 900 0), iv .i64 12, sl xs] (sB n s1 sk s2 (dl0 n) s3 k' nw)
      (fun r σ' => ∃ p : Nat × Nat × List W16, r = rowsAV ((List.range 12).map fun l => outsR n (flt l) xs xs.length) ∧ σ' = sB n s1 sk s2 (dl0 n) p.1 p.2.1 p.2.2) := by
  refine ACall_of_AWD hTt Tryd.func71 rfl (by kernel_rfl) (res := [.tmp 6]) rfl Tryd.ntmps71 (by simp) fun w0 K0 B => ?_
  dsimp only [entry]
  repeat' first | with_reducible refine AW_seq ?_ | with_reducible refine AW_block ?_ | ((first | with_reducible refine AW_region hTt ?_ | refine AW_draw hTt hMix (id := 1) 5 true [0, 1, 0, 4, 3, 31] (by kernel_rfl) rfl rfl (by kernel_rfl) ?_ | refine Or.inr ?_ | refine andA ?_ | fail); conv => whnf) | (refine fun hln => ?_; (try rw [List.length_map] at hln); unfold maxLen at hln; conv => whnf) | fail
  refine AW_imp (Imp.freeze 17 (fr' := frR n flt xs 12) (σ' := (15, .box (cellsN 12 0 0)) :: sB n s1 sk s2 (dl0 n) s3 k' nw) rfl ?_ ?_ rfl rfl) ?_
  · exact ⟨⟨_, rfl, .inl rfl⟩, ⟨_, congrArg (fun k : Nat => some (iv .i64 k)) (List.length_map _), .inl rfl⟩, ⟨_, rfl, .inl rfl⟩, ⟨_, rfl, .inl rfl⟩, ⟨_, rfl, .inr ⟨12, rfl, Nat.le_of_ble_eq_true rfl, rfl⟩⟩, ⟨_, rfl, .inl rfl⟩, trivial⟩
  · exact ⟨rfl, rfl, rfl, rfl, rfl, trivial⟩
  refine AW_imp (Imp.nil 600 3 1 (fr' := frR n flt xs 12) (σ' := chN 0 ((15, .box (cellsN 12 0 1)) :: sB n s1 sk s2 (dl0 n) s3 k' nw)) rfl ⟨⟨_, rfl, .inl rfl⟩, ⟨_, rfl, .inl rfl⟩, ⟨_, rfl, .inl rfl⟩, ⟨_, rfl, .inl rfl⟩, ⟨_, rfl, .inl rfl⟩, ⟨_, rfl, .inl rfl⟩, trivial⟩ ?_ rfl rfl) ?_
  · exact ⟨⟨_, rfl, .inr ⟨_, _, rfl, rfl, .inr ⟨rfl, rfl⟩, .inl rfl, .inl rfl, .inl rfl, .inl rfl, .inl rfl, .inl rfl, .inl rfl, .inl rfl, .inl rfl, .inl rfl, .inl rfl, trivial⟩⟩, ⟨_, rfl, .inl rfl⟩, ⟨_, rfl, .inl rfl⟩, ⟨_, rfl, .inl rfl⟩, ⟨_, rfl, .inl rfl⟩, trivial⟩
  refine AW_imp (Imp.nil 601 3 1 (fr' := frR n flt xs 12) (σ' := chN 1 ((15, .box (cellsN 12 0 2)) :: sB n s1 sk s2 (dl0 n) s3 k' nw)) rfl ⟨⟨_, rfl, .inl rfl⟩, ⟨_, rfl, .inl rfl⟩, ⟨_, rfl, .inl rfl⟩, ⟨_, rfl, .inl rfl⟩, ⟨_, rfl, .inl rfl⟩, ⟨_, rfl, .inl rfl⟩, trivial⟩ ?_ rfl rfl) ?_
  · exact ⟨⟨_, rfl, .inl rfl⟩, ⟨_, rfl, .inr ⟨_, _, rfl, rfl, .inl rfl, .inr ⟨rfl, rfl⟩, .inl rfl, .inl rfl, .inl rfl, .inl rfl, .inl rfl, .inl rfl, .inl rfl, .inl rfl, .inl rfl, .inl rfl, trivial⟩⟩, ⟨_, rfl, .inl rfl⟩, ⟨_, rfl, .inl rfl⟩, ⟨_, rfl, .inl rfl⟩, ⟨_, rfl, .inl rfl⟩, trivial⟩
  refine AW_imp (Imp.nil 602 3 1 (fr' := frR n flt xs 12) (σ' := chN 2 ((15, .box (cellsN 12 0 3)) :: sB n s1 sk s2 (dl0 n) s3 k' nw)) rfl ⟨⟨_, rfl, .inl rfl⟩, ⟨_, rfl, .inl rfl⟩, ⟨_, rfl, .inl rfl⟩, ⟨_, rfl, .inl rfl⟩, ⟨_, rfl, .inl rfl⟩, ⟨_, rfl, .inl rfl⟩, trivial⟩ ?_ rfl rfl) ?_
  · exact ⟨⟨_, rfl, .inl rfl⟩, ⟨_, rfl, .inl rfl⟩, ⟨_, rfl, .inr ⟨_, _, rfl, rfl, .inl rfl, .inl rfl, .inr ⟨rfl, rfl⟩, .inl rfl, .inl rfl, .inl rfl, .inl rfl, .inl rfl, .inl rfl, .inl rfl, .inl rfl, .inl rfl, trivial⟩⟩, ⟨_, rfl, .inl rfl⟩, ⟨_, rfl, .inl rfl⟩, ⟨_, rfl, .inl rfl⟩, ⟨_, rfl, .inl rfl⟩, trivial⟩
  refine AW_imp (Imp.nil 603 3 1 (fr' := frR n flt xs 12) (σ' := chN 3 ((15, .box (cellsN 12 0 4)) :: sB n s1 sk s2 (dl0 n) s3 k' nw)) rfl ⟨⟨_, rfl, .inl rfl⟩, ⟨_, rfl, .inl rfl⟩, ⟨_, rfl, .inl rfl⟩, ⟨_, rfl, .inl rfl⟩, ⟨_, rfl, .inl rfl⟩, ⟨_, rfl, .inl rfl⟩, trivial⟩ ?_ rfl rfl) ?_
  · exact ⟨⟨_, rfl, .inl rfl⟩, ⟨_, rfl, .inl rfl⟩, ⟨_, rfl, .inl rfl⟩, ⟨_, rfl, .inr ⟨_, _, rfl, rfl, .inl rfl, .inl rfl, .inl rfl, .inr ⟨rfl, rfl⟩, .inl rfl, .inl rfl, .inl rfl, .inl rfl, .inl rfl, .inl rfl, .inl rfl, .inl rfl, trivial⟩⟩, ⟨_, rfl, .inl rfl⟩, ⟨_, rfl, .inl rfl⟩, ⟨_, rfl, .inl rfl⟩, ⟨_, rfl, .inl rfl⟩, trivial⟩
  refine AW_imp (Imp.nil 604 3 1 (fr' := frR n flt xs 12) (σ' := chN 4 ((15, .box (cellsN 12 0 5)) :: sB n s1 sk s2 (dl0 n) s3 k' nw)) rfl ⟨⟨_, rfl, .inl rfl⟩, ⟨_, rfl, .inl rfl⟩, ⟨_, rfl, .inl rfl⟩, ⟨_, rfl, .inl rfl⟩, ⟨_, rfl, .inl rfl⟩, ⟨_, rfl, .inl rfl⟩, trivial⟩ ?_ rfl rfl) ?_
  · exact ⟨⟨_, rfl, .inl rfl⟩, ⟨_, rfl, .inl rfl⟩, ⟨_, rfl, .inl rfl⟩, ⟨_, rfl, .inl rfl⟩, ⟨_, rfl, .inr ⟨_, _, rfl, rfl, .inl rfl, .inl rfl, .inl rfl, .inl rfl, .inr ⟨rfl, rfl⟩, .inl rfl, .inl rfl, .inl rfl, .inl rfl, .inl rfl, .inl rfl, .inl rfl, trivial⟩⟩, ⟨_, rfl, .inl rfl⟩, ⟨_, rfl, .inl rfl⟩, ⟨_, rfl, .inl rfl⟩, ⟨_, rfl, .inl rfl⟩, trivial⟩
  refine AW_imp (Imp.nil 605 3 1 (fr' := frR n flt xs 12) (σ' := chN 5 ((15, .box (cellsN 12 0 6)) :: sB n s1 sk s2 (dl0 n) s3 k' nw)) rfl ⟨⟨_, rfl, .inl rfl⟩, ⟨_, rfl, .inl rfl⟩, ⟨_, rfl, .inl rfl⟩, ⟨_, rfl, .inl rfl⟩, ⟨_, rfl, .inl rfl⟩, ⟨_, rfl, .inl rfl⟩, trivial⟩ ?_ rfl rfl) ?_
  · exact ⟨⟨_, rfl, .inl rfl⟩, ⟨_, rfl, .inl rfl⟩, ⟨_, rfl, .inl rfl⟩, ⟨_, rfl, .inl rfl⟩, ⟨_, rfl, .inl rfl⟩, ⟨_, rfl, .inr ⟨_, _, rfl, rfl, .inl rfl, .inl rfl, .inl rfl, .inl rfl, .inl rfl, .inr ⟨rfl, rfl⟩, .inl rfl, .inl rfl, .inl rfl, .inl rfl, .inl rfl, .inl rfl, trivial⟩⟩, ⟨_, rfl, .inl rfl⟩, ⟨_, rfl, .inl rfl⟩, ⟨_, rfl, .inl rfl⟩, ⟨_, rfl, .inl rfl⟩, trivial⟩
  refine AW_imp (Imp.nil 606 3 1 (fr' := frR n flt xs 12) (σ' := chN 6 ((15, .box (cellsN 12 0 7)) :: sB n s1 sk s2 (dl0 n) s3 k' nw)) rfl ⟨⟨_, rfl, .inl rfl⟩, ⟨_, rfl, .inl rfl⟩, ⟨_, rfl, .inl rfl⟩, ⟨_, rfl, .inl rfl⟩, ⟨_, rfl, .inl rfl⟩, ⟨_, rfl, .inl rfl⟩, trivial⟩ ?_ rfl rfl) ?_
  · exact ⟨⟨_, rfl, .inl rfl⟩, ⟨_, rfl, .inl rfl⟩, ⟨_, rfl, .inl rfl⟩, ⟨_, rfl, .inl rfl⟩, ⟨_, rfl, .inl rfl⟩, ⟨_, rfl, .inl rfl⟩, ⟨_, rfl, .inr ⟨_, _, rfl, rfl, .inl rfl, .inl rfl, .inl rfl, .inl rfl, .inl rfl, .inl rfl, .inr ⟨rfl, rfl⟩, .inl rfl, .inl rfl, .inl rfl, .inl rfl, .inl rfl, trivial⟩⟩, ⟨_, rfl, .inl rfl⟩, ⟨_, rfl, .inl rfl⟩, ⟨_, rfl, .inl rfl⟩, ⟨_, rfl, .inl rfl⟩, trivial⟩
  refine AW_imp (Imp.nil 607 3 1 (fr' := frR n flt xs 12) (σ' := chN 7 ((15, .box (cellsN 12 0 8)) :: sB n s1 sk s2 (dl0 n) s3 k' nw)) rfl ⟨⟨_, rfl, .inl rfl⟩, ⟨_, rfl, .inl rfl⟩, ⟨_, rfl, .inl rfl⟩, ⟨_, rfl, .inl rfl⟩, ⟨_, rfl, .inl rfl⟩, ⟨_, rfl, .inl rfl⟩, trivial⟩ ?_ rfl rfl) ?_
  · exact ⟨⟨_, rfl, .inl rfl⟩, ⟨_, rfl, .inl rfl⟩, ⟨_, rfl, .inl rfl⟩, ⟨_, rfl, .inl rfl⟩, ⟨_, rfl, .inl rfl⟩, ⟨_, rfl, .inl rfl⟩, ⟨_, rfl, .inl rfl⟩, ⟨_, rfl, .inr ⟨_, _, rfl, rfl, .inl rfl, .inl rfl, .inl rfl, .inl rfl, .inl rfl, .inl rfl, .inl rfl, .inr ⟨rfl, rfl⟩, .inl rfl, .inl rfl, .inl rfl, .inl rfl, trivial⟩⟩, ⟨_, rfl, .inl rfl⟩, ⟨_, rfl, .inl rfl⟩, ⟨_, rfl, .inl rfl⟩, ⟨_, rfl, .inl rfl⟩, trivial⟩
  refine AW_imp (Imp.nil 608 3 1 (fr' := frR n flt xs 12) (σ' := chN 8 ((15, .box (cellsN 12 0 9)) :: sB n s1 sk s2 (dl0 n) s3 k' nw)) rfl ⟨⟨_, rfl, .inl rfl⟩, ⟨_, rfl, .inl rfl⟩, ⟨_, rfl, .inl rfl⟩, ⟨_, rfl, .inl rfl⟩, ⟨_, rfl, .inl rfl⟩, ⟨_, rfl, .inl rfl⟩, trivial⟩ ?_ rfl rfl) ?_
  · exact ⟨⟨_, rfl, .inl rfl⟩, ⟨_, rfl, .inl rfl⟩, ⟨_, rfl, .inl rfl⟩, ⟨_, rfl, .inl rfl⟩, ⟨_, rfl, .inl rfl⟩, ⟨_, rfl, .inl rfl⟩, ⟨_, rfl, .inl rfl⟩, ⟨_, rfl, .inl rfl⟩, ⟨_, rfl, .inr ⟨_, _, rfl, rfl, .inl rfl, .inl rfl, .inl rfl, .inl rfl, .inl rfl, .inl rfl, .inl rfl, .inl rfl, .inr ⟨rfl, rfl⟩, .inl rfl, .inl rfl, .inl rfl, trivial⟩⟩, ⟨_, rfl, .inl rfl⟩, ⟨_, rfl, .inl rfl⟩, ⟨_, rfl, .inl rfl⟩, ⟨_, rfl, .inl rfl⟩, trivial⟩
  refine AW_imp (Imp.nil 609 3 1 (fr' := frR n flt xs 12) (σ' := chN 9 ((15, .box (cellsN 12 0 10)) :: sB n s1 sk s2 (dl0 n) s3 k' nw)) rfl ⟨⟨_, rfl, .inl rfl⟩, ⟨_, rfl, .inl rfl⟩, ⟨_, rfl, .inl rfl⟩, ⟨_, rfl, .inl rfl⟩, ⟨_, rfl, .inl rfl⟩, ⟨_, rfl, .inl rfl⟩, trivial⟩ ?_ rfl rfl) ?_
  · exact ⟨⟨_, rfl, .inl rfl⟩, ⟨_, rfl, .inl rfl⟩, ⟨_, rfl, .inl rfl⟩, ⟨_, rfl, .inl rfl⟩, ⟨_, rfl, .inl rfl⟩, ⟨_, rfl, .inl rfl⟩, ⟨_, rfl, .inl rfl⟩, ⟨_, rfl, .inl rfl⟩, ⟨_, rfl, .inl rfl⟩, ⟨_, rfl, .inr ⟨_, _, rfl, rfl, .inl rfl, .inl rfl, .inl rfl, .inl rfl, .inl rfl, .inl rfl, .inl rfl, .inl rfl, .inl rfl, .inr ⟨rfl, rfl⟩, .inl rfl, .inl rfl, trivial⟩⟩, ⟨_, rfl, .inl rfl⟩, ⟨_, rfl, .inl rfl⟩, ⟨_, rfl, .inl rfl⟩, ⟨_, rfl, .inl rfl⟩, trivial⟩
  refine AW_imp (Imp.nil 610 3 1 (fr' := frR n flt xs 12) (σ' := chN 10 ((15, .box (cellsN 12 0 11)) :: sB n s1 sk s2 (dl0 n) s3 k' nw)) rfl ⟨⟨_, rfl, .inl rfl⟩, ⟨_, rfl, .inl rfl⟩, ⟨_, rfl, .inl rfl⟩, ⟨_, rfl, .inl rfl⟩, ⟨_, rfl, .inl rfl⟩, ⟨_, rfl, .inl rfl⟩, trivial⟩ ?_ rfl rfl) ?_
  · exact ⟨⟨_, rfl, .inl rfl⟩, ⟨_, rfl, .inl rfl⟩, ⟨_, rfl, .inl rfl⟩, ⟨_, rfl, .inl rfl⟩, ⟨_, rfl, .inl rfl⟩, ⟨_, rfl, .inl rfl⟩, ⟨_, rfl, .inl rfl⟩, ⟨_, rfl, .inl rfl⟩, ⟨_, rfl, .inl rfl⟩, ⟨_, rfl, .inl rfl⟩, ⟨_, rfl, .inr ⟨_, _, rfl, rfl, .inl rfl, .inl rfl, .inl rfl, .inl rfl, .inl rfl, .inl rfl, .inl rfl, .inl rfl, .inl rfl, .inl rfl, .inr ⟨rfl, rfl⟩, .inl rfl, trivial⟩⟩, ⟨_, rfl, .inl rfl⟩, ⟨_, rfl, .inl rfl⟩, ⟨_, rfl, .inl rfl⟩, ⟨_, rfl, .inl rfl⟩, trivial⟩
  refine AW_imp (Imp.nil 611 3 1 (fr' := frR n flt xs 12) (σ' := chN 11 ((15, .box (cellsN 12 0 12)) :: sB n s1 sk s2 (dl0 n) s3 k' nw)) rfl ⟨⟨_, rfl, .inl rfl⟩, ⟨_, rfl, .inl rfl⟩, ⟨_, rfl, .inl rfl⟩, ⟨_, rfl, .inl rfl⟩, ⟨_, rfl, .inl rfl⟩, ⟨_, rfl, .inl rfl⟩, trivial⟩ ?_ rfl rfl) ?_
  · exact ⟨⟨_, rfl, .inl rfl⟩, ⟨_, rfl, .inl rfl⟩, ⟨_, rfl, .inl rfl⟩, ⟨_, rfl, .inl rfl⟩, ⟨_, rfl, .inl rfl⟩, ⟨_, rfl, .inl rfl⟩, ⟨_, rfl, .inl rfl⟩, ⟨_, rfl, .inl rfl⟩, ⟨_, rfl, .inl rfl⟩, ⟨_, rfl, .inl rfl⟩, ⟨_, rfl, .inl rfl⟩, ⟨_, rfl, .inr ⟨_, _, rfl, rfl, .inl rfl, .inl rfl, .inl rfl, .inl rfl, .inl rfl, .inl rfl, .inl rfl, .inl rfl, .inl rfl, .inl rfl, .inl rfl, .inr ⟨rfl, rfl⟩, trivial⟩⟩, ⟨_, rfl, .inl rfl⟩, ⟨_, rfl, .inl rfl⟩, ⟨_, rfl, .inl rfl⟩, ⟨_, rfl, .inl rfl⟩, trivial⟩
  refine AW_loop (fun p : Nat × Nat × Nat × List W16 => [(20, iv .i64 p.1), (19, iv .i64 xs.length), (18, sl xs), (7, .x (.sb 15 0 12 12)), (8, sl (stsL n flt xs 12 p.1)), (0, .x (.b 900 0))])
    (fun p => (15, .box [.o 600 (p.1) (p.1), .o 601 (p.1) (p.1), .o 602 (p.1) (p.1), .o 603 (p.1) (p.1), .o 604 (p.1) (p.1), .o 605 (p.1) (p.1), .o 606 (p.1) (p.1), .o 607 (p.1) (p.1), .o 608 (p.1) (p.1), .o 609 (p.1) (p.1), .o 610 (p.1) (p.1), .o 611 (p.1) (p.1)]) :: (600, rwOb n (flt 0) xs (p.1)) :: (601, rwOb n (flt 1) xs (p.1)) :: (602, rwOb n (flt 2) xs (p.1)) :: (603, rwOb n (flt 3) xs (p.1)) :: (604, rwOb n (flt 4) xs (p.1)) :: (605, rwOb n (flt 5) xs (p.1)) :: (606, rwOb n (flt 6) xs (p.1)) :: (607, rwOb n (flt 7) xs (p.1)) :: (608, rwOb n (flt 8) xs (p.1)) :: (609, rwOb n (flt 9) xs (p.1)) :: (610, rwOb n (flt 10) xs (p.1)) :: (611, rwOb n (flt 11) xs (p.1)) :: sB n s1 sk s2 (dl0 n) p.2.1 p.2.2.1 p.2.2.2)
    (fun p => p.1 ≤ xs.length) (fun p => xs.length - p.1) (0, s3, k', nw) (Nat.zero_le _) impA ?_
  rintro ⟨t, a, b, c⟩ ht
  dsimp only at ht ⊢
  rcases Nat.lt_or_ge t xs.length with htl | htl
  · have hbeat := fun s3 k' nw => beat_lanes ok (s1 := s1) hsk (s2 := s2) (s3 := s3) (k' := k') (nw := nw) (k := 12) (by decide) hl xs t xs[t] (getDI htl)
    have hol := otsL_len n flt xs 12 t
    repeat' first | with_reducible refine AW_seq ?_ | with_reducible refine AW_block ?_ | ((first | with_reducible refine AW_skip ?_ | with_reducible refine AW_exit ?_ | with_reducible refine AW_ret ?_ | with_reducible refine AW_region hTt ?_ | fail); conv => whnf) | (exact absurd hb (by omega)) | ((refine ⟨_, (hbeat a b c).frame (asc []) (by repeat (first | exact trivial | refine ⟨rfl, ?_⟩)) rfl (by rintro _ _ ⟨_, rfl, rfl⟩; rfl), ?_⟩); (rintro _ _ ⟨_, _, ⟨_, rfl, rfl⟩, rfl, rfl⟩); conv => whnf) | (refine AW_cond rfl (fun hb => ?_) (fun hb => ?_) <;> first | (replace hb := of_decide_eq_true hb; try simp only [List.length_map] at hb) | (replace hb := of_decide_eq_false hb; try simp only [List.length_map] at hb) | (simp only [List.length_map, bne_iff_ne, ne_eq, beq_iff_eq, bne_eq_false_iff_eq, beq_eq_false_iff_ne, decide_eq_true_eq, decide_eq_false_iff_not, Bool.not_eq_true', Bool.not_eq_false', Int.natCast_inj] at hb) | skip) | ((first | refine andA ?_ | with_reducible refine Exists.intro _ (And.intro (gd_any (And.intro (by omega) (map_get (by omega)))) ?_) | fail); conv => whnf) | (refine fun hln => ?_; (try rw [List.length_map] at hln); unfold maxLen at hln; conv => whnf) | fail
    rename_i pp
    refine AW_loop (fun l : Nat => [(33, iv .i64 l), (32, iv .i64 12), (31, sl (otsL n flt xs 12 t)), (20, iv .i64 t), (19, iv .i64 xs.length), (18, sl xs), (7, .x (.sb 15 0 12 12)), (8, sl (stsL n flt xs 12 (t + 1))), (0, .x (.b 900 0))])
      (fun l => (15, .box [.o 600 (t + bt 0 l) (t + bt 0 l), .o 601 (t + bt 1 l) (t + bt 1 l), .o 602 (t + bt 2 l) (t + bt 2 l), .o 603 (t + bt 3 l) (t + bt 3 l), .o 604 (t + bt 4 l) (t + bt 4 l), .o 605 (t + bt 5 l) (t + bt 5 l), .o 606 (t + bt 6 l) (t + bt 6 l), .o 607 (t + bt 7 l) (t + bt 7 l), .o 608 (t + bt 8 l) (t + bt 8 l), .o 609 (t + bt 9 l) (t + bt 9 l), .o 610 (t + bt 10 l) (t + bt 10 l), .o 611 (t + bt 11 l) (t + bt 11 l)]) :: (600, rwOb n (flt 0) xs (t + bt 0 l)) :: (601, rwOb n (flt 1) xs (t + bt 1 l)) :: (602, rwOb n (flt 2) xs (t + bt 2 l)) :: (603, rwOb n (flt 3) xs (t + bt 3 l)) :: (604, rwOb n (flt 4) xs (t + bt 4 l)) :: (605, rwOb n (flt 5) xs (t + bt 5 l)) :: (606, rwOb n (flt 6) xs (t + bt 6 l)) :: (607, rwOb n (flt 7) xs (t + bt 7 l)) :: (608, rwOb n (flt 8) xs (t + bt 8 l)) :: (609, rwOb n (flt 9) xs (t + bt 9 l)) :: (610, rwOb n (flt 10) xs (t + bt 10 l)) :: (611, rwOb n (flt 11) xs (t + bt 11 l)) :: sB n s1 sk s2 (dl0 n) pp.1 pp.2.1 pp.2.2) (fun l => l ≤ 12) (fun l => 12 - l) 0 (Nat.zero_le _) impA ?_
    intro l hlk
    rcases Nat.lt_or_ge l 12 with hll | hll
    · have hg := ots_at n flt xs t hll
      have e := row_app n (flt l) xs t l
      have hq := bt_self l
      have hz := outsR_len n (flt l) xs (t + bt l l)
      obtain ⟨j, hj⟩ : ∃ j, j = l + 1 := ⟨_, rfl⟩
      have hl' : l = 0 ∨ l = 1 ∨ l = 2 ∨ l = 3 ∨ l = 4 ∨ l = 5 ∨ l = 6 ∨ l = 7 ∨ l = 8 ∨ l = 9 ∨ l = 10 ∨ l = 11 := by omega
      clear hol hbeat ht hlk hll
      rcases hl' with rfl | rfl | rfl | rfl | rfl | rfl | rfl | rfl | rfl | rfl | rfl | rfl
      all_goals
        repeat' first | with_reducible refine AW_seq ?_ | with_reducible refine AW_block ?_ | ((first | with_reducible refine AW_skip ?_ | with_reducible refine AW_region hTt ?_ | with_reducible refine Exists.intro _ (And.intro (gd_any (And.intro (by omega) hg)) ?_) | refine And.intro (gd_any (And.intro (by decide) (by decide))) ?_ | fail); conv => whnf) | ((refine And.intro ?_ ?_; focus (refine ⟨?_, ?_, ?_⟩ <;> simp [chunk, maxLen] <;> omega)); conv => whnf) | (refine AW_cond rfl (fun _ => ?_) (fun hb => absurd hb (by decide))) | ((first | refine ⟨_, wrap_of (by first | omega | (simp only [List.length_map]; omega)), ?_⟩ | refine andA ?_ | fail); conv => whnf) | fail
        exact ⟨j, by omega, by omega, by subst hj; exact impA⟩
    have hle : l = 12 := by omega
    subst hle
    repeat' first | with_reducible refine AW_seq ?_ | ((first | with_reducible refine AW_exit ?_ | with_reducible refine AW_region hTt ?_ | fail); conv => whnf) | (refine AW_cond rfl (fun hb => absurd hb (by decide)) (fun _ => ?_)) | ((refine ⟨_, wrap_of (by first | omega | (simp only [List.length_map]; omega)), ?_⟩); conv => whnf) | fail
    exact ⟨(t + 1, pp.1, pp.2.1, pp.2.2), by show t + 1 ≤ xs.length; omega, by show xs.length - (t + 1) < xs.length - t; omega, impA⟩
  · have hte : t = xs.length := by omega
    subst hte
    repeat' first | with_reducible refine AW_seq ?_ | with_reducible refine AW_block ?_ | ((first | with_reducible refine AW_skip ?_ | with_reducible refine AW_exit ?_ | with_reducible refine AW_ret ?_ | with_reducible refine AW_region hTt ?_ | fail); conv => whnf) | (exact absurd hb (by omega)) | (refine AW_cond rfl (fun hb => ?_) (fun hb => ?_) <;> first | (replace hb := of_decide_eq_true hb; try simp only [List.length_map] at hb) | (replace hb := of_decide_eq_false hb; try simp only [List.length_map] at hb) | (simp only [List.length_map, bne_iff_ne, ne_eq, beq_iff_eq, bne_eq_false_iff_eq, beq_eq_false_iff_ne, decide_eq_true_eq, decide_eq_false_iff_not, Bool.not_eq_true', Bool.not_eq_false', Int.natCast_inj] at hb) | skip) | fail
    refine ⟨_, sB n s1 sk s2 (dl0 n) a b c, ⟨rfl, rfl, rfl, rfl, trivial⟩, rfl, (?_ : _ = some (rowsAV ((List.range 12).map fun l => outsR n (flt l) xs xs.length))), (a, b, c), rfl, rfl⟩
    have hk := keepRows (σ := (15, .box [.o 600 xs.length xs.length, .o 601 xs.length xs.length, .o 602 xs.length xs.length, .o 603 xs.length xs.length, .o 604 xs.length xs.length, .o 605 xs.length xs.length, .o 606 xs.length xs.length, .o 607 xs.length xs.length, .o 608 xs.length xs.length, .o 609 xs.length xs.length, .o 610 xs.length xs.length, .o 611 xs.length xs.length]) :: (600, rwOb n (flt 0) xs xs.length) :: (601, rwOb n (flt 1) xs xs.length) :: (602, rwOb n (flt 2) xs xs.length) :: (603, rwOb n (flt 3) xs xs.length) :: (604, rwOb n (flt 4) xs xs.length) :: (605, rwOb n (flt 5) xs xs.length) :: (606, rwOb n (flt 6) xs xs.length) :: (607, rwOb n (flt 7) xs xs.length) :: (608, rwOb n (flt 8) xs xs.length) :: (609, rwOb n (flt 9) xs xs.length) :: (610, rwOb n (flt 10) xs xs.length) :: (611, rwOb n (flt 11) xs xs.length) :: sB n s1 sk s2 (dl0 n) a b c) (σ' := sB n s1 sk s2 (dl0 n) a b c) (id := 15) (n := 12) (cap := 12) (ps := [PV.s 1 ((outsR n (flt 0) xs xs.length).map iPV), PV.s 1 ((outsR n (flt 1) xs xs.length).map iPV), PV.s 1 ((outsR n (flt 2) xs xs.length).map iPV), PV.s 1 ((outsR n (flt 3) xs xs.length).map iPV), PV.s 1 ((outsR n (flt 4) xs xs.length).map iPV), PV.s 1 ((outsR n (flt 5) xs xs.length).map iPV), PV.s 1 ((outsR n (flt 6) xs xs.length).map iPV), PV.s 1 ((outsR n (flt 7) xs xs.length).map iPV), PV.s 1 ((outsR n (flt 8) xs xs.length).map iPV), PV.s 1 ((outsR n (flt 9) xs xs.length).map iPV), PV.s 1 ((outsR n (flt 10) xs xs.length).map iPV), PV.s 1 ((outsR n (flt 11) xs xs.length).map iPV)]) rfl rfl
      (by repeat' first | exact rfl | refine rowPVs_cons (rowPV_o rfl rfl (by rw [List.length_map, outsR_len])) ?_) rfl
    exact outKeep1 (x := .x (.sb 15 0 12 12)) rfl hk
end Go.Proofs.YtfghooojingdhaaDoor
namespace Go.Proofs.YtfghooojingdhaaDoor
open Go Go.QL
set_option maxHeartbeats 3200000
attribute [local irreducible] ACall FnC
theorem run_13 {n : NetT} (ok : NetOK n) {s1 : Nat} {sk : List (W16 × W16)} (hsk : sk.length = n.inn.toNat + n.gates.length) {s2 s3 k' : Nat} {nw : List W16}
    {flt : Nat → FaultT} (hl : LanesOK sk flt 13) (xs : List Int) (hxl : xs.length ≤ 4096) :
    ACall Tryd.prog 71 [.x (.b 900 0), iv .i64 13, sl xs] (sB n s1 sk s2 (dl0 n) s3 k' nw)
      (fun r σ' => ∃ p : Nat × Nat × List W16, r = rowsAV ((List.range 13).map fun l => outsR n (flt l) xs xs.length) ∧ σ' = sB n s1 sk s2 (dl0 n) p.1 p.2.1 p.2.2) := by
  refine ACall_of_AWD hTt Tryd.func71 rfl (by kernel_rfl) (res := [.tmp 6]) rfl Tryd.ntmps71 (by simp) fun w0 K0 B => ?_
  dsimp only [entry]
  repeat' first | with_reducible refine AW_seq ?_ | with_reducible refine AW_block ?_ | ((first | with_reducible refine AW_region hTt ?_ | refine AW_draw hTt hMix (id := 1) 5 true [0, 1, 0, 4, 3, 31] (by kernel_rfl) rfl rfl (by kernel_rfl) ?_ | refine Or.inr ?_ | refine andA ?_ | fail); conv => whnf) | (refine fun hln => ?_; (try rw [List.length_map] at hln); unfold maxLen at hln; conv => whnf) | fail
  refine AW_imp (Imp.freeze 17 (fr' := frR n flt xs 13) (σ' := (15, .box (cellsN 13 0 0)) :: sB n s1 sk s2 (dl0 n) s3 k' nw) rfl ?_ ?_ rfl rfl) ?_
  · exact ⟨⟨_, rfl, .inl rfl⟩, ⟨_, congrArg (fun k : Nat => some (iv .i64 k)) (List.length_map _), .inl rfl⟩, ⟨_, rfl, .inl rfl⟩, ⟨_, rfl, .inl rfl⟩, ⟨_, rfl, .inr ⟨13, rfl, Nat.le_of_ble_eq_true rfl, rfl⟩⟩, ⟨_, rfl, .inl rfl⟩, trivial⟩
  · exact ⟨rfl, rfl, rfl, rfl, rfl, trivial⟩
  refine AW_imp (Imp.nil 600 3 1 (fr' := frR n flt xs 13) (σ' := chN 0 ((15, .box (cellsN 13 0 1)) :: sB n s1 sk s2 (dl0 n) s3 k' nw)) rfl ⟨⟨_, rfl, .inl rfl⟩, ⟨_, rfl, .inl rfl⟩, ⟨_, rfl, .inl rfl⟩, ⟨_, rfl, .inl rfl⟩, ⟨_, rfl, .inl rfl⟩, ⟨_, rfl, .inl rfl⟩, trivial⟩ ?_ rfl rfl) ?_
  · exact ⟨⟨_, rfl, .inr ⟨_, _, rfl, rfl, .inr ⟨rfl, rfl⟩, .inl rfl, .inl rfl, .inl rfl, .inl rfl, .inl rfl, .inl rfl, .inl rfl, .inl rfl, .inl rfl, .inl rfl, .inl rfl, .inl rfl, trivial⟩⟩, ⟨_, rfl, .inl rfl⟩, ⟨_, rfl, .inl rfl⟩, ⟨_, rfl, .inl rfl⟩, ⟨_, rfl, .inl rfl⟩, trivial⟩
  refine AW_imp (Imp.nil 601 3 1 (fr' := frR n flt xs 13) (σ' := chN 1 ((15, .box (cellsN 13 0 2)) :: sB n s1 sk s2 (dl0 n) s3 k' nw)) rfl ⟨⟨_, rfl, .inl rfl⟩, ⟨_, rfl, .inl rfl⟩, ⟨_, rfl, .inl rfl⟩, ⟨_, rfl, .inl rfl⟩, ⟨_, rfl, .inl rfl⟩, ⟨_, rfl, .inl rfl⟩, trivial⟩ ?_ rfl rfl) ?_
  · exact ⟨⟨_, rfl, .inl rfl⟩, ⟨_, rfl, .inr ⟨_, _, rfl, rfl, .inl rfl, .inr ⟨rfl, rfl⟩, .inl rfl, .inl rfl, .inl rfl, .inl rfl, .inl rfl, .inl rfl, .inl rfl, .inl rfl, .inl rfl, .inl rfl, .inl rfl, trivial⟩⟩, ⟨_, rfl, .inl rfl⟩, ⟨_, rfl, .inl rfl⟩, ⟨_, rfl, .inl rfl⟩, ⟨_, rfl, .inl rfl⟩, trivial⟩
  refine AW_imp (Imp.nil 602 3 1 (fr' := frR n flt xs 13) (σ' := chN 2 ((15, .box (cellsN 13 0 3)) :: sB n s1 sk s2 (dl0 n) s3 k' nw)) rfl ⟨⟨_, rfl, .inl rfl⟩, ⟨_, rfl, .inl rfl⟩, ⟨_, rfl, .inl rfl⟩, ⟨_, rfl, .inl rfl⟩, ⟨_, rfl, .inl rfl⟩, ⟨_, rfl, .inl rfl⟩, trivial⟩ ?_ rfl rfl) ?_
  · exact ⟨⟨_, rfl, .inl rfl⟩, ⟨_, rfl, .inl rfl⟩, ⟨_, rfl, .inr ⟨_, _, rfl, rfl, .inl rfl, .inl rfl, .inr ⟨rfl, rfl⟩, .inl rfl, .inl rfl, .inl rfl, .inl rfl, .inl rfl, .inl rfl, .inl rfl, .inl rfl, .inl rfl, .inl rfl, trivial⟩⟩, ⟨_, rfl, .inl rfl⟩, ⟨_, rfl, .inl rfl⟩, ⟨_, rfl, .inl rfl⟩, ⟨_, rfl, .inl rfl⟩, trivial⟩
  refine AW_imp (Imp.nil 603 3 1 (fr' := frR n flt xs 13) (σ' := chN 3 ((15, .box (cellsN 13 0 4)) :: sB n s1 sk s2 (dl0 n) s3 k' nw)) rfl ⟨⟨_, rfl, .inl rfl⟩, ⟨_, rfl, .inl rfl⟩, ⟨_, rfl, .inl rfl⟩, ⟨_, rfl, .inl rfl⟩, ⟨_, rfl, .inl rfl⟩, ⟨_, rfl, .inl rfl⟩, trivial⟩ ?_ rfl rfl) ?_
  · exact ⟨⟨_, rfl, .inl rfl⟩, ⟨_, rfl, .inl rfl⟩, ⟨_, rfl, .inl rfl⟩, ⟨_, rfl, .inr ⟨_, _, rfl, rfl, .inl rfl, .inl rfl, .inl rfl, .inr ⟨rfl, rfl⟩, .inl rfl, .inl rfl, .inl rfl, .inl rfl, .inl rfl, .inl rfl, .inl rfl, .inl rfl, .inl rfl, trivial⟩⟩, ⟨_, rfl, .inl rfl⟩, ⟨_, rfl, .inl rfl⟩, ⟨_, rfl, .inl rfl⟩, ⟨_, rfl, .inl rfl⟩, trivial⟩
  refine AW_imp (Imp.nil 604 3 1 (fr' := frR n flt xs 13) (σ' := chN 4 ((15, .box (cellsN 13 0 5)) :: sB n s1 sk s2 (dl0 n) s3 k' nw)) rfl ⟨⟨_, rfl, .inl rfl⟩, ⟨_, rfl, .inl rfl⟩, ⟨_, rfl, .inl rfl⟩, ⟨_, rfl, .inl rfl⟩, ⟨_, rfl, .inl rfl⟩, ⟨_, rfl, .inl rfl⟩, trivial⟩ ?_ rfl rfl) ?_
  · exact ⟨⟨_, rfl, .inl rfl⟩, ⟨_, rfl, .inl rfl⟩, ⟨_, rfl, .inl rfl⟩, ⟨_, rfl, .inl rfl⟩, ⟨_, rfl, .inr ⟨_, _, rfl, rfl, .inl rfl, .inl rfl, .inl rfl, .inl rfl, .inr ⟨rfl, rfl⟩, .inl rfl, .inl rfl, .inl rfl, .inl rfl, .inl rfl, .inl rfl, .inl rfl, .inl rfl, trivial⟩⟩, ⟨_, rfl, .inl rfl⟩, ⟨_, rfl, .inl rfl⟩, ⟨_, rfl, .inl rfl⟩, ⟨_, rfl, .inl rfl⟩, trivial⟩
  refine AW_imp (Imp.nil 605 3 1 (fr' := frR n flt xs 13) (σ' := chN 5 ((15, .box (cellsN 13 0 6)) :: sB n s1 sk s2 (dl0 n) s3 k' nw)) rfl ⟨⟨_, rfl, .inl rfl⟩, ⟨_, rfl, .inl rfl⟩, ⟨_, rfl, .inl rfl⟩, ⟨_, rfl, .inl rfl⟩, ⟨_, rfl, .inl rfl⟩, ⟨_, rfl, .inl rfl⟩, trivial⟩ ?_ rfl rfl) ?_
  · exact ⟨⟨_, rfl, .inl rfl⟩, ⟨_, rfl, .inl rfl⟩, ⟨_, rfl, .inl rfl⟩, ⟨_, rfl, .inl rfl⟩, ⟨_, rfl, .inl rfl⟩, ⟨_, rfl, .inr ⟨_, _, rfl, rfl, .inl rfl, .inl rfl, .inl rfl, .inl rfl, .inl rfl, .inr ⟨rfl, rfl⟩, .inl rfl, .inl rfl, .inl rfl, .inl rfl, .inl rfl, .inl rfl, .inl rfl, trivial⟩⟩, ⟨_, rfl, .inl rfl⟩, ⟨_, rfl, .inl rfl⟩, ⟨_, rfl, .inl rfl⟩, ⟨_, rfl, .inl rfl⟩, trivial⟩
  refine AW_imp (Imp.nil 606 3 1 (fr' := frR n flt xs 13) (σ' := chN 6 ((15, .box (cellsN 13 0 7)) :: sB n s1 sk s2 (dl0 n) s3 k' nw)) rfl ⟨⟨_, rfl, .inl rfl⟩, ⟨_, rfl, .inl rfl⟩, ⟨_, rfl, .inl rfl⟩, ⟨_, rfl, .inl rfl⟩, ⟨_, rfl, .inl rfl⟩, ⟨_, rfl, .inl rfl⟩, trivial⟩ ?_ rfl rfl) ?_
  · exact ⟨⟨_, rfl, .inl rfl⟩, ⟨_, rfl, .inl rfl⟩, ⟨_, rfl, .inl rfl⟩, ⟨_, rfl, .inl rfl⟩, ⟨_, rfl, .inl rfl⟩, ⟨_, rfl, .inl rfl⟩, ⟨_, rfl, .inr ⟨_, _, rfl, rfl, .inl rfl, .inl rfl, .inl rfl, .inl rfl, .inl rfl, .inl rfl, .inr ⟨rfl, rfl⟩, .inl rfl, .inl rfl, .inl rfl, .inl rfl, .inl rfl, .inl rfl, trivial⟩⟩, ⟨_, rfl, .inl rfl⟩, ⟨_, rfl, .inl rfl⟩, ⟨_, rfl, .inl rfl⟩, ⟨_, rfl, .inl rfl⟩, trivial⟩
  refine AW_imp (Imp.nil 607 3 1 (fr' := frR n flt xs 13) (σ' := chN 7 ((15, .box (cellsN 13 0 8)) :: sB n s1 sk s2 (dl0 n) s3 k' nw)) rfl ⟨⟨_, rfl, .inl rfl⟩, ⟨_, rfl, .inl rfl⟩, ⟨_, rfl, .inl rfl⟩, ⟨_, rfl, .inl rfl⟩, ⟨_, rfl, .inl rfl⟩, ⟨_, rfl, .inl rfl⟩, trivial⟩ ?_ rfl rfl) ?_
  · exact ⟨⟨_, rfl, .inl rfl⟩, ⟨_, rfl, .inl rfl⟩, ⟨_, rfl, .inl rfl⟩, ⟨_, rfl, .inl rfl⟩, ⟨_, rfl, .inl rfl⟩, ⟨_, rfl, .inl rfl⟩, ⟨_, rfl, .inl rfl⟩, ⟨_, rfl, .inr ⟨_, _, rfl, rfl, .inl rfl, .inl rfl, .inl rfl, .inl rfl, .inl rfl, .inl rfl, .inl rfl, .inr ⟨rfl, rfl⟩, .inl rfl, .inl rfl, .inl rfl, .inl rfl, .inl rfl, trivial⟩⟩, ⟨_, rfl, .inl rfl⟩, ⟨_, rfl, .inl rfl⟩, ⟨_, rfl, .inl rfl⟩, ⟨_, rfl, .inl rfl⟩, trivial⟩
  refine AW_imp (Imp.nil 608 3 1 (fr' := frR n flt xs 13) (σ' := chN 8 ((15, .box (cellsN 13 0 9)) :: sB n s1 sk s2 (dl0 n) s3 k' nw)) rfl ⟨⟨_, rfl, .inl rfl⟩, ⟨_, rfl, .inl rfl⟩, ⟨_, rfl, .inl rfl⟩, ⟨_, rfl, .inl rfl⟩, ⟨_, rfl, .inl rfl⟩, ⟨_, rfl, .inl rfl⟩, trivial⟩ ?_ rfl rfl) ?_
  · exact ⟨⟨_, rfl, .inl rfl⟩, ⟨_, rfl, .inl rfl⟩, ⟨_, rfl, .inl rfl⟩, ⟨_, rfl, .inl rfl⟩, ⟨_, rfl, .inl rfl⟩, ⟨_, rfl, .inl rfl⟩, ⟨_, rfl, .inl rfl⟩, ⟨_, rfl, .inl rfl⟩, ⟨_, rfl, .inr ⟨_, _, rfl, rfl, .inl rfl, .inl rfl, .inl rfl, .inl rfl, .inl rfl, .inl rfl, .inl rfl, .inl rfl, .inr ⟨rfl, rfl⟩, .inl rfl, .inl rfl, .inl rfl, .inl rfl, trivial⟩⟩, ⟨_, rfl, .inl rfl⟩, ⟨_, rfl, .inl rfl⟩, ⟨_, rfl, .inl rfl⟩, ⟨_, rfl, .inl rfl⟩, trivial⟩
  refine AW_imp (Imp.nil 609 3 1 (fr' := frR n flt xs 13) (σ' := chN 9 ((15, .box (cellsN 13 0 10)) :: sB n s1 sk s2 (dl0 n) s3 k' nw)) rfl ⟨⟨_, rfl, .inl rfl⟩, ⟨_, rfl, .inl rfl⟩, ⟨_, rfl, .inl rfl⟩, ⟨_, rfl, .inl rfl⟩, ⟨_, rfl, .inl rfl⟩, ⟨_, rfl, .inl rfl⟩, trivial⟩ ?_ rfl rfl) ?_
  · exact ⟨⟨_, rfl, .inl rfl⟩, ⟨_, rfl, .inl rfl⟩, ⟨_, rfl, .inl rfl⟩, ⟨_, rfl, .inl rfl⟩, ⟨_, rfl, .inl rfl⟩, ⟨_, rfl, .inl rfl⟩, ⟨_, rfl, .inl rfl⟩, ⟨_, rfl, .inl rfl⟩, ⟨_, rfl, .inl rfl⟩, ⟨_, rfl, .inr ⟨_, _, rfl, rfl, .inl rfl, .inl rfl, .inl rfl, .inl rfl, .inl rfl, .inl rfl, .inl rfl, .inl rfl, .inl rfl, .inr ⟨rfl, rfl⟩, .inl rfl, .inl rfl, .inl rfl, trivial⟩⟩, ⟨_, rfl, .inl rfl⟩, ⟨_, rfl, .inl rfl⟩, ⟨_, rfl, .inl rfl⟩, ⟨_, rfl, .inl rfl⟩, trivial⟩
  refine AW_imp (Imp.nil 610 3 1 (fr' := frR n flt xs 13) (σ' := chN 10 ((15, .box (cellsN 13 0 11)) :: sB n s1 sk s2 (dl0 n) s3 k' nw)) rfl ⟨⟨_, rfl, .inl rfl⟩, ⟨_, rfl, .inl rfl⟩, ⟨_, rfl, .inl rfl⟩, ⟨_, rfl, .inl rfl⟩, ⟨_, rfl, .inl rfl⟩, ⟨_, rfl, .inl rfl⟩, trivial⟩ ?_ rfl rfl) ?_
  · exact ⟨⟨_, rfl, .inl rfl⟩, ⟨_, rfl, .inl rfl⟩, ⟨_, rfl, .inl rfl⟩, ⟨_, rfl, .inl rfl⟩, ⟨_, rfl, .inl rfl⟩, ⟨_, rfl, .inl rfl⟩, ⟨_, rfl, .inl rfl⟩, ⟨_, rfl, .inl rfl⟩, ⟨_, rfl, .inl rfl⟩, ⟨_, rfl, .inl rfl⟩, ⟨_, rfl, .inr ⟨_, _, rfl, rfl, .inl rfl, .inl rfl, .inl rfl, .inl rfl, .inl rfl, .inl rfl, .inl rfl, .inl rfl, .inl rfl, .inl rfl, .inr ⟨rfl, rfl⟩, .inl rfl, .inl rfl, trivial⟩⟩, ⟨_, rfl, .inl rfl⟩, ⟨_, rfl, .inl rfl⟩, ⟨_, rfl, .inl rfl⟩, ⟨_, rfl, .inl rfl⟩, trivial⟩
  refine AW_imp (Imp.nil 611 3 1 (fr' := frR n flt xs 13) (σ' := chN 11 ((15, .box (cellsN 13 0 12)) :: sB n s1 sk s2 (dl0 n) s3 k' nw)) rfl ⟨⟨_, rfl, .inl rfl⟩, ⟨_, rfl, .inl rfl⟩, ⟨_, rfl, .inl rfl⟩, ⟨_, rfl, .inl rfl⟩, ⟨_, rfl, .inl rfl⟩, ⟨_, rfl, .inl rfl⟩, trivial⟩ ?_ rfl rfl) ?_
  · exact ⟨⟨_, rfl, .inl rfl⟩, ⟨_, rfl, .inl rfl⟩, ⟨_, rfl, .inl rfl⟩, ⟨_, rfl, .inl rfl⟩, ⟨_, rfl, .inl rfl⟩, ⟨_, rfl, .inl rfl⟩, ⟨_, rfl, .inl rfl⟩, ⟨_, rfl, .inl rfl⟩, ⟨_, rfl, .inl rfl⟩, ⟨_, rfl, .inl rfl⟩, ⟨_, rfl, .inl rfl⟩, ⟨_, rfl, .inr ⟨_, _, rfl, rfl, .inl rfl, .inl rfl, .inl rfl, .inl rfl, .inl rfl, .inl rfl, .inl rfl, .inl rfl, .inl rfl, .inl rfl, .inl rfl, .inr ⟨rfl, rfl⟩, .inl rfl, trivial⟩⟩, ⟨_, rfl, .inl rfl⟩, ⟨_, rfl, .inl rfl⟩, ⟨_, rfl, .inl rfl⟩, ⟨_, rfl, .inl rfl⟩, trivial⟩
  refine AW_imp (Imp.nil 612 3 1 (fr' := frR n flt xs 13) (σ' := chN 12 ((15, .box (cellsN 13 0 13)) :: sB n s1 sk s2 (dl0 n) s3 k' nw)) rfl ⟨⟨_, rfl, .inl rfl⟩, ⟨_, rfl, .inl rfl⟩, ⟨_, rfl, .inl rfl⟩, ⟨_, rfl, .inl rfl⟩, ⟨_, rfl, .inl rfl⟩, ⟨_, rfl, .inl rfl⟩, trivial⟩ ?_ rfl rfl) ?_
  · exact ⟨⟨_, rfl, .inl rfl⟩, ⟨_, rfl, .inl rfl⟩, ⟨_, rfl, .inl rfl⟩, ⟨_, rfl, .inl rfl⟩, ⟨_, rfl, .inl rfl⟩, ⟨_, rfl, .inl rfl⟩, ⟨_, rfl, .inl rfl⟩, ⟨_, rfl, .inl rfl⟩, ⟨_, rfl, .inl rfl⟩, ⟨_, rfl, .inl rfl⟩, ⟨_, rfl, .inl rfl⟩, ⟨_, rfl, .inl rfl⟩, ⟨_, rfl, .inr ⟨_, _, rfl, rfl, .inl rfl, .inl rfl, .inl rfl, .inl rfl, .inl rfl, .inl rfl, .inl rfl, .inl rfl, .inl rfl, .inl rfl, .inl rfl, .inl rfl, .inr ⟨rfl, rfl⟩, trivial⟩⟩, ⟨_, rfl, .inl rfl⟩, ⟨_, rfl, .inl rfl⟩, ⟨_, rfl, .inl rfl⟩, ⟨_, rfl, .inl rfl⟩, trivial⟩
  refine AW_loop (fun p : Nat × Nat × Nat × List W16 => [(20, iv .i64 p.1), (19, iv .i64 xs.length), (18, sl xs), (7, .x (.sb 15 0 13 13)), (8, sl (stsL n flt xs 13 p.1)), (0, .x (.b 900 0))])
    (fun p => (15, .box [.o 600 (p.1) (p.1), .o 601 (p.1) (p.1), .o 602 (p.1) (p.1), .o 603 (p.1) (p.1), .o 604 (p.1) (p.1), .o 605 (p.1) (p.1), .o 606 (p.1) (p.1), .o 607 (p.1) (p.1), .o 608 (p.1) (p.1), .o 609 (p.1) (p.1), .o 610 (p.1) (p.1), .o 611 (p.1) (p.1), .o 612 (p.1) (p.1)]) :: (600, rwOb n (flt 0) xs (p.1)) :: (601, rwOb n (flt 1) xs (p.1)) :: (602, rwOb n (flt 2) xs (p.1)) :: (603, rwOb n (flt 3) xs (p.1)) :: (604, rwOb n (flt 4) xs (p.1)) :: (605, rwOb n (flt 5) xs (p.1)) :: (606, rwOb n (flt 6) xs (p.1)) :: (607, rwOb n (flt 7) xs (p.1)) :: (608, rwOb n (flt 8) xs (p.1)) :: (609, rwOb n (flt 9) xs (p.1)) :: (610, rwOb n (flt 10) xs (p.1)) :: (611, rwOb n (flt 11) xs (p.1)) :: (612, rwOb n (flt 12) xs (p.1)) :: sB n s1 sk s2 (dl0 n) p.2.1 p.2.2.1 p.2.2.2)
    (fun p => p.1 ≤ xs.length) (fun p => xs.length - p.1) (0, s3, k', nw) (Nat.zero_le _) impA ?_
  rintro ⟨t, a, b, c⟩ ht
  dsimp only at ht ⊢
  rcases Nat.lt_or_ge t xs.length with htl | htl
  · have hbeat := fun s3 k' nw => beat_lanes ok (s1 := s1) hsk (s2 := s2) (s3 := s3) (k' := k') (nw := nw) (k := 13) (by decide) hl xs t xs[t] (getDI htl)
    have hol := otsL_len n flt xs 13 t
    repeat' first | with_reducible refine AW_seq ?_ | with_reducible refine AW_block ?_ | ((first | with_reducible refine AW_skip ?_ | with_reducible refine AW_exit ?_ | with_reducible refine AW_ret ?_ | with_reducible refine AW_region hTt ?_ | fail); conv => whnf) | (exact absurd hb (by omega)) | ((refine ⟨_, (hbeat a b c).frame (asc []) (by repeat (first | exact trivial | refine ⟨rfl, ?_⟩)) rfl (by rintro _ _ ⟨_, rfl, rfl⟩; rfl), ?_⟩); (rintro _ _ ⟨_, _, ⟨_, rfl, rfl⟩, rfl, rfl⟩); conv => whnf) | (refine AW_cond rfl (fun hb => ?_) (fun hb => ?_) <;> first | (replace hb := of_decide_eq_true hb; try simp only [List.length_map] at hb) | (replace hb := of_decide_eq_false hb; try simp only [List.length_map] at hb) | (simp only [List.length_map, bne_iff_ne, ne_eq, beq_iff_eq, bne_eq_false_iff_eq, beq_eq_false_iff_ne, decide_eq_true_eq, decide_eq_false_iff_not, Bool.not_eq_true', Bool.not_eq_false', Int.natCast_inj] at hb) | skip) | ((first | refine andA ?_ | with_reducible refine Exists.intro _ (And.intro (gd_any (And.intro (by omega) (map_get (by omega)))) ?_) | fail); conv => whnf) | (refine fun hln => ?_; (try rw [List.length_map] at hln); unfold maxLen at hln; conv => whnf) | fail
    rename_i pp
    refine AW_loop (fun l : Nat => [(33, iv .i64 l), (32, iv .i64 13), (31, sl (otsL n flt xs 13 t)), (20, iv .i64 t), (19, iv .i64 xs.length), (18, sl xs), (7, .x (.sb 15 0 13 13)), (8, sl (stsL n flt xs 13 (t + 1))), (0, .x (.b 900 0))])
      (fun l => (15, .box [.o 600 (t + bt 0 l) (t + bt 0 l), .o 601 (t + bt 1 l) (t + bt 1 l), .o 602 (t + bt 2 l) (t + bt 2 l), .o 603 (t + bt 3 l) (t + bt 3 l), .o 604 (t + bt 4 l) (t + bt 4 l), .o 605 (t + bt 5 l) (t + bt 5 l), .o 606 (t + bt 6 l) (t + bt 6 l), .o 607 (t + bt 7 l) (t + bt 7 l), .o 608 (t + bt 8 l) (t + bt 8 l), .o 609 (t + bt 9 l) (t + bt 9 l), .o 610 (t + bt 10 l) (t + bt 10 l), .o 611 (t + bt 11 l) (t + bt 11 l), .o 612 (t + bt 12 l) (t + bt 12 l)]) :: (600, rwOb n (flt 0) xs (t + bt 0 l)) :: (601, rwOb n (flt 1) xs (t + bt 1 l)) :: (602, rwOb n (flt 2) xs (t + bt 2 l)) :: (603, rwOb n (flt 3) xs (t + bt 3 l)) :: (604, rwOb n (flt 4) xs (t + bt 4 l)) :: (605, rwOb n (flt 5) xs (t + bt 5 l)) :: (606, rwOb n (flt 6) xs (t + bt 6 l)) :: (607, rwOb n (flt 7) xs (t + bt 7 l)) :: (608, rwOb n (flt 8) xs (t + bt 8 l)) :: (609, rwOb n (flt 9) xs (t + bt 9 l)) :: (610, rwOb n (flt 10) xs (t + bt 10 l)) :: (611, rwOb n (flt 11) xs (t + bt 11 l)) :: (612, rwOb n (flt 12) xs (t + bt 12 l)) :: sB n s1 sk s2 (dl0 n) pp.1 pp.2.1 pp.2.2) (fun l => l ≤ 13) (fun l => 13 - l) 0 (Nat.zero_le _) impA ?_
    intro l hlk
    rcases Nat.lt_or_ge l 13 with hll | hll
    · have hg := ots_at n flt xs t hll
      have e := row_app n (flt l) xs t l
      have hq := bt_self l
      have hz := outsR_len n (flt l) xs (t + bt l l)
      obtain ⟨j, hj⟩ : ∃ j, j = l + 1 := ⟨_, rfl⟩
      have hl' : l = 0 ∨ l = 1 ∨ l = 2 ∨ l = 3 ∨ l = 4 ∨ l = 5 ∨ l = 6 ∨ l = 7 ∨ l = 8 ∨ l = 9 ∨ l = 10 ∨ l = 11 ∨ l = 12 := by omega
      clear hol hbeat ht hlk hll
      rcases hl' with rfl | rfl | rfl | rfl | rfl | rfl | rfl | rfl | rfl | rfl | rfl | rfl | rfl
      all_goals
        repeat' first | with_reducible refine AW_seq ?_ | with_reducible refine AW_block ?_ | ((first | with_reducible refine AW_skip ?_ | with_reducible refine AW_region hTt ?_ | with_reducible refine Exists.intro _ (And.intro (gd_any (And.intro (by omega) hg)) ?_) | refine And.intro (gd_any (And.intro (by decide) (by decide))) ?_ | fail); conv => whnf) | ((refine And.intro ?_ ?_; focus (refine ⟨?_, ?_, ?_⟩ <;> simp [chunk, maxLen] <;> omega)); conv => whnf) | (refine AW_cond rfl (fun _ => ?_) (fun hb => absurd hb (by decide))) | ((first | refine ⟨_, wrap_of (by first | omega | (simp only [List.length_map]; omega)), ?_⟩ | refine andA ?_ | fail); conv => whnf) | fail
        exact ⟨j, by omega, by omega, by subst hj; exact impA⟩
    have hle : l = 13 := by omega
    subst hle
    repeat' first | with_reducible refine AW_seq ?_ | ((first | with_reducible refine AW_exit ?_ | with_reducible refine AW_region hTt ?_ | fail); conv => whnf) | (refine AW_cond rfl (fun hb => absurd hb (by decide)) (fun _ => ?_)) | ((refine ⟨_, wrap_of (by first | omega | (simp only [List.length_map]; omega)), ?_⟩); conv => whnf) | fail
    exact ⟨(t + 1, pp.1, pp.2.1, pp.2.2), by show t + 1 ≤ xs.length; omega, by show xs.length - (t + 1) < xs.length - t; omega, impA⟩
  · have hte : t = xs.length := by omega
    subst hte
    repeat' first | with_reducible refine AW_seq ?_ | with_reducible refine AW_block ?_ | ((first | with_reducible refine AW_skip ?_ | with_reducible refine AW_exit ?_ | with_reducible refine AW_ret ?_ | with_reducible refine AW_region hTt ?_ | fail); conv => whnf) | (exact absurd hb (by omega)) | (refine AW_cond rfl (fun hb => ?_) (fun hb => ?_) <;> first | (replace hb := of_decide_eq_true hb; try simp only [List.length_map] at hb) | (replace hb := of_decide_eq_false hb; try simp only [List.length_map] at hb) | (simp only [List.length_map, bne_iff_ne, ne_eq, beq_iff_eq, bne_eq_false_iff_eq, beq_eq_false_iff_ne, decide_eq_true_eq, decide_eq_false_iff_not, Bool.not_eq_true', Bool.not_eq_false', Int.natCast_inj] at hb) | skip) | fail
    refine ⟨_, sB n s1 sk s2 (dl0 n) a b c, ⟨rfl, rfl, rfl, rfl, trivial⟩, rfl, (?_ : _ = some (rowsAV ((List.range 13).map fun l => outsR n (flt l) xs xs.length))), (a, b, c), rfl, rfl⟩
    have hk := keepRows (σ := (15, .box [.o 600 xs.length xs.length, .o 601 xs.length xs.length, .o 602 xs.length xs.length, .o 603 xs.length xs.length, .o 604 xs.length xs.length, .o 605 xs.length xs.length, .o 606 xs.length xs.length, .o 607 xs.length xs.length, .o 608 xs.length xs.length, .o 609 xs.length xs.length, .o 610 xs.length xs.length, .o 611 xs.length xs.length, .o 612 xs.length xs.length]) :: (600, rwOb n (flt 0) xs xs.length) :: (601, rwOb n (flt 1) xs xs.length) :: (602, rwOb n (flt 2) xs xs.length) :: (603, rwOb n (flt 3) xs xs.length) :: (604, rwOb n (flt 4) xs xs.length) :: (605, rwOb n (flt 5) xs xs.length) :: (606, rwOb n (flt 6) xs xs.length) :: (607, rwOb n (flt 7) xs xs.length) :: (608, rwOb n (flt 8) xs xs.length) :: (609, rwOb n (flt 9) xs xs.length) :: (610, rwOb n (flt 10) xs xs.length) :: (611, rwOb n (flt 11) xs xs.length) :: (612, rwOb n (flt 12) xs xs.length) :: sB n s1 sk s2 (dl0 n) a b c) (σ' := sB n s1 sk s2 (dl0 n) a b c) (id := 15) (n := 13) (cap := 13) (ps := [PV.s 1 ((outsR n (flt 0) xs xs.length).map iPV), PV.s 1 ((outsR n (flt 1) xs xs.length).map iPV), PV.s 1 ((outsR n (flt 2) xs xs.length).map iPV), PV.s 1 ((outsR n (flt 3) xs xs.length).map iPV), PV.s 1 ((outsR n (flt 4) xs xs.length).map iPV), PV.s 1 ((outsR n (flt 5) xs xs.length).map iPV), PV.s 1 ((outsR n (flt 6) xs xs.length).map iPV), PV.s 1 ((outsR n (flt 7) xs xs.length).map iPV), PV.s 1 ((outsR n (flt 8) xs xs.length).map iPV), PV.s 1 ((outsR n (flt 9) xs xs.length).map iPV), PV.s 1 ((outsR n (flt 10) xs xs.length).map iPV), PV.s 1 ((outsR n (flt 11) xs xs.length).map iPV), PV.s 1 ((outsR n (flt 12) xs xs.length).map iPV)]) rfl rfl
      (by repeat' first | exact rfl | refine rowPVs_cons (rowPV_o rfl rfl (by rw [List.length_map, outsR_len])) ?_) rfl
    exact outKeep1 (x := .x (.sb 15 0 13 13)) rfl hk
end Go.Proofs.YtfghooojingdhaaDoor
namespace Go.Proofs.YtfghooojingdhaaDoor
open Go Go.QL
set_option maxHeartbeats 1600000
attribute [local irreducible] ACall FnC
theorem runs_at {k : Nat} (h1 : 1 ≤ k) (h13 : k ≤ 13) : RunsAt k := by
  have : k = 1 ∨ k = 2 ∨ k = 3 ∨ k = 4 ∨ k = 5 ∨ k = 6 ∨ k = 7 ∨ k = 8 ∨ k = 9 ∨ k = 10 ∨ k = 11 ∨ k = 12 ∨ k = 13 := by omega
  intro n ok s1 sk hsk s2 s3 k' nw flt hl xs hxl
  rcases this with rfl | rfl | rfl | rfl | rfl | rfl | rfl | rfl | rfl | rfl | rfl | rfl | rfl
  · exact run_1 ok hsk hl xs hxl
  · exact run_2 ok hsk hl xs hxl
  · exact run_3 ok hsk hl xs hxl
  · exact run_4 ok hsk hl xs hxl
  · exact run_5 ok hsk hl xs hxl
  · exact run_6 ok hsk hl xs hxl
  · exact run_7 ok hsk hl xs hxl
  · exact run_8 ok hsk hl xs hxl
  · exact run_9 ok hsk hl xs hxl
  · exact run_10 ok hsk hl xs hxl
  · exact run_11 ok hsk hl xs hxl
  · exact run_12 ok hsk hl xs hxl
  · exact run_13 ok hsk hl xs hxl
end Go.Proofs.YtfghooojingdhaaDoor
namespace Go.Proofs.YtfghooojingdhaaDoor
open Go Go.QL
set_option maxHeartbeats 3200000
attribute [local irreducible] ACall FnC YC
theorem runs_of (n : NetT) (fs : List FaultT) (ts : List (List Int)) (hc : askedR n fs ts = 0) : RunsAt (fs.length + 1) := by
  have := (AskOK.of hc).fl
  exact runs_at (by omega) (by omega)
end Go.Proofs.YtfghooojingdhaaDoor
namespace Go.Proofs.YtfghooojingdhaaDoor
open Go Go.QL
set_option maxHeartbeats 3200000
attribute [local irreducible] ACall FnC YC
def rwL (r : List Int) : List PV := [intsPV r]
theorem outputs_fn {n : NetT} (hi : i64 n.inn) {fs : List FaultT} {ts : List (List Int)} (h : AskOK n fs ts) : FnC Tryd.prog 47 [netAV n, faultsAV fs, rowsAV ts] (.t [cubeAV (ts.map fun t => lanesR n fs t), bv true]) := by
  have hfl := h.fl
  have htl := h.tl
  refine FnC_of_AWL hTt Tryd.func47 rfl (by kernel_rfl) (res := [.tmp 6, .tmp 7]) rfl Tryd.ntmps47 (by simp) fun w0 K0 => ?_
  dsimp only [entry]
  repeat' first | with_reducible refine AW_seq ?_ | with_reducible refine AW_block ?_ | ((with_reducible refine AW_region hTt ?_); conv => whnf) | fail
  refine AW_imp (Imp.nil 8 54 1 (fr' := [(9, iv .i64 0), (3, .x (.b 3 0)), (1, faultsAV fs), (2, rowsAV ts), (8, .x (.o 8 0 0))]) (σ' := [(3, netCells n)]) rfl ?_ ⟨⟨_, rfl, .inl rfl⟩, trivial⟩ rfl rfl) ?_
  · exact ⟨⟨_, rfl, .inl rfl⟩, ⟨_, rfl, .inl rfl⟩, ⟨_, rfl, .inl rfl⟩, ⟨_, rfl, .inl rfl⟩, ⟨_, rfl, .inr ⟨rfl, rfl⟩⟩, trivial⟩
  refine AW_loop (fun i : Nat => [(9, iv .i64 i), (3, .x (.b 3 0)), (1, faultsAV fs), (2, rowsAV ts), (8, .x (.o 8 i i))]) (fun i => [(8, .chain 54 1 i (cubePV ((ts.take i).map fun t => lanesR n fs t))), (3, netCells n)])
    (fun i => i ≤ ts.length) (fun i => ts.length - i) 0 (Nat.zero_le _) impA ?_
  intro i hil'
  have hlen : (cubePV ((ts.take i).map fun t => lanesR n fs t)).length = i := by unfold cubePV; rw [List.length_map, List.length_map, List.length_take]; omega
  rcases Nat.lt_or_ge i ts.length with hil | hil
  · obtain ⟨t, ht⟩ : ∃ t, ts[i]? = some t := ⟨_, List.getElem?_eq_getElem hil⟩
    have htm : t ∈ ts := List.mem_of_getElem? ht
    have hrun := prun_fn n hi t
    rw [ask_run h htm] at hrun
    have hll : (lanesR n fs t).length = fs.length + 1 := by rw [lanes_cons]; simp
    have h0 : [[intsPV (oR n fine t)]] = ((lanesR n fs t).take (0 + 1)).map rwL := by rw [lanes_cons]; rfl
    have hst : (cubePV ((ts.take i).map fun t => lanesR n fs t)).take i ++ [[rowsPV (lanesR n fs t)]] = cubePV ((ts.take (i + 1)).map fun t => lanesR n fs t) := by
      rw [List.take_of_length_le (Nat.le_of_eq hlen), List.take_add_one, ht]
      unfold cubePV
      rw [List.map_append, List.map_append]; rfl
    have hfz : AV.x (.d (rowsPV (lanesR n fs t))) = .x (.d (.s 1 ((((lanesR n fs t).take (fs.length + 1)).map rwL).take (fs.length + 1)))) := by
      rw [List.take_of_length_le (by rw [List.length_map, List.length_take]; omega), List.take_of_length_le (by omega)]; rfl
    generalize cubePV ((ts.take i).map fun t => lanesR n fs t) = C at hlen hst
    generalize hC' : cubePV ((ts.take (i + 1)).map fun t => lanesR n fs t) = C' at hst
    repeat' first | with_reducible refine AW_seq ?_ | with_reducible refine AW_block ?_ | ((first | with_reducible refine AW_skip ?_ | with_reducible refine AW_exit ?_ | with_reducible refine AW_ret ?_ | with_reducible refine AW_region hTt ?_ | refine AW_draw hTt hMix (id := 5) 10 false [0, 0, 0, 6, 14, 31, 63, 127, 127, 255, 1023] (by kernel_rfl) rfl rfl (by kernel_rfl) ?_ | fail); conv => whnf) | (exact absurd hb (by omega)) | ((first | with_reducible refine Exists.intro _ (And.intro (gd_any (And.intro (by omega) (row_some ht))) ?_) | refine ⟨_, fun _ => (hrun).call rfl rfl, ?_⟩ | fail); conv => whnf) | (refine AW_cond rfl (fun hb => ?_) (fun hb => ?_) <;> first | (replace hb := of_decide_eq_true hb; try simp only [List.length_map] at hb) | (replace hb := of_decide_eq_false hb; try simp only [List.length_map] at hb) | (simp only [List.length_map, bne_iff_ne, ne_eq, beq_iff_eq, bne_eq_false_iff_eq, beq_eq_false_iff_ne, decide_eq_true_eq, decide_eq_false_iff_not, Bool.not_eq_true', Bool.not_eq_false', Int.natCast_inj] at hb) | skip) | ((refine andA ?_); conv => whnf) | (refine fun hln => ?_; (try rw [List.length_map] at hln); unfold maxLen at hln; conv => whnf) | fail
    refine AW_loop (fun j : Nat => [(13, iv .i64 j), (12, .x (.o 32 j (j + 1))), (11, iv .i64 0), (9, iv .i64 i), (3, .x (.b 3 0)), (1, faultsAV fs), (2, rowsAV ts), (8, .x (.o 8 i i))])
      (fun j => [(32, .chain 23 1 j (((lanesR n fs t).take (j + 1)).map rwL)), (8, .chain 54 1 i C), (3, netCells n)]) (fun j => j ≤ fs.length) (fun j => fs.length - j) 0 (Nat.zero_le _) impA ?_
    intro j hjl'
    have hlj : (((lanesR n fs t).take (j + 1)).map rwL).length = j + 1 := by rw [List.length_map, List.length_take]; omega
    rcases Nat.lt_or_ge j fs.length with hjl | hjl
    · obtain ⟨f, hf⟩ : ∃ f, fs[j]? = some f := ⟨_, List.getElem?_eq_getElem hjl⟩
      have hfm : f ∈ fs := List.mem_of_getElem? hf
      have hstk := pstuck_fn n hi f t
      rw [ask_stuck h hfm htm] at hstk
      have hnx : (lanesR n fs t)[j + 1]? = some (oR n f t) := by rw [lanes_cons, List.getElem?_cons_succ, List.getElem?_map, hf]; rfl
      have e1 : (((lanesR n fs t).take (j + 1)).map rwL).take (j + 1) ++ [[intsPV (oR n f t)]] = ((lanesR n fs t).take (j + 1 + 1)).map rwL := by
        rw [List.take_of_length_le (Nat.le_of_eq hlj), List.take_add_one (i := j + 1), hnx, List.map_append]; rfl
      generalize ((lanesR n fs t).take (j + 1)).map rwL = R at hlj e1
      obtain ⟨fa, fb⟩ := f
      clear hrun hst hfz h0
      repeat' first | with_reducible refine AW_seq ?_ | with_reducible refine AW_block ?_ | ((first | with_reducible refine AW_skip ?_ | with_reducible refine AW_exit ?_ | with_reducible refine AW_region hTt ?_ | refine AW_draw hTt hMix (id := 10) 14 false [0, 0, 0, 6, 14, 0, 0, 96, 224, 511, 1023, 2047, 2047, 4095, 16383] (by kernel_rfl) rfl rfl (by kernel_rfl) ?_ | fail); conv => whnf) | (exfalso; simp at hb; omega) | ((first | with_reducible refine Exists.intro _ (And.intro (gd_any (And.intro (by omega) (fault_some hf))) ?_) | with_reducible refine Exists.intro _ (And.intro (gd_any (And.intro (by omega) (row_some ht))) ?_) | refine ⟨_, fun _ => (hstk).call rfl rfl, ?_⟩ | refine And.intro ⟨Nat.le_of_eq hlj.symm, by show j + 1 + 1 ≤ maxLen; unfold maxLen; omega, by show (j + 1 + 1) * 24 ≤ 140737488355328; omega⟩ ?_ | fail); conv => whnf) | (refine AW_cond rfl (fun hb => ?_) (fun hb => ?_) <;> first | (replace hb := of_decide_eq_true hb; try simp only [List.length_map] at hb) | (replace hb := of_decide_eq_false hb; try simp only [List.length_map] at hb) | (simp only [List.length_map, bne_iff_ne, ne_eq, beq_iff_eq, bne_eq_false_iff_eq, beq_eq_false_iff_ne, decide_eq_true_eq, decide_eq_false_iff_not, Bool.not_eq_true', Bool.not_eq_false', Int.natCast_inj] at hb) | skip) | ((first | refine ⟨_, wrap_of (by first | omega | (simp only [List.length_map]; omega)), ?_⟩ | refine andA ?_ | fail); conv => whnf) | (refine fun hln => ?_; (try rw [List.length_map] at hln); unfold maxLen at hln; conv => whnf) | fail
      exact ⟨j + 1, hjl, by omega, impA⟩
    have hje : j = fs.length := by omega
    subst hje
    repeat' first | ((refine AW_imp (Imp.freeze 32 (fr' := [(12, .x (.d (rowsPV (lanesR n fs t)))), (9, iv .i64 i), (3, .x (.b 3 0)), (1, faultsAV fs), (2, rowsAV ts), (8, .x (.o 8 i i))]) (σ' := [(8, .chain 54 1 i C), (3, netCells n)]) rfl ⟨⟨_, rfl, .inr ⟨fs.length + 1, rfl, Nat.le_of_eq hlj.symm, hfz⟩⟩, ⟨_, rfl, .inl rfl⟩, ⟨_, rfl, .inl rfl⟩, ⟨_, rfl, .inl rfl⟩, ⟨_, rfl, .inl rfl⟩, ⟨_, rfl, .inl rfl⟩, trivial⟩ ⟨rfl, rfl, trivial⟩ rfl rfl) (AW_region (id := 14) hTt ?_)); conv => whnf) | with_reducible refine AW_seq ?_ | with_reducible refine AW_block ?_ | ((first | with_reducible refine AW_skip ?_ | with_reducible refine AW_exit ?_ | with_reducible refine AW_region hTt ?_ | refine AW_draw hTt hMix (id := 10) 14 false [0, 0, 0, 6, 14, 0, 0, 96, 224, 511, 1023, 2047, 2047, 4095, 16383] (by kernel_rfl) rfl rfl (by kernel_rfl) ?_ | fail); conv => whnf) | (exfalso; simp at hb; done) | ((refine And.intro ⟨Nat.le_of_eq hlen.symm, by show i + 1 ≤ maxLen; unfold maxLen; omega, by show (i + 1) * 24 ≤ 140737488355328; omega⟩ ?_); conv => whnf) | (refine AW_cond rfl (fun hb => absurd hb (by decide)) (fun _ => ?_)) | (refine AW_cond rfl (fun hb => ?_) (fun hb => ?_) <;> first | (replace hb := of_decide_eq_true hb; try simp only [List.length_map] at hb) | (replace hb := of_decide_eq_false hb; try simp only [List.length_map] at hb) | (simp only [List.length_map, bne_iff_ne, ne_eq, beq_iff_eq, bne_eq_false_iff_eq, beq_eq_false_iff_ne, decide_eq_true_eq, decide_eq_false_iff_not, Bool.not_eq_true', Bool.not_eq_false', Int.natCast_inj] at hb) | skip) | ((first | refine ⟨_, wrap_of (by first | omega | (simp only [List.length_map]; omega)), ?_⟩ | refine andA ?_ | fail); conv => whnf) | (refine fun hln => ?_; (try rw [List.length_map] at hln); unfold maxLen at hln; conv => whnf) | fail
    exact ⟨i + 1, hil, by omega, (Imp.forget (by repeat' (first | exact trivial | refine And.intro ?_ ?_ | exact chE (hst.trans hC'.symm) | rfl | exact ivE (by first | omega | (simp only [List.length_map, List.length_append, List.length_singleton] <;> omega)) | exact oE (by first | omega | (simp only [List.length_map, List.length_append, List.length_singleton] <;> omega)))) (by repeat' (first | exact trivial | refine And.intro ?_ ?_ | exact chE (hst.trans hC'.symm) | rfl | exact ivE (by first | omega | (simp only [List.length_map, List.length_append, List.length_singleton] <;> omega)) | exact oE (by first | omega | (simp only [List.length_map, List.length_append, List.length_singleton] <;> omega)))) (by kernel_rfl) (by kernel_rfl) (by kernel_rfl))⟩
  have hie : i = ts.length := by omega
  subst hie
  repeat' first | with_reducible refine AW_seq ?_ | with_reducible refine AW_block ?_ | ((first | with_reducible refine AW_skip ?_ | with_reducible refine AW_exit ?_ | with_reducible refine AW_ret ?_ | with_reducible refine AW_region hTt ?_ | refine AW_draw hTt hMix (id := 5) 10 false [0, 0, 0, 6, 14, 31, 63, 127, 127, 255, 1023] (by kernel_rfl) rfl rfl (by kernel_rfl) ?_ | fail); conv => whnf) | (exact absurd hb (by omega)) | (refine AW_cond rfl (fun hb => ?_) (fun hb => ?_) <;> first | (replace hb := of_decide_eq_true hb; try simp only [List.length_map] at hb) | (replace hb := of_decide_eq_false hb; try simp only [List.length_map] at hb) | (simp only [List.length_map, bne_iff_ne, ne_eq, beq_iff_eq, bne_eq_false_iff_eq, beq_eq_false_iff_ne, decide_eq_true_eq, decide_eq_false_iff_not, Bool.not_eq_true', Bool.not_eq_false', Int.natCast_inj] at hb) | skip) | (refine fun hln => ?_; (try rw [List.length_map] at hln); unfold maxLen at hln; conv => whnf) | fail
  rw [List.take_of_length_le (Nat.le_refl _)] at hlen ⊢
  refine ⟨.t [cubeAV (ts.map fun t => lanesR n fs t), bv true], ?_, LeAV.refl _⟩
  show viewAV [(8, Ob.chain 54 1 ts.length (cubePV (ts.map fun t => lanesR n fs t))), (3, netCells n)] (.t [.x (.o 8 ts.length ts.length), bv true]) = _
  simp only [viewAV, viewAVs, viewAV1]
  rw [viewO' (σ := [(8, Ob.chain 54 1 ts.length (cubePV (ts.map fun t => lanesR n fs t))), (3, netCells n)]) rfl hlen.symm]
  rfl
end Go.Proofs.YtfghooojingdhaaDoor
namespace Go.Proofs.YtfghooojingdhaaDoor
open Go Go.QL
set_option maxHeartbeats 3200000
attribute [local irreducible] ACall FnC YC
theorem asc_fn {T : Nat} {l : List Int} (h : Asc T 0 l) (hT : T ≤ 4096) : FnC Tryd.prog 48 [sl l, iv .i64 T] (bv true) := by
  refine FnC_of_AW hTt Tryd.func48 rfl (by kernel_rfl) (res := [.tmp 4]) rfl Tryd.ntmps48 (by simp) fun w0 K0 => ?_
  dsimp only [entry]
  repeat' first | with_reducible refine AW_seq ?_ | with_reducible refine AW_block ?_ | ((with_reducible refine AW_region hTt ?_); conv => whnf) | fail
  refine AW_loop (fun i : Nat => [(5, iv .i64 i), (0, sl l), (1, iv .i64 T)]) (fun _ => []) (fun i => i ≤ l.length) (fun i => l.length - i) 0 (Nat.zero_le _) impA ?_
  intro i hil'
  have hll : (l.map fun n => [PV.v (.int .i64 n)]).length = l.length := List.length_map _
  rcases Nat.lt_or_ge i l.length with hil | hil
  · obtain ⟨x, hx⟩ : ∃ x, l[i]? = some x := ⟨_, List.getElem?_eq_getElem hil⟩
    have hxr := asc_ge h x (List.mem_of_getElem? hx)
    obtain ⟨j, hj⟩ : ∃ j, j = i + 1 := ⟨_, rfl⟩
    cases i with
    | zero =>
      repeat' first | with_reducible refine AW_seq ?_ | with_reducible refine AW_block ?_ | ((first | with_reducible refine AW_skip ?_ | with_reducible refine AW_exit ?_ | with_reducible refine AW_ret ?_ | with_reducible refine AW_region hTt ?_ | refine AW_draw hTt hMix (id := 4) 26 false [0, 0, 3, 7, 15, 31, 63, 63, 255, 511, 63, 2047, 4095, 8191, 16383, 32767, 65535, 131071, 131071, 524287, 1048575, 131071, 131071, 4325375, 14811135, 31588351, 67108863, 134217727, 268435455] (by kernel_rfl) rfl rfl (by kernel_rfl) ?_ | refine And.intro ?_ ?_; focus (first | (exact trivial) | (intro h1; exact h1) | (intro h1 h2; simp_all; done) | (intro h1 h2; exact h1)) | fail); conv => whnf) | (exact absurd hb (by omega)) | (exfalso; simp at hb; omega) | ((first | with_reducible refine Exists.intro _ (And.intro (gd_any (And.intro (by omega) (map_some hx))) ?_) | refine ⟨[.v (.int .i64 0)], gd_some fun h => absurd h (by simp), ?_⟩ | fail); conv => whnf) | (refine AW_cond rfl (fun hb => ?_) (fun hb => ?_) <;> first | (replace hb := of_decide_eq_true hb; try simp only [List.length_map] at hb) | (replace hb := of_decide_eq_false hb; try simp only [List.length_map] at hb) | (simp only [List.length_map, bne_iff_ne, ne_eq, beq_iff_eq, bne_eq_false_iff_eq, beq_eq_false_iff_ne, decide_eq_true_eq, decide_eq_false_iff_not, Bool.not_eq_true', Bool.not_eq_false', Int.natCast_inj] at hb) | skip) | ((first | refine ⟨_, wrap_of (by first | omega | (simp only [List.length_map]; omega)), ?_⟩ | refine andA ?_ | fail); conv => whnf) | (refine fun hln => ?_; (try rw [List.length_map] at hln); unfold maxLen at hln; conv => whnf) | fail
      exact ⟨j, by omega, by omega, (Imp.forget (by repeat' (first | exact trivial | refine And.intro ?_ ?_ | exact ivE (by omega) | rfl | exact ivE (by first | omega | (simp only [List.length_map, List.length_append, List.length_singleton] <;> omega)) | exact oE (by first | omega | (simp only [List.length_map, List.length_append, List.length_singleton] <;> omega)))) (by repeat' (first | exact trivial | refine And.intro ?_ ?_ | exact ivE (by omega) | rfl | exact ivE (by first | omega | (simp only [List.length_map, List.length_append, List.length_singleton] <;> omega)) | exact oE (by first | omega | (simp only [List.length_map, List.length_append, List.length_singleton] <;> omega)))) (by kernel_rfl) (by kernel_rfl) (by kernel_rfl))⟩
    | succ i =>
      obtain ⟨y, hy⟩ : ∃ y, l[i]? = some y := ⟨_, List.getElem?_eq_getElem (by omega)⟩
      have hyx := asc_steps h i y x hy hx
      have hp : (l.map fun n => [PV.v (.int .i64 n)])[(((i + 1 : Nat) : Int) - 1).toNat]? = some [.v (.int .i64 y)] := by
        rw [show (((i + 1 : Nat) : Int) - 1).toNat = i by omega]; simp [hy]
      repeat' first | with_reducible refine AW_seq ?_ | with_reducible refine AW_block ?_ | ((first | with_reducible refine AW_skip ?_ | with_reducible refine AW_exit ?_ | with_reducible refine AW_ret ?_ | with_reducible refine AW_region hTt ?_ | refine AW_draw hTt hMix (id := 4) 26 false [0, 0, 3, 7, 15, 31, 63, 63, 255, 511, 63, 2047, 4095, 8191, 16383, 32767, 65535, 131071, 131071, 524287, 1048575, 131071, 131071, 4325375, 14811135, 31588351, 67108863, 134217727, 268435455] (by kernel_rfl) rfl rfl (by kernel_rfl) ?_ | refine And.intro ?_ ?_; focus (first | (exact trivial) | (intro h1; exact h1) | (intro h1 h2; simp_all; done) | (intro h1 h2; exact h1)) | fail); conv => whnf) | (exact absurd hb (by omega)) | (exfalso; simp at hb; omega) | ((first | with_reducible refine Exists.intro _ (And.intro (gd_any (And.intro (by omega) (map_some hx))) ?_) | with_reducible refine Exists.intro _ (And.intro (gd_any (And.intro (by omega) hp)) ?_) | fail); conv => whnf) | (refine AW_cond rfl (fun hb => ?_) (fun hb => ?_) <;> first | (replace hb := of_decide_eq_true hb; try simp only [List.length_map] at hb) | (replace hb := of_decide_eq_false hb; try simp only [List.length_map] at hb) | (simp only [List.length_map, bne_iff_ne, ne_eq, beq_iff_eq, bne_eq_false_iff_eq, beq_eq_false_iff_ne, decide_eq_true_eq, decide_eq_false_iff_not, Bool.not_eq_true', Bool.not_eq_false', Int.natCast_inj] at hb) | skip) | ((first | refine ⟨_, wrap_of (by first | omega | (simp only [List.length_map]; omega)), ?_⟩ | refine andA ?_ | fail); conv => whnf) | (refine fun hln => ?_; (try rw [List.length_map] at hln); unfold maxLen at hln; conv => whnf) | fail
      exact ⟨j, by omega, by omega, (Imp.forget (by repeat' (first | exact trivial | refine And.intro ?_ ?_ | exact ivE (by omega) | rfl | exact ivE (by first | omega | (simp only [List.length_map, List.length_append, List.length_singleton] <;> omega)) | exact oE (by first | omega | (simp only [List.length_map, List.length_append, List.length_singleton] <;> omega)))) (by repeat' (first | exact trivial | refine And.intro ?_ ?_ | exact ivE (by omega) | rfl | exact ivE (by first | omega | (simp only [List.length_map, List.length_append, List.length_singleton] <;> omega)) | exact oE (by first | omega | (simp only [List.length_map, List.length_append, List.length_singleton] <;> omega)))) (by kernel_rfl) (by kernel_rfl) (by kernel_rfl))⟩
  · have hie : i = l.length := by omega
    subst hie
    repeat' first | with_reducible refine AW_seq ?_ | with_reducible refine AW_block ?_ | ((first | with_reducible refine AW_skip ?_ | with_reducible refine AW_exit ?_ | with_reducible refine AW_ret ?_ | with_reducible refine AW_region hTt ?_ | refine AW_draw hTt hMix (id := 4) 26 false [0, 0, 3, 7, 15, 31, 63, 63, 255, 511, 63, 2047, 4095, 8191, 16383, 32767, 65535, 131071, 131071, 524287, 1048575, 131071, 131071, 4325375, 14811135, 31588351, 67108863, 134217727, 268435455] (by kernel_rfl) rfl rfl (by kernel_rfl) ?_ | fail); conv => whnf) | (exact absurd hb (by omega)) | (refine AW_cond rfl (fun hb => ?_) (fun hb => ?_) <;> first | (replace hb := of_decide_eq_true hb; try simp only [List.length_map] at hb) | (replace hb := of_decide_eq_false hb; try simp only [List.length_map] at hb) | (simp only [List.length_map, bne_iff_ne, ne_eq, beq_iff_eq, bne_eq_false_iff_eq, beq_eq_false_iff_ne, decide_eq_true_eq, decide_eq_false_iff_not, Bool.not_eq_true', Bool.not_eq_false', Int.natCast_inj] at hb) | skip) | (refine fun hln => ?_; (try rw [List.length_map] at hln); unfold maxLen at hln; conv => whnf) | fail
    rfl
theorem enough_fn (L : List (List (List Int))) {many : Nat} (h1 : 1 ≤ many) (hm : many ≤ 100) (hk : ∀ r ∈ L, r.length = many) (hL : L.length ≤ 10) (list : List Int) (hl : ∀ i ∈ list, 0 ≤ i ∧ i < (L.length : Int)) (upTo : Nat) (hu : upTo ≤ 100) :
    FnC Tryd.prog 50 [cubeAV L, sl list, iv .i64 many, iv .i64 upTo] (bv (enoughR L (numsI L.length) list many upTo)) := by
  obtain ⟨N, hN⟩ : ∃ N : Nat, 2 ^ L.length = N := ⟨_, rfl⟩
  have hNi : (2 : Int) ^ L.length = (N : Int) := by rw [← hN]; exact (Int.natCast_pow 2 _).symm
  have hN1 : 1 ≤ N ∧ N ≤ 1024 := by
    rw [← hN]
    exact ⟨Nat.pow_pos (by decide), Nat.pow_le_pow_right (n := 2) (by decide) hL⟩
  have hcl : ((cubePV L).length : Int) = L.length := by unfold cubePV; rw [List.length_map]
  have htwo : FnC Tryd.prog 31 [iv .i64 ((cubePV L).length : Int)] (iv .i64 (N : Int)) := by
    rw [hcl, ← hNi]; exact two_small L.length (by omega)
  have hcho : FnC Tryd.prog 49 [iv .i64 ((N : Int) - 1), iv .i64 ((cubePV L).length : Int)] (sl (numsI L.length)) := by
    rw [hcl, ← chosen_all, hNi]; exact chosen_fn _ L.length (by omega) (by omega)
  have hnum : ∀ i ∈ numsI L.length, 0 ≤ i ∧ i < (L.length : Int) := fun i hi => numsI_in hi
  refine FnC_of_AW hTt Tryd.func50 rfl (by kernel_rfl) (res := [.tmp 8]) rfl Tryd.ntmps50 (by simp) fun w0 K0 => ?_
  dsimp only [entry]
  repeat' first | with_reducible refine AW_seq ?_ | with_reducible refine AW_block ?_ | ((first | with_reducible refine AW_region hTt ?_ | ((refine ⟨_, (htwo).call rfl rfl, ?_⟩); (rintro _ _ ⟨rfl, rfl⟩)) | ((refine ⟨_, (hcho).call rfl rfl, ?_⟩); (rintro _ _ ⟨rfl, rfl⟩)) | refine ⟨_, wrap_of (by first | omega | (simp only [List.length_map]; omega)), ?_⟩ | fail); conv => whnf) | (refine fun hln => ?_; (try rw [List.length_map] at hln); unfold maxLen at hln; conv => whnf) | fail
  refine AW_loop (fun a : Nat => [(10, iv .i64 a), (9, sl (numsI L.length)), (0, cubeAV L), (1, sl list), (2, iv .i64 many), (3, iv .i64 upTo)]) (fun _ => [])
    (fun a => 1 ≤ a ∧ a ≤ many ∧ ((List.range a).all fun a => (List.range (min a upTo)).all fun b => !(lapartR L (numsI L.length) a b && !lapartR L list a b)) = true) (fun a => many - a) 1 ⟨Nat.le_refl _, h1, by simp⟩ impA ?_
  rintro a ⟨ha1, ham, hall⟩
  rcases Nat.lt_or_ge a many with hal | hal
  · repeat' first | with_reducible refine AW_seq ?_ | with_reducible refine AW_block ?_ | ((first | with_reducible refine AW_skip ?_ | with_reducible refine AW_exit ?_ | with_reducible refine AW_ret ?_ | with_reducible refine AW_region hTt ?_ | fail); conv => whnf) | (exact absurd hb (by omega)) | (refine AW_cond rfl (fun hb => ?_) (fun hb => ?_) <;> first | (replace hb := of_decide_eq_true hb; try simp only [List.length_map] at hb) | (replace hb := of_decide_eq_false hb; try simp only [List.length_map] at hb) | (simp only [List.length_map, bne_iff_ne, ne_eq, beq_iff_eq, bne_eq_false_iff_eq, beq_eq_false_iff_ne, decide_eq_true_eq, decide_eq_false_iff_not, Bool.not_eq_true', Bool.not_eq_false', Int.natCast_inj] at hb) | skip) | fail
    refine AW_loop (fun b : Nat => [(11, iv .i64 b), (10, iv .i64 a), (9, sl (numsI L.length)), (0, cubeAV L), (1, sl list), (2, iv .i64 many), (3, iv .i64 upTo)]) (fun _ => [])
      (fun b => b ≤ min a upTo ∧ ((List.range b).all fun b => !(lapartR L (numsI L.length) a b && !lapartR L list a b)) = true) (fun b => min a upTo - b) 0 ⟨Nat.zero_le _, rfl⟩ impA ?_
    rintro b ⟨hbl, hin⟩
    rcases Nat.lt_or_ge b (min a upTo) with hbm | hbm
    · have o1 := lapart_fn L many hk (numsI L.length) hnum a b hal (by omega)
      have o2 := lapart_fn L many hk list hl a b hal (by omega)
      have hsu := all_range_succ (fun b => !(lapartR L (numsI L.length) a b && !lapartR L list a b)) b
      have hno : (!(lapartR L (numsI L.length) a b && !lapartR L list a b)) = false → enoughR L (numsI L.length) list many upTo = false := by
        intro hq
        unfold enoughR
        exact all_range_false hal (all_range_false hbm hq)
      rw [hin] at hsu
      generalize hE : enoughR L (numsI L.length) list many upTo = E at *
      generalize lapartR L (numsI L.length) a b = q1 at *
      generalize lapartR L list a b = q2 at *
      clear hin hall htwo hcho hE
      have a2 : (a : Int) ≤ 100 := by omega
      cases q1
      · repeat' first | with_reducible refine AW_seq ?_ | with_reducible refine AW_block ?_ | ((first | with_reducible refine AW_skip ?_ | with_reducible refine AW_exit ?_ | with_reducible refine AW_ret ?_ | with_reducible refine AW_region hTt ?_ | fail); conv => whnf) | (exfalso; simp at hb; done) | (exfalso; simp at hb; omega) | ((first | ((refine ⟨_, (o1).call rfl rfl, ?_⟩); (rintro _ _ ⟨rfl, rfl⟩)) | refine ⟨_, fun _ => (o2).call rfl rfl, ?_⟩ | fail); conv => whnf) | (refine AW_cond rfl (fun hb => ?_) (fun hb => ?_) <;> first | (replace hb := of_decide_eq_true hb; try simp only [List.length_map] at hb) | (replace hb := of_decide_eq_false hb; try simp only [List.length_map] at hb) | (simp only [List.length_map, bne_iff_ne, ne_eq, beq_iff_eq, bne_eq_false_iff_eq, beq_eq_false_iff_ne, decide_eq_true_eq, decide_eq_false_iff_not, Bool.not_eq_true', Bool.not_eq_false', Int.natCast_inj] at hb) | skip) | ((first | refine ⟨_, wrap_of (by first | omega | (simp only [List.length_map]; omega)), ?_⟩ | refine andA ?_ | fail); conv => whnf) | fail
        exact ⟨b + 1, ⟨by omega, hsu⟩, by omega, impA⟩
      · cases q2
        · have hEf := hno rfl
          subst hEf
          repeat' first | with_reducible refine AW_seq ?_ | with_reducible refine AW_block ?_ | ((first | with_reducible refine AW_skip ?_ | with_reducible refine AW_exit ?_ | with_reducible refine AW_ret ?_ | with_reducible refine AW_region hTt ?_ | fail); conv => whnf) | (exfalso; simp at hb; omega) | ((first | ((refine ⟨_, (o1).call rfl rfl, ?_⟩); (rintro _ _ ⟨rfl, rfl⟩)) | refine ⟨_, fun _ => (o2).call rfl rfl, ?_⟩ | fail); conv => whnf) | (refine AW_cond rfl (fun _ => ?_) (fun hb => absurd hb (by decide))) | (refine AW_cond rfl (fun hb => ?_) (fun hb => ?_) <;> first | (replace hb := of_decide_eq_true hb; try simp only [List.length_map] at hb) | (replace hb := of_decide_eq_false hb; try simp only [List.length_map] at hb) | (simp only [List.length_map, bne_iff_ne, ne_eq, beq_iff_eq, bne_eq_false_iff_eq, beq_eq_false_iff_ne, decide_eq_true_eq, decide_eq_false_iff_not, Bool.not_eq_true', Bool.not_eq_false', Int.natCast_inj] at hb) | skip) | ((refine andA ?_); conv => whnf) | fail
          rfl
        · repeat' first | with_reducible refine AW_seq ?_ | with_reducible refine AW_block ?_ | ((first | with_reducible refine AW_skip ?_ | with_reducible refine AW_exit ?_ | with_reducible refine AW_region hTt ?_ | fail); conv => whnf) | (exfalso; simp at hb; omega) | ((first | ((refine ⟨_, (o1).call rfl rfl, ?_⟩); (rintro _ _ ⟨rfl, rfl⟩)) | refine ⟨_, fun _ => (o2).call rfl rfl, ?_⟩ | fail); conv => whnf) | (refine AW_cond rfl (fun hb => absurd hb (by decide)) (fun _ => ?_)) | (refine AW_cond rfl (fun hb => ?_) (fun hb => ?_) <;> first | (replace hb := of_decide_eq_true hb; try simp only [List.length_map] at hb) | (replace hb := of_decide_eq_false hb; try simp only [List.length_map] at hb) | (simp only [List.length_map, bne_iff_ne, ne_eq, beq_iff_eq, bne_eq_false_iff_eq, beq_eq_false_iff_ne, decide_eq_true_eq, decide_eq_false_iff_not, Bool.not_eq_true', Bool.not_eq_false', Int.natCast_inj] at hb) | skip) | ((first | refine ⟨_, wrap_of (by first | omega | (simp only [List.length_map]; omega)), ?_⟩ | refine andA ?_ | fail); conv => whnf) | fail
          exact ⟨b + 1, ⟨by omega, hsu⟩, by omega, impA⟩
    · have hbe : b = min a upTo := by omega
      have hsu := all_range_succ (fun a => (List.range (min a upTo)).all fun b => !(lapartR L (numsI L.length) a b && !lapartR L list a b)) a
      rw [hall, ← hbe, hin] at hsu
      clear hall hin htwo hcho
      repeat' first | with_reducible refine AW_seq ?_ | with_reducible refine AW_block ?_ | ((first | with_reducible refine AW_skip ?_ | with_reducible refine AW_exit ?_ | with_reducible refine AW_region hTt ?_ | fail); conv => whnf) | (exfalso; simp at hb; omega) | (refine AW_cond rfl (fun hb => ?_) (fun hb => ?_) <;> first | (replace hb := of_decide_eq_true hb; try simp only [List.length_map] at hb) | (replace hb := of_decide_eq_false hb; try simp only [List.length_map] at hb) | (simp only [List.length_map, bne_iff_ne, ne_eq, beq_iff_eq, bne_eq_false_iff_eq, beq_eq_false_iff_ne, decide_eq_true_eq, decide_eq_false_iff_not, Bool.not_eq_true', Bool.not_eq_false', Int.natCast_inj] at hb) | skip) | ((first | refine ⟨_, wrap_of (by first | omega | (simp only [List.length_map]; omega)), ?_⟩ | refine andA ?_ | fail); conv => whnf) | fail
      exact ⟨a + 1, ⟨by omega, hal, hsu⟩, by omega, impA⟩
  · have hae : a = many := by omega
    subst hae
    have hE : enoughR L (numsI L.length) list a upTo = true := hall
    rw [hE]
    repeat' first | with_reducible refine AW_seq ?_ | with_reducible refine AW_block ?_ | ((first | with_reducible refine AW_skip ?_ | with_reducible refine AW_exit ?_ | with_reducible refine AW_ret ?_ | with_reducible refine AW_region hTt ?_ | fail); conv => whnf) | (exact absurd hb (by omega)) | (refine AW_cond rfl (fun hb => ?_) (fun hb => ?_) <;> first | (replace hb := of_decide_eq_true hb; try simp only [List.length_map] at hb) | (replace hb := of_decide_eq_false hb; try simp only [List.length_map] at hb) | (simp only [List.length_map, bne_iff_ne, ne_eq, beq_iff_eq, bne_eq_false_iff_eq, beq_eq_false_iff_ne, decide_eq_true_eq, decide_eq_false_iff_not, Bool.not_eq_true', Bool.not_eq_false', Int.natCast_inj] at hb) | skip) | fail
    rfl
def choiceAV (ts : List (List Int)) (b : Int) : AV := .a [.d (.s 1 (ts.map fun r => [intsPV r])), .d (.v (.int .u16 b))]
end Go.Proofs.YtfghooojingdhaaDoor
namespace Go.Proofs.YtfghooojingdhaaDoor
open Go Go.QL
set_option maxHeartbeats 3200000
attribute [local irreducible] ACall FnC YC
theorem gfewest_fn (n : NetT) (hi : i64 n.inn) (fs : List FaultT) (ts : List (List Int)) (b : Int) (hb0 : 0 ≤ b ∧ b < 65536) : FnC Tryd.prog 13 [netAV n, faultsAV fs, choiceAV ts b] (bv true) := by
  have hfew := pfew_fn n hi fs ts (runs_of n fs ts)
  have htell := ptell_fn' n hi fs ts (runs_of n fs ts)
  by_cases hc : askedR n fs ts = 0
  · have h := AskOK.of hc
    have hfl := h.fl
    have htl := h.tl
    obtain ⟨f1, f2, f3⟩ := best_says (P := fun l => findsR n fs ts l (numsI ts.length)) (T := ts.length) (all_self n fs ts _).1
    obtain ⟨g1, g2, g3⟩ := best_says (P := fun l => tellsR n fs ts l (numsI ts.length)) (T := ts.length) (all_self n fs ts _).2
    have eall : allR ts = numsI ts.length := chosen_all _
    rw [show fewR n fs ts = (bestR (fun l => findsR n fs ts l (numsI ts.length)) (numsI ts.length) ts.length (2 ^ ts.length), 0) from by unfold fewR; rw [if_pos hc, eall]] at hfew
    rw [show tellR n fs ts = (bestR (fun l => tellsR n fs ts l (numsI ts.length)) (numsI ts.length) ts.length (2 ^ ts.length), 0) from by unfold tellR; rw [if_pos hc, eall]] at htell
    generalize bestR (fun l => findsR n fs ts l (numsI ts.length)) (numsI ts.length) ts.length (2 ^ ts.length) = F at *
    generalize bestR (fun l => tellsR n fs ts l (numsI ts.length)) (numsI ts.length) ts.length (2 ^ ts.length) = G at *
    have a1 := asc_fn f2 (by omega)
    have a2 := asc_fn g2 (by omega)
    have houts := outputs_fn hi h
    obtain ⟨N, hN⟩ : ∃ N : Nat, 2 ^ ts.length = N := ⟨_, rfl⟩
    have hNi : (2 : Int) ^ ts.length = (N : Int) := by rw [← hN]; exact (Int.natCast_pow 2 _).symm
    have hN1 : 1 ≤ N ∧ N ≤ 1024 := by
      rw [← hN]
      exact ⟨Nat.pow_pos (by decide), Nat.pow_le_pow_right (n := 2) (by decide) htl⟩
    have hlt : ((ts.map fun r => [intsPV r]).length : Int) = ts.length := by rw [List.length_map]
    have hlf : ((fs.map faultPV).length : Int) + 1 = ((fs.length + 1 : Nat) : Int) := by rw [List.length_map]; omega
    have a1' : FnC Tryd.prog 48 [sl F, iv .i64 ((ts.map fun r => [intsPV r]).length : Int)] (bv true) := by rw [hlt]; exact a1
    have a2' : FnC Tryd.prog 48 [sl G, iv .i64 ((ts.map fun r => [intsPV r]).length : Int)] (bv true) := by rw [hlt]; exact a2
    have htwo : FnC Tryd.prog 31 [iv .i64 ((ts.map fun r => [intsPV r]).length : Int)] (iv .i64 (N : Int)) := by
      rw [hlt, ← hNi]; exact two_small ts.length (by omega)
    have hrem : b.tmod (N : Int) = b % (N : Int) := Int.tmod_eq_emod_of_nonneg hb0.1
    have hmod0 := Int.emod_nonneg b (show (N : Int) ≠ 0 by omega)
    have hmod1 := Int.emod_lt_of_pos b (show (0 : Int) < N by omega)
    have hcho : FnC Tryd.prog 49 [iv .i64 (b % (N : Int)), iv .i64 ((ts.map fun r => [intsPV r]).length : Int)] (sl (chosenS (b % (N : Int)) ts.length)) := by
      rw [hlt]; exact chosen_fn _ ts.length (by omega) (by omega)
    have hOa := chosen_asc (b % (N : Int)) ts.length
    generalize chosenS (b % (N : Int)) ts.length = O at hcho hOa
    have hLl : (ts.map fun t => lanesR n fs t).length = ts.length := List.length_map _
    have hrk : ∀ r ∈ ts.map fun t => lanesR n fs t, r.length = fs.length + 1 := by
      intro r hr
      obtain ⟨t, _, rfl⟩ := List.mem_map.1 hr
      rw [lanes_cons]; simp
    have hin : ∀ {c : List Int}, Asc ts.length 0 c → ∀ i ∈ c, 0 ≤ i ∧ i < (ts.length : Int) := fun hc i hi => by have := asc_ge hc i hi; omega
    have hnum : ∀ i ∈ numsI ts.length, 0 ≤ i ∧ i < (ts.length : Int) := fun i hi => numsI_in hi
    have en : ∀ (c : List Int) (u : Nat), Asc ts.length 0 c → u ≤ 100 → FnC Tryd.prog 50 [cubeAV (ts.map fun t => lanesR n fs t), sl c, iv .i64 (((fs.map faultPV).length : Int) + 1), iv .i64 u] (bv (enoughR (ts.map fun t => lanesR n fs t) (numsI ts.length) c (fs.length + 1) u)) := by
      intro c u hc hu
      have := enough_fn (ts.map fun t => lanesR n fs t) (many := fs.length + 1) (by omega) (by omega) hrk (by omega) c (by rw [hLl]; exact hin hc) u hu
      rw [hLl] at this
      rw [hlf]; exact this
    have e1 := en F 1 f2 (by omega)
    rw [enough_finds n fs ts hnum (hin f2), f1] at e1
    have e2 := en G (fs.length + 1) g2 (by omega)
    rw [enough_tells n fs ts hnum (hin g2), g1, ← hlf] at e2
    have e3 := en O 1 hOa (by omega)
    rw [enough_finds n fs ts hnum (hin hOa)] at e3
    have e4 := en O (fs.length + 1) hOa (by omega)
    rw [enough_tells n fs ts hnum (hin hOa), ← hlf] at e4
    have k1 := f3 O hOa
    have k2 := g3 O hOa
    generalize findsR n fs ts O (numsI ts.length) = q1 at e3 k1
    generalize tellsR n fs ts O (numsI ts.length) = q2 at e4 k2
    have lF : ((F.map fun n => [PV.v (.int .i64 n)]).length : Int) = F.length := by simp
    have lG : ((G.map fun n => [PV.v (.int .i64 n)]).length : Int) = G.length := by simp
    have lO : ((O.map fun n => [PV.v (.int .i64 n)]).length : Int) = O.length := by simp
    clear en f1 f2 f3 g1 g2 g3 a1 a2 hOa hin hnum hrk
    refine FnC_of_AW hTt Tryd.func13 rfl (by kernel_rfl) (res := [.tmp 6]) rfl Tryd.ntmps13 (by simp) fun w0 K0 => ?_
    dsimp only [entry]
    repeat' first | with_reducible refine AW_seq ?_ | ((first | with_reducible refine AW_skip ?_ | with_reducible refine AW_ret ?_ | with_reducible refine AW_region hTt ?_ | refine AW_draw hTt hMix (id := 8) 16 false [0, 1, 3, 0, 8, 24, 56, 127, 0, 256, 768, 2047, 0, 4096, 12288, 4095, 65535] (by kernel_rfl) rfl rfl (by kernel_rfl) ?_ | refine And.intro ?_ ?_; focus (first | (exact trivial) | (intro h1; exact h1) | (intro h1 h2; simp_all; done) | (intro h1 h2; exact h1)) | fail); conv => whnf) | (exact absurd trivial hb) | (exact absurd hb (by decide)) | ((first | ((refine ⟨_, (hfew).call rfl rfl, ?_⟩); (rintro _ _ ⟨rfl, rfl⟩)) | ((refine ⟨_, (htell).call rfl rfl, ?_⟩); (rintro _ _ ⟨rfl, rfl⟩)) | ((refine ⟨_, (houts).call rfl rfl, ?_⟩); (rintro _ _ ⟨rfl, rfl⟩)) | refine ⟨_, fun _ => (a1').call rfl rfl, ?_⟩ | refine ⟨_, fun _ => (a2').call rfl rfl, ?_⟩ | refine ⟨_, fun _ => (htwo).call rfl rfl, ?_⟩ | refine And.intro (gd_none (by omega)) ?_ | refine ⟨_, hrem, ?_⟩ | refine ⟨_, fun _ => (hcho).call rfl rfl, ?_⟩ | ((refine ⟨_, (e1).call rfl rfl, ?_⟩); (rintro _ _ ⟨rfl, rfl⟩)) | refine ⟨_, fun _ => (e2).call rfl rfl, ?_⟩ | refine ⟨_, fun _ => (e3).call rfl rfl, ?_⟩ | refine ⟨_, fun _ => (e4).call rfl rfl, ?_⟩ | refine ⟨_, fun _ => (awake_fn).call rfl rfl, ?_⟩ | fail); conv => whnf) | (refine AW_cond rfl (fun hb => absurd hb (by decide)) (fun _ => ?_)) | (refine AW_cond rfl (fun hb => ?_) (fun hb => ?_) <;> first | (replace hb := of_decide_eq_true hb; try simp only [List.length_map] at hb) | (replace hb := of_decide_eq_false hb; try simp only [List.length_map] at hb) | (simp only [List.length_map, bne_iff_ne, ne_eq, beq_iff_eq, bne_eq_false_iff_eq, beq_eq_false_iff_ne, decide_eq_true_eq, decide_eq_false_iff_not, Bool.not_eq_true', Bool.not_eq_false', Int.natCast_inj] at hb) | skip) | ((first | refine ⟨_, wrap_of (by first | omega | (simp only [List.length_map]; omega)), ?_⟩ | refine andA ?_ | fail); conv => whnf) | (refine fun hln => ?_; (try rw [List.length_map] at hln); unfold maxLen at hln; conv => whnf) | fail
    exact (show ∀ b, b = true → some (bv b) = some (bv true) from fun b h => by rw [h]) _ (by cases q1 <;> cases q2 <;> simp at k1 k2 ⊢ <;> omega)
  · rw [show fewR n fs ts = ([], askedR n fs ts) from if_neg hc] at hfew
    rw [show tellR n fs ts = ([], askedR n fs ts) from if_neg hc] at htell
    refine FnC_of_AW hTt Tryd.func13 rfl (by kernel_rfl) (res := [.tmp 6]) rfl Tryd.ntmps13 (by simp) fun w0 K0 => ?_
    dsimp only [entry]
    repeat' first | with_reducible refine AW_seq ?_ | ((first | with_reducible refine AW_skip ?_ | with_reducible refine AW_ret ?_ | with_reducible refine AW_region hTt ?_ | fail); conv => whnf) | (exact absurd hb hc) | ((first | ((refine ⟨_, (hfew).call rfl rfl, ?_⟩); (rintro _ _ ⟨rfl, rfl⟩)) | ((refine ⟨_, (htell).call rfl rfl, ?_⟩); (rintro _ _ ⟨rfl, rfl⟩)) | refine ⟨_, fun _ => (awake_fn).call rfl rfl, ?_⟩ | fail); conv => whnf) | (refine AW_cond rfl (fun hb => ?_) (fun hb => ?_) <;> first | (replace hb := of_decide_eq_true hb; try simp only [List.length_map] at hb) | (replace hb := of_decide_eq_false hb; try simp only [List.length_map] at hb) | (simp only [List.length_map, bne_iff_ne, ne_eq, beq_iff_eq, bne_eq_false_iff_eq, beq_eq_false_iff_ne, decide_eq_true_eq, decide_eq_false_iff_not, Bool.not_eq_true', Bool.not_eq_false', Int.natCast_inj] at hb) | skip) | ((refine andA ?_); conv => whnf) | fail
    exact (show ∀ b, b = true → some (bv b) = some (bv true) from fun b h => by rw [h]) _ (by simp)
end Go.Proofs.YtfghooojingdhaaDoor
