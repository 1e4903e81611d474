/- The logic of walks, and what the functions of the program return: part 5. No condition. -/
import Derived.Test.YtfghooojingdhaaDoorM04
set_option linter.all false
namespace Go.Proofs.YtfghooojingdhaaDoor
open Go Go.QL
set_option maxHeartbeats 1600000
attribute [local irreducible] ACall FnC
theorem build_nil' (n : NetT) (h1 : 1 ≤ n.inn) (h6 : n.inn ≤ 6) (hl : n.gates.length ≤ 24) :
    ACall Tryd.prog 63 [netAV n, .x (.d (.v (.map none)))] []
      (fun r σ' => r = .x (.b 19 0) ∧ σ' = sB2 n 19 17 0 (sk0 n) (dl0 n).length (dl0 n)) := by
  refine ACall_of_AWD hTt Tryd.func63 rfl (by kernel_rfl) (res := [.tmp 4]) rfl Tryd.ntmps63 (by simp) fun w0 K0 B => ?_
  dsimp only [entry]
  repeat' first | with_reducible refine AW_seq ?_ | with_reducible refine AW_block ?_ | ((first | with_reducible refine AW_region hTt ?_ | refine AW_draw hTt hMix (id := 1) 8 true [0, 0, 2, 0, 8, 24, 62, 126, 255, 511, 1023] (by kernel_rfl) rfl rfl (by kernel_rfl) ?_ | refine ⟨_, wrap_of (by first | omega | (simp only [List.length_map]; omega)), ?_⟩ | refine andA ?_ | with_reducible refine And.intro (And.intro (by omega) (And.intro (by first | omega | (simp only [List.length_map]; omega)) (by first | omega | (simp only [List.length_map, List.length_set]; omega)))) ?_ | fail); conv => whnf) | fail
  have eN : (n.inn + ((List.map gPV n.gates).length : Int)).toNat = (sk0 n).length := by
    unfold sk0; rw [List.length_map, List.length_replicate]; omega
  have eC : List.replicate (n.inn + ((List.map gPV n.gates).length : Int)).toNat [PV.v (.int .u16 0), PV.v (.int .u16 0)] = (sk0 n).map sPV := by
    rw [eN]; unfold sk0; rw [List.length_replicate, List.map_replicate]; rfl
  refine AW_loop (fun _ : Unit => [(21, .x (.h 21)), (2, .x (.b 2 0)), (5, .x (.b 19 0))])
    (fun _ => [(21, .x (.mapIter none 0 [] 0)), (2, .box [.d (.v (.int .i64 n.inn)), .d (gatesPV n.gates), .d (intsPV n.out)]), (19, .box [.d (.v (.int .i64 n.inn)), .d (gatesPV n.gates), .d (intsPV n.out), .o 17 0 (sk0 n).length, .d (.v (.slice none 0 0)), .d (.v (.slice none 0 0))]), (17, .chain 126 2 0 ((sk0 n).map sPV))])
    (fun _ => True) (fun _ => 0) () trivial
    (Imp.forget ⟨rfl, rfl, rfl, trivial⟩ ⟨rfl, rfl, congrArg (fun k => some (Ob.box [.d (.v (.int .i64 n.inn)), .d (gatesPV n.gates), .d (intsPV n.out), .o 17 0 k, .d (.v (.slice none 0 0)), .d (.v (.slice none 0 0))])) eN, congrArg (fun l => some (Ob.chain 126 2 0 l)) eC, trivial⟩ rfl) ?_
  rintro ⟨⟩ -
  repeat' first | with_reducible refine AW_seq ?_ | with_reducible refine AW_block ?_ | ((first | with_reducible refine AW_exit ?_ | with_reducible refine AW_region hTt ?_ | fail); conv => whnf) | (refine AW_cond rfl (fun hb => absurd hb (by decide)) (fun _ => ?_)) | ((refine andA ?_); conv => whnf) | (refine fun hln => ?_; (try rw [List.length_map] at hln); unfold maxLen at hln; conv => whnf) | fail
  refine AW_imp (Imp.nil 902 3 1 (fr' := [(46, iv .i64 0), (45, iv .i64 n.gates.length), (44, .x (.d (gatesPV n.gates))), (2, .x (.b 2 0)), (5, .x (.b 19 0))])
    (σ' := [(2, .box [.d (.v (.int .i64 n.inn)), .d (gatesPV n.gates), .d (intsPV n.out)]), (19, .box [.d (.v (.int .i64 n.inn)), .d (gatesPV n.gates), .d (intsPV n.out), .o 17 0 (sk0 n).length, .o 902 0 0, .d (.v (.slice none 0 0))]), (17, .chain 126 2 0 ((sk0 n).map sPV))]) rfl ?_ ?_ rfl rfl) ?_
  · exact ⟨⟨_, rfl, .inl rfl⟩, ⟨_, congrArg (fun k : Nat => some (iv .i64 k)) (List.length_map _), .inl rfl⟩, ⟨_, rfl, .inl rfl⟩, ⟨_, rfl, .inl rfl⟩, ⟨_, rfl, .inl rfl⟩, trivial⟩
  · exact ⟨⟨_, rfl, .inl rfl⟩, ⟨_, rfl, .inr ⟨_, _, rfl, rfl, .inl rfl, .inl rfl, .inl rfl, .inl rfl, .inr ⟨rfl, rfl⟩, .inl rfl, trivial⟩⟩, ⟨_, rfl, .inl rfl⟩, trivial⟩
  refine AW_imp (Imp.nil 903 125 1 (fr' := [(46, iv .i64 0), (45, iv .i64 n.gates.length), (44, .x (.d (gatesPV n.gates))), (2, .x (.b 2 0)), (5, .x (.b 19 0))])
    (σ' := [(902, .chain 3 1 0 []), (2, .box [.d (.v (.int .i64 n.inn)), .d (gatesPV n.gates), .d (intsPV n.out)]), (19, .box [.d (.v (.int .i64 n.inn)), .d (gatesPV n.gates), .d (intsPV n.out), .o 17 0 (sk0 n).length, .o 902 0 0, .o 903 0 0]), (17, .chain 126 2 0 ((sk0 n).map sPV))]) rfl ?_ ?_ rfl rfl) ?_
  · exact ⟨⟨_, rfl, .inl rfl⟩, ⟨_, rfl, .inl rfl⟩, ⟨_, rfl, .inl rfl⟩, ⟨_, rfl, .inl rfl⟩, ⟨_, rfl, .inl rfl⟩, trivial⟩
  · exact ⟨⟨_, rfl, .inl rfl⟩, ⟨_, rfl, .inl rfl⟩, ⟨_, rfl, .inr ⟨_, _, rfl, rfl, .inl rfl, .inl rfl, .inl rfl, .inl rfl, .inl rfl, .inr ⟨rfl, rfl⟩, trivial⟩⟩, ⟨_, rfl, .inl rfl⟩, trivial⟩
  refine AW_loop (fun p : Nat × Nat => [(46, iv .i64 p.1), (45, iv .i64 n.gates.length), (44, .x (.d (gatesPV n.gates))), (2, .x (.b 2 0)), (5, .x (.b 19 0))])
    (fun p => (2, .box [.d (.v (.int .i64 n.inn)), .d (gatesPV n.gates), .d (intsPV n.out)]) :: sB2 n 19 17 0 (sk0 n) p.2 (dlS n p.1)) (fun p => p.1 ≤ n.gates.length ∧ p.2 = (dlS n p.1).length) (fun p => n.gates.length - p.1) (0, 0) ⟨Nat.zero_le _, rfl⟩
    (Imp.forget ⟨rfl, rfl, rfl, rfl, rfl, trivial⟩ ⟨rfl, rfl, rfl, rfl, rfl, trivial⟩ rfl) ?_
  rintro ⟨i, st⟩ ⟨hi, hst⟩
  dsimp only at hi hst ⊢
  have hdl := dlS_len n i hi
  have hdle := delays_le (n.gates.take i)
  rw [List.length_take] at hdle
  rcases Nat.lt_or_ge i n.gates.length with hil | hil
  · have hge : n.gates.getD i gate0 = n.gates[i] := by rw [List.getD_eq_getElem?_getD, List.getElem?_eq_getElem (by omega)]; rfl
    repeat' first | with_reducible refine AW_seq ?_ | with_reducible refine AW_block ?_ | ((first | with_reducible refine AW_skip ?_ | with_reducible refine AW_exit ?_ | with_reducible refine AW_ret ?_ | with_reducible refine AW_region hTt ?_ | refine AW_drawM hTt hMix (id := 10) 10 [0] true [0, 0, 2, 6, 14, 0, 32, 0, 224, 480, 1022, 2047, 4095, 8191] _ (by kernel_rfl) rfl rfl (by kernel_rfl) rfl (by kernel_rfl) (by kernel_rfl) ?_ | refine LateGo.mk ⟨_, rfl, ?_⟩ | fail); conv => whnf) | (exact absurd hb (by omega)) | (refine AW_cond rfl (fun hb => ?_) (fun hb => ?_) <;> first | (replace hb := of_decide_eq_true hb; try simp only [List.length_map] at hb) | (replace hb := of_decide_eq_false hb; try simp only [List.length_map] at hb)) | ((first | refine ⟨_, wrap_of (by first | omega | (simp only [List.length_map]; omega)), ?_⟩ | refine andA ?_ | with_reducible refine Exists.intro _ (And.intro (gd_any (And.intro (by omega) (map_get (by omega)))) ?_) | fail); conv => whnf) | ((refine And.intro (by refine ⟨?_, ?_, ?_⟩ <;> simp [chunk, maxLen] <;> omega) ?_); conv => whnf) | fail
    iterate 1
      · have e := dlS_succ n i
        rw [hge, if_pos hb] at e
        have l1 : (dlS n i).length + 1 = (dlS n (i + 1)).length := by rw [e]; simp
        have e1 : ((dlS n i).map iPV).take (dlS n i).length ++ [[PV.v (.int .i64 (n.inn + i))]] = (dlS n (i + 1)).map iPV := by
          rw [e, List.take_of_length_le (by simp), List.map_append]; rfl
        exact ⟨(i + 1, st + 1), ⟨by show i + 1 ≤ n.gates.length; omega, by show st + 1 = (dlS n (i + 1)).length; omega⟩, by show n.gates.length - (i + 1) < n.gates.length - i; omega,
          Imp.forget ⟨rfl, rfl, rfl, rfl, rfl, trivial⟩ ⟨rfl, congrArg (fun k => some (Ob.box [.d (.v (.int .i64 n.inn)), .d (gatesPV n.gates), .d (intsPV n.out), .o 17 0 (sk0 n).length, .o 902 (st + 1) k, .o 903 0 0])) l1, rfl, congrArg (fun l => some (Ob.chain 3 1 (st + 1) l)) e1, rfl, trivial⟩ rfl⟩
    · have e := dlS_succ n i
      rw [hge, if_neg hb] at e
      refine ⟨(i + 1, st), ⟨by show i + 1 ≤ n.gates.length; omega, by show st = (dlS n (i + 1)).length; rw [e]; exact hst⟩, by show n.gates.length - (i + 1) < n.gates.length - i; omega, ?_⟩
      dsimp only
      rw [e]
      exact Imp.forget ⟨rfl, rfl, rfl, rfl, rfl, trivial⟩ ⟨rfl, rfl, rfl, rfl, rfl, trivial⟩ rfl
  · have hie : i = n.gates.length := by omega
    subst hie
    repeat' first | with_reducible refine AW_seq ?_ | with_reducible refine AW_block ?_ | ((first | with_reducible refine AW_skip ?_ | with_reducible refine AW_exit ?_ | with_reducible refine AW_ret ?_ | with_reducible refine AW_region hTt ?_ | fail); conv => whnf) | (exact absurd hb (by omega)) | (refine AW_cond rfl (fun hb => ?_) (fun hb => ?_) <;> first | (replace hb := of_decide_eq_true hb; try simp only [List.length_map] at hb) | (replace hb := of_decide_eq_false hb; try simp only [List.length_map] at hb)) | fail
    subst hst
    exact ⟨_, sB2 n 19 17 0 (sk0 n) (dl0 n).length (dlS n n.gates.length), ⟨rfl, rfl, rfl, rfl, trivial⟩, rfl, rfl, rfl, rfl⟩
def srchP (r : Option (List Int)) : List Int × Int := match r with
  | some l => (l, 0)
  | none => ([], 9)
theorem srchE_eq (r : Option (List Int)) : srchE r = outE (srchP r) := by cases r <;> rfl
def showR (n : NetT) (f : FaultT) : List Int × Int :=
  if (checkR n).2.2 = 0 then (if faultErr n f = 0 then srchP (srch (stepS n fine n f) (2 ^ n.inn.toNat)) else ([], faultErr n f)) else ([], (checkR n).2.2)
def diffR (a b : NetT) : List Int × Int :=
  if (checkR a).2.2 = 0 then (if (checkR b).2.2 = 0 then (if a.inn = b.inn ∧ a.out.length = b.out.length then srchP (srch (stepS a fine b fine) (2 ^ a.inn.toNat)) else ([], 2)) else ([], (checkR b).2.2)) else ([], (checkR a).2.2)
theorem sk_lane1 (n : NetT) (f : FaultT) : SkLane (skF n [(1, f)] (List.range 1)) 0 fine ∧ SkLane (skF n [(1, f)] (List.range 1)) 1 f := by
  constructor
  · refine skF_lane n [(1, f)] 0 (by decide) fine (fun j l' f' h e => ?_) (.inr ⟨rfl, fun j f' h => ?_⟩)
    · cases j with
      | zero => cases h; cases e
      | succ j => simp at h
    · cases j with
      | zero => cases h
      | succ j => simp at h
  · refine skF_lane n [(1, f)] 1 (by decide) f (fun j l' f' h e => ?_) (.inl ⟨0, rfl⟩)
    cases j with
    | zero => cases h; rfl
    | succ j => simp at h
theorem pshow_fn (n : NetT) (hi : i64 n.inn) (f : FaultT) : FnC Tryd.prog 26 [netAV n, faultAV f] (outE (showR n f)) := by
  refine FnC_of_AWL hTt Tryd.func26 rfl (by kernel_rfl) (res := [.tmp 4, .tmp 5]) rfl Tryd.ntmps26 (by simp) fun w0 K0 => ?_
  dsimp only [entry]
  by_cases hc : (checkR n).2.2 = 0
  · have ok := NetOK.of hc
    by_cases hf : faultErr n f = 0
    · rw [show showR n f = srchP (srch (stepS n fine n f) (2 ^ n.inn.toNat)) from by unfold showR; rw [if_pos hc, if_pos hf]]
      have hbm := build_map n ok.h1 ok.h6 ok.hl [(1, f)] (flt1 hf 1 (by decide))
      have hse : ∀ s2, ACall Tryd.prog 64 [iv .i64 n.inn, .x (.f (.func 69) [] [.b 910 0])] (sgS n 0 (skF n [(1, f)] (List.range 1)) s2 (0, 0, []))
          (fun r σ' => ∃ q : BQ, r = outE (srchP (srch (stepS n fine n f) (2 ^ n.inn.toNat))) ∧ σ' = sgS n 0 (skF n [(1, f)] (List.range 1)) s2 q) := fun s2 =>
        (search_show ok (skF_len n _ _) (sk_lane1 n f).1 (sk_lane1 n f).2 (faultErr_flt hf) (0, 0, [])).mono fun r σ' ⟨q, h1, h2⟩ => ⟨q, h1.trans (srchE_eq _), h2⟩
      repeat' first | with_reducible refine AW_seq ?_ | ((first | with_reducible refine AW_skip ?_ | with_reducible refine AW_ret ?_ | with_reducible refine AW_region hTt ?_ | fail); conv => whnf) | (exact absurd hb (by omega)) | ((first | ((refine ⟨_, (pcheck_fn n hi).call rfl rfl, ?_⟩); (rintro _ _ ⟨rfl, rfl⟩)) | ((refine ⟨_, (pwrong_fn n f ok.h1 ok.h6 ok.hl).call rfl rfl, ?_⟩); (rintro _ _ ⟨rfl, rfl⟩)) | refine And.intro (by first | rfl | decide) ?_ | refine ⟨[(.int .i64 1, faultAV f)], .inr ⟨fun i y => by simp, rfl⟩, ?_⟩ | ((refine ⟨_, (hbm).frame (asc [(700, 27), (19, 900), (17, 901)]) (by repeat (first | exact trivial | refine ⟨rfl, ?_⟩)) rfl (by rintro _ _ ⟨_, rfl, rfl⟩; rfl), ?_⟩); (rintro _ _ ⟨_, _, ⟨_, rfl, rfl⟩, rfl, rfl⟩)) | ((refine ⟨_, (hse _).frame (asc [(910, 10)]) (by repeat (first | exact trivial | refine ⟨rfl, ?_⟩)) rfl (by rintro _ _ ⟨_, rfl, rfl⟩; rfl), ?_⟩); (rintro _ _ ⟨_, _, ⟨_, rfl, rfl⟩, rfl, rfl⟩)) | fail); conv => whnf) | (refine AW_cond rfl (fun hb => ?_) (fun hb => ?_) <;> first | (replace hb := of_decide_eq_true hb; try simp only [List.length_map] at hb) | (replace hb := of_decide_eq_false hb; try simp only [List.length_map] at hb) | (simp only [List.length_map, bne_iff_ne, ne_eq, beq_iff_eq, bne_eq_false_iff_eq, beq_eq_false_iff_ne, decide_eq_true_eq, decide_eq_false_iff_not, Bool.not_eq_true', Bool.not_eq_false', Int.natCast_inj] at hb)) | ((refine andA ?_); conv => whnf) | fail
      exact ⟨_, rfl, LeAV.refl _⟩
    · rw [show showR n f = ([], faultErr n f) from by unfold showR; rw [if_pos hc, if_neg hf]]
      repeat' first | with_reducible refine AW_seq ?_ | ((first | with_reducible refine AW_skip ?_ | with_reducible refine AW_ret ?_ | with_reducible refine AW_region hTt ?_ | fail); conv => whnf) | (exact absurd hb (by omega)) | ((first | ((refine ⟨_, (pcheck_fn n hi).call rfl rfl, ?_⟩); (rintro _ _ ⟨rfl, rfl⟩)) | ((refine ⟨_, (pwrong_fn n f ok.h1 ok.h6 ok.hl).call rfl rfl, ?_⟩); (rintro _ _ ⟨rfl, rfl⟩)) | fail); conv => whnf) | (refine AW_cond rfl (fun hb => ?_) (fun hb => ?_) <;> first | (replace hb := of_decide_eq_true hb; try simp only [List.length_map] at hb) | (replace hb := of_decide_eq_false hb; try simp only [List.length_map] at hb) | (simp only [List.length_map, bne_iff_ne, ne_eq, beq_iff_eq, bne_eq_false_iff_eq, beq_eq_false_iff_ne, decide_eq_true_eq, decide_eq_false_iff_not, Bool.not_eq_true', Bool.not_eq_false', Int.natCast_inj] at hb)) | fail
      exact ⟨_, rfl, _, rfl, LeAV1.nil 1, LeAV1.refl _, trivial⟩
  · rw [show showR n f = ([], (checkR n).2.2) from by unfold showR; rw [if_neg hc]]
    repeat' first | with_reducible refine AW_seq ?_ | ((first | with_reducible refine AW_skip ?_ | with_reducible refine AW_ret ?_ | with_reducible refine AW_region hTt ?_ | fail); conv => whnf) | (exact absurd hb (by omega)) | ((refine ⟨_, (pcheck_fn n hi).call rfl rfl, ?_⟩); (rintro _ _ ⟨rfl, rfl⟩); conv => whnf) | (refine AW_cond rfl (fun hb => ?_) (fun hb => ?_) <;> first | (replace hb := of_decide_eq_true hb; try simp only [List.length_map] at hb) | (replace hb := of_decide_eq_false hb; try simp only [List.length_map] at hb) | (simp only [List.length_map, bne_iff_ne, ne_eq, beq_iff_eq, bne_eq_false_iff_eq, beq_eq_false_iff_ne, decide_eq_true_eq, decide_eq_false_iff_not, Bool.not_eq_true', Bool.not_eq_false', Int.natCast_inj] at hb)) | fail
    exact ⟨_, rfl, _, rfl, LeAV1.nil 1, LeAV1.refl _, trivial⟩
def netPV (n : NetT) : List PV := [.v (.int .i64 n.inn), gatesPV n.gates, intsPV n.out]
theorem pdiffer_fn (a b : NetT) (ha : i64 a.inn) (hbn : i64 b.inn) : FnC Tryd.prog 23 [netAV a, netAV b] (outE (diffR a b)) := by
  refine FnC_of_AWL hTt Tryd.func23 rfl (by kernel_rfl) (res := [.tmp 4, .tmp 5]) rfl Tryd.ntmps23 (by simp) fun w0 K0 => ?_
  dsimp only [entry]
  repeat' first | with_reducible refine AW_seq ?_ | with_reducible refine AW_block ?_ | ((with_reducible refine AW_region hTt ?_); conv => whnf) | (refine fun hln => ?_; (try rw [List.length_map] at hln); unfold maxLen at hln; conv => whnf) | fail
  refine AW_loop (fun i : Nat => [(17, iv .i64 i), (16, iv .i64 2), (15, .x (.d (.s 3 [netPV a, netPV b]))), (2, .x (.b 2 0)), (3, .x (.b 3 0))])
    (fun _ => [(3, netCells b), (2, netCells a)]) (fun i => i ≤ 2 ∧ (1 ≤ i → (checkR a).2.2 = 0) ∧ (2 ≤ i → (checkR b).2.2 = 0)) (fun i => 2 - i) 0 (by omega) impA ?_
  rintro i ⟨hi, hca, hcb⟩
  have h3 : i = 0 ∨ i = 1 ∨ i = 2 := by omega
  rcases h3 with rfl | rfl | rfl
  · by_cases hc : (checkR a).2.2 = 0
    · repeat' first | with_reducible refine AW_seq ?_ | with_reducible refine AW_block ?_ | ((first | with_reducible refine AW_skip ?_ | with_reducible refine AW_ret ?_ | with_reducible refine AW_region hTt ?_ | refine ⟨netPV a, gd_none ⟨by decide, rfl⟩, ?_⟩ | fail); conv => whnf) | (exact absurd hb (by omega)) | ((refine ⟨_, (pcheck_fn a ha).call rfl rfl, ?_⟩); (rintro _ _ ⟨rfl, rfl⟩); conv => whnf) | (refine AW_cond rfl (fun _ => ?_) (fun hb => absurd hb (by decide))) | (refine AW_cond rfl (fun hb => ?_) (fun hb => ?_) <;> first | (replace hb := of_decide_eq_true hb; try simp only [List.length_map] at hb) | (replace hb := of_decide_eq_false hb; try simp only [List.length_map] at hb) | (simp only [List.length_map, bne_iff_ne, ne_eq, beq_iff_eq, bne_eq_false_iff_eq, beq_eq_false_iff_ne, decide_eq_true_eq, decide_eq_false_iff_not, Bool.not_eq_true', Bool.not_eq_false', Int.natCast_inj] at hb)) | ((first | refine ⟨_, wrap_of (by first | omega | (simp only [List.length_map]; omega)), ?_⟩ | refine andA ?_ | fail); conv => whnf) | fail
      exact ⟨1, ⟨by decide, fun _ => hc, fun h => absurd h (by decide)⟩, by decide, impA⟩
    · rw [show diffR a b = ([], (checkR a).2.2) from by unfold diffR; rw [if_neg hc]]
      repeat' first | with_reducible refine AW_seq ?_ | with_reducible refine AW_block ?_ | ((first | with_reducible refine AW_skip ?_ | with_reducible refine AW_ret ?_ | with_reducible refine AW_region hTt ?_ | refine ⟨netPV a, gd_none ⟨by decide, rfl⟩, ?_⟩ | fail); conv => whnf) | (exact absurd hb (by omega)) | ((refine ⟨_, (pcheck_fn a ha).call rfl rfl, ?_⟩); (rintro _ _ ⟨rfl, rfl⟩); conv => whnf) | (refine AW_cond rfl (fun _ => ?_) (fun hb => absurd hb (by decide))) | (refine AW_cond rfl (fun hb => ?_) (fun hb => ?_) <;> first | (replace hb := of_decide_eq_true hb; try simp only [List.length_map] at hb) | (replace hb := of_decide_eq_false hb; try simp only [List.length_map] at hb) | (simp only [List.length_map, bne_iff_ne, ne_eq, beq_iff_eq, bne_eq_false_iff_eq, beq_eq_false_iff_ne, decide_eq_true_eq, decide_eq_false_iff_not, Bool.not_eq_true', Bool.not_eq_false', Int.natCast_inj] at hb)) | ((refine andA ?_); conv => whnf) | fail
      exact ⟨_, rfl, _, rfl, LeAV1.nil 1, LeAV1.refl _, trivial⟩
  · have hca := hca (by decide)
    by_cases hc : (checkR b).2.2 = 0
    · repeat' first | with_reducible refine AW_seq ?_ | with_reducible refine AW_block ?_ | ((first | with_reducible refine AW_skip ?_ | with_reducible refine AW_ret ?_ | with_reducible refine AW_region hTt ?_ | refine ⟨netPV b, gd_none ⟨by decide, rfl⟩, ?_⟩ | fail); conv => whnf) | (exact absurd hb (by omega)) | ((refine ⟨_, (pcheck_fn b hbn).call rfl rfl, ?_⟩); (rintro _ _ ⟨rfl, rfl⟩); conv => whnf) | (refine AW_cond rfl (fun _ => ?_) (fun hb => absurd hb (by decide))) | (refine AW_cond rfl (fun hb => ?_) (fun hb => ?_) <;> first | (replace hb := of_decide_eq_true hb; try simp only [List.length_map] at hb) | (replace hb := of_decide_eq_false hb; try simp only [List.length_map] at hb) | (simp only [List.length_map, bne_iff_ne, ne_eq, beq_iff_eq, bne_eq_false_iff_eq, beq_eq_false_iff_ne, decide_eq_true_eq, decide_eq_false_iff_not, Bool.not_eq_true', Bool.not_eq_false', Int.natCast_inj] at hb)) | ((first | refine ⟨_, wrap_of (by first | omega | (simp only [List.length_map]; omega)), ?_⟩ | refine andA ?_ | fail); conv => whnf) | fail
      exact ⟨2, ⟨by decide, fun _ => hca, fun _ => hc⟩, by decide, impA⟩
    · rw [show diffR a b = ([], (checkR b).2.2) from by unfold diffR; rw [if_pos hca, if_neg hc]]
      repeat' first | with_reducible refine AW_seq ?_ | with_reducible refine AW_block ?_ | ((first | with_reducible refine AW_skip ?_ | with_reducible refine AW_ret ?_ | with_reducible refine AW_region hTt ?_ | refine ⟨netPV b, gd_none ⟨by decide, rfl⟩, ?_⟩ | fail); conv => whnf) | (exact absurd hb (by omega)) | ((refine ⟨_, (pcheck_fn b hbn).call rfl rfl, ?_⟩); (rintro _ _ ⟨rfl, rfl⟩); conv => whnf) | (refine AW_cond rfl (fun _ => ?_) (fun hb => absurd hb (by decide))) | (refine AW_cond rfl (fun hb => ?_) (fun hb => ?_) <;> first | (replace hb := of_decide_eq_true hb; try simp only [List.length_map] at hb) | (replace hb := of_decide_eq_false hb; try simp only [List.length_map] at hb) | (simp only [List.length_map, bne_iff_ne, ne_eq, beq_iff_eq, bne_eq_false_iff_eq, beq_eq_false_iff_ne, decide_eq_true_eq, decide_eq_false_iff_not, Bool.not_eq_true', Bool.not_eq_false', Int.natCast_inj] at hb)) | ((refine andA ?_); conv => whnf) | fail
      exact ⟨_, rfl, _, rfl, LeAV1.nil 1, LeAV1.refl _, trivial⟩
  · have hca := hca (by decide)
    have hcb := hcb (by decide)
    have oka := NetOK.of hca
    have okb := NetOK.of hcb
    have oa4 := oka.o4
    have ob4 := okb.o4
    by_cases hne : a.inn = b.inn ∧ a.out.length = b.out.length
    · rw [show diffR a b = srchP (srch (stepS a fine b fine) (2 ^ a.inn.toNat)) from by unfold diffR; rw [if_pos hca, if_pos hcb, if_pos hne]]
      have b1 := DC.ACall.anew (build_nil' a oka.h1 oka.h6 oka.hl) (asc [(19, 900), (17, 901)]) (args' := [netAV a, .x (.d (.v (.map none)))]) (rv' := .x (.b 900 0)) (nob' := sB2 a 900 901 0 (sk0 a) (dl0 a).length (dl0 a)) rfl rfl rfl rfl
      have b2 := DC.ACall.anew (build_nil' b okb.h1 okb.h6 okb.hl) (asc [(19, 800), (17, 801), (902, 802), (903, 803)]) (args' := [netAV b, .x (.d (.v (.map none)))]) (rv' := .x (.b 800 0))
        (nob' := [(800, .box [.d (.v (.int .i64 b.inn)), .d (gatesPV b.gates), .d (intsPV b.out), .o 801 0 (sk0 b).length, .o 802 (dl0 b).length (dl0 b).length, .o 803 0 0]), (801, .chain 126 2 0 ((sk0 b).map sPV)), (802, .chain 3 1 (dl0 b).length ((dl0 b).map iPV)), (803, .chain 125 1 0 [])]) rfl rfl rfl rfl
      have hse : ACall Tryd.prog 64 [iv .i64 a.inn, .x (.f (.func 65) [] [.b 910 0, .b 911 0])] (sgD a b (dl0 a).length (dl0 b).length (0, 0, [], 0, 0, []))
          (fun r σ' => ∃ q : BQ2, r = outE (srchP (srch (stepS a fine b fine) (2 ^ a.inn.toNat))) ∧ σ' = sgD a b (dl0 a).length (dl0 b).length q) :=
        (search_diff oka okb (0, 0, [], 0, 0, [])).mono fun r σ' ⟨q, h1, h2⟩ => ⟨q, h1.trans (srchE_eq _), h2⟩
      repeat' first | ((refine DC.AW_drawC hTt hMix (id := 10) 6 true [0, 1, 0, 7, 0, 0, 63, 127] (by kernel_rfl) rfl rfl (by kernel_rfl) ?_); conv => whnf) | with_reducible refine AW_seq ?_ | ((first | with_reducible refine AW_skip ?_ | with_reducible refine AW_exit ?_ | with_reducible refine AW_ret ?_ | with_reducible refine AW_region hTt ?_ | fail); conv => whnf) | (exfalso; simp [hne.1, hne.2] at hb; done) | ((first | refine ⟨_, _, rfl, b1, ?_⟩ | refine ⟨_, _, rfl, b2, ?_⟩ | ((refine ⟨_, (hse).frame (asc [(910, 11), (911, 12)]) (by repeat (first | exact trivial | refine ⟨rfl, ?_⟩)) rfl (by rintro _ _ ⟨_, rfl, rfl⟩; rfl), ?_⟩); (rintro _ _ ⟨_, _, ⟨_, rfl, rfl⟩, rfl, rfl⟩)) | fail); conv => whnf) | (refine AW_cond rfl (fun hb => absurd hb (by decide)) (fun _ => ?_)) | (refine AW_cond rfl (fun hb => ?_) (fun hb => ?_) <;> first | (replace hb := of_decide_eq_true hb; try simp only [List.length_map] at hb) | (replace hb := of_decide_eq_false hb; try simp only [List.length_map] at hb) | (simp only [List.length_map, bne_iff_ne, ne_eq, beq_iff_eq, bne_eq_false_iff_eq, beq_eq_false_iff_ne, decide_eq_true_eq, decide_eq_false_iff_not, Bool.not_eq_true', Bool.not_eq_false', Int.natCast_inj] at hb)) | ((refine andA ?_); conv => whnf) | fail
      exact ⟨_, rfl, LeAV.refl _⟩
    · rw [show diffR a b = ([], 2) from by unfold diffR; rw [if_pos hca, if_pos hcb, if_neg hne]]
      repeat' first | with_reducible refine AW_seq ?_ | ((first | with_reducible refine AW_skip ?_ | with_reducible refine AW_exit ?_ | with_reducible refine AW_ret ?_ | with_reducible refine AW_region hTt ?_ | refine AW_draw hTt hMix (id := 10) 6 true [0, 1, 0, 7, 0, 0, 63, 127] (by kernel_rfl) rfl rfl (by kernel_rfl) ?_ | fail); conv => whnf) | (exfalso; simp at hb; exact hne ⟨by omega, by omega⟩) | (refine AW_cond rfl (fun hb => absurd hb (by decide)) (fun _ => ?_)) | (refine AW_cond rfl (fun hb => ?_) (fun hb => ?_) <;> first | (replace hb := of_decide_eq_true hb; try simp only [List.length_map] at hb) | (replace hb := of_decide_eq_false hb; try simp only [List.length_map] at hb) | (simp only [List.length_map, bne_iff_ne, ne_eq, beq_iff_eq, bne_eq_false_iff_eq, beq_eq_false_iff_ne, decide_eq_true_eq, decide_eq_false_iff_not, Bool.not_eq_true', Bool.not_eq_false', Int.natCast_inj] at hb)) | ((refine andA ?_); conv => whnf) | fail
      exact ⟨_, rfl, _, rfl, LeAV1.nil 1, LeAV1.refl _, trivial⟩
end Go.Proofs.YtfghooojingdhaaDoor
namespace Go.Proofs.YtfghooojingdhaaDoor
open Go Go.QL
set_option maxHeartbeats 3200000
attribute [local irreducible] ACall FnC YC
theorem runs_5 : RunsAt 5 := fun n ok s1 sk hsk s2 s3 k' nw flt hl xs hxl => run_5 ok hsk hl xs hxl
def exF : List FaultT := [⟨7, 0⟩, ⟨2, 1⟩, ⟨6, 0⟩, ⟨4, 0⟩]
def exT : List (List Int) := [[3, 0], [0], [3, 1, 0]]
def exB : List (List Bool) := [[true, true, false, true], [false, true, false, false], [true, true, true, true]]
theorem ex_i64 : i64 adder.inn := by unfold i64; decide
theorem ex_chk : (checkR adder).2.2 = 0 := by kernel_rfl
theorem ex_asked : askedR adder exF exT = 0 := by kernel_rfl
theorem ex_run : runR adder [3, 1, 0] = ([0, 0, 1], 0) := by kernel_rfl
theorem ex_step : stepP adder 1 1 = (1, 0, 0) := by kernel_rfl
theorem ex_show : showR adder ⟨6, 0⟩ = ([3, 1, 0], 0) := by kernel_rfl
theorem ex_table : tableR adder exF exT = (exB, 0) := by kernel_rfl
theorem ex_tell : tellR adder exF exT = ([0, 2], 0) := by kernel_rfl
theorem ex_tellP : tellP adder exF exT = (intsPV [0, 2], 0) := by
  have h := tell_eq ex_asked
  rw [ex_tell] at h
  have h2 : (tellP adder exF exT).2 = 0 := by unfold tellP; rw [if_pos ex_asked]
  exact Prod.ext h h2
theorem ex_diff : (diffR adder adder).2 = 9 := by kernel_rfl
def exText : ByteArray := ⟨#[105, 110, 112, 117, 116, 115, 32, 50, 10, 100, 101, 108, 97, 121, 32, 55, 10, 120, 111, 114, 32, 48, 32, 49, 10, 120, 111, 114, 32, 51, 32, 50, 10, 97, 110, 100, 32, 48, 32, 49, 10, 97, 110, 100, 32, 51, 32, 50, 10, 111, 114, 32, 53, 32, 54, 10, 111, 117, 116, 112, 117, 116, 115, 32, 52, 10]⟩
theorem ex_write : writeR adder = (exText, 0) := by kernel_rfl
end Go.Proofs.YtfghooojingdhaaDoor
namespace Go.Proofs.YtfghooojingdhaaDoor
open Go Go.QL
set_option maxHeartbeats 3200000
attribute [local irreducible] ACall FnC YC
theorem awake_fn : FnC Tryd.prog 22 [] (bv true) := by
  have hrun := prun_fn adder ex_i64 [3, 1, 0]
  rw [ex_run] at hrun
  have hstep := pstep_fn adder ex_i64 1 1
  rw [ex_step] at hstep
  have hshow := pshow_fn adder ex_i64 ⟨6, 0⟩
  rw [ex_show] at hshow
  have htab := ptable_fn adder ex_i64 exF exT (fun _ => runs_5)
  rw [ex_table] at htab
  have htell := ptell_fn adder ex_i64 exF exT (fun _ => runs_5)
  rw [ex_tellP] at htell
  have hdiff := pdiffer_fn adder adder ex_i64 ex_i64
  have e := ex_diff
  generalize diffR adder adder = D at hdiff e
  obtain ⟨d, z⟩ := D
  dsimp only at e
  subst e
  have hwrite := write_fn adder ex_i64
  rw [ex_write] at hwrite
  have htabs := tables_ref exB exB
  rw [decide_eq_true rfl] at htabs
  have i1 := ints_fn [0, 0, 1] [0, 0, 1]
  rw [show sameInts [0, 0, 1] [0, 0, 1] = true from rfl] at i1
  have i2 := ints_fn [3, 1, 0] [3, 1, 0]
  rw [show sameInts [3, 1, 0] [3, 1, 0] = true from rfl] at i2
  have i3 := ints_fn [0, 2] [0, 2]
  rw [show sameInts [0, 2] [0, 2] = true from rfl] at i3
  dsimp only at hrun hstep hshow htab htell hdiff hwrite
  refine FnC_of_AW hTt Tryd.func22 rfl (by kernel_rfl) (res := [.tmp 0]) rfl Tryd.ntmps22 (by simp) fun w0 K0 => ?_
  dsimp only [entry]
  repeat' first | with_reducible refine AW_seq ?_ | ((first | with_reducible refine AW_ret ?_ | with_reducible refine AW_region hTt ?_ | refine AW_draw hTt hMix (id := 2) 9 false [0, 0, 2, 6, 15, 31, 63, 63, 127, 511] (by kernel_rfl) rfl rfl (by kernel_rfl) ?_ | refine AW_draw hTt hMix (id := 4) 9 false [0, 0, 2, 6, 15, 31, 63, 63, 127, 511] (by kernel_rfl) rfl rfl (by kernel_rfl) ?_ | refine AW_draw hTt hMix (id := 5) 8 false [0, 0, 2, 7, 15, 31, 31, 63, 255] (by kernel_rfl) rfl rfl (by kernel_rfl) ?_ | refine AW_draw hTt hMix (id := 6) 8 false [0, 0, 2, 7, 15, 31, 31, 63, 255] (by kernel_rfl) rfl rfl (by kernel_rfl) ?_ | with_reducible refine Exists.intro _ (And.intro (gd_any (And.intro (by decide) rfl)) ?_) | ((refine ⟨_, (padder_fn).call rfl rfl, ?_⟩); (rintro _ _ ⟨rfl, rfl⟩)) | refine ⟨_, fun _ => (tests_fn).call rfl rfl, ?_⟩ | refine ⟨_, fun _ => (faults_fn).call rfl rfl, ?_⟩ | refine ⟨_, fun _ => (hrun).call rfl rfl, ?_⟩ | ((refine ⟨_, (hstep).call rfl rfl, ?_⟩); (rintro _ _ ⟨rfl, rfl⟩)) | refine ⟨_, fun _ => (hshow).call rfl rfl, ?_⟩ | refine ⟨_, fun _ => (htab).call rfl rfl, ?_⟩ | refine ⟨_, fun _ => (htell).call rfl rfl, ?_⟩ | ((refine ⟨_, (hdiff).call rfl rfl, ?_⟩); (rintro _ _ ⟨rfl, rfl⟩)) | ((refine ⟨_, (hwrite).call rfl rfl, ?_⟩); (rintro _ _ ⟨rfl, rfl⟩)) | refine ⟨_, fun _ => (htabs).call rfl rfl, ?_⟩ | refine ⟨_, fun _ => (i1).call rfl rfl, ?_⟩ | refine ⟨_, fun _ => (i2).call rfl rfl, ?_⟩ | refine ⟨_, fun _ => (i3).call rfl rfl, ?_⟩ | refine andA ?_ | fail); conv => whnf) | fail
  have key : ∀ b, b = true → some (bv b) = some (bv true) := by intro b h; rw [h]
  exact key _ (beq_self_eq_true exText.toList)
end Go.Proofs.YtfghooojingdhaaDoor
