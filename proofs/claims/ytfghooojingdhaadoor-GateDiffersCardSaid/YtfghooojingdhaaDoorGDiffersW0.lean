/- What the functions that this law reaches return: part 0. No condition. -/
import Derived.Test.YtfghooojingdhaaDoorE05
set_option linter.all false
namespace Go.Proofs.YtfghooojingdhaaDoor
open Go Go.QL
set_option maxHeartbeats 3200000
attribute [local irreducible] ACall FnC
def pathPV : List Int → PV
  | [] => .v (.slice none 0 0)
  | x :: r => intsPV (x :: r)
theorem pathPV_snoc (l : List Int) (x : Int) : pathPV (l ++ [x]) = intsPV (l ++ [x]) := by cases l <;> rfl
def mPV (e : Ent) : List PV := [.v (.int .i64 e.p.1), .v (.int .i64 e.p.2), pathPV e.path]
theorem m_some {E : List Ent} {i : Nat} {e : Ent} (h : E[i]? = some e) : (E.map mPV)[((i : Int)).toNat]? = some [.v (.int .i64 e.p.1), .v (.int .i64 e.p.2), pathPV e.path] := by simp [h, mPV]
theorem there_fn (E : List Ent) (a b : Int) : FnC Tryd.prog 94 [.x (.d (.s 3 (E.map mPV))), iv .i64 a, iv .i64 b] (bv (seenE E (a, b))) := by
  refine FnC_of_AW hTt Tryd.func94 rfl (by kernel_rfl) (res := [.tmp 6]) rfl Tryd.ntmps94 (by simp) fun w0 K0 => ?_
  dsimp only [entry]
  repeat' first | with_reducible refine AW_seq ?_ | with_reducible refine AW_block ?_ | ((with_reducible refine AW_region hTt ?_); conv => whnf) | fail
  refine AW_loop (fun i : Nat => [(7, iv .i64 i), (0, .x (.d (.s 3 (E.map mPV)))), (1, iv .i64 a), (2, iv .i64 b)]) (fun _ => []) (fun i => i ≤ E.length ∧ seenE (E.take i) (a, b) = false) (fun i => E.length - i) 0 ⟨Nat.zero_le _, rfl⟩ (Imp.forget (by repeat' (first | exact trivial | refine And.intro ?_ ?_ | rfl | exact ivE (by first | omega | (simp only [List.length_map, List.length_append, List.length_singleton] <;> omega)) | exact oE (by first | omega | (simp only [List.length_map, List.length_append, List.length_singleton] <;> omega)))) (by repeat' (first | exact trivial | refine And.intro ?_ ?_ | rfl | exact ivE (by first | omega | (simp only [List.length_map, List.length_append, List.length_singleton] <;> omega)) | exact oE (by first | omega | (simp only [List.length_map, List.length_append, List.length_singleton] <;> omega)))) (by kernel_rfl) (by kernel_rfl) (by kernel_rfl)) ?_
  rintro i ⟨hi, hs⟩
  rcases Nat.lt_or_ge i E.length with hil | hil
  · obtain ⟨e, he⟩ : ∃ e, E[i]? = some e := ⟨_, List.getElem?_eq_getElem hil⟩
    have hst : seenE (E.take (i + 1)) (a, b) = (e.p == (a, b)) := by
      unfold seenE at hs ⊢
      rw [List.take_add_one, he, List.any_append, hs]; simp
    have hp : (e.p == (a, b)) = (e.p.1 == a && e.p.2 == b) := by
      obtain ⟨p, q⟩ := e.p
      rfl
    repeat' first | with_reducible refine AW_seq ?_ | with_reducible refine AW_block ?_ | ((first | with_reducible refine AW_skip ?_ | with_reducible refine AW_exit ?_ | with_reducible refine AW_ret ?_ | with_reducible refine AW_region hTt ?_ | fail); conv => whnf) | (exact absurd hb (by omega)) | ((with_reducible refine Exists.intro _ (And.intro (gd_any (And.intro (by omega) (m_some he))) ?_)); conv => whnf) | (refine AW_cond rfl (fun hb => ?_) (fun hb => ?_) <;> first | (replace hb := of_decide_eq_true hb; try simp only [List.length_map] at hb) | (replace hb := of_decide_eq_false hb; try simp only [List.length_map] at hb) | (simp only [List.length_map, bne_iff_ne, ne_eq, beq_iff_eq, bne_eq_false_iff_eq, beq_eq_false_iff_ne, decide_eq_true_eq, decide_eq_false_iff_not, Bool.not_eq_true', Bool.not_eq_false', Int.natCast_inj] at hb) | skip) | ((refine ⟨_, wrap_of (by first | omega | (simp only [List.length_map]; omega)), ?_⟩); conv => whnf) | ((refine And.intro (by first | exact trivial | rfl | exact gd_self | exact gd_any (by omega) | exact fun h => h | decide | (constructor <;> simp [chunk, maxLen]; done) | (intro h; simpa using h)) ?_); conv => whnf) | (refine fun hln => ?_; (try rw [List.length_map] at hln); unfold maxLen at hln; conv => whnf) | fail
    · have hq : (e.p.1 == a && e.p.2 == b) = true := by
        revert hb
        cases (e.p.1 == a) <;> cases (e.p.2 == b) <;> simp
      have : seenE E (a, b) = true := by
        rw [hq] at hp; rw [hp] at hst
        unfold seenE at hst ⊢
        rw [← List.take_append_drop (i + 1) E, List.any_append, hst]; rfl
      rw [this]; rfl
    · have hq : (e.p.1 == a && e.p.2 == b) = false := by
        revert hb
        cases (e.p.1 == a) <;> cases (e.p.2 == b) <;> simp
      exact ⟨i + 1, ⟨by omega, by rw [hst, hp, hq]⟩, by omega, (Imp.forget (by repeat' (first | exact trivial | refine And.intro ?_ ?_ | rfl | exact ivE (by first | omega | (simp only [List.length_map, List.length_append, List.length_singleton] <;> omega)) | exact oE (by first | omega | (simp only [List.length_map, List.length_append, List.length_singleton] <;> omega)))) (by repeat' (first | exact trivial | refine And.intro ?_ ?_ | rfl | exact ivE (by first | omega | (simp only [List.length_map, List.length_append, List.length_singleton] <;> omega)) | exact oE (by first | omega | (simp only [List.length_map, List.length_append, List.length_singleton] <;> omega)))) (by kernel_rfl) (by kernel_rfl) (by kernel_rfl))⟩
  · repeat' first | with_reducible refine AW_seq ?_ | with_reducible refine AW_block ?_ | ((first | with_reducible refine AW_skip ?_ | with_reducible refine AW_exit ?_ | with_reducible refine AW_ret ?_ | with_reducible refine AW_region hTt ?_ | fail); conv => whnf) | (exact absurd hb (by omega)) | (refine AW_cond rfl (fun hb => ?_) (fun hb => ?_) <;> first | (replace hb := of_decide_eq_true hb; try simp only [List.length_map] at hb) | (replace hb := of_decide_eq_false hb; try simp only [List.length_map] at hb) | (simp only [List.length_map, bne_iff_ne, ne_eq, beq_iff_eq, bne_eq_false_iff_eq, beq_eq_false_iff_ne, decide_eq_true_eq, decide_eq_false_iff_not, Bool.not_eq_true', Bool.not_eq_false', Int.natCast_inj] at hb) | skip) | (refine fun hln => ?_; (try rw [List.length_map] at hln); unfold maxLen at hln; conv => whnf) | fail
    rw [List.take_of_length_le hil] at hs
    rw [hs]; rfl
def apP (r : Option (List Int)) : List Int × Bool := match r with
  | some l => (l, true)
  | none => ([], false)
theorem view_own {σ : Sg} {c e sz st : Nat} {xs : List (List PV)} {n : Nat} (h : lk c σ = some (.chain e sz st xs)) (hn : n = xs.length) : viewSV σ (.o c st n) = some (.d (.s sz xs)) := by
  subst hn
  simp [viewSV, h]
theorem two_inn {k : Int} (h0 : 0 ≤ k) (h6 : k ≤ 6) {N : Nat} (hN : 2 ^ k.toNat = N) : FnC Tryd.prog 31 [iv .i64 k] (iv .i64 (N : Int)) := by
  have h := two_small k.toNat (by omega)
  rw [show ((k.toNat : Nat) : Int) = k by omega] at h
  have e : (2 : Int) ^ k.toNat = (N : Int) := by rw [← hN]; exact (Int.natCast_pow 2 _).symm
  rw [e] at h; exact h
theorem apart_fn (a b : NetT) (oka : NetOK a) (okb : NetOK b) (f g : FaultT) (hf : FltOK f) (hg : FltOK g) :
    FnC Tryd.prog 67 [netAV a, netAV b, faultAV f, faultAV g] (.t [sl (apP (srch (stepS a f b g) (2 ^ a.inn.toNat))).1, bv (apP (srch (stepS a f b g) (2 ^ a.inn.toNat))).2]) := by
  have hn1 := oka.h1; have hn6 := oka.h6
  have hN6 := N_le hn6
  obtain ⟨N, hN⟩ : ∃ N : Nat, 2 ^ a.inn.toNat = N := ⟨_, rfl⟩
  have htwo := two_inn (k := a.inn) (by omega) (by omega) hN
  rw [hN] at hN6 ⊢
  refine FnC_of_AWL hTt Tryd.func67 rfl (by kernel_rfl) (res := [.tmp 8, .tmp 9]) rfl Tryd.ntmps67 (by simp) fun w0 K0 => ?_
  dsimp only [entry]
  repeat' first | with_reducible refine AW_seq ?_ | with_reducible refine AW_block ?_ | ((with_reducible refine AW_region hTt ?_); conv => whnf) | fail
  refine AW_loop (fun s : SSt Unit => [(11, iv .i64 s.i), (10, .x (.o 19 s.st s.E.length)), (4, .x (.b 4 0)), (5, .x (.b 5 0)), (6, .x (.b 6 0)), (7, .x (.b 7 0))])
    (fun s => [(19, .chain 138 3 s.st (s.E.map mPV)), (4, netCells a), (5, netCells b), (6, fltBox f), (7, fltBox g)])
    (fun s => s.x = 0 ∧ s.i ≤ s.E.length ∧ SInv N s.E ∧ bound s.i 0 ≤ s.f ∧ srch (stepS a f b g) N = bfs (stepS a f b g) N s.f s.E s.i 0) (fun s => 1025 - s.i) ⟨[ent0], 0, 0, 0, fuel0, ((0, 0), 0), ()⟩
    ⟨rfl, Nat.zero_le _, SInv.init _, by show bound 0 0 ≤ fuel0; decide, rfl⟩ (Imp.forget (by repeat' (first | exact trivial | refine And.intro ?_ ?_ | rfl | exact ivE (by first | omega | (simp only [List.length_map, List.length_append, List.length_singleton] <;> omega)) | exact oE (by first | omega | (simp only [List.length_map, List.length_append, List.length_singleton] <;> omega)))) (by repeat' (first | exact trivial | refine And.intro ?_ ?_ | rfl | exact ivE (by first | omega | (simp only [List.length_map, List.length_append, List.length_singleton] <;> omega)) | exact oE (by first | omega | (simp only [List.length_map, List.length_append, List.length_singleton] <;> omega)))) (by kernel_rfl) (by kernel_rfl) (by kernel_rfl)) ?_
  rintro ⟨E, i, x, st, f0, lv, q⟩ ⟨hx0, hi, hE, hbd, hsr⟩
  dsimp only at hx0 hi hE hbd hsr ⊢
  subst hx0
  have hle := hE.le
  rcases Nat.lt_or_ge i E.length with hil | hil
  · repeat' first | with_reducible refine AW_seq ?_ | with_reducible refine AW_block ?_ | ((first | with_reducible refine AW_skip ?_ | with_reducible refine AW_exit ?_ | with_reducible refine AW_ret ?_ | with_reducible refine AW_region hTt ?_ | fail); conv => whnf) | (exact absurd hb (by omega)) | (refine AW_cond rfl (fun hb => ?_) (fun hb => ?_) <;> first | (replace hb := of_decide_eq_true hb; try simp only [List.length_map] at hb) | (replace hb := of_decide_eq_false hb; try simp only [List.length_map] at hb) | (simp only [List.length_map, bne_iff_ne, ne_eq, beq_iff_eq, bne_eq_false_iff_eq, beq_eq_false_iff_ne, decide_eq_true_eq, decide_eq_false_iff_not, Bool.not_eq_true', Bool.not_eq_false', Int.natCast_inj] at hb) | skip) | ((refine And.intro (by first | exact trivial | rfl | exact gd_self | exact gd_any (by omega) | exact fun h => h | decide | (constructor <;> simp [chunk, maxLen]; done) | (intro h; simpa using h)) ?_); conv => whnf) | (refine fun hln => ?_; (try rw [List.length_map] at hln); unfold maxLen at hln; conv => whnf) | fail
    refine AW_loop (fun s : SSt Unit => [(12, iv .i64 s.x), (11, iv .i64 i), (10, .x (.o 19 s.st s.E.length)), (4, .x (.b 4 0)), (5, .x (.b 5 0)), (6, .x (.b 6 0)), (7, .x (.b 7 0))])
      (fun s => [(19, .chain 138 3 s.st (s.E.map mPV)), (4, netCells a), (5, netCells b), (6, fltBox f), (7, fltBox g)])
      (fun s => s.i = i ∧ i < s.E.length ∧ s.x ≤ N ∧ SInv N s.E ∧ bound i s.x ≤ s.f ∧ srch (stepS a f b g) N = bfs (stepS a f b g) N s.f s.E i s.x) (fun s => N - s.x) ⟨E, i, 0, st, f0, lv, ()⟩
      ⟨rfl, hil, Nat.zero_le _, hE, hbd, hsr⟩ (Imp.forget (by repeat' (first | exact trivial | refine And.intro ?_ ?_ | rfl | exact ivE (by first | omega | (simp only [List.length_map, List.length_append, List.length_singleton] <;> omega)) | exact oE (by first | omega | (simp only [List.length_map, List.length_append, List.length_singleton] <;> omega)))) (by repeat' (first | exact trivial | refine And.intro ?_ ?_ | rfl | exact ivE (by first | omega | (simp only [List.length_map, List.length_append, List.length_singleton] <;> omega)) | exact oE (by first | omega | (simp only [List.length_map, List.length_append, List.length_singleton] <;> omega)))) (by kernel_rfl) (by kernel_rfl) (by kernel_rfl)) ?_
    clear hsr hbd hE hle hi hil
    rintro ⟨E, i', x, st, f0, lv, q⟩ ⟨hii, hil, hx, hE, hbd, hsr⟩
    dsimp only at hii hil hx hE hbd hsr ⊢
    subst hii
    have hle := hE.le
    obtain ⟨f1, rfl⟩ : ∃ f1, f0 = f1 + 1 := ⟨f0 - 1, by unfold bound at hbd; omega⟩
    rcases Nat.lt_or_ge x N with hxN | hxN
    · obtain ⟨e, he⟩ : ∃ e, E[i']? = some e := ⟨_, List.getElem?_eq_getElem hil⟩
      have heD : E.getD i' ent0 = e := by rw [List.getD_eq_getElem?_getD, he]; rfl
      rw [bfs, if_pos hil, if_pos hxN, heD] at hsr
      have hrg := hE.rng e (List.mem_of_getElem? he)
      obtain ⟨⟨r1, r2⟩, r3, r4⟩ := hrg
      have hpl := (hE.pth i' e he).1
      have hb1 := beat_ref a oka f hf e.p.1 x (by omega) (by omega)
      have hb2 := beat_ref b okb g hg e.p.2 x (by omega) (by omega)
      have hin := stepS_in oka okb hf hg e.p x
      have hvw : ∀ (σ : Sg), lk 19 σ = some (.chain 138 3 st (E.map mPV)) → ∀ u v : Int, viewAVs σ [.x (.o 19 st E.length), iv .i64 u, iv .i64 v] = some [.x (.d (.s 3 (E.map mPV))), iv .i64 u, iv .i64 v] := by
        intro σ h u v
        simp only [viewAVs, viewAV1, view_own h (show E.length = (E.map mPV).length by rw [List.length_map])]
        rfl
      have hs1 : (stepS a f b g e.p x).1 = ((beatR a f e.p.1 x).1, (beatR b g e.p.2 x).1) := rfl
      have hs2 : (stepS a f b g e.p x).2 = ((beatR a f e.p.1 x).2 != (beatR b g e.p.2 x).2) := rfl
      rw [hs1, hs2] at hsr
      rw [hs1] at hin
      generalize hq1 : beatR a f e.p.1 x = q1 at hsr hin hb1
      generalize hq2 : beatR b g e.p.2 x = q2 at hsr hin hb2
      obtain ⟨na, oa⟩ := q1
      obtain ⟨nb, ob⟩ := q2
      dsimp only at hsr hin hb1 hb2
      have hpath : pathPV e.path = .v (.slice none 0 0) ∧ e.path = [] ∨ pathPV e.path = intsPV e.path := by
        cases e.path with
        | nil => exact .inl ⟨rfl, rfl⟩
        | cons y r => exact .inr rfl
      have hm := m_some he
      have hfz : sl (e.path ++ [(x : Int)]) = .x (.d (.s 1 (((e.path ++ [(x : Int)]).map iPV).take (e.path ++ [(x : Int)]).length))) := by
        rw [List.take_of_length_le (by rw [List.length_map]; exact Nat.le_refl _)]; rfl
      have hFz : FzF 33 1 2 ((e.path ++ [(x : Int)]).map iPV) ((13, .x (.o 33 2 (e.path ++ [(x : Int)]).length)) :: [(12, iv .i64 x), (11, iv .i64 i'), (10, .x (.o 19 st E.length)), (4, .x (.b 4 0)), (5, .x (.b 5 0)), (6, .x (.b 6 0)), (7, .x (.b 7 0))]) ((13, sl (e.path ++ [(x : Int)])) :: [(12, iv .i64 x), (11, iv .i64 i'), (10, .x (.o 19 st E.length)), (4, .x (.b 4 0)), (5, .x (.b 5 0)), (6, .x (.b 6 0)), (7, .x (.b 7 0))]) :=
        ⟨⟨_, rfl, .inr ⟨(e.path ++ [(x : Int)]).length, rfl, by rw [List.length_map]; exact Nat.le_refl _, hfz⟩⟩, ⟨_, rfl, .inl rfl⟩, ⟨_, rfl, .inl rfl⟩, ⟨_, rfl, .inl rfl⟩, ⟨_, rfl, .inl rfl⟩, ⟨_, rfl, .inl rfl⟩, ⟨_, rfl, .inl rfl⟩, ⟨_, rfl, .inl rfl⟩, trivial⟩
      by_cases hd : oa = ob
      · have hdb : (oa != ob) = false := by simp [hd]
        rw [if_neg (by rw [hdb]; decide)] at hsr
        have hth := there_fn E na nb
        by_cases hs : seenE E (na, nb) = true
        · rw [if_pos hs] at hsr
          rw [hs] at hth
          rcases hpath with ⟨hp, hp0⟩ | hp
          all_goals rw [hp] at hm
          all_goals
            repeat' first | ((refine AW_imp (fr' := (13, .x (.o 33 2 (e.path ++ [(x : Int)]).length)) :: [(12, iv .i64 x), (11, iv .i64 i'), (10, .x (.o 19 st E.length)), (4, .x (.b 4 0)), (5, .x (.b 5 0)), (6, .x (.b 6 0)), (7, .x (.b 7 0))]) (σ' := (33, .chain 3 1 2 ((e.path ++ [(x : Int)]).map iPV)) :: [(19, .chain 138 3 st (E.map mPV)), (4, netCells a), (5, netCells b), (6, fltBox f), (7, fltBox g)]) (Imp.forget (by repeat' (first | exact trivial | refine And.intro ?_ ?_ | exact chE (by first | (rw [hp0]; rfl) | (rw [List.map_append]; simp [chunk, iPV]; exact List.take_of_length_le (by simp))) | exact oE (by first | (rw [hp0]; rfl) | (simp [chunk]; done)) | rfl | exact ivE (by first | omega | (simp only [List.length_map, List.length_append, List.length_singleton] <;> omega)) | exact oE (by first | omega | (simp only [List.length_map, List.length_append, List.length_singleton] <;> omega)))) (by repeat' (first | exact trivial | refine And.intro ?_ ?_ | exact chE (by first | (rw [hp0]; rfl) | (rw [List.map_append]; simp [chunk, iPV]; exact List.take_of_length_le (by simp))) | exact oE (by first | (rw [hp0]; rfl) | (simp [chunk]; done)) | rfl | exact ivE (by first | omega | (simp only [List.length_map, List.length_append, List.length_singleton] <;> omega)) | exact oE (by first | omega | (simp only [List.length_map, List.length_append, List.length_singleton] <;> omega)))) (by kernel_rfl) (by kernel_rfl) (by kernel_rfl)) (AW_imp (Imp.freeze 33 (fr' := (13, sl (e.path ++ [(x : Int)])) :: [(12, iv .i64 x), (11, iv .i64 i'), (10, .x (.o 19 st E.length)), (4, .x (.b 4 0)), (5, .x (.b 5 0)), (6, .x (.b 6 0)), (7, .x (.b 7 0))]) (σ' := [(19, .chain 138 3 st (E.map mPV)), (4, netCells a), (5, netCells b), (6, fltBox f), (7, fltBox g)]) rfl hFz ⟨rfl, rfl, rfl, rfl, rfl, trivial⟩ rfl rfl) (AW_draw hTt hMix (id := 9) 13 false [0, 0, 0, 0, 12, 28, 60, 0, 255, 511, 1023, 1023, 2047, 8191] (by kernel_rfl) rfl rfl (by kernel_rfl) ?_))); conv => whnf) | with_reducible refine AW_seq ?_ | with_reducible refine AW_block ?_ | ((first | with_reducible refine AW_skip ?_ | with_reducible refine AW_exit ?_ | with_reducible refine AW_ret ?_ | with_reducible refine AW_region hTt ?_ | refine AW_draw hTt hMix (id := 10) 13 false [0, 0, 0, 0, 12, 28, 60, 0, 255, 511, 1023, 1023, 2047, 8191] (by kernel_rfl) rfl rfl (by kernel_rfl) ?_ | fail); conv => whnf) | (exact absurd hb (by omega)) | ((first | ((refine ⟨_, (htwo).call rfl rfl, ?_⟩); (rintro _ _ ⟨rfl, rfl⟩)) | refine And.intro (gd_any ⟨by omega, by omega, by rw [List.length_map]; omega⟩) ?_ | refine ⟨_, gd_any hm, ⟨Nat.le_of_ble_eq_true rfl, rfl⟩, ?_⟩ | refine ⟨_, fun _ => (hb1).call rfl rfl, ?_⟩ | refine ⟨_, fun _ => (hb2).call rfl rfl, ?_⟩ | ((refine ⟨_, FnC.callv hth (hvw _ rfl na nb) rfl, ?_⟩); (rintro _ _ ⟨rfl, rfl⟩)) | fail); conv => whnf) | (refine AW_cond rfl (fun hb => absurd hb (by decide)) (fun _ => ?_)) | (refine AW_cond rfl (fun hb => ?_) (fun hb => ?_) <;> first | (replace hb := of_decide_eq_true hb; try simp only [List.length_map] at hb) | (replace hb := of_decide_eq_false hb; try simp only [List.length_map] at hb) | (simp only [List.length_map, bne_iff_ne, ne_eq, beq_iff_eq, bne_eq_false_iff_eq, beq_eq_false_iff_ne, decide_eq_true_eq, decide_eq_false_iff_not, Bool.not_eq_true', Bool.not_eq_false', Int.natCast_inj] at hb) | skip) | ((refine ⟨_, wrap_of (by first | omega | (simp only [List.length_map]; omega)), ?_⟩); conv => whnf) | ((refine And.intro (by first | exact trivial | rfl | exact gd_self | exact gd_any (by omega) | exact fun h => h | decide | (constructor <;> simp [chunk, maxLen]; done) | (intro h; simpa using h)) ?_); conv => whnf) | ((refine And.intro (by refine ⟨?_, ?_, ?_⟩ <;> simp [chunk, maxLen] <;> omega) ?_); conv => whnf) | fail
            exact ⟨⟨E, i', x + 1, st, f1, lv, ()⟩, ⟨rfl, hil, hxN, hE, by show bound i' (x + 1) ≤ f1; unfold bound at hbd ⊢; omega, hsr⟩, by show N - (x + 1) < N - x; omega, (Imp.forget (by repeat' (first | exact trivial | refine And.intro ?_ ?_ | rfl | exact ivE (by first | omega | (simp only [List.length_map, List.length_append, List.length_singleton] <;> omega)) | exact oE (by first | omega | (simp only [List.length_map, List.length_append, List.length_singleton] <;> omega)))) (by repeat' (first | exact trivial | refine And.intro ?_ ?_ | rfl | exact ivE (by first | omega | (simp only [List.length_map, List.length_append, List.length_singleton] <;> omega)) | exact oE (by first | omega | (simp only [List.length_map, List.length_append, List.length_singleton] <;> omega)))) (by kernel_rfl) (by kernel_rfl) (by kernel_rfl))⟩
        · have hs' : seenE E (na, nb) = false := by simpa using hs
          rw [if_neg hs] at hsr
          rw [hs'] at hth
          have hE2 := hE.step he hxN hin hs'
          have hmm : (E.map mPV).take E.length ++ [[PV.v (.int .i64 na), PV.v (.int .i64 nb), intsPV (e.path ++ [(x : Int)])]] = (E ++ [(⟨(na, nb), e.p, x, e.path ++ [(x : Int)]⟩ : Ent)]).map mPV := by
            rw [List.take_of_length_le (by rw [List.length_map]; exact Nat.le_refl _), List.map_append]
            show _ = _ ++ [[_, _, pathPV (e.path ++ [(x : Int)])]]
            rw [pathPV_snoc]
          rcases hpath with ⟨hp, hp0⟩ | hp
          all_goals rw [hp] at hm
          all_goals
            repeat' first | ((refine AW_imp (fr' := (13, .x (.o 33 2 (e.path ++ [(x : Int)]).length)) :: [(12, iv .i64 x), (11, iv .i64 i'), (10, .x (.o 19 st E.length)), (4, .x (.b 4 0)), (5, .x (.b 5 0)), (6, .x (.b 6 0)), (7, .x (.b 7 0))]) (σ' := (33, .chain 3 1 2 ((e.path ++ [(x : Int)]).map iPV)) :: [(19, .chain 138 3 st (E.map mPV)), (4, netCells a), (5, netCells b), (6, fltBox f), (7, fltBox g)]) (Imp.forget (by repeat' (first | exact trivial | refine And.intro ?_ ?_ | exact chE (by first | (rw [hp0]; rfl) | (rw [List.map_append]; simp [chunk, iPV]; exact List.take_of_length_le (by simp))) | exact oE (by first | (rw [hp0]; rfl) | (simp [chunk]; done)) | rfl | exact ivE (by first | omega | (simp only [List.length_map, List.length_append, List.length_singleton] <;> omega)) | exact oE (by first | omega | (simp only [List.length_map, List.length_append, List.length_singleton] <;> omega)))) (by repeat' (first | exact trivial | refine And.intro ?_ ?_ | exact chE (by first | (rw [hp0]; rfl) | (rw [List.map_append]; simp [chunk, iPV]; exact List.take_of_length_le (by simp))) | exact oE (by first | (rw [hp0]; rfl) | (simp [chunk]; done)) | rfl | exact ivE (by first | omega | (simp only [List.length_map, List.length_append, List.length_singleton] <;> omega)) | exact oE (by first | omega | (simp only [List.length_map, List.length_append, List.length_singleton] <;> omega)))) (by kernel_rfl) (by kernel_rfl) (by kernel_rfl)) (AW_imp (Imp.freeze 33 (fr' := (13, sl (e.path ++ [(x : Int)])) :: [(12, iv .i64 x), (11, iv .i64 i'), (10, .x (.o 19 st E.length)), (4, .x (.b 4 0)), (5, .x (.b 5 0)), (6, .x (.b 6 0)), (7, .x (.b 7 0))]) (σ' := [(19, .chain 138 3 st (E.map mPV)), (4, netCells a), (5, netCells b), (6, fltBox f), (7, fltBox g)]) rfl hFz ⟨rfl, rfl, rfl, rfl, rfl, trivial⟩ rfl rfl) (AW_draw hTt hMix (id := 9) 13 false [0, 0, 0, 0, 12, 28, 60, 0, 255, 511, 1023, 1023, 2047, 8191] (by kernel_rfl) rfl rfl (by kernel_rfl) ?_))); conv => whnf) | with_reducible refine AW_seq ?_ | with_reducible refine AW_block ?_ | ((first | with_reducible refine AW_skip ?_ | with_reducible refine AW_exit ?_ | with_reducible refine AW_ret ?_ | with_reducible refine AW_region hTt ?_ | refine AW_draw hTt hMix (id := 10) 13 false [0, 0, 0, 0, 12, 28, 60, 0, 255, 511, 1023, 1023, 2047, 8191] (by kernel_rfl) rfl rfl (by kernel_rfl) ?_ | fail); conv => whnf) | (exact absurd hb (by omega)) | ((first | ((refine ⟨_, (htwo).call rfl rfl, ?_⟩); (rintro _ _ ⟨rfl, rfl⟩)) | refine And.intro (gd_any ⟨by omega, by omega, by rw [List.length_map]; omega⟩) ?_ | refine ⟨_, gd_any hm, ⟨Nat.le_of_ble_eq_true rfl, rfl⟩, ?_⟩ | refine ⟨_, fun _ => (hb1).call rfl rfl, ?_⟩ | refine ⟨_, fun _ => (hb2).call rfl rfl, ?_⟩ | ((refine ⟨_, FnC.callv hth (hvw _ rfl na nb) rfl, ?_⟩); (rintro _ _ ⟨rfl, rfl⟩)) | fail); conv => whnf) | (refine AW_cond rfl (fun _ => ?_) (fun hb => absurd hb (by decide))) | (refine AW_cond rfl (fun hb => ?_) (fun hb => ?_) <;> first | (replace hb := of_decide_eq_true hb; try simp only [List.length_map] at hb) | (replace hb := of_decide_eq_false hb; try simp only [List.length_map] at hb) | (simp only [List.length_map, bne_iff_ne, ne_eq, beq_iff_eq, bne_eq_false_iff_eq, beq_eq_false_iff_ne, decide_eq_true_eq, decide_eq_false_iff_not, Bool.not_eq_true', Bool.not_eq_false', Int.natCast_inj] at hb) | skip) | ((refine ⟨_, wrap_of (by first | omega | (simp only [List.length_map]; omega)), ?_⟩); conv => whnf) | ((refine And.intro (by first | exact trivial | rfl | exact gd_self | exact gd_any (by omega) | exact fun h => h | decide | (constructor <;> simp [chunk, maxLen]; done) | (intro h; simpa using h)) ?_); conv => whnf) | ((refine And.intro (by refine ⟨?_, ?_, ?_⟩ <;> simp [chunk, maxLen] <;> omega) ?_); conv => whnf) | fail
            exact ⟨⟨E ++ [⟨(na, nb), e.p, x, e.path ++ [(x : Int)]⟩], i', x + 1, st + 1, f1, lv, ()⟩, ⟨rfl, by show i' < (E ++ [_]).length; rw [List.length_append]; omega, hxN, hE2, by show bound i' (x + 1) ≤ f1; unfold bound at hbd ⊢; omega, hsr⟩, by show N - (x + 1) < N - x; omega,
              (Imp.forget (by repeat' (first | exact trivial | refine And.intro ?_ ?_ | exact chE hmm | exact oE (by rw [List.length_append]; rfl) | rfl | exact ivE (by first | omega | (simp only [List.length_map, List.length_append, List.length_singleton] <;> omega)) | exact oE (by first | omega | (simp only [List.length_map, List.length_append, List.length_singleton] <;> omega)))) (by repeat' (first | exact trivial | refine And.intro ?_ ?_ | exact chE hmm | exact oE (by rw [List.length_append]; rfl) | rfl | exact ivE (by first | omega | (simp only [List.length_map, List.length_append, List.length_singleton] <;> omega)) | exact oE (by first | omega | (simp only [List.length_map, List.length_append, List.length_singleton] <;> omega)))) (by kernel_rfl) (by kernel_rfl) (by kernel_rfl))⟩
      · have hdb : (oa != ob) = true := by simp [hd]
        rw [if_pos hdb] at hsr
        rw [hsr]
        rcases hpath with ⟨hp, hp0⟩ | hp
        all_goals rw [hp] at hm
        all_goals
          repeat' first | ((refine AW_imp (fr' := (13, .x (.o 33 2 (e.path ++ [(x : Int)]).length)) :: [(12, iv .i64 x), (11, iv .i64 i'), (10, .x (.o 19 st E.length)), (4, .x (.b 4 0)), (5, .x (.b 5 0)), (6, .x (.b 6 0)), (7, .x (.b 7 0))]) (σ' := (33, .chain 3 1 2 ((e.path ++ [(x : Int)]).map iPV)) :: [(19, .chain 138 3 st (E.map mPV)), (4, netCells a), (5, netCells b), (6, fltBox f), (7, fltBox g)]) (Imp.forget (by repeat' (first | exact trivial | refine And.intro ?_ ?_ | exact chE (by first | (rw [hp0]; rfl) | (rw [List.map_append]; simp [chunk, iPV]; exact List.take_of_length_le (by simp))) | exact oE (by first | (rw [hp0]; rfl) | (simp [chunk]; done)) | rfl | exact ivE (by first | omega | (simp only [List.length_map, List.length_append, List.length_singleton] <;> omega)) | exact oE (by first | omega | (simp only [List.length_map, List.length_append, List.length_singleton] <;> omega)))) (by repeat' (first | exact trivial | refine And.intro ?_ ?_ | exact chE (by first | (rw [hp0]; rfl) | (rw [List.map_append]; simp [chunk, iPV]; exact List.take_of_length_le (by simp))) | exact oE (by first | (rw [hp0]; rfl) | (simp [chunk]; done)) | rfl | exact ivE (by first | omega | (simp only [List.length_map, List.length_append, List.length_singleton] <;> omega)) | exact oE (by first | omega | (simp only [List.length_map, List.length_append, List.length_singleton] <;> omega)))) (by kernel_rfl) (by kernel_rfl) (by kernel_rfl)) (AW_imp (Imp.freeze 33 (fr' := (13, sl (e.path ++ [(x : Int)])) :: [(12, iv .i64 x), (11, iv .i64 i'), (10, .x (.o 19 st E.length)), (4, .x (.b 4 0)), (5, .x (.b 5 0)), (6, .x (.b 6 0)), (7, .x (.b 7 0))]) (σ' := [(19, .chain 138 3 st (E.map mPV)), (4, netCells a), (5, netCells b), (6, fltBox f), (7, fltBox g)]) rfl hFz ⟨rfl, rfl, rfl, rfl, rfl, trivial⟩ rfl rfl) (AW_draw hTt hMix (id := 9) 13 false [0, 0, 0, 0, 12, 28, 60, 0, 255, 511, 1023, 1023, 2047, 8191] (by kernel_rfl) rfl rfl (by kernel_rfl) ?_))); conv => whnf) | with_reducible refine AW_seq ?_ | with_reducible refine AW_block ?_ | ((first | with_reducible refine AW_skip ?_ | with_reducible refine AW_exit ?_ | with_reducible refine AW_ret ?_ | with_reducible refine AW_region hTt ?_ | refine AW_draw hTt hMix (id := 10) 13 false [0, 0, 0, 0, 12, 28, 60, 0, 255, 511, 1023, 1023, 2047, 8191] (by kernel_rfl) rfl rfl (by kernel_rfl) ?_ | fail); conv => whnf) | (exact absurd hb (by omega)) | ((first | ((refine ⟨_, (htwo).call rfl rfl, ?_⟩); (rintro _ _ ⟨rfl, rfl⟩)) | refine And.intro (gd_any ⟨by omega, by omega, by rw [List.length_map]; omega⟩) ?_ | refine ⟨_, gd_any hm, ⟨Nat.le_of_ble_eq_true rfl, rfl⟩, ?_⟩ | refine ⟨_, fun _ => (hb1).call rfl rfl, ?_⟩ | refine ⟨_, fun _ => (hb2).call rfl rfl, ?_⟩ | fail); conv => whnf) | (refine AW_cond rfl (fun hb => ?_) (fun hb => ?_) <;> first | (replace hb := of_decide_eq_true hb; try simp only [List.length_map] at hb) | (replace hb := of_decide_eq_false hb; try simp only [List.length_map] at hb) | (simp only [List.length_map, bne_iff_ne, ne_eq, beq_iff_eq, bne_eq_false_iff_eq, beq_eq_false_iff_ne, decide_eq_true_eq, decide_eq_false_iff_not, Bool.not_eq_true', Bool.not_eq_false', Int.natCast_inj] at hb) | skip) | ((refine And.intro (by first | exact trivial | rfl | exact gd_self | exact gd_any (by omega) | exact fun h => h | decide | (constructor <;> simp [chunk, maxLen]; done) | (intro h; simpa using h)) ?_); conv => whnf) | ((refine And.intro (by refine ⟨?_, ?_, ?_⟩ <;> simp [chunk, maxLen] <;> omega) ?_); conv => whnf) | fail
          exact ⟨_, rfl, LeAV.refl _⟩
    · have hxe : x = N := by omega
      subst hxe
      rw [bfs, if_pos hil, if_neg (by omega)] at hsr
      repeat' first | with_reducible refine AW_seq ?_ | with_reducible refine AW_block ?_ | ((first | with_reducible refine AW_skip ?_ | with_reducible refine AW_exit ?_ | with_reducible refine AW_region hTt ?_ | fail); conv => whnf) | (exact absurd hb (by omega)) | ((refine ⟨_, (htwo).call rfl rfl, ?_⟩); (rintro _ _ ⟨rfl, rfl⟩); conv => whnf) | (refine AW_cond rfl (fun hb => ?_) (fun hb => ?_) <;> first | (replace hb := of_decide_eq_true hb; try simp only [List.length_map] at hb) | (replace hb := of_decide_eq_false hb; try simp only [List.length_map] at hb) | (simp only [List.length_map, bne_iff_ne, ne_eq, beq_iff_eq, bne_eq_false_iff_eq, beq_eq_false_iff_ne, decide_eq_true_eq, decide_eq_false_iff_not, Bool.not_eq_true', Bool.not_eq_false', Int.natCast_inj] at hb) | skip) | ((refine ⟨_, wrap_of (by first | omega | (simp only [List.length_map]; omega)), ?_⟩); conv => whnf) | ((refine And.intro (by first | exact trivial | rfl | exact gd_self | exact gd_any (by omega) | exact fun h => h | decide | (constructor <;> simp [chunk, maxLen]; done) | (intro h; simpa using h)) ?_); conv => whnf) | fail
      exact ⟨⟨E, i' + 1, 0, st, f1, lv, ()⟩, ⟨rfl, hil, hE, by show bound (i' + 1) 0 ≤ f1; unfold bound at hbd ⊢; omega, hsr⟩, by show 1025 - (i' + 1) < 1025 - i'; omega, (Imp.forget (by repeat' (first | exact trivial | refine And.intro ?_ ?_ | rfl | exact ivE (by first | omega | (simp only [List.length_map, List.length_append, List.length_singleton] <;> omega)) | exact oE (by first | omega | (simp only [List.length_map, List.length_append, List.length_singleton] <;> omega)))) (by repeat' (first | exact trivial | refine And.intro ?_ ?_ | rfl | exact ivE (by first | omega | (simp only [List.length_map, List.length_append, List.length_singleton] <;> omega)) | exact oE (by first | omega | (simp only [List.length_map, List.length_append, List.length_singleton] <;> omega)))) (by kernel_rfl) (by kernel_rfl) (by kernel_rfl))⟩
  · obtain ⟨f1, rfl⟩ : ∃ f1, f0 = f1 + 1 := ⟨f0 - 1, by unfold bound at hbd; omega⟩
    rw [bfs, if_neg (by omega)] at hsr
    rw [hsr]
    repeat' first | with_reducible refine AW_seq ?_ | with_reducible refine AW_block ?_ | ((first | with_reducible refine AW_skip ?_ | with_reducible refine AW_exit ?_ | with_reducible refine AW_ret ?_ | with_reducible refine AW_region hTt ?_ | fail); conv => whnf) | (exact absurd hb (by omega)) | (refine AW_cond rfl (fun hb => ?_) (fun hb => ?_) <;> first | (replace hb := of_decide_eq_true hb; try simp only [List.length_map] at hb) | (replace hb := of_decide_eq_false hb; try simp only [List.length_map] at hb) | (simp only [List.length_map, bne_iff_ne, ne_eq, beq_iff_eq, bne_eq_false_iff_eq, beq_eq_false_iff_ne, decide_eq_true_eq, decide_eq_false_iff_not, Bool.not_eq_true', Bool.not_eq_false', Int.natCast_inj] at hb) | skip) | ((refine And.intro (by first | exact trivial | rfl | exact gd_self | exact gd_any (by omega) | exact fun h => h | decide | (constructor <;> simp [chunk, maxLen]; done) | (intro h; simpa using h)) ?_); conv => whnf) | (refine fun hln => ?_; (try rw [List.length_map] at hln); unfold maxLen at hln; conv => whnf) | fail
    exact ⟨_, rfl, _, rfl, LeAV1.nil 1, LeAV1.refl _, trivial⟩
end Go.Proofs.YtfghooojingdhaaDoor
namespace Go.Proofs.YtfghooojingdhaaDoor
open Go Go.QL
set_option maxHeartbeats 1600000
attribute [local irreducible] ACall FnC
theorem show_ref (n : NetT) (f : FaultT) : FnC Tryd.prog 27 [netAV n, faultAV f] (outE (showR n f)) := by
  refine FnC_of_AWL hTt Tryd.func27 rfl (by kernel_rfl) (res := [.tmp 4, .tmp 5]) rfl Tryd.ntmps27 (by simp) fun w0 K0 => ?_
  dsimp only [entry]
  by_cases hc : (checkR n).2.2 = 0
  · have ok := NetOK.of hc
    by_cases hf : faultErr n f = 0
    · rw [show showR n f = srchP (srch (stepS n fine n f) (2 ^ n.inn.toNat)) from by unfold showR; rw [if_pos hc, if_pos hf]]
      have hap := apart_fn n n ok ok fine f fine_ok (faultErr_flt hf)
      generalize srch (stepS n fine n f) (2 ^ n.inn.toNat) = r at hap
      cases r with
      | none =>
        simp only [apP] at hap
        repeat' first | with_reducible refine AW_seq ?_ | ((first | with_reducible refine AW_skip ?_ | with_reducible refine AW_ret ?_ | with_reducible refine AW_region hTt ?_ | refine AW_draw hTt hMix (id := 6) 9 false [0, 0, 0, 0, 15, 31, 63, 63, 127, 511] (by kernel_rfl) rfl rfl (by kernel_rfl) ?_ | fail); conv => whnf) | (exact absurd hb (by omega)) | ((first | ((refine ⟨_, (check_fn n).call rfl rfl, ?_⟩); (rintro _ _ ⟨rfl, rfl⟩)) | ((refine ⟨_, (fault_fn n f ok.h1 ok.h6 ok.hl).call rfl rfl, ?_⟩); (rintro _ _ ⟨rfl, rfl⟩)) | refine ⟨_, fun _ => (fine_fn).call rfl rfl, ?_⟩ | refine ⟨_, fun _ => (hap).call rfl rfl, ?_⟩ | fail); conv => whnf) | (refine AW_cond rfl (fun _ => ?_) (fun hb => absurd hb (by decide))) | (refine AW_cond rfl (fun hb => ?_) (fun hb => ?_) <;> first | (replace hb := of_decide_eq_true hb; try simp only [List.length_map] at hb) | (replace hb := of_decide_eq_false hb; try simp only [List.length_map] at hb) | (simp only [List.length_map, bne_iff_ne, ne_eq, beq_iff_eq, bne_eq_false_iff_eq, beq_eq_false_iff_ne, decide_eq_true_eq, decide_eq_false_iff_not, Bool.not_eq_true', Bool.not_eq_false', Int.natCast_inj] at hb) | skip) | ((refine And.intro (by first | exact trivial | rfl | exact gd_self | exact gd_any (by omega) | exact fun h => h | decide | (constructor <;> simp [chunk, maxLen]; done) | (intro h; simpa using h)) ?_); conv => whnf) | fail
        exact ⟨_, rfl, _, rfl, LeAV1.nil 1, LeAV1.refl _, trivial⟩
      | some l =>
        simp only [apP] at hap
        repeat' first | with_reducible refine AW_seq ?_ | ((first | with_reducible refine AW_skip ?_ | with_reducible refine AW_ret ?_ | with_reducible refine AW_region hTt ?_ | refine AW_draw hTt hMix (id := 6) 9 false [0, 0, 0, 0, 15, 31, 63, 63, 127, 511] (by kernel_rfl) rfl rfl (by kernel_rfl) ?_ | fail); conv => whnf) | (exact absurd hb (by omega)) | ((first | ((refine ⟨_, (check_fn n).call rfl rfl, ?_⟩); (rintro _ _ ⟨rfl, rfl⟩)) | ((refine ⟨_, (fault_fn n f ok.h1 ok.h6 ok.hl).call rfl rfl, ?_⟩); (rintro _ _ ⟨rfl, rfl⟩)) | refine ⟨_, fun _ => (fine_fn).call rfl rfl, ?_⟩ | refine ⟨_, fun _ => (hap).call rfl rfl, ?_⟩ | fail); conv => whnf) | (refine AW_cond rfl (fun hb => absurd hb (by decide)) (fun _ => ?_)) | (refine AW_cond rfl (fun hb => ?_) (fun hb => ?_) <;> first | (replace hb := of_decide_eq_true hb; try simp only [List.length_map] at hb) | (replace hb := of_decide_eq_false hb; try simp only [List.length_map] at hb) | (simp only [List.length_map, bne_iff_ne, ne_eq, beq_iff_eq, bne_eq_false_iff_eq, beq_eq_false_iff_ne, decide_eq_true_eq, decide_eq_false_iff_not, Bool.not_eq_true', Bool.not_eq_false', Int.natCast_inj] at hb) | skip) | ((refine And.intro (by first | exact trivial | rfl | exact gd_self | exact gd_any (by omega) | exact fun h => h | decide | (constructor <;> simp [chunk, maxLen]; done) | (intro h; simpa using h)) ?_); conv => whnf) | fail
        exact ⟨_, rfl, LeAV.refl _⟩
    · rw [show showR n f = ([], faultErr n f) from by unfold showR; rw [if_pos hc, if_neg hf]]
      repeat' first | with_reducible refine AW_seq ?_ | ((first | with_reducible refine AW_skip ?_ | with_reducible refine AW_ret ?_ | with_reducible refine AW_region hTt ?_ | refine AW_draw hTt hMix (id := 6) 9 false [0, 0, 0, 0, 15, 31, 63, 63, 127, 511] (by kernel_rfl) rfl rfl (by kernel_rfl) ?_ | fail); conv => whnf) | (exact absurd hb (by omega)) | ((first | ((refine ⟨_, (check_fn n).call rfl rfl, ?_⟩); (rintro _ _ ⟨rfl, rfl⟩)) | ((refine ⟨_, (fault_fn n f ok.h1 ok.h6 ok.hl).call rfl rfl, ?_⟩); (rintro _ _ ⟨rfl, rfl⟩)) | fail); conv => whnf) | (refine AW_cond rfl (fun hb => ?_) (fun hb => ?_) <;> first | (replace hb := of_decide_eq_true hb; try simp only [List.length_map] at hb) | (replace hb := of_decide_eq_false hb; try simp only [List.length_map] at hb) | (simp only [List.length_map, bne_iff_ne, ne_eq, beq_iff_eq, bne_eq_false_iff_eq, beq_eq_false_iff_ne, decide_eq_true_eq, decide_eq_false_iff_not, Bool.not_eq_true', Bool.not_eq_false', Int.natCast_inj] at hb) | skip) | fail
      exact ⟨_, rfl, _, rfl, LeAV1.nil 1, LeAV1.refl _, trivial⟩
  · rw [show showR n f = ([], (checkR n).2.2) from by unfold showR; rw [if_neg hc]]
    repeat' first | with_reducible refine AW_seq ?_ | ((first | with_reducible refine AW_skip ?_ | with_reducible refine AW_ret ?_ | with_reducible refine AW_region hTt ?_ | refine AW_draw hTt hMix (id := 6) 9 false [0, 0, 0, 0, 15, 31, 63, 63, 127, 511] (by kernel_rfl) rfl rfl (by kernel_rfl) ?_ | fail); conv => whnf) | (exact absurd hb (by omega)) | ((refine ⟨_, (check_fn n).call rfl rfl, ?_⟩); (rintro _ _ ⟨rfl, rfl⟩); conv => whnf) | (refine AW_cond rfl (fun hb => ?_) (fun hb => ?_) <;> first | (replace hb := of_decide_eq_true hb; try simp only [List.length_map] at hb) | (replace hb := of_decide_eq_false hb; try simp only [List.length_map] at hb) | (simp only [List.length_map, bne_iff_ne, ne_eq, beq_iff_eq, bne_eq_false_iff_eq, beq_eq_false_iff_ne, decide_eq_true_eq, decide_eq_false_iff_not, Bool.not_eq_true', Bool.not_eq_false', Int.natCast_inj] at hb) | skip) | fail
    exact ⟨_, rfl, _, rfl, LeAV1.nil 1, LeAV1.refl _, trivial⟩
theorem three_err {n : NetT} {c : Int} (h : (checkR n).2.2 = c) : three (checkR n) = .t [iv .i64 (checkR n).1, iv .i64 (checkR n).2.1, iv .i64 c] := by
  unfold three; rw [h]
theorem differ_ref (a b : NetT) : FnC Tryd.prog 24 [netAV a, netAV b] (outE (diffR a b)) := by
  refine FnC_of_AWL hTt Tryd.func24 rfl (by kernel_rfl) (res := [.tmp 4, .tmp 5]) rfl Tryd.ntmps24 (by simp) fun w0 K0 => ?_
  dsimp only [entry]
  have cka := check_fn a
  have ckb := check_fn b
  by_cases hca : (checkR a).2.2 = 0
  · rw [three_err hca] at cka
    by_cases hcb : (checkR b).2.2 = 0
    · rw [three_err hcb] at ckb
      have oka := NetOK.of hca
      have okb := NetOK.of hcb
      have oa4 := oka.o4
      have ob4 := okb.o4
      by_cases hi : a.inn = b.inn
      · by_cases ho : a.out.length = b.out.length
        · rw [show diffR a b = srchP (srch (stepS a fine b fine) (2 ^ a.inn.toNat)) from by unfold diffR; rw [if_pos hca, if_pos hcb, if_pos ⟨hi, ho⟩]]
          have hap := apart_fn a b oka okb fine fine fine_ok fine_ok
          generalize srch (stepS a fine b fine) (2 ^ a.inn.toNat) = r at hap
          cases r with
          | none =>
            simp only [apP] at hap
            repeat' first | with_reducible refine AW_seq ?_ | ((first | with_reducible refine AW_skip ?_ | with_reducible refine AW_ret ?_ | with_reducible refine AW_region hTt ?_ | refine AW_draw hTt hMix (id := 8) 9 false [0, 0, 0, 4, 15, 31, 63, 63, 127, 511] (by kernel_rfl) rfl rfl (by kernel_rfl) ?_ | fail); conv => whnf) | (exfalso; simp [hi, ho] at hb; done) | ((first | refine And.intro ?_ ?_; focus (first | (exact trivial) | (intro h1; exact h1) | (intro h1 h2; simp_all; done) | (intro h1 h2; exact h1)) | ((refine ⟨_, (cka).call rfl rfl, ?_⟩); (rintro _ _ ⟨rfl, rfl⟩)) | ((refine ⟨_, (ckb).call rfl rfl, ?_⟩); (rintro _ _ ⟨rfl, rfl⟩)) | refine ⟨_, fun _ => (fine_fn).call rfl rfl, ?_⟩ | refine ⟨_, fun _ => (hap).call rfl rfl, ?_⟩ | fail); conv => whnf) | (refine AW_cond rfl (fun _ => ?_) (fun hb => absurd hb (by decide))) | (refine AW_cond rfl (fun hb => absurd hb (by decide)) (fun _ => ?_)) | (refine AW_cond rfl (fun hb => ?_) (fun hb => ?_) <;> first | (replace hb := of_decide_eq_true hb; try simp only [List.length_map] at hb) | (replace hb := of_decide_eq_false hb; try simp only [List.length_map] at hb) | (simp only [List.length_map, bne_iff_ne, ne_eq, beq_iff_eq, bne_eq_false_iff_eq, beq_eq_false_iff_ne, decide_eq_true_eq, decide_eq_false_iff_not, Bool.not_eq_true', Bool.not_eq_false', Int.natCast_inj] at hb) | skip) | ((refine And.intro (by first | exact trivial | rfl | exact gd_self | exact gd_any (by omega) | exact fun h => h | decide | (constructor <;> simp [chunk, maxLen]; done) | (intro h; simpa using h)) ?_); conv => whnf) | fail
            exact ⟨_, rfl, _, rfl, LeAV1.nil 1, LeAV1.refl _, trivial⟩
          | some l =>
            simp only [apP] at hap
            repeat' first | with_reducible refine AW_seq ?_ | ((first | with_reducible refine AW_skip ?_ | with_reducible refine AW_ret ?_ | with_reducible refine AW_region hTt ?_ | refine AW_draw hTt hMix (id := 8) 9 false [0, 0, 0, 4, 15, 31, 63, 63, 127, 511] (by kernel_rfl) rfl rfl (by kernel_rfl) ?_ | fail); conv => whnf) | (exfalso; simp [hi, ho] at hb; done) | ((first | refine And.intro ?_ ?_; focus (first | (exact trivial) | (intro h1; exact h1) | (intro h1 h2; simp_all; done) | (intro h1 h2; exact h1)) | ((refine ⟨_, (cka).call rfl rfl, ?_⟩); (rintro _ _ ⟨rfl, rfl⟩)) | ((refine ⟨_, (ckb).call rfl rfl, ?_⟩); (rintro _ _ ⟨rfl, rfl⟩)) | refine ⟨_, fun _ => (fine_fn).call rfl rfl, ?_⟩ | refine ⟨_, fun _ => (hap).call rfl rfl, ?_⟩ | fail); conv => whnf) | (refine AW_cond rfl (fun _ => ?_) (fun hb => absurd hb (by decide))) | (refine AW_cond rfl (fun hb => absurd hb (by decide)) (fun _ => ?_)) | (refine AW_cond rfl (fun hb => ?_) (fun hb => ?_) <;> first | (replace hb := of_decide_eq_true hb; try simp only [List.length_map] at hb) | (replace hb := of_decide_eq_false hb; try simp only [List.length_map] at hb) | (simp only [List.length_map, bne_iff_ne, ne_eq, beq_iff_eq, bne_eq_false_iff_eq, beq_eq_false_iff_ne, decide_eq_true_eq, decide_eq_false_iff_not, Bool.not_eq_true', Bool.not_eq_false', Int.natCast_inj] at hb) | skip) | ((refine And.intro (by first | exact trivial | rfl | exact gd_self | exact gd_any (by omega) | exact fun h => h | decide | (constructor <;> simp [chunk, maxLen]; done) | (intro h; simpa using h)) ?_); conv => whnf) | fail
            exact ⟨_, rfl, LeAV.refl _⟩
        · rw [show diffR a b = ([], 2) from by unfold diffR; rw [if_pos hca, if_pos hcb, if_neg (fun h => ho h.2)]]
          repeat' first | with_reducible refine AW_seq ?_ | ((first | with_reducible refine AW_skip ?_ | with_reducible refine AW_ret ?_ | with_reducible refine AW_region hTt ?_ | fail); conv => whnf) | (exfalso; simp [hi] at hb; omega) | ((first | refine And.intro ?_ ?_; focus (first | (exact trivial) | (intro h1; exact h1) | (intro h1 h2; simp_all; done) | (intro h1 h2; exact h1)) | ((refine ⟨_, (cka).call rfl rfl, ?_⟩); (rintro _ _ ⟨rfl, rfl⟩)) | ((refine ⟨_, (ckb).call rfl rfl, ?_⟩); (rintro _ _ ⟨rfl, rfl⟩)) | fail); conv => whnf) | (refine AW_cond rfl (fun _ => ?_) (fun hb => absurd hb (by decide))) | (refine AW_cond rfl (fun hb => ?_) (fun hb => ?_) <;> first | (replace hb := of_decide_eq_true hb; try simp only [List.length_map] at hb) | (replace hb := of_decide_eq_false hb; try simp only [List.length_map] at hb) | (simp only [List.length_map, bne_iff_ne, ne_eq, beq_iff_eq, bne_eq_false_iff_eq, beq_eq_false_iff_ne, decide_eq_true_eq, decide_eq_false_iff_not, Bool.not_eq_true', Bool.not_eq_false', Int.natCast_inj] at hb) | skip) | fail
          exact ⟨_, rfl, _, rfl, LeAV1.nil 1, LeAV1.refl _, trivial⟩
      · rw [show diffR a b = ([], 2) from by unfold diffR; rw [if_pos hca, if_pos hcb, if_neg (fun h => hi h.1)]]
        repeat' first | with_reducible refine AW_seq ?_ | ((first | with_reducible refine AW_skip ?_ | with_reducible refine AW_ret ?_ | with_reducible refine AW_region hTt ?_ | fail); conv => whnf) | (exfalso; simp [hi] at hb; done) | ((first | refine And.intro ?_ ?_; focus (first | (exact trivial) | (intro h1; exact h1) | (intro h1 h2; simp_all; done) | (intro h1 h2; exact h1)) | ((refine ⟨_, (cka).call rfl rfl, ?_⟩); (rintro _ _ ⟨rfl, rfl⟩)) | ((refine ⟨_, (ckb).call rfl rfl, ?_⟩); (rintro _ _ ⟨rfl, rfl⟩)) | fail); conv => whnf) | (refine AW_cond rfl (fun _ => ?_) (fun hb => absurd hb (by decide))) | (refine AW_cond rfl (fun hb => ?_) (fun hb => ?_) <;> first | (replace hb := of_decide_eq_true hb; try simp only [List.length_map] at hb) | (replace hb := of_decide_eq_false hb; try simp only [List.length_map] at hb) | (simp only [List.length_map, bne_iff_ne, ne_eq, beq_iff_eq, bne_eq_false_iff_eq, beq_eq_false_iff_ne, decide_eq_true_eq, decide_eq_false_iff_not, Bool.not_eq_true', Bool.not_eq_false', Int.natCast_inj] at hb) | skip) | fail
        exact ⟨_, rfl, _, rfl, LeAV1.nil 1, LeAV1.refl _, trivial⟩
    · rw [show diffR a b = ([], (checkR b).2.2) from by unfold diffR; rw [if_pos hca, if_neg hcb]]
      repeat' first | with_reducible refine AW_seq ?_ | ((first | with_reducible refine AW_skip ?_ | with_reducible refine AW_ret ?_ | with_reducible refine AW_region hTt ?_ | refine AW_draw hTt hMix (id := 8) 9 false [0, 0, 0, 4, 15, 31, 63, 63, 127, 511] (by kernel_rfl) rfl rfl (by kernel_rfl) ?_ | fail); conv => whnf) | (exact absurd hb (by omega)) | (exfalso; simp [hcb] at hb; done) | ((first | refine And.intro ?_ ?_; focus (first | (exact trivial) | (intro h1; exact h1) | (intro h1 h2; simp_all; done) | (intro h1 h2; exact h1)) | ((refine ⟨_, (cka).call rfl rfl, ?_⟩); (rintro _ _ ⟨rfl, rfl⟩)) | ((refine ⟨_, (ckb).call rfl rfl, ?_⟩); (rintro _ _ ⟨rfl, rfl⟩)) | fail); conv => whnf) | (refine AW_cond rfl (fun _ => ?_) (fun hb => absurd hb (by decide))) | (refine AW_cond rfl (fun hb => ?_) (fun hb => ?_) <;> first | (replace hb := of_decide_eq_true hb; try simp only [List.length_map] at hb) | (replace hb := of_decide_eq_false hb; try simp only [List.length_map] at hb) | (simp only [List.length_map, bne_iff_ne, ne_eq, beq_iff_eq, bne_eq_false_iff_eq, beq_eq_false_iff_ne, decide_eq_true_eq, decide_eq_false_iff_not, Bool.not_eq_true', Bool.not_eq_false', Int.natCast_inj] at hb) | skip) | fail
      exact ⟨_, rfl, _, rfl, LeAV1.nil 1, LeAV1.refl _, trivial⟩
  · rw [show diffR a b = ([], (checkR a).2.2) from by unfold diffR; rw [if_neg hca]]
    repeat' first | with_reducible refine AW_seq ?_ | ((first | with_reducible refine AW_skip ?_ | with_reducible refine AW_ret ?_ | with_reducible refine AW_region hTt ?_ | refine AW_draw hTt hMix (id := 8) 9 false [0, 0, 0, 4, 15, 31, 63, 63, 127, 511] (by kernel_rfl) rfl rfl (by kernel_rfl) ?_ | fail); conv => whnf) | (exact absurd hb (by omega)) | (exfalso; simp [hca] at hb; done) | ((first | refine And.intro ?_ ?_; focus (first | (exact trivial) | (intro h1; exact h1) | (intro h1 h2; simp_all; done) | (intro h1 h2; exact h1)) | ((refine ⟨_, (cka).call rfl rfl, ?_⟩); (rintro _ _ ⟨rfl, rfl⟩)) | fail); conv => whnf) | (refine AW_cond rfl (fun hb => ?_) (fun hb => ?_) <;> first | (replace hb := of_decide_eq_true hb; try simp only [List.length_map] at hb) | (replace hb := of_decide_eq_false hb; try simp only [List.length_map] at hb) | (simp only [List.length_map, bne_iff_ne, ne_eq, beq_iff_eq, bne_eq_false_iff_eq, beq_eq_false_iff_ne, decide_eq_true_eq, decide_eq_false_iff_not, Bool.not_eq_true', Bool.not_eq_false', Int.natCast_inj] at hb) | skip) | fail
    exact ⟨_, rfl, _, rfl, LeAV1.nil 1, LeAV1.refl _, trivial⟩
end Go.Proofs.YtfghooojingdhaaDoor
namespace Go.Proofs.YtfghooojingdhaaDoor
open Go Go.QL
set_option maxHeartbeats 3200000
attribute [local irreducible] ACall FnC YC
theorem gdiffers_fn (a b : NetT) (ha : i64 a.inn) (hbn : i64 b.inn) (f : FaultT) : FnC Tryd.prog 4 [netAV a, netAV b, faultAV f] (bv true) := by
  have h1 := pdiffer_fn a b ha hbn
  have h2 := differ_ref a b
  have h3 := pshow_fn a ha f
  have h4 := show_ref a f
  generalize diffR a b = r at h1 h2
  obtain ⟨r, re⟩ := r
  generalize showR a f = s at h3 h4
  obtain ⟨s, se⟩ := s
  have i1 := ints_fn r r
  rw [show sameInts r r = true from decide_eq_true rfl] at i1
  have i2 := ints_fn s s
  rw [show sameInts s s = true from decide_eq_true rfl] at i2
  try dsimp only at h1 h2 h3 h4
  obtain ⟨fs, fa⟩ := f
  refine FnC_of_AW hTt Tryd.func4 rfl (by kernel_rfl) (res := [.tmp 6]) rfl Tryd.ntmps4 (by simp) fun w0 K0 => ?_
  dsimp only [entry]
  repeat' first | with_reducible refine AW_seq ?_ | ((first | with_reducible refine AW_skip ?_ | with_reducible refine AW_ret ?_ | with_reducible refine AW_region hTt ?_ | fail); conv => whnf) | (exfalso; simp at hb; done) | ((first | ((refine ⟨_, (h1).call rfl rfl, ?_⟩); (rintro _ _ ⟨rfl, rfl⟩)) | ((refine ⟨_, (h2).call rfl rfl, ?_⟩); (rintro _ _ ⟨rfl, rfl⟩)) | ((refine ⟨_, (h3).call rfl rfl, ?_⟩); (rintro _ _ ⟨rfl, rfl⟩)) | ((refine ⟨_, (h4).call rfl rfl, ?_⟩); (rintro _ _ ⟨rfl, rfl⟩)) | ((refine ⟨_, (i1).call rfl rfl, ?_⟩); (rintro _ _ ⟨rfl, rfl⟩)) | ((refine ⟨_, (i2).call rfl rfl, ?_⟩); (rintro _ _ ⟨rfl, rfl⟩)) | refine ⟨_, fun _ => (awake_fn).call rfl rfl, ?_⟩ | fail); conv => whnf) | (refine AW_cond rfl (fun hb => ?_) (fun hb => ?_) <;> first | (replace hb := of_decide_eq_true hb; try simp only [List.length_map] at hb) | (replace hb := of_decide_eq_false hb; try simp only [List.length_map] at hb) | (simp only [List.length_map, bne_iff_ne, ne_eq, beq_iff_eq, bne_eq_false_iff_eq, beq_eq_false_iff_ne, decide_eq_true_eq, decide_eq_false_iff_not, Bool.not_eq_true', Bool.not_eq_false', Int.natCast_inj] at hb) | skip) | ((refine And.intro (by first | exact trivial | rfl | exact gd_self | exact gd_any (by omega) | exact fun h => h | decide | (constructor <;> simp [chunk, maxLen]; done) | (intro h; simpa using h)) ?_); conv => whnf) | fail
  exact (show ∀ b, b = true → some (bv b) = some (bv true) from fun b h => by rw [h]) _ (by simp)
end Go.Proofs.YtfghooojingdhaaDoor
