/- The logic of walks, and what the functions of the program return: part 4. No condition. -/
import Derived.Test.YtfpaonfddaeamaaGreatDoorB03
import Derived.Lib.CutLaws
set_option linter.all false
namespace Go.Proofs.YtfpaonfddaeamaaGreatDoor
open Go Go.QL
set_option maxHeartbeats 3200000
attribute [local irreducible] ACall FnC
def kindB (k : Int) : ByteArray := ⟨(([[], [97, 110, 100], [111, 114], [120, 111, 114], [110, 111, 116], [100, 101, 108, 97, 121]] : List (List UInt8)).getD k.toNat []).toArray⟩
def gateB (g : GateT) : ByteArray := lineB (kindB g.kind) (if 4 ≤ g.kind then [g.a] else [g.a, g.b])
def textTo (n : NetT) (i : Nat) : ByteArray := (n.gates.take i).foldl (fun t g => t ++ gateB g) (lineB ⟨#[105, 110, 112, 117, 116, 115]⟩ [n.inn])
theorem kindB_size (k : Int) : (kindB k).size ≤ 5 := by
  unfold kindB
  generalize k.toNat = m
  match m with
  | 0 | 1 | 2 | 3 | 4 | 5 => decide
  | m + 6 => exact Nat.zero_le _
theorem lineB_size (word : ByteArray) (l : List Int) (hl : ∀ n ∈ l, 0 ≤ n ∧ n < 100) : (lineB word l).size ≤ word.size + 4 * l.length + 1 := by
  unfold lineB
  rw [ByteArray.size_append]
  have := lineTo_size word l hl l.length (Nat.le_refl _)
  rw [List.take_of_length_le (Nat.le_refl _)] at this
  have h3 : (⟨#[10]⟩ : ByteArray).size = 1 := rfl
  omega
theorem textTo_succ (n : NetT) (i : Nat) {g : GateT} (h : n.gates[i]? = some g) : textTo n (i + 1) = textTo n i ++ gateB g := by
  unfold textTo
  rw [List.take_add_one, h, List.foldl_append]; rfl
theorem textTo_size {n : NetT} (ok : NetOK n) : ∀ i, i ≤ n.gates.length → (textTo n i).size ≤ 20 + 20 * i
  | 0, _ => by
    have := lineB_size ⟨#[105, 110, 112, 117, 116, 115]⟩ [n.inn] (by intro x hx; rw [List.mem_singleton.1 hx]; have := ok.h1; have := ok.h6; omega)
    have h3 : (⟨#[105, 110, 112, 117, 116, 115]⟩ : ByteArray).size = 6 := rfl
    have h4 : [n.inn].length = 1 := rfl
    show (lineB _ _).size ≤ _
    omega
  | i + 1, h => by
    have hg : n.gates[i]? = some n.gates[i] := List.getElem?_eq_getElem (by omega)
    rw [textTo_succ n i hg, ByteArray.size_append]
    have h1 := textTo_size ok i (by omega)
    have hA := ok.ha i (by omega)
    have hB := ok.hb i (by omega)
    have hgl := ok.hl
    have h6 := ok.h6
    have h5 := kindB_size n.gates[i].kind
    have : (gateB n.gates[i]).size ≤ 14 := by
      unfold gateB
      split
      · have := lineB_size (kindB n.gates[i].kind) [n.gates[i].a] (by intro x hx; rw [List.mem_singleton.1 hx]; omega)
        have h4 : [n.gates[i].a].length = 1 := rfl
        omega
      · have := lineB_size (kindB n.gates[i].kind) [n.gates[i].a, n.gates[i].b] (by intro x hx; simp at hx; rcases hx with rfl | rfl <;> omega)
        have h4 : [n.gates[i].a, n.gates[i].b].length = 2 := rfl
        omega
    omega
def writeR (n : NetT) : ByteArray × Int :=
  if (checkR n).2.2 = 0 then (textTo n n.gates.length ++ lineB ⟨#[111, 117, 116, 112, 117, 116, 115]⟩ n.out, 0) else (⟨#[]⟩, (checkR n).2.2)
theorem write_fn (n : NetT) (hr : i64 n.inn) : FnC Tryz.prog 5 [netAV n] (.t [sv (writeR n).1, iv .i64 (writeR n).2]) := by
  have ck := pcheck_fn n hr
  by_cases hc : (checkR n).2.2 = 0
  · have ok := NetOK.of hc
    have o1 := line_fn ⟨#[105, 110, 112, 117, 116, 115]⟩ [n.inn] (by intro x hx; rw [List.mem_singleton.1 hx]; have := ok.h1; have := ok.h6; omega) (by decide) (by show 1 ≤ 4096; omega)
    rw [show writeR n = (textTo n n.gates.length ++ lineB ⟨#[111, 117, 116, 112, 117, 116, 115]⟩ n.out, 0) from if_pos hc]
    refine FnC_of_AW hTt Tryz.func5 rfl (by kernel_rfl) (res := [.tmp 2, .tmp 3]) rfl Tryz.ntmps5 (by simp) fun w0 K0 => ?_
    dsimp only [entry]
    repeat' first | with_reducible refine AW_seq ?_ | with_reducible refine AW_block ?_ | ((first | with_reducible refine AW_skip ?_ | with_reducible refine AW_ret ?_ | with_reducible refine AW_region hTt ?_ | fail); conv => whnf) | (exact absurd hb (by omega)) | ((first | ((refine ⟨_, (ck).call rfl rfl, ?_⟩); (rintro _ _ ⟨rfl, rfl⟩)) | ((refine ⟨_, (o1).call rfl rfl, ?_⟩); (rintro _ _ ⟨rfl, rfl⟩)) | fail); conv => whnf) | (refine AW_cond rfl (fun hb => ?_) (fun hb => ?_) <;> first | (replace hb := of_decide_eq_true hb; try simp only [List.length_map] at hb) | (replace hb := of_decide_eq_false hb; try simp only [List.length_map] at hb) | (simp only [List.length_map, bne_iff_ne, ne_eq, beq_iff_eq, bne_eq_false_iff_eq, beq_eq_false_iff_ne, decide_eq_true_eq, decide_eq_false_iff_not, Bool.not_eq_true', Bool.not_eq_false', Int.natCast_inj] at hb)) | ((refine andA ?_); conv => whnf) | (refine fun hln => ?_; (try rw [List.length_map] at hln); unfold maxLen at hln; conv => whnf) | fail
    refine AW_loop (fun i : Nat => [(27, iv .i64 i), (26, iv .i64 n.gates.length), (25, .x (.d (gatesPV n.gates))), (1, .x (.b 1 0)), (7, sv (textTo n i))]) (fun _ => [(1, netCells n)])
      (fun i => i ≤ n.gates.length) (fun i => n.gates.length - i) 0 (Nat.zero_le _) impA ?_
    intro i hi
    rcases Nat.lt_or_ge i n.gates.length with hil | hil
    · obtain ⟨⟨k, a, b⟩, hg⟩ : ∃ g, n.gates[i]? = some g := ⟨_, List.getElem?_eq_getElem hil⟩
      have hgi : n.gates[i] = ⟨k, a, b⟩ := by rw [List.getElem?_eq_getElem hil] at hg; exact Option.some.inj hg
      have hk := ok.hk i hil
      have hA := ok.ha i hil
      have hB := ok.hb i hil
      rw [hgi] at hk hA hB
      have hgl := ok.hl
      have h6 := ok.h6
      dsimp only at hk hA hB
      have hkd : (([[], [97, 110, 100], [111, 114], [120, 111, 114], [110, 111, 116], [100, 101, 108, 97, 121]] : List (List UInt8)).map fun b => [PV.v (.string ⟨b.toArray⟩)])[k.toNat]? = some [.v (.string (kindB k))] := by
        have : k = 1 ∨ k = 2 ∨ k = 3 ∨ k = 4 ∨ k = 5 := by omega
        rcases this with rfl | rfl | rfl | rfl | rfl <;> rfl
      have hks : (kindB k).size ≤ 100 := by
        have : k = 1 ∨ k = 2 ∨ k = 3 ∨ k = 4 ∨ k = 5 := by omega
        rcases this with rfl | rfl | rfl | rfl | rfl <;> decide
      have o2 := line_fn (kindB k) [a] (by intro x hx; rw [List.mem_singleton.1 hx]; omega) hks (by show 1 ≤ 4096; omega)
      have o3 := line_fn (kindB k) [a, b] (by intro x hx; simp at hx; rcases hx with rfl | rfl <;> omega) hks (by show 2 ≤ 4096; omega)
      clear hA hB
      have hts := textTo_size ok i hi
      have hsu := textTo_succ n i hg
      by_cases hk4 : 4 ≤ k
      · have hz := lineB_size (kindB k) [a] (by intro x hx; rw [List.mem_singleton.1 hx]; have := ok.ha i hil; rw [hgi] at this; dsimp only at this; omega)
        have g2 : (textTo n i).size + (lineB (kindB k) [a]).size ≤ maxLen := by
          have h4 : [a].length = 1 := rfl
          unfold maxLen; omega
        rw [show gateB ⟨k, a, b⟩ = lineB (kindB k) [a] from by unfold gateB; rw [if_pos hk4]] at hsu
        repeat' first | (refine AW_imp (Imp.freeze 35 (fr' := [(10, sl [a]), (9, .x (.b 9 0)), (27, iv .i64 i), (26, iv .i64 n.gates.length), (25, .x (.d (gatesPV n.gates))), (1, .x (.b 1 0)), (7, sv (textTo n i))]) (σ' := [(1, netCells n), (9, .box [.d (.v (.int .i64 k)), .d (.v (.int .i64 a)), .d (.v (.int .i64 b))])]) rfl ⟨⟨_, rfl, .inr ⟨1, rfl, Nat.le_of_ble_eq_true rfl, rfl⟩⟩, ⟨_, rfl, .inl rfl⟩, ⟨_, rfl, .inl rfl⟩, ⟨_, rfl, .inl rfl⟩, ⟨_, rfl, .inl rfl⟩, ⟨_, rfl, .inl rfl⟩, ⟨_, rfl, .inl rfl⟩, trivial⟩ ⟨rfl, rfl, trivial⟩ rfl rfl) ?_) | with_reducible refine AW_seq ?_ | with_reducible refine AW_block ?_ | ((first | with_reducible refine AW_skip ?_ | with_reducible refine AW_exit ?_ | with_reducible refine AW_region hTt ?_ | refine AW_draw hTt hMix (id := 11) 8 false [0, 0, 0, 4, 14, 30, 0, 126, 255, 511] (by kernel_rfl) rfl rfl (by kernel_rfl) ?_ | fail); conv => whnf) | (exact absurd hb (by omega)) | ((first | with_reducible refine Exists.intro _ (And.intro (gd_any (And.intro (by omega) (gate_some hg))) ?_) | refine ⟨_, fun _ => (kinds_fn).call rfl rfl, ?_⟩ | with_reducible refine Exists.intro _ (And.intro (gd_any (And.intro (by omega) hkd)) ?_) | refine ⟨_, fun _ => (o2).call rfl rfl, ?_⟩ | refine And.intro (gd_none g2) ?_ | fail); conv => whnf) | (refine AW_cond rfl (fun hb => ?_) (fun hb => ?_) <;> first | (replace hb := of_decide_eq_true hb; try simp only [List.length_map] at hb) | (replace hb := of_decide_eq_false hb; try simp only [List.length_map] at hb)) | ((first | refine ⟨_, wrap_of (by first | omega | (simp only [List.length_map]; omega)), ?_⟩ | refine andA ?_ | fail); conv => whnf) | fail
        exact ⟨i + 1, hil, by omega, (Imp.forget (by repeat' (first | exact trivial | refine And.intro ?_ ?_ | exact svE hsu.symm | rfl | exact ivE (by first | omega | (simp only [List.length_map, List.length_append, List.length_singleton] <;> omega)) | exact oE (by first | omega | (simp only [List.length_map, List.length_append, List.length_singleton] <;> omega)))) (by repeat' (first | exact trivial | refine And.intro ?_ ?_ | exact svE hsu.symm | rfl | exact ivE (by first | omega | (simp only [List.length_map, List.length_append, List.length_singleton] <;> omega)) | exact oE (by first | omega | (simp only [List.length_map, List.length_append, List.length_singleton] <;> omega)))) (by kernel_rfl) (by kernel_rfl) (by kernel_rfl))⟩
      · have hz := lineB_size (kindB k) [a, b] (by intro x hx; have h1 := ok.ha i hil; have h2 := ok.hb i hil; rw [hgi] at h1 h2; dsimp only at h1 h2; simp at hx; rcases hx with rfl | rfl <;> omega)
        have g2 : (textTo n i).size + (lineB (kindB k) [a, b]).size ≤ maxLen := by
          have h4 : [a, b].length = 2 := rfl
          unfold maxLen; omega
        rw [show gateB ⟨k, a, b⟩ = lineB (kindB k) [a, b] from by unfold gateB; rw [if_neg hk4]] at hsu
        repeat' first | (refine AW_imp (Imp.freeze 35 (fr' := [(10, sl [a, b]), (9, .x (.b 9 0)), (27, iv .i64 i), (26, iv .i64 n.gates.length), (25, .x (.d (gatesPV n.gates))), (1, .x (.b 1 0)), (7, sv (textTo n i))]) (σ' := [(1, netCells n), (9, .box [.d (.v (.int .i64 k)), .d (.v (.int .i64 a)), .d (.v (.int .i64 b))])]) rfl ⟨⟨_, rfl, .inr ⟨2, rfl, Nat.le_of_ble_eq_true rfl, rfl⟩⟩, ⟨_, rfl, .inl rfl⟩, ⟨_, rfl, .inl rfl⟩, ⟨_, rfl, .inl rfl⟩, ⟨_, rfl, .inl rfl⟩, ⟨_, rfl, .inl rfl⟩, ⟨_, rfl, .inl rfl⟩, trivial⟩ ⟨rfl, rfl, trivial⟩ rfl rfl) ?_) | with_reducible refine AW_seq ?_ | with_reducible refine AW_block ?_ | ((first | with_reducible refine AW_skip ?_ | with_reducible refine AW_exit ?_ | with_reducible refine AW_region hTt ?_ | refine AW_draw hTt hMix (id := 11) 8 false [0, 0, 0, 4, 14, 30, 0, 126, 255, 511] (by kernel_rfl) rfl rfl (by kernel_rfl) ?_ | fail); conv => whnf) | (exact absurd hb (by omega)) | ((first | with_reducible refine Exists.intro _ (And.intro (gd_any (And.intro (by omega) (gate_some hg))) ?_) | refine ⟨_, fun _ => (kinds_fn).call rfl rfl, ?_⟩ | with_reducible refine Exists.intro _ (And.intro (gd_any (And.intro (by omega) hkd)) ?_) | refine ⟨_, fun _ => (o3).call rfl rfl, ?_⟩ | refine And.intro (gd_none g2) ?_ | fail); conv => whnf) | (refine AW_cond rfl (fun hb => ?_) (fun hb => ?_) <;> first | (replace hb := of_decide_eq_true hb; try simp only [List.length_map] at hb) | (replace hb := of_decide_eq_false hb; try simp only [List.length_map] at hb)) | ((first | refine ⟨_, wrap_of (by first | omega | (simp only [List.length_map]; omega)), ?_⟩ | refine andA ?_ | fail); conv => whnf) | fail
        exact ⟨i + 1, hil, by omega, (Imp.forget (by repeat' (first | exact trivial | refine And.intro ?_ ?_ | exact svE hsu.symm | rfl | exact ivE (by first | omega | (simp only [List.length_map, List.length_append, List.length_singleton] <;> omega)) | exact oE (by first | omega | (simp only [List.length_map, List.length_append, List.length_singleton] <;> omega)))) (by repeat' (first | exact trivial | refine And.intro ?_ ?_ | exact svE hsu.symm | rfl | exact ivE (by first | omega | (simp only [List.length_map, List.length_append, List.length_singleton] <;> omega)) | exact oE (by first | omega | (simp only [List.length_map, List.length_append, List.length_singleton] <;> omega)))) (by kernel_rfl) (by kernel_rfl) (by kernel_rfl))⟩
    · have hie : i = n.gates.length := by omega
      subst hie
      have hgl := ok.hl
      have h6 := ok.h6
      have ho4 := ok.o4
      have hor : ∀ x ∈ n.out, 0 ≤ x ∧ x < 100 := fun x hx => by
        obtain ⟨j, hj, rfl⟩ := List.getElem_of_mem hx
        have := ok.ho j hj
        omega
      have o4 := line_fn ⟨#[111, 117, 116, 112, 117, 116, 115]⟩ n.out hor (by decide) (by omega)
      have hz := lineB_size ⟨#[111, 117, 116, 112, 117, 116, 115]⟩ n.out hor
      have hts := textTo_size ok n.gates.length (Nat.le_refl _)
      have g2 : (textTo n n.gates.length).size + (lineB ⟨#[111, 117, 116, 112, 117, 116, 115]⟩ n.out).size ≤ maxLen := by
        have h4 : (⟨#[111, 117, 116, 112, 117, 116, 115]⟩ : ByteArray).size = 7 := rfl
        unfold maxLen; omega
      repeat' first | with_reducible refine AW_seq ?_ | with_reducible refine AW_block ?_ | ((first | with_reducible refine AW_skip ?_ | with_reducible refine AW_exit ?_ | with_reducible refine AW_ret ?_ | with_reducible refine AW_region hTt ?_ | fail); conv => whnf) | (exact absurd hb (by omega)) | ((first | ((refine ⟨_, (o4).call rfl rfl, ?_⟩); (rintro _ _ ⟨rfl, rfl⟩)) | refine And.intro (gd_none g2) ?_ | fail); conv => whnf) | (refine AW_cond rfl (fun hb => ?_) (fun hb => ?_) <;> first | (replace hb := of_decide_eq_true hb; try simp only [List.length_map] at hb) | (replace hb := of_decide_eq_false hb; try simp only [List.length_map] at hb)) | ((refine andA ?_); conv => whnf) | fail
      rfl
  · rw [show writeR n = (⟨#[]⟩, (checkR n).2.2) from if_neg hc]
    refine FnC_of_AW hTt Tryz.func5 rfl (by kernel_rfl) (res := [.tmp 2, .tmp 3]) rfl Tryz.ntmps5 (by simp) fun w0 K0 => ?_
    dsimp only [entry]
    repeat' first | with_reducible refine AW_seq ?_ | ((first | with_reducible refine AW_skip ?_ | with_reducible refine AW_ret ?_ | with_reducible refine AW_region hTt ?_ | fail); conv => whnf) | (exact absurd hb (by omega)) | ((refine ⟨_, (ck).call rfl rfl, ?_⟩); (rintro _ _ ⟨rfl, rfl⟩); conv => whnf) | (refine AW_cond rfl (fun hb => ?_) (fun hb => ?_) <;> first | (replace hb := of_decide_eq_true hb; try simp only [List.length_map] at hb) | (replace hb := of_decide_eq_false hb; try simp only [List.length_map] at hb) | (simp only [List.length_map, bne_iff_ne, ne_eq, beq_iff_eq, bne_eq_false_iff_eq, beq_eq_false_iff_ne, decide_eq_true_eq, decide_eq_false_iff_not, Bool.not_eq_true', Bool.not_eq_false', Int.natCast_inj] at hb)) | fail
    rfl
end Go.Proofs.YtfpaonfddaeamaaGreatDoor
namespace Go.Proofs.YtfpaonfddaeamaaGreatDoor
open Go Go.QL Go.RowKit
set_option maxHeartbeats 1600000
attribute [local irreducible] ACall FnC YC FnP PCall AWx EndX DCall
theorem ifc_any : ∃ ms, Tryz.prog.underlying 20 = some (.interface ms) := ⟨_, Tryz.underlying20⟩
theorem rec_ret (σ : Sg) (hs : SubS σ σ) (hc : (rsSg σ σ && idsIn (σ.map (·.1)) σ) = true) : DCall Tryz.prog 16 ([].map AV.x ++ [SV.b 2 0, SV.b 3 0].map .x) σ .returning (fun u' σ' => u' = .returning ∧ σ' = σ) := by
  refine DCall_of_recover hTt .none rfl Tryz.func16 rfl rfl rfl (by kernel_rfl) (res := []) rfl Tryz.ntmps16 (by simp) fun w0 K0 B => ?_
  conv => whnf
  repeat' first | ((with_reducible refine AW_regionP hTt (id := 1) ?_); conv => whnf) | with_reducible refine AW_seq ?_ | ((with_reducible refine AW_skip ?_); conv => whnf) | (refine And.intro ifc_any ?_; conv => whnf) | (refine AW_cond rfl (fun hb => absurd hb (by decide)) (fun _ => ?_)) | fail
  exact ⟨_, σ, hs, hc, rfl, rfl, rfl⟩
abbrev panS (k st : Nat) (xs : List (List PV)) (e a b c : SV) : Sg := [(k, .chain 38 3 st xs), (3, .box [e]), (2, .box [a, b, c])]
theorem rec_pan (st : Nat) (xs : List (List PV)) (e a b c : SV) : DCall Tryz.prog 16 ([].map AV.x ++ [SV.b 2 0, SV.b 3 0].map .x) (panS 900 st xs e a b c) (.panicking [{ v := errV, recovered := false }])
    (fun u' σ' => u' = .panicking [{ v := errV, recovered := true }] ∧ σ' = panS 900 st xs (.d (.v (.int .i64 6))) (.d (.v (.int .i64 0))) (.d (.v (.slice none 0 0))) (.d (.v (.slice none 0 0)))) := by
  refine DCall_of_recover hTt (.some _) rfl Tryz.func16 rfl rfl rfl (by kernel_rfl) (res := []) rfl Tryz.ntmps16 (by simp) fun w0 K0 B => ?_
  conv => whnf
  repeat' first | (with_reducible exact trivial) | (exact impA) | ((with_reducible refine And.intro (b := allN _ _ _) ?_ ?_) <;> conv => whnf) | ((refine AW_drawP hTt hMix (id := 2) [0, 0, 2, 1, 15] (by kernel_rfl) [] (panS 900 st xs (.d (.v (.int .i64 6))) (.d (.v (.int .i64 0))) (.d (.v (.slice none 0 0))) (.d (.v (.slice none 0 0)))) ?_ ?_) <;> conv => whnf) | ((with_reducible refine AW_regionP hTt (id := 1) ?_); conv => whnf) | with_reducible refine AW_seq ?_ | (refine And.intro ifc_any ?_; conv => whnf) | (refine And.intro conc_errno ?_; conv => whnf) | (refine And.intro (rfl : _ = 26) ?_; conv => whnf) | (refine AW_cond rfl (fun _ => ?_) (fun hb => absurd hb (by decide))) | ((refine andA ?_); conv => whnf) | fail
  exact ⟨_, panS 900 st xs (.d (.v (.int .i64 6))) (.d (.v (.int .i64 0))) (.d (.v (.slice none 0 0))) (.d (.v (.slice none 0 0))), ⟨rfl, rfl, rfl, trivial⟩, rfl, rfl, rfl, rfl⟩
end Go.Proofs.YtfpaonfddaeamaaGreatDoor
namespace Go.Proofs.YtfpaonfddaeamaaGreatDoor
open Go Go.QL Go.RowKit
set_option maxHeartbeats 1600000
attribute [local irreducible] ACall FnC YC FnP PCall AWx EndX DCall
def nlB : ByteArray := ⟨#[10]⟩
def spB : ByteArray := ⟨#[32]⟩
def inputsB : ByteArray := ⟨#[105, 110, 112, 117, 116, 115]⟩
def outputsB : ByteArray := ⟨#[111, 117, 116, 112, 117, 116, 115]⟩
def pieces (s sep : ByteArray) : List ByteArray := Lib.splitB sep 0 (Lib.countB s sep) s
theorem pieces_len (s sep : ByteArray) (h1 : 1 ≤ sep.size) : 1 ≤ (pieces s sep).length ∧ (pieces s sep).length ≤ s.size + 1 := by
  have := Lib.splitB_all sep h1 0 _ s rfl
  have h2 := Lib.countB_le sep h1 s.size s (Nat.le_refl _)
  unfold pieces
  omega
theorem splitB_size (sep : ByteArray) : ∀ (k : Nat) (s : ByteArray), ∀ p ∈ Lib.splitB sep 0 k s, p.size ≤ s.size
  | 0, s => by
    intro p hp
    rw [Lib.splitB_zero] at hp
    rw [List.mem_singleton.1 hp]
    exact Nat.le_refl _
  | k + 1, s => by
    intro p hp
    by_cases h : Lib.indexB s sep = -1
    · rw [Lib.splitB_miss sep 0 (k + 1) s h] at hp
      rw [List.mem_singleton.1 hp]
      exact Nat.le_refl _
    · have hn : ∃ i : Nat, Lib.indexB s sep = i := by
        rcases Lib.indexB_cases s sep with h' | ⟨i, hi, _⟩
        · exact absurd h' h
        · exact ⟨i, hi⟩
      obtain ⟨i, hi⟩ := hn
      rw [Lib.splitB_hit sep 0 k s i hi] at hp
      rcases List.mem_cons.1 hp with rfl | hp
      · rw [ByteArray.size_extract]; omega
      · have := splitB_size sep k _ p hp
        rw [ByteArray.size_extract] at this
        omega
theorem pieces_size (s sep : ByteArray) : ∀ p ∈ pieces s sep, p.size ≤ s.size := splitB_size sep _ s
def kindsB : List ByteArray := ([[], [97, 110, 100], [111, 114], [120, 111, 114], [110, 111, 116], [100, 101, 108, 97, 121]] : List (List UInt8)).map fun b => ⟨b.toArray⟩
def gateK (w0 : ByteArray) (l : List Int) : Option GateT :=
  match l with
  | [a] => if 4 ≤ Lib.idxOfS kindsB w0 then some ⟨Lib.idxOfS kindsB w0, a, 0⟩ else none
  | [a, b] => if 0 < Lib.idxOfS kindsB w0 ∧ Lib.idxOfS kindsB w0 < 4 then some ⟨Lib.idxOfS kindsB w0, a, b⟩ else none
  | _ => none
def zeroN : NetT := ⟨0, [], []⟩
def stepRow (m i : Nat) (row : ByteArray) (n : NetT) : Option NetT :=
  match pieces row spB with
  | [] => none
  | w0 :: ws =>
    match numsP ws with
    | none => none
    | some l =>
      if i = 0 then (if w0 = inputsB ∧ l.length = 1 then some { n with inn := l.getD 0 0 } else none)
      else if i + 1 = m then (if w0 = outputsB then some { n with out := l } else none)
      else match gateK w0 l with
        | some g => some { n with gates := n.gates ++ [g] }
        | none => none
def runRows (m : Nat) : Nat → NetT → List ByteArray → Option NetT
  | _, n, [] => some n
  | i, n, r :: rs => match stepRow m i r n with
    | some n' => runRows m (i + 1) n' rs
    | none => none
def bodyOf (s : ByteArray) : ByteArray := ⟨(Lib.trimSuffix s.data.toList nlB.data.toList).toArray⟩
def readR (s : ByteArray) : NetT × Int :=
  if 600 < s.size then (zeroN, 3)
  else if Lib.hasSuffix s.data.toList nlB.data.toList = false then (zeroN, 6)
  else if (pieces (bodyOf s) nlB).length < 2 then (zeroN, 6)
  else match runRows (pieces (bodyOf s) nlB).length 0 zeroN (pieces (bodyOf s) nlB) with
    | none => (zeroN, 6)
    | some n => if (checkR n).2.2 = 0 then (n, 0) else (zeroN, 6)
theorem bodyOf_size (s : ByteArray) : (bodyOf s).size ≤ s.size := by
  unfold bodyOf Lib.trimSuffix
  have e : s.size = s.data.toList.length := Lib.size_eq s
  split
  · show ((List.take _ _).toArray).size ≤ _
    rw [List.size_toArray, List.length_take, e]
    omega
  · show (s.data.toList.toArray).size ≤ _
    rw [List.size_toArray, e]
    exact Nat.le_refl _
end Go.Proofs.YtfpaonfddaeamaaGreatDoor
namespace Go.Proofs.YtfpaonfddaeamaaGreatDoor
open Go Go.QL Go.RowKit
def splitG (b : UInt8) : List UInt8 → List UInt8 → List (List UInt8)
  | cur, [] => [cur]
  | cur, c :: r => if c = b then cur :: splitG b [] r else splitG b (cur ++ [c]) r
def joinG (b : UInt8) : List (List UInt8) → List UInt8
  | [] => []
  | [x] => x
  | x :: y :: r => x ++ b :: joinG b (y :: r)
def mkB (l : List UInt8) : ByteArray := ⟨l.toArray⟩
theorem mkB_data (l : List UInt8) : (mkB l).data.toList = l := rfl
theorem data_mkB (s : ByteArray) : mkB s.data.toList = s := rfl
theorem mkB_inj {a b : ByteArray} (h : a.data.toList = b.data.toList) : a = b := by rw [← data_mkB a, h, data_mkB]
theorem mapD_inj {l m : List ByteArray} (h : l.map (·.data.toList) = m.map (·.data.toList)) : l = m :=
  (List.map_inj_right (fun _ _ e => mkB_inj e)).1 h
theorem splitG_ne (b : UInt8) : ∀ (l cur : List UInt8), splitG b cur l ≠ []
  | [], cur => by simp [splitG]
  | c :: r, cur => by
    unfold splitG
    split
    · simp
    · exact splitG_ne b r _
theorem splitG_app (b : UInt8) (y : List UInt8) : ∀ (x cur : List UInt8), b ∉ x → splitG b cur (x ++ b :: y) = (cur ++ x) :: splitG b [] y
  | [], cur, _ => by simp [splitG]
  | c :: r, cur, h => by
    have hc : c ≠ b := fun e => h (by simp [e])
    have hr : b ∉ r := fun e => h (by simp [e])
    show splitG b cur (c :: (r ++ b :: y)) = _
    rw [splitG, if_neg hc, splitG_app b y r _ hr]
    simp
theorem splitG_end (b : UInt8) : ∀ (x cur : List UInt8), b ∉ x → splitG b cur x = [cur ++ x]
  | [], cur, _ => by simp [splitG]
  | c :: r, cur, h => by
    have hc : c ≠ b := fun e => h (by simp [e])
    have hr : b ∉ r := fun e => h (by simp [e])
    rw [splitG, if_neg hc, splitG_end b r _ hr]
    simp
theorem splitG_snoc (b : UInt8) : ∀ (l cur : List UInt8), splitG b cur (l ++ [b]) = splitG b cur l ++ [[]]
  | [], cur => by simp [splitG]
  | c :: r, cur => by
    show splitG b cur (c :: (r ++ [b])) = _
    rw [splitG, splitG]
    split
    · rw [splitG_snoc b r []]; rfl
    · exact splitG_snoc b r _
theorem joinG_cons (b : UInt8) (x : List UInt8) {l : List (List UInt8)} (h : l ≠ []) : joinG b (x :: l) = x ++ b :: joinG b l := by
  cases l with
  | nil => exact absurd rfl h
  | cons y r => rfl
theorem joinG_split (b : UInt8) : ∀ (l cur : List UInt8), joinG b (splitG b cur l) = cur ++ l
  | [], cur => by simp [splitG, joinG]
  | c :: r, cur => by
    rw [splitG]
    split
    · rename_i h
      rw [joinG_cons b _ (splitG_ne b r []), joinG_split b r [], h]; rfl
    · rw [joinG_split b r]; simp
theorem splitG_head (b : UInt8) : ∀ (l cur : List UInt8), splitG b cur l = (match splitG b [] l with | [] => [] | x :: r => (cur ++ x) :: r)
  | [], cur => by simp [splitG]
  | c :: r, cur => by
    rw [splitG, splitG]
    split
    · simp
    · have h := splitG_ne b r []
      rw [splitG_head b r (cur ++ [c]), splitG_head b r ([] ++ [c])]
      cases hs : splitG b [] r with
      | nil => exact absurd hs h
      | cons x q => simp
theorem splitK_G (b : UInt8) : ∀ (l : List UInt8), Lib.splitK [b] 0 (Lib.count l [b]) l = splitG b [] l
  | [] => by
    rw [Lib.count_one]; rfl
  | c :: r => by
    by_cases hc : c = b
    · subst hc
      rw [Lib.count_cons_eq, Nat.add_comm]
      have hix : Lib.index (c :: r) [c] = 0 := by rw [Lib.index]; simp [List.isPrefixOf]
      rw [Lib.splitK, hix, splitG, if_pos rfl]
      simp only [show ((0 : Int) == -1) = false from rfl, Bool.false_eq_true, if_false]
      show [] :: Lib.splitK [c] 0 (Lib.count r [c]) r = _
      rw [splitK_G c r]
    · rw [Lib.count_cons_ne c b r hc, splitG, if_neg hc, splitG_head b r]
      have ih := splitK_G b r
      have hp : ([b] : List UInt8).isPrefixOf (c :: r) = false := by simp [List.isPrefixOf, Ne.symm hc]
      have hix : Lib.index (c :: r) [b] = if Lib.index r [b] == -1 then -1 else Lib.index r [b] + 1 := by rw [Lib.index, hp]; simp
      rw [← ih]
      cases hk : Lib.count r [b] with
      | zero => simp [Lib.splitK]
      | succ k =>
        have hm : Lib.index r [b] ≠ -1 := fun hm => by rw [Lib.count_miss hm] at hk; cases hk
        have hge := Lib.index_ge r [b]
        obtain ⟨j, hj⟩ : ∃ j : Nat, Lib.index r [b] = j := ⟨(Lib.index r [b]).toNat, by omega⟩
        have hix' : Lib.index (c :: r) [b] = ((j + 1 : Nat) : Int) := by rw [hix, if_neg (fun e => hm (beq_iff_eq.1 e)), hj]; omega
        rw [Lib.splitK, Lib.splitK, hix', hj]
        rw [if_neg (by simp; omega), if_neg (by simp)]
        simp
theorem pieces_list (s : ByteArray) (b : UInt8) : (pieces s ⟨#[b]⟩).map (·.data.toList) = splitG b [] s.data.toList := by
  unfold pieces
  rw [Lib.splitB_data]
  exact splitK_G b _
theorem pieces_mk {s : ByteArray} {b : UInt8} {l : List (List UInt8)} (h : splitG b [] s.data.toList = l) : pieces s ⟨#[b]⟩ = l.map mkB := by
  apply mapD_inj
  rw [pieces_list, h, List.map_map]
  simp [Function.comp_def, mkB_data]
def dg2 (k : Nat) : List UInt8 := if k < 10 then [UInt8.ofNat (48 + k)] else [UInt8.ofNat (48 + k / 10), UInt8.ofNat (48 + k % 10)]
theorem dd_dg2 {k : Nat} (h : k < 100) : Lib.decDigits k = dg2 k := by
  unfold dg2
  by_cases h1 : k < 10
  · rw [if_pos h1, Lib.decDigits_one h1]
  · rw [if_neg h1, Lib.decDigits_two h1 h]
theorem dg2_atoi : ∀ k, k < 100 → Lib.atoiAll (dg2 k) = .ok (k : Int) := by decide +kernel
theorem dg2_32 : ∀ k, k < 100 → (32 : UInt8) ∉ dg2 k := by decide +kernel
theorem dg2_10 : ∀ k, k < 100 → (10 : UInt8) ∉ dg2 k := by decide +kernel
theorem canon_num {n : Int} (h : 0 ≤ n ∧ n < 100) : canon (numB n) = some n := by
  have e1 : (numB n).data.toList = dg2 n.toNat := dd_dg2 (by omega)
  have e2 : ((n.toNat : Nat) : Int) = n := by omega
  unfold canon
  rw [e1, dg2_atoi n.toNat (by omega), e2]
  have e3 : (⟨(Lib.itoa n).toArray⟩ : ByteArray) = numB n := by
    unfold Lib.itoa
    rw [if_neg (by omega)]; rfl
  show (bif (⟨(Lib.itoa n).toArray⟩ : ByteArray).toList == (numB n).toList then some n else none) = some n
  rw [e3]
  simp
theorem numsP_num : ∀ {l : List Int}, (∀ n ∈ l, 0 ≤ n ∧ n < 100) → numsP (l.map numB) = some l
  | [], _ => rfl
  | n :: r, h => by
    rw [List.map_cons, numsP, canon_num (h n (by simp)), numsP_num (fun x hx => h x (by simp [hx]))]
def rowI (w : List UInt8) (l : List Int) : List UInt8 := w ++ (l.map fun n => 32 :: Lib.itoa n).flatten
def gateI (g : GateT) : List UInt8 := rowI (kindB g.kind).data.toList (if 4 ≤ g.kind then [g.a] else [g.a, g.b])
def rowsI (n : NetT) : List (List UInt8) := rowI inputsB.data.toList [n.inn] :: (n.gates.map gateI ++ [rowI outputsB.data.toList n.out])
def linesI (l : List (List UInt8)) : List UInt8 := (l.map (· ++ [10])).flatten
def textB (n : NetT) : ByteArray := textTo n n.gates.length ++ lineB outputsB n.out
theorem itoa_nn {n : Int} (h : 0 ≤ n) : Lib.itoa n = Lib.decDigits n.toNat := by unfold Lib.itoa; rw [if_neg (by omega)]
theorem lineTo_list (w : ByteArray) : ∀ (l : List Int), (∀ n ∈ l, 0 ≤ n) → (lineTo w l).data.toList = rowI w.data.toList l
  | [], _ => by simp [lineTo, rowI]
  | n :: r, h => by
    have e := lineTo_list (w ++ (⟨#[32]⟩ ++ numB n)) r (fun x hx => h x (by simp [hx]))
    show (lineTo (w ++ (⟨#[32]⟩ ++ numB n)) r).data.toList = _
    rw [e]
    unfold rowI
    rw [List.map_cons, List.flatten_cons, itoa_nn (h n (by simp))]
    simp [numB]
theorem lineB_list (w : ByteArray) (l : List Int) (h : ∀ n ∈ l, 0 ≤ n) : (lineB w l).data.toList = rowI w.data.toList l ++ [10] := by
  unfold lineB
  have := lineTo_list w l h
  simp [this]
def numsOf (g : GateT) : List Int := if 4 ≤ g.kind then [g.a] else [g.a, g.b]
theorem gateB_list (g : GateT) (h : ∀ n ∈ numsOf g, 0 ≤ n) : (gateB g).data.toList = gateI g ++ [10] := lineB_list _ _ h
theorem textTo_list (n : NetT) (hi : 0 ≤ n.inn) (hg : ∀ g ∈ n.gates, ∀ x ∈ numsOf g, 0 ≤ x) : ∀ i, i ≤ n.gates.length → (textTo n i).data.toList = linesI (rowI inputsB.data.toList [n.inn] :: (n.gates.take i).map gateI)
  | 0, _ => by
    show (lineB inputsB [n.inn]).data.toList = _
    rw [lineB_list _ _ (by simp [hi])]
    simp [linesI]
  | i + 1, h => by
    have hgi : n.gates[i]? = some n.gates[i] := List.getElem?_eq_getElem (by omega)
    rw [textTo_succ n i hgi, ByteArray.data_append, Array.toList_append, textTo_list n hi hg i (by omega), gateB_list _ (hg _ (List.getElem_mem _))]
    simp only [linesI, List.map_cons, List.map_map, List.flatten_cons, List.append_assoc]
    rw [List.take_add_one, hgi]
    simp only [Option.toList_some, List.map_append, List.map_cons, List.map_nil, List.flatten_append, List.flatten_cons, List.flatten_nil, List.append_nil, List.append_assoc, Function.comp_def]
structure NN (n : NetT) : Prop where
  i : 0 ≤ n.inn
  g : ∀ g ∈ n.gates, ∀ x ∈ numsOf g, 0 ≤ x
  o : ∀ x ∈ n.out, 0 ≤ x
theorem textB_list {n : NetT} (h : NN n) : (textB n).data.toList = linesI (rowsI n) := by
  unfold textB
  rw [ByteArray.data_append, Array.toList_append, textTo_list n h.i h.g _ (Nat.le_refl _), lineB_list _ _ h.o, List.take_length]
  simp [linesI, rowsI]
theorem NN.of {n : NetT} (h : NetOK n) : NN n := by
  refine ⟨by have := h.h1; omega, fun g hg x hx => ?_, fun x hx => ?_⟩
  · obtain ⟨j, hj, rfl⟩ := List.getElem_of_mem hg
    have ha := h.ha j hj
    have hb := h.hb j hj
    unfold numsOf at hx
    split at hx <;> simp at hx
    · rw [hx]; omega
    · rcases hx with rfl | rfl <;> omega
  · obtain ⟨j, hj, rfl⟩ := List.getElem_of_mem hx
    have := h.ho j hj
    omega
end Go.Proofs.YtfpaonfddaeamaaGreatDoor
namespace Go.QL
open Go Go.RowKit
def FzSV (c sz st : Nat) (xs : List (List PV)) (s s' : SV) : Prop := s = s' ∨ ∃ n, s = .o c st n ∧ n ≤ xs.length ∧ s' = .d (.s sz (xs.take n))
def FzCells (c sz st : Nat) (xs : List (List PV)) : List SV → List SV → Prop
  | [], [] => True
  | s :: r, s' :: r' => FzSV c sz st xs s s' ∧ FzCells c sz st xs r r'
  | _, _ => False
def FzOb (c sz st : Nat) (xs : List (List PV)) (o o' : Ob) : Prop := o = o' ∨ ∃ cs cs', o = .box cs ∧ o' = .box cs' ∧ FzCells c sz st xs cs cs'
def FzS (c sz st : Nat) (xs : List (List PV)) (σ : Sg) : Sg → Prop
  | [] => True
  | (i, o') :: r => (∃ o, lk i σ = some o ∧ FzOb c sz st xs o o') ∧ FzS c sz st xs σ r
theorem FzS_ok {c sz st : Nat} {xs : List (List PV)} {σ : Sg} : ∀ {σ' : Sg}, FzS c sz st xs σ σ' → ∀ t v', lk t σ' = some v' → ∃ v, lk t σ = some v ∧ FzOb c sz st xs v v'
  | [], _, t, v, h => by cases h
  | (s, x) :: r, hs, t, v, h => by
    rw [lk_cons] at h
    by_cases e : s = t
    · subst e; rw [if_pos rfl] at h; cases h; exact hs.1
    · rw [if_neg e] at h; exact FzS_ok hs.2 t v h
theorem FzCells_get {c sz st : Nat} {xs : List (List PV)} : ∀ {cs cs' : List SV}, FzCells c sz st xs cs cs' → cs.length = cs'.length ∧ ∀ (i : Nat) (s' : SV), cs'[i]? = some s' → ∃ s, cs[i]? = some s ∧ FzSV c sz st xs s s'
  | [], [], _ => ⟨rfl, fun i s h => by simp at h⟩
  | s :: r, s' :: r', h => by
    obtain ⟨h1, h2⟩ := FzCells_get h.2
    refine ⟨by simp [h1], fun i x hx => ?_⟩
    cases i with
    | zero => cases hx; exact ⟨s, rfl, h.1⟩
    | succ i => exact h2 i x hx
  | [], _ :: _, h => h.elim
  | _ :: _, [], h => h.elim
section
variable {P : Program} {Γ : Cx} {fr fr' : Fr} {σ σ' : Sg} {g : Gh} {a : Act} {w : World} {Q : Exit → Fr → Sg → Prop}
theorem Imp.freezeB {fr' : Fr} {σ' : Sg} (c : Nat) {ce sz st : Nat} {xs : List (List PV)} (hc : lk c σ = some (.chain ce sz st xs)) (hf : FzF c sz st xs fr fr') (hs : FzS c sz st xs σ σ') (hn : lk c σ' = none)
    (hr : (rsFr σ' fr' && rsSg σ' σ') = true) (hB : idsIn Γ.ids σ' = true := by rfl) (hD : dfsIn Γ.dfs σ σ' = true := by rfl) : Imp Γ fr σ fr' σ' := by
  intro g a w hrel
  simp only [Bool.and_eq_true] at hr
  let K' : Nat → Nat → Prop := fun b o => g.K b o ∨ (blk (g.μ c) = some b ∧ b < w.heap.size)
  let g' : Gh := ⟨K', g.μ⟩
  have hext : Ext g.K w K' w := ⟨fun _ _ h => .inl h, fun _ _ _ => rfl⟩
  have hbox : ∀ i cs, lk i σ = some (.box cs) → (lk i σ').isSome → ∃ cs', lk i σ' = some (.box cs') := by
    intro i cs hi hi'
    obtain ⟨o', ho'⟩ := Option.isSome_iff_exists.1 hi'
    obtain ⟨o, ho, hnl⟩ := FzS_ok hs i o' ho'
    rw [hi] at ho; cases ho
    rcases hnl with rfl | ⟨cs1, cs', h1, h2, _⟩
    · exact ⟨cs, ho'⟩
    · exact ⟨cs', by rw [ho', h2]⟩
  have hch : ∀ i e0 sz0 st xs, lk i σ = some (.chain e0 sz0 st xs) → (lk i σ').isSome → lk i σ' = some (.chain e0 sz0 st xs) := by
    intro i e0 sz0 st xs hi hi'
    obtain ⟨o', ho'⟩ := Option.isSome_iff_exists.1 hi'
    obtain ⟨o, ho, hnl⟩ := FzS_ok hs i o' ho'
    rw [hi] at ho; cases ho
    rcases hnl with rfl | ⟨cs1, cs', h1, _⟩
    · exact ho'
    · cases h1
  have hoth : ∀ i o, lk i σ = some (.x o) → (lk i σ').isSome → lk i σ' = some (.x o) := by
    intro i o hi hi'
    obtain ⟨o', ho'⟩ := Option.isSome_iff_exists.1 hi'
    obtain ⟨o1, ho, hnl⟩ := FzS_ok hs i o' ho'
    rw [hi] at ho; cases ho
    rcases hnl with rfl | ⟨cs1, cs', h1, _⟩
    · exact ho'
    · cases h1
  have sr1 : ∀ s v, rs1 σ' s = true → SR σ g w s v → SR σ' g' w s v := by
    intro s v hrs hv
    have up : ∀ i, (lk i σ).isSome → (lk i σ').isSome = true → (lk i σ').isSome ∧ g'.μ i = g.μ i := fun i hi hi' => by
      exact ⟨hi', rfl⟩
    cases hv with
    | d x v h => exact .d x v (h.mono hext)
    | old c0 st n e0 sz0 st' xs v hl hlt h1 =>
      have hs0 : (lk c0 σ).isSome := by rw [hl]; rfl
      obtain ⟨h2, h3⟩ := up c0 hs0 hrs
      exact .old c0 st n e0 sz0 st' xs v (hch _ _ _ _ _ hl h2) hlt h1
    | o c0 st n e0 sz0 xs a cap hl hn hμ =>
      have hs0 : (lk c0 σ).isSome := by rw [hl]; rfl
      obtain ⟨h2, h3⟩ := up c0 hs0 hrs
      exact .o c0 st n e0 sz0 xs a cap (hch _ _ _ _ _ hl h2) hn (by rw [h3, hμ])
    | b id off cs k hl hμ =>
      have hs0 : (lk id σ).isSome := by rw [hl]; rfl
      obtain ⟨h2, h3⟩ := up id hs0 hrs
      obtain ⟨cs', hcs'⟩ := hbox _ _ hl h2
      exact .b id off cs' k (hcs') (by rw [h3, hμ])
    | se e off k l vs h1 h2 h3 => exact .se e off k l vs (fun j hj => .inl (h1 j hj)) h2 (fun j x hj => (h3 j x hj).mono hext)
    | oeold c0 st i off e0 sz0 st' xs v hl hlt h1 =>
      have hs0 : (lk c0 σ).isSome := by rw [hl]; rfl
      obtain ⟨h2, h3⟩ := up c0 hs0 hrs
      exact .oeold c0 st i off e0 sz0 st' xs v (hch _ _ _ _ _ hl h2) hlt h1
    | oe c0 st i off e0 sz0 xs k cap hl hμ =>
      have hs0 : (lk c0 σ).isSome := by rw [hl]; rfl
      obtain ⟨h2, h3⟩ := up c0 hs0 hrs
      exact .oe c0 st i off e0 sz0 xs k cap (hch _ _ _ _ _ hl h2) (by rw [h3, hμ])
    | f => cases hrs
    | j v h1 => exact .j v h1
    | h id o k hl hμ =>
      have hs0 : (lk id σ).isSome := by rw [hl]; rfl
      obtain ⟨h2, h3⟩ := up id hs0 hrs
      exact .h id o k (hoth _ _ hl h2) (by rw [h3, hμ])
    | sb id off n cap cs k hl hμ hn hcc =>
      have hs0 : (lk id σ).isSome := by rw [hl]; rfl
      obtain ⟨h2, h3⟩ := up id hs0 hrs
      obtain ⟨cs', hcs'⟩ := hbox _ _ hl h2
      exact .sb id off n cap cs' k (hcs') (by rw [h3, hμ]) hn hcc
  have sr : ∀ s v, rsSV σ' s = true → SR σ g w s v → SR σ' g' w s v := by
    intro s v hrs hv
    cases s with
    | f fn a b =>
      simp only [rsSV, Bool.and_eq_true, List.all_eq_true] at hrs
      cases hv with
      | f _ _ _ v1 v2 h1 h2 r1 r2 =>
        exact .f fn a b v1 v2 h1 h2 (fun i s v hi hv => sr1 _ _ (hrs.1 s (List.mem_of_getElem? hi)) (r1 i s v hi hv)) (fun i s v hi hv => sr1 _ _ (hrs.2 s (List.mem_of_getElem? hi)) (r2 i s v hi hv))
    | d x => exact sr1 _ _ hrs hv
    | o c st n => exact sr1 _ _ hrs hv
    | b id off => exact sr1 _ _ hrs hv
    | se e off => exact sr1 _ _ hrs hv
    | oe c st i off => exact sr1 _ _ hrs hv
    | j => exact sr1 _ _ hrs hv
    | h id => exact sr1 _ _ hrs hv
    | sb id off n cap => exact sr1 _ _ hrs hv
  have srfz : ∀ n v, n ≤ xs.length → SR σ g w (.o c st n) v → SR σ' g' w (.d (.s sz (xs.take n))) v := fun n v hn hv =>
    Imp.freeze.freeze_one (a := { a with tmps := #[v] }) (t := 0) (σ' := σ') hrel.hp hc hn hv
  have vr1 : ∀ x v, rsAV1 σ' x = true → VR1 σ g w x v → VR1 σ' g' w x v := by
    intro x v hrs hv
    cases x with
    | x s => exact sr _ _ hrs hv
    | a cs =>
      obtain ⟨vs, rfl, hl, hr⟩ := hv
      simp only [rsAV1, List.all_eq_true] at hrs
      exact ⟨vs, rfl, hl, fun i s u hi hu => sr _ _ (hrs s (List.mem_of_getElem? hi)) (hr i s u hi hu)⟩
    | _ => exact hv.elim
  have vr2 : ∀ x v, rsAV2 σ' x = true → VR2 σ g w x v → VR2 σ' g' w x v := by
    intro x v hrs hv
    cases x with
    | t xs =>
      obtain ⟨vs, rfl, hl, hr⟩ := hv
      simp only [rsAV2, List.all_eq_true] at hrs
      exact ⟨vs, rfl, hl, fun i s u hi hu => vr1 _ _ (hrs s (List.mem_of_getElem? hi)) (hr i s u hi hu)⟩
    | x s => exact vr1 (.x s) _ hrs hv
    | a cs => exact vr1 (.a cs) _ hrs hv
    | g _ _ => exact hv.elim
  have vr : ∀ x v, rsAV σ' x = true → VR σ g w x v → VR σ' g' w x v := by
    intro x v hrs hv
    cases x with
    | g c0 y => exact ⟨fun hc0 => vr2 _ _ hrs (hv.1 hc0), hv.2⟩
    | x s => exact vr2 (.x s) _ hrs hv
    | a cs => exact vr2 (.a cs) _ hrs hv
    | t xs => exact vr2 (.t xs) _ hrs hv
  have upI : ∀ i, (lk i σ).isSome → i ∈ Γ.ids → (lk i σ').isSome ∧ g'.μ i = g.μ i := fun i hi hi' => ⟨idsIn_ok hB hi', rfl⟩
  have srI : ∀ s v, SR σ g w s v → InI Γ.ids s → SR σ' g' w s v := by
    intro s v hv
    induction hv with
    | d x v h => exact fun _ => .d x v (h.mono hext)
    | old c0 st n e0 sz0 st' xs v hl hlt h1 =>
      intro h; cases h with
      | o _ _ _ h =>
        have hs0 : (lk c0 σ).isSome := by rw [hl]; rfl
        obtain ⟨h2, h3⟩ := upI c0 hs0 h
        exact .old c0 st n e0 sz0 st' xs v (hch _ _ _ _ _ hl h2) hlt h1
    | o c0 st n e0 sz0 xs a cap hl hn hμ =>
      intro h; cases h with
      | o _ _ _ h =>
        have hs0 : (lk c0 σ).isSome := by rw [hl]; rfl
        obtain ⟨h2, h3⟩ := upI c0 hs0 h
        exact .o c0 st n e0 sz0 xs a cap (hch _ _ _ _ _ hl h2) hn (by rw [h3, hμ])
    | b id off cs k hl hμ =>
      intro h; cases h with
      | b _ _ h =>
        have hs0 : (lk id σ).isSome := by rw [hl]; rfl
        obtain ⟨h2, h3⟩ := upI id hs0 h
        obtain ⟨cs', hcs'⟩ := hbox _ _ hl h2
        exact .b id off cs' k (hcs') (by rw [h3, hμ])
    | se e off k l vs h1 h2 h3 => exact fun _ => .se e off k l vs (fun j hj => .inl (h1 j hj)) h2 (fun j x hj => (h3 j x hj).mono hext)
    | oeold c0 st i off e0 sz0 st' xs v hl hlt h1 =>
      intro h; cases h with
      | oe _ _ _ _ h =>
        have hs0 : (lk c0 σ).isSome := by rw [hl]; rfl
        obtain ⟨h2, h3⟩ := upI c0 hs0 h
        exact .oeold c0 st i off e0 sz0 st' xs v (hch _ _ _ _ _ hl h2) hlt h1
    | oe c0 st i off e0 sz0 xs k cap hl hμ =>
      intro h; cases h with
      | oe _ _ _ _ h =>
        have hs0 : (lk c0 σ).isSome := by rw [hl]; rfl
        obtain ⟨h2, h3⟩ := upI c0 hs0 h
        exact .oe c0 st i off e0 sz0 xs k cap (hch _ _ _ _ _ hl h2) (by rw [h3, hμ])
    | f fn a b v1 v2 h1 h2 _ _ ih1 ih2 =>
      intro h
      cases h with
      | f _ _ _ k1 k2 => exact .f fn a b v1 v2 h1 h2 (fun i s v hi hv => ih1 i s v hi hv (k1 s (List.mem_of_getElem? hi))) (fun i s v hi hv => ih2 i s v hi hv (k2 s (List.mem_of_getElem? hi)))
    | j v h1 => exact fun _ => .j v h1
    | h id o k hl hμ =>
      intro h; cases h with
      | h _ h =>
        have hs0 : (lk id σ).isSome := by rw [hl]; rfl
        obtain ⟨h2, h3⟩ := upI id hs0 h
        exact .h id o k (hoth _ _ hl h2) (by rw [h3, hμ])
    | sb id off n cap cs k hl hμ hn hcc =>
      intro h; cases h with
      | sb _ _ _ _ h =>
        have hs0 : (lk id σ).isSome := by rw [hl]; rfl
        obtain ⟨h2, h3⟩ := upI id hs0 h
        obtain ⟨cs', hcs'⟩ := hbox _ _ hl h2
        exact .sb id off n cap cs' k (hcs') (by rw [h3, hμ]) hn hcc
  have ins : ∀ i, (lk i σ').isSome → (lk i σ).isSome := fun i hi => by
    obtain ⟨o', ho'⟩ := Option.isSome_iff_exists.1 hi
    obtain ⟨o, ho, _⟩ := FzS_ok hs i o' ho'
    rw [ho]; rfl
  have hap : ∀ i, (lk i σ').isSome → ∀ b, blk (g.μ i) = some b → blk (g.μ c) ≠ some b := by
    intro i hi b hb hb'
    have := hrel.hp.inj i c b (ins i hi) (by rw [hc]; rfl) hb hb'
    subst this; rw [hn] at hi; cases hi
  have hK : ∀ id ob b, lk id σ' = some ob → blk (g.μ id) = some b → (∀ o, ¬ g.K b o) → ∀ o, ¬ K' b o :=
    fun id ob b hid hb hk o h => h.elim (hk o) (fun h => hap id (by rw [hid]; rfl) b hb h.1)
  refine ⟨g', ⟨⟨hrel.hp.kept, hrel.hp.flt, hrel.hp.ext.trans hext, ?_, ?_, ?_, fun i b hi hb => hrel.hp.own i b (ins i hi) hb, fun i j b hi hj => hrel.hp.inj i j b (ins i hi) (ins j hj)⟩, ?_, hrel.size,
    hrel.defers.map (fun i d hi hl hμ => ⟨hoth _ _ hl (dfsIn_ok hD hi hl ▸ rfl), hμ⟩), fun s v hb => ⟨srI _ _ (hrel.base s v hb).1 (hrel.base s v hb).2, (hrel.base s v hb).2⟩⟩⟩
  · intro b o hb hk
    rcases hk with hk | ⟨hk, _⟩
    · exact hrel.hp.old b o hb hk
    · exact absurd hb (hrel.hp.own c b (by rw [hc]; rfl) hk)
  · intro b o hk
    rcases hk with hk | ⟨_, hk⟩
    · exact hrel.hp.val b o hk
    · exact hk
  · intro id ob hid
    obtain ⟨o, ho, hnl⟩ := FzS_ok hs id ob hid
    have hO := hrel.hp.obs id o ho
    cases ob with
    | x o1 =>
      have : o = .x o1 := by
        rcases hnl with h | ⟨cs1, cs', _, h2, _⟩
        · exact h
        · cases h2
      subst this
      have hrb := rsSg_get hr.2 _ _ hid
      obtain ⟨b, k1, k2, k3, k4⟩ := hO
      refine ⟨b, k1, k2, ?_, hK _ _ b hid (by rw [k1]; rfl) k4⟩
      cases o1 with
      | map kt kvs => obtain ⟨es, h1, h2, h3, h4⟩ := k3; exact ⟨es, h1, h2, fun i k x hi => let ⟨e, a, c, d, f⟩ := h3 i k x hi; ⟨e, a, c, d, vr1 _ _ (rsAV1_dat (h4.2.2 i k x hi)) f⟩, h4⟩
      | mapIter m since seen last =>
        cases m with
        | some m => obtain ⟨mb, h1, h2⟩ := k3; exact ⟨mb, h1, sr1 (.h m) _ hrb h2⟩
        | none => exact k3
      | strIter s pos => exact k3
      | loop st pend params assign body nt fr dfr =>
        simp only [rsOb, rsO2, Bool.and_eq_true] at hrb
        obtain ⟨f, tmps, d, h1, h2, h3, h4⟩ := k3
        exact ⟨f, tmps, d, h1, h2, fun t v ht => ⟨(h3 t v ht).1, vr _ _ (rsFr_get hrb.1 t v ht) (h3 t v ht).2⟩, sr1 (.h dfr) _ hrb.2 h4⟩
      | dfr => exact k3
    | chain e0 sz0 st0 xs0 =>
      have : o = .chain e0 sz0 st0 xs0 := by
        rcases hnl with h | ⟨cs1, cs', _, h2, _⟩
        · exact h
        · cases h2
      subst this
      obtain ⟨vs, h1, h2, h3, h4, h5⟩ := hO
      exact ⟨vs, h1, h2, h3, fun i x hi j p hp => let ⟨v, q, r⟩ := h4 i x hi j p hp; ⟨v, q, r.mono hext⟩, fun b hb => hK _ _ b hid hb (h5 b hb)⟩
    | box cs' =>
      have hrb := rsSg_get hr.2 _ _ hid
      simp only [rsOb, List.all_eq_true] at hrb
      rcases hnl with h | ⟨cs, cs1, h1, h2, h3⟩
      · subst h
        obtain ⟨b, vs, T, k1, k2, k3, k4, k5, k6⟩ := hO
        exact ⟨b, vs, T, k1, k2, k3, k4, fun i s hi => let ⟨v, p, q⟩ := k5 i s hi; ⟨v, p, sr _ _ (hrb s (List.mem_of_getElem? hi)) q⟩, hK _ _ b hid (by rw [k1]; rfl) k6⟩
      · subst h1; cases h2
        obtain ⟨b, vs, T, k1, k2, k3, k4, k5, k6⟩ := hO
        obtain ⟨hl, hg⟩ := FzCells_get h3
        refine ⟨b, vs, T, k1, k2, k3, by rw [k4, hl], fun i s hi => ?_, hK _ _ b hid (by rw [k1]; rfl) k6⟩
        obtain ⟨s0, hs0, hnl0⟩ := hg i s hi
        obtain ⟨v, p, q⟩ := k5 i s0 hs0
        refine ⟨v, p, ?_⟩
        rcases hnl0 with rfl | ⟨n, rfl, hn1, rfl⟩
        · exact sr _ _ (hrb _ (List.mem_of_getElem? hi)) q
        · exact srfz _ _ hn1 q
  · intro t v' ht
    obtain ⟨v, hv, hnl⟩ := FzF_ok hf t v' ht
    obtain ⟨hlt, hvr⟩ := hrel.fr t v hv
    refine ⟨hlt, ?_⟩
    rcases hnl with rfl | ⟨n, rfl, hn1, rfl⟩
    · exact vr _ _ (rsFr_get hr.1 t v ht) hvr
    · exact srfz _ _ hn1 hvr
end
end Go.QL
namespace Go.Proofs.YtfpaonfddaeamaaGreatDoor
open Go Go.QL Go.RowKit
set_option maxHeartbeats 3200000
attribute [local irreducible] ACall FnC YC FnP PCall AWx EndX DCall
theorem must_t {b : Bool} (h : b = true) {σ : Sg} : PCall Tryz.prog 18 [bv b] σ (fun r σ' => r = .t [] ∧ σ' = σ) (fun _ _ => False) :=
  (must_fn b).mono (fun _ _ h => ⟨h.1, h.2.1⟩) fun v σ' ⟨_, _, h2⟩ => by rw [h] at h2; cases h2
theorem must_f {b : Bool} (h : b = false) {σ : Sg} : PCall Tryz.prog 18 [bv b] σ (fun _ _ => False) (fun v σ' => v = errV ∧ σ' = σ) :=
  (must_fn b).mono (fun _ _ ⟨_, _, h2⟩ => by rw [h] at h2; cases h2) fun v σ' h => ⟨h.1, h.2.1⟩
theorem nums_t {wd : ByteArray} {ws : List ByteArray} {l : List Int} (hl : ws.length ≤ 4096) (hsz : ∀ w ∈ ws, w.size ≤ 1000000) (h : numsP ws = some l) {σ : Sg} :
    PCall Tryz.prog 20 [strs (wd :: ws)] σ (fun r σ' => r = sl l ∧ σ' = σ) (fun _ _ => False) := by
  have := (numbers_fn wd ws hl hsz).call (σ := σ) rfl (by rw [h]; rfl)
  rw [h] at this
  exact this.mono (fun _ _ ⟨h1, h2⟩ => ⟨(Option.some.inj h1).symm, h2⟩) fun _ _ ⟨h1, _⟩ => by cases h1
theorem nums_f {wd : ByteArray} {ws : List ByteArray} (hl : ws.length ≤ 4096) (hsz : ∀ w ∈ ws, w.size ≤ 1000000) (h : numsP ws = none) {σ : Sg} :
    PCall Tryz.prog 20 [strs (wd :: ws)] σ (fun _ _ => False) (fun v σ' => v = errV ∧ σ' = σ) := by
  have := (numbers_fn wd ws hl hsz).call (σ := σ) rfl (by rw [h]; rfl)
  rw [h] at this
  exact this.mono (fun _ _ ⟨h1, h2⟩ => by cases h1) fun _ _ ⟨_, h1, h2⟩ => ⟨h1, h2⟩
def RdR (s : ByteArray) (r : AV) (σ' : Sg) : Prop := LeW r (.t [netAV (readR s).1, iv .i64 (readR s).2]) ∧ σ' = []
theorem pan_end (s : ByteArray) (hR : readR s = (zeroN, 6)) (st k k' : Nat) (xs : List (List PV)) (e a c : PV) {fr : Fr} {τ : Sg} (hf : SubF fr [(3, .x (.b 3 0)), (2, .x (.b 2 0))]) (hs : SubS τ (panS 900 st xs (.d e) (.d a) (.o 900 k k') (.d c))) :
    EndStep Tryz.prog Tt [.cell 2 25, .cell 3 26] [] [3, 2] [] (RdR s) 16 [] [.b 2 0, .b 3 0] (.panicking [{ v := errV, recovered := false }]) fr τ := by
  refine ⟨_, _, hf, hs, by kernel_rfl, _, rec_pan .., ?_⟩
  rintro _ _ ⟨rfl, rfl⟩
  refine ⟨rfl, .t [.a [.d (.v (.int .i64 0)), .d (.v (.slice none 0 0)), .d (.v (.slice none 0 0))], iv .i64 6], [], trivial, rfl, rfl, ?_, rfl⟩
  rw [hR]
  exact ⟨⟨.inl rfl, .inr ⟨rfl, _, rfl⟩, .inr ⟨rfl, _, rfl⟩, trivial⟩, .inl rfl, trivial⟩
theorem rec_pan0 (e a b c : SV) : DCall Tryz.prog 16 ([].map AV.x ++ [SV.b 2 0, SV.b 3 0].map .x) [(3, .box [e]), (2, .box [a, b, c])] (.panicking [{ v := errV, recovered := false }])
    (fun u' σ' => u' = .panicking [{ v := errV, recovered := true }] ∧ σ' = [(3, .box [.d (.v (.int .i64 6))]), (2, .box [.d (.v (.int .i64 0)), .d (.v (.slice none 0 0)), .d (.v (.slice none 0 0))])]) := by
  refine DCall_of_recover hTt (.some _) rfl Tryz.func16 rfl rfl rfl (by kernel_rfl) (res := []) rfl Tryz.ntmps16 (by simp) fun w0 K0 B => ?_
  conv => whnf
  repeat' first | (with_reducible exact trivial) | (exact impA) | ((with_reducible refine And.intro (b := allN _ _ _) ?_ ?_) <;> conv => whnf) | ((refine AW_drawP hTt hMix (id := 2) [0, 0, 2, 1, 15] (by kernel_rfl) [] [(3, .box [.d (.v (.int .i64 6))]), (2, .box [.d (.v (.int .i64 0)), .d (.v (.slice none 0 0)), .d (.v (.slice none 0 0))])] ?_ ?_) <;> conv => whnf) | ((with_reducible refine AW_regionP hTt (id := 1) ?_); conv => whnf) | with_reducible refine AW_seq ?_ | (refine And.intro ifc_any ?_; conv => whnf) | (refine And.intro conc_errno ?_; conv => whnf) | (refine And.intro (rfl : _ = 26) ?_; conv => whnf) | (refine AW_cond rfl (fun _ => ?_) (fun hb => absurd hb (by decide))) | ((refine andA ?_); conv => whnf) | fail
  exact ⟨_, [(3, .box [.d (.v (.int .i64 6))]), (2, .box [.d (.v (.int .i64 0)), .d (.v (.slice none 0 0)), .d (.v (.slice none 0 0))])], ⟨rfl, rfl, trivial⟩, rfl, rfl, rfl, rfl⟩
theorem pan_end0 (s : ByteArray) (hR : readR s = (zeroN, 6)) (e a b c : PV) {fr : Fr} {τ : Sg} (hf : SubF fr [(3, .x (.b 3 0)), (2, .x (.b 2 0))]) (hs : SubS τ [(3, .box [.d e]), (2, .box [.d a, .d b, .d c])]) :
    EndStep Tryz.prog Tt [.cell 2 25, .cell 3 26] [] [3, 2] [] (RdR s) 16 [] [.b 2 0, .b 3 0] (.panicking [{ v := errV, recovered := false }]) fr τ := by
  refine ⟨_, _, hf, hs, by kernel_rfl, _, rec_pan0 .., ?_⟩
  rintro _ _ ⟨rfl, rfl⟩
  refine ⟨rfl, .t [.a [.d (.v (.int .i64 0)), .d (.v (.slice none 0 0)), .d (.v (.slice none 0 0))], iv .i64 6], [], trivial, rfl, rfl, ?_, rfl⟩
  rw [hR]
  exact ⟨⟨.inl rfl, .inr ⟨rfl, _, rfl⟩, .inr ⟨rfl, _, rfl⟩, trivial⟩, .inl rfl, trivial⟩
theorem canon_i64 {w : ByteArray} {v : Int} (h : canon w = some v) : i64 v := by
  unfold canon at h
  split at h
  · rename_i x hx
    have := Lib.atoiAll_bounds hx
    cases hc : ((⟨(Lib.itoa x).toArray⟩ : ByteArray).toList == w.toList) with
    | true => rw [hc] at h; cases h; exact this
    | false => rw [hc] at h; cases h
  · cases h
theorem numsP_i64 : ∀ {ws : List ByteArray} {l : List Int}, numsP ws = some l → ∀ v ∈ l, i64 v
  | [], l, h, v, hv => by cases h; cases hv
  | w :: r, l, h, v, hv => by
    unfold numsP at h
    cases hc : canon w with
    | none => rw [hc] at h; cases h
    | some x =>
      cases hr : numsP r with
      | none => rw [hc, hr] at h; cases h
      | some q =>
        rw [hc, hr] at h
        cases h
        rcases List.mem_cons.1 hv with rfl | hv
        · exact canon_i64 hc
        · exact numsP_i64 hr v hv
theorem kidx (w : ByteArray) : Lib.idxOfS kindsB w = -1 ∨ Lib.idxOfS kindsB w = 0 ∨ Lib.idxOfS kindsB w = 1 ∨ Lib.idxOfS kindsB w = 2 ∨ Lib.idxOfS kindsB w = 3 ∨ Lib.idxOfS kindsB w = 4 ∨ Lib.idxOfS kindsB w = 5 := by
  unfold Lib.idxOfS kindsB
  simp only [List.map_cons, List.map_nil, Lib.idxFromS]
  repeat' split
  all_goals simp
theorem condK_t {K n : Int} (h : (0 < K ∧ K < 4 ∧ n = 2) ∨ (4 ≤ K ∧ n = 1)) : (bif decide (K > 0) then (bif (bif decide (K < 4) then n == 2 else false) then true else (bif decide (K ≥ 4) then n == 1 else false)) else false) = true := by
  rcases h with ⟨h1, h2, rfl⟩ | ⟨h1, rfl⟩
  · simp [h1, h2]
  · have : 0 < K := by omega
    simp [this, h1]
theorem condK_f {K n : Int} (h : ¬ ((0 < K ∧ K < 4 ∧ n = 2) ∨ (4 ≤ K ∧ n = 1))) : (bif decide (K > 0) then (bif (bif decide (K < 4) then n == 2 else false) then true else (bif decide (K ≥ 4) then n == 1 else false)) else false) = false := by
  cases hc : (bif decide (K > 0) then (bif (bif decide (K < 4) then n == 2 else false) then true else (bif decide (K ≥ 4) then n == 1 else false)) else false) with
  | false => rfl
  | true =>
    refine absurd ?_ h
    simp only [Bool.cond_eq_ite, decide_eq_true_eq, Bool.ite_eq_true_distrib] at hc
    repeat' (split at hc)
    all_goals simp_all <;> omega
theorem and_tt {a b : Bool} (h1 : a = true) (h2 : b = true) : (a && b) = true := by rw [h1, h2]; rfl
theorem and_tf {a b : Bool} (h1 : a = true) (h2 : b = false) : (a && !b) = true := by rw [h1, h2]; rfl
theorem beq_ba {x y : ByteArray} (h : x = y) : (x.toList == y.toList) = true := (Lib.bytes_beq_iff _ _).2 h
theorem beq_ba_f {x y : ByteArray} (h : x ≠ y) : (x.toList == y.toList) = false := (Lib.bytes_beq_false_iff _ _).2 h
def finR : Option NetT → NetT × Int
  | none => (zeroN, 6)
  | some n => if (checkR n).2.2 = 0 then (n, 0) else (zeroN, 6)
theorem read_call (s : ByteArray) : ACall Tryz.prog 7 [sv s] [] (RdR s) := by
  refine ACall_of_AWx [] Tryz.func7 rfl (by kernel_rfl) Tryz.ntmps7 (by simp) fun w0 K0 g w hL => ?_
  dsimp only [entry]
  refine AWx_seq (Q := PostM Tt [.cell 2 25, .cell 3 26] [] [] (RdR s)) ?_ (fun e fr τ g' a' w' hr hq => EndX_plain (σ := []) (res := [.cell 2 25, .cell 3 26]) (dfs := []) hTt (by rfl) hr hq)
  repeat' first | ((with_reducible refine AW_region hTt ?_); conv => whnf) | fail
  refine AWx_seq (Q := PostM Tt [.cell 2 25, .cell 3 26] [] [] (RdR s)) ?_ (fun e fr τ g' a' w' hr hq => EndX_plain (σ := []) (res := [.cell 2 25, .cell 3 26]) (dfs := []) hTt (by rfl) hr hq)
  repeat' first | with_reducible refine AW_seq ?_ | ((first | with_reducible refine AW_skip ?_ | with_reducible refine AW_ret ?_ | with_reducible refine AW_region hTt ?_ | fail); conv => whnf) | (refine AW_cond rfl (fun hb => ?_) (fun hb => ?_) <;> first | (replace hb := of_decide_eq_true hb; try simp only [List.length_map] at hb) | (replace hb := of_decide_eq_false hb; try simp only [List.length_map] at hb) | (simp only [List.length_map, bne_iff_ne, ne_eq, beq_iff_eq, bne_eq_false_iff_eq, beq_eq_false_iff_ne, decide_eq_true_eq, decide_eq_false_iff_not, Bool.not_eq_true', Bool.not_eq_false', Int.natCast_inj] at hb) | skip) | fail
  · have hR : readR s = (zeroN, 3) := by
      unfold readR
      rw [if_pos (by omega)]
    refine ⟨[(3, .x (.b 3 0)), (2, .x (.b 2 0))], [(3, .box [.d (.v (.int .i64 3))]), (2, .box [.d (.v (.int .i64 0)), .d (.v (.slice none 0 0)), .d (.v (.slice none 0 0))])], ⟨rfl, rfl, trivial⟩, ⟨rfl, rfl, trivial⟩, rfl, .t [.a [.d (.v (.int .i64 0)), .d (.v (.slice none 0 0)), .d (.v (.slice none 0 0))], iv .i64 3], [], trivial, rfl, rfl, ?_, rfl⟩
    rw [hR]
    exact ⟨⟨.inl rfl, .inr ⟨rfl, _, rfl⟩, .inr ⟨rfl, _, rfl⟩, trivial⟩, .inl rfl, trivial⟩
  · refine AWx_defer hTt rfl ?_
    conv => whnf
    refine ⟨rfl, ?_⟩
    conv => whnf
    refine ⟨rfl, fun B' d hd => ?_⟩
    conv => whnf
    refine AWx_of (Q := PostDf Tryz.prog Tt [.cell 2 25, .cell 3 26] [] [3, 2] [] (RdR s) 16 [] [.b 2 0, .b 3 0]) ?_ (fun e fr τ g' a' w' hr hq => EndX_rec (σ := []) (res := [.cell 2 25, .cell 3 26]) hTt hL (by rfl) hd hr hq)
    refine AW_imp (Imp.nil 900 38 3 (fr' := [(3, .x (.b 3 0)), (2, .x (.b 2 0)), (0, sv s)]) (σ' := [(3, .box [.d (.v (.int .i64 0))]), (2, .box [.d (.v (.int .i64 0)), .o 900 0 0, .d (.v (.slice none 0 0))])]) rfl ?_ ?_ rfl rfl) ?_
    · exact ⟨⟨_, rfl, .inl rfl⟩, ⟨_, rfl, .inl rfl⟩, ⟨_, rfl, .inl rfl⟩, trivial⟩
    · exact ⟨⟨_, rfl, .inl rfl⟩, ⟨_, rfl, .inr ⟨_, _, rfl, rfl, .inl rfl, .inr ⟨rfl, rfl⟩, .inl rfl, trivial⟩⟩, trivial⟩
    have cut := cut_fn s nlB (by omega)
    cases hsf : Lib.hasSuffix s.data.toList nlB.data.toList with
    | false =>
      have hR : readR s = (zeroN, 6) := by
        unfold readR
        rw [if_neg (by omega), if_pos hsf]
      rw [hsf] at cut
      repeat' first | ((with_reducible refine AW_regionP hTt (id := 5) ?_); conv => whnf) | with_reducible refine AW_seq ?_ | ((first | with_reducible refine AW_region hTt ?_ | ((refine ⟨_, (cut).call rfl rfl, ?_⟩); (rintro _ _ ⟨rfl, rfl⟩)) | fail); conv => whnf) | ((refine ⟨_, _, must_f rfl, ?_, ?_⟩) <;> first | (rintro _ _ ⟨rfl, rfl⟩; conv => whnf) | (exact fun _ _ h => h.elim)) | fail
      exact pan_end s hR 0 0 0 [] _ _ _ ⟨rfl, rfl, trivial⟩ ⟨rfl, rfl, rfl, trivial⟩
    | true =>
      rw [hsf] at cut
      have hbs := bodyOf_size s
      have hpl := pieces_len (bodyOf s) nlB (by decide)
      have hps := pieces_size (bodyOf s) nlB
      have spl : FnC Tryz.prog 19 [sv (bodyOf s), sv nlB] (strs (pieces (bodyOf s) nlB)) := split_fn (bodyOf s) nlB (by omega) (by decide)
      have hR0 : readR s = if (pieces (bodyOf s) nlB).length < 2 then (zeroN, 6) else finR (runRows (pieces (bodyOf s) nlB).length 0 zeroN (pieces (bodyOf s) nlB)) := by
        unfold readR
        rw [if_neg (by omega), if_neg (by rw [hsf]; decide)]
        rfl
      generalize hrw : pieces (bodyOf s) nlB = rows at hpl hps spl hR0
      have hlen : (strsPV rows).length = rows.length := by simp [strsPV]
      by_cases h2 : rows.length < 2
      · rw [if_pos h2] at hR0
        have hb : decide (((strsPV rows).length : Int) ≥ 2) = false := by rw [hlen]; exact decide_eq_false (by omega)
        repeat' first | ((first | with_reducible refine AW_regionP hTt (id := 5) ?_ | with_reducible refine AW_regionP hTt (id := 7) ?_ | fail); conv => whnf) | with_reducible refine AW_seq ?_ | ((first | with_reducible refine AW_region hTt ?_ | ((refine ⟨_, (cut).call rfl rfl, ?_⟩); (rintro _ _ ⟨rfl, rfl⟩)) | fail); conv => whnf) | ((refine ⟨_, _, must_t rfl, ?_, ?_⟩) <;> first | (rintro _ _ ⟨rfl, rfl⟩; conv => whnf) | (exact fun _ _ h => h.elim)) | ((refine ⟨_, (spl).call rfl rfl, ?_⟩); (rintro _ _ ⟨rfl, rfl⟩); conv => whnf) | ((refine ⟨_, _, must_f hb, ?_, ?_⟩) <;> first | (rintro _ _ ⟨rfl, rfl⟩; conv => whnf) | (exact fun _ _ h => h.elim)) | (refine fun hln => ?_; (try rw [List.length_map] at hln); unfold maxLen at hln; conv => whnf) | fail
        exact pan_end s hR0 0 0 0 [] _ _ _ ⟨rfl, rfl, trivial⟩ ⟨rfl, rfl, rfl, trivial⟩
      · rw [if_neg h2] at hR0
        have hb : decide (((strsPV rows).length : Int) ≥ 2) = true := by rw [hlen]; exact decide_eq_true (by omega)
        repeat' first | ((first | with_reducible refine AW_regionP hTt (id := 5) ?_ | with_reducible refine AW_regionP hTt (id := 7) ?_ | fail); conv => whnf) | with_reducible refine AW_seq ?_ | with_reducible refine AW_block ?_ | ((first | with_reducible refine AW_region hTt ?_ | ((refine ⟨_, (cut).call rfl rfl, ?_⟩); (rintro _ _ ⟨rfl, rfl⟩)) | fail); conv => whnf) | ((refine ⟨_, _, must_t rfl, ?_, ?_⟩) <;> first | (rintro _ _ ⟨rfl, rfl⟩; conv => whnf) | (exact fun _ _ h => h.elim)) | ((refine ⟨_, (spl).call rfl rfl, ?_⟩); (rintro _ _ ⟨rfl, rfl⟩); conv => whnf) | ((refine ⟨_, _, must_t hb, ?_, ?_⟩) <;> first | (rintro _ _ ⟨rfl, rfl⟩; conv => whnf) | (exact fun _ _ h => h.elim)) | (refine fun hln => ?_; (try rw [List.length_map] at hln); unfold maxLen at hln; conv => whnf) | fail
        refine AW_loop (fun x : Nat × NetT × PV × Nat => [(33, iv .i64 x.1), (32, iv .i64 rows.length), (31, strs rows), (6, strs rows), (3, .x (.b 3 0)), (2, .x (.b 2 0))])
          (fun x => panS 900 x.2.2.2 (x.2.1.gates.map gPV) (.d (.v (.int .i64 0))) (.d (.v (.int .i64 x.2.1.inn))) (.o 900 x.2.2.2 x.2.2.2) (.d x.2.2.1))
          (fun x => x.1 ≤ rows.length ∧ runRows rows.length 0 zeroN rows = runRows rows.length x.1 x.2.1 (rows.drop x.1) ∧ (x.1 < rows.length → x.2.2.1 = .v (.slice none 0 0) ∧ x.2.1.out = []) ∧ (rows.length ≤ x.1 → x.2.2.1 = intsPV x.2.1.out) ∧ (x.2.1.gates.length = x.2.2.2 ∧ x.2.2.2 ≤ x.1) ∧ i64 x.2.1.inn)
          (fun x => rows.length - x.1) (0, zeroN, .v (.slice none 0 0), 0) ⟨Nat.zero_le _, rfl, fun _ => ⟨rfl, rfl⟩, fun h => absurd h (show ¬ rows.length ≤ 0 by omega), ⟨rfl, Nat.zero_le _⟩, by unfold i64; decide⟩ impA ?_
        rintro ⟨i, n, o, c⟩ ⟨hi, hrun, hlt, hend, ⟨hgc, hgl⟩, hi64⟩
        dsimp only at hi hrun hlt hend hgc hgl hi64 ⊢
        rcases Nat.lt_or_ge i rows.length with hil | hil
        · obtain ⟨rfl, hno⟩ := hlt hil
          have hz := hps rows[i] (List.getElem_mem hil)
          have hq := pieces_len rows[i] spB (by decide)
          have hqs := pieces_size rows[i] spB
          have spl2 : FnC Tryz.prog 19 [sv rows[i], sv spB] (strs (pieces rows[i] spB)) := split_fn _ _ (by omega) (by decide)
          rw [List.drop_eq_getElem_cons hil] at hrun
          have hbad : stepRow rows.length i rows[i] n = none → readR s = (zeroN, 6) := fun h => by rw [hR0, hrun, runRows, h]; rfl
          have hgood : ∀ n', stepRow rows.length i rows[i] n = some n' → runRows rows.length 0 zeroN rows = runRows rows.length (i + 1) n' (rows.drop (i + 1)) := fun n' h => by rw [hrun, runRows, h]
          clear hrun hlt hend
          have hstep : stepRow rows.length i rows[i] n = (match pieces rows[i] spB with
            | [] => none
            | w0 :: ws =>
              match numsP ws with
              | none => none
              | some l =>
                if i = 0 then (if w0 = inputsB ∧ l.length = 1 then some { n with inn := l.getD 0 0 } else none)
                else if i + 1 = rows.length then (if w0 = outputsB then some { n with out := l } else none)
                else match gateK w0 l with
                  | some g => some { n with gates := n.gates ++ [g] }
                  | none => none) := rfl
          generalize hpp : pieces rows[i] spB = pp at hq hqs spl2 hstep
          match pp, hq, hqs, spl2, hstep with
          | w0 :: ws, hq, hqs, spl2, hstep =>
          have hwl : ws.length ≤ 4096 := by have := hq.2; simp only [List.length_cons] at this; omega
          have hwz : ∀ w ∈ ws, w.size ≤ 1000000 := fun w hw => by have := hqs w (by simp [hw]); omega
          dsimp only at hstep
          cases hN : numsP ws with
          | none =>
            rw [hN] at hstep
            have nf := fun {σ : Sg} => nums_f (wd := w0) (σ := σ) hwl hwz hN
            repeat' first | ((with_reducible refine AW_regionP hTt (id := 12) ?_); conv => whnf) | with_reducible refine AW_seq ?_ | with_reducible refine AW_block ?_ | ((first | with_reducible refine AW_skip ?_ | with_reducible refine AW_exit ?_ | with_reducible refine AW_region hTt ?_ | fail); conv => whnf) | (exact absurd hb (by omega)) | ((refine ⟨_, (spl2).call rfl rfl, ?_⟩); (rintro _ _ ⟨rfl, rfl⟩); conv => whnf) | ((refine ⟨_, _, nf, ?_, ?_⟩) <;> first | (rintro _ _ ⟨rfl, rfl⟩; conv => whnf) | (exact fun _ _ h => h.elim)) | (refine AW_cond rfl (fun hb => ?_) (fun hb => ?_) <;> first | (replace hb := of_decide_eq_true hb; try simp only [List.length_map] at hb) | (replace hb := of_decide_eq_false hb; try simp only [List.length_map] at hb) | (simp only [List.length_map, bne_iff_ne, ne_eq, beq_iff_eq, bne_eq_false_iff_eq, beq_eq_false_iff_ne, decide_eq_true_eq, decide_eq_false_iff_not, Bool.not_eq_true', Bool.not_eq_false', Int.natCast_inj] at hb) | skip) | ((first | refine andA ?_ | with_reducible refine Exists.intro _ (And.intro (gd_any (And.intro (by omega) (map_get (by omega)))) ?_) | fail); conv => whnf) | fail
            exact pan_end s (hbad hstep) _ _ _ _ _ _ _ ⟨rfl, rfl, trivial⟩ ⟨rfl, rfl, rfl, trivial⟩
          | some l =>
            rw [hN] at hstep
            dsimp only at hstep
            have nt := fun {σ : Sg} => nums_t (wd := w0) (σ := σ) hwl hwz hN
            have hl64 := numsP_i64 hN
            clear hpp hwz hqs hN spl cut hsf hps hz
            by_cases h0 : i = 0
            · rw [if_pos h0] at hstep
              by_cases hA : w0 = inputsB ∧ l.length = 1
              · rw [if_pos hA] at hstep
                obtain ⟨hw0, hl1⟩ := hA
                obtain ⟨x, rfl⟩ : ∃ x, l = [x] := List.length_eq_one_iff.1 hl1
                have hm : (bif w0.toList == inputsB.toList then (((([x] : List Int).map fun n => [PV.v (.int .i64 n)]).length : Int) == 1) else false) = true := by rw [beq_ba hw0]; rfl
                repeat' first | ((first | with_reducible refine AW_regionP hTt (id := 12) ?_ | with_reducible refine AW_regionP hTt (id := 20) ?_ | fail); conv => whnf) | with_reducible refine AW_seq ?_ | with_reducible refine AW_block ?_ | ((first | with_reducible refine AW_skip ?_ | with_reducible refine AW_exit ?_ | with_reducible refine AW_region hTt ?_ | fail); conv => whnf) | (exact absurd hb (by omega)) | ((refine ⟨_, (spl2).call rfl rfl, ?_⟩); (rintro _ _ ⟨rfl, rfl⟩); conv => whnf) | ((refine ⟨_, _, nt, ?_, ?_⟩) <;> first | (rintro _ _ ⟨rfl, rfl⟩; conv => whnf) | (exact fun _ _ h => h.elim)) | ((refine ⟨_, _, must_t hm, ?_, ?_⟩) <;> first | (rintro _ _ ⟨rfl, rfl⟩; conv => whnf) | (exact fun _ _ h => h.elim)) | (refine AW_cond rfl (fun hb => ?_) (fun hb => ?_) <;> first | (replace hb := of_decide_eq_true hb; try simp only [List.length_map] at hb) | (replace hb := of_decide_eq_false hb; try simp only [List.length_map] at hb) | (simp only [List.length_map, bne_iff_ne, ne_eq, beq_iff_eq, bne_eq_false_iff_eq, beq_eq_false_iff_ne, decide_eq_true_eq, decide_eq_false_iff_not, Bool.not_eq_true', Bool.not_eq_false', Int.natCast_inj] at hb) | skip) | ((first | refine ⟨_, wrap_of (by first | omega | (simp only [List.length_map]; omega)), ?_⟩ | refine andA ?_ | with_reducible refine Exists.intro _ (And.intro (gd_any (And.intro (by omega) (map_get (by omega)))) ?_) | with_reducible refine Exists.intro _ (And.intro (gd_any (And.intro (by omega) (map_get' (by omega) (by omega)))) ?_) | fail); conv => whnf) | fail
                exact ⟨(i + 1, { n with inn := x }, .v (.slice none 0 0), c), ⟨by omega, hgood _ hstep, fun _ => ⟨rfl, hno⟩, fun h => absurd h (show ¬ rows.length ≤ i + 1 by omega), ⟨hgc, by show c ≤ i + 1; omega⟩, hl64 x (by simp)⟩, by show rows.length - (i + 1) < rows.length - i; omega, impA⟩
              · rw [if_neg hA] at hstep
                have hm : (bif w0.toList == inputsB.toList then (((l.map fun n => [PV.v (.int .i64 n)]).length : Int) == 1) else false) = false := by
                  cases hc : (w0.toList == inputsB.toList) with
                  | false => rfl
                  | true =>
                    have e := (Lib.bytes_beq_iff _ _).1 hc
                    simp only [cond_true, List.length_map, beq_eq_false_iff_ne, ne_eq]
                    exact fun h => hA ⟨e, by omega⟩
                repeat' first | ((first | with_reducible refine AW_regionP hTt (id := 12) ?_ | with_reducible refine AW_regionP hTt (id := 20) ?_ | fail); conv => whnf) | with_reducible refine AW_seq ?_ | with_reducible refine AW_block ?_ | ((first | with_reducible refine AW_skip ?_ | with_reducible refine AW_exit ?_ | with_reducible refine AW_region hTt ?_ | fail); conv => whnf) | (exact absurd hb (by omega)) | ((refine ⟨_, (spl2).call rfl rfl, ?_⟩); (rintro _ _ ⟨rfl, rfl⟩); conv => whnf) | ((refine ⟨_, _, nt, ?_, ?_⟩) <;> first | (rintro _ _ ⟨rfl, rfl⟩; conv => whnf) | (exact fun _ _ h => h.elim)) | ((refine ⟨_, _, must_f hm, ?_, ?_⟩) <;> first | (rintro _ _ ⟨rfl, rfl⟩; conv => whnf) | (exact fun _ _ h => h.elim)) | (refine AW_cond rfl (fun hb => ?_) (fun hb => ?_) <;> first | (replace hb := of_decide_eq_true hb; try simp only [List.length_map] at hb) | (replace hb := of_decide_eq_false hb; try simp only [List.length_map] at hb) | (simp only [List.length_map, bne_iff_ne, ne_eq, beq_iff_eq, bne_eq_false_iff_eq, beq_eq_false_iff_ne, decide_eq_true_eq, decide_eq_false_iff_not, Bool.not_eq_true', Bool.not_eq_false', Int.natCast_inj] at hb) | skip) | ((first | refine andA ?_ | with_reducible refine Exists.intro _ (And.intro (gd_any (And.intro (by omega) (map_get (by omega)))) ?_) | with_reducible refine Exists.intro _ (And.intro (gd_any (And.intro (by omega) (map_get' (by omega) (by omega)))) ?_) | fail); conv => whnf) | fail
                exact pan_end s (hbad hstep) _ _ _ _ _ _ _ ⟨rfl, rfl, trivial⟩ ⟨rfl, rfl, rfl, trivial⟩
            · rw [if_neg h0] at hstep
              by_cases hL : i + 1 = rows.length
              · rw [if_pos hL] at hstep
                by_cases hA : w0 = outputsB
                · rw [if_pos hA] at hstep
                  repeat' first | ((first | with_reducible refine AW_regionP hTt (id := 12) ?_ | with_reducible refine AW_regionP hTt (id := 23) ?_ | fail); conv => whnf) | with_reducible refine AW_seq ?_ | with_reducible refine AW_block ?_ | ((first | with_reducible refine AW_skip ?_ | with_reducible refine AW_exit ?_ | with_reducible refine AW_region hTt ?_ | refine AW_draw hTt hMix (id := 13) 4 false [0, 0, 2, 6, 15, 31] (by kernel_rfl) rfl rfl (by kernel_rfl) ?_ | fail); conv => whnf) | (exact absurd hb (by omega)) | ((refine ⟨_, (spl2).call rfl rfl, ?_⟩); (rintro _ _ ⟨rfl, rfl⟩); conv => whnf) | ((refine ⟨_, _, nt, ?_, ?_⟩) <;> first | (rintro _ _ ⟨rfl, rfl⟩; conv => whnf) | (exact fun _ _ h => h.elim)) | ((refine ⟨_, _, must_t (beq_ba hA), ?_, ?_⟩) <;> first | (rintro _ _ ⟨rfl, rfl⟩; conv => whnf) | (exact fun _ _ h => h.elim)) | (refine AW_cond rfl (fun hb => ?_) (fun hb => ?_) <;> first | (replace hb := of_decide_eq_true hb; try simp only [List.length_map] at hb) | (replace hb := of_decide_eq_false hb; try simp only [List.length_map] at hb) | (simp only [List.length_map, bne_iff_ne, ne_eq, beq_iff_eq, bne_eq_false_iff_eq, beq_eq_false_iff_ne, decide_eq_true_eq, decide_eq_false_iff_not, Bool.not_eq_true', Bool.not_eq_false', Int.natCast_inj] at hb) | skip) | ((first | refine ⟨_, wrap_of (by first | omega | (simp only [List.length_map]; omega)), ?_⟩ | refine andA ?_ | with_reducible refine Exists.intro _ (And.intro (gd_any (And.intro (by omega) (map_get (by omega)))) ?_) | with_reducible refine Exists.intro _ (And.intro (gd_any (And.intro (by omega) (map_get' (by omega) (by omega)))) ?_) | fail); conv => whnf) | (refine fun hln => ?_; (try rw [List.length_map] at hln); unfold maxLen at hln; conv => whnf) | fail
                  exact ⟨(i + 1, { n with out := l }, intsPV l, c), ⟨by omega, hgood _ hstep, fun h => absurd h (show ¬ i + 1 < rows.length by omega), fun _ => rfl, ⟨hgc, by show c ≤ i + 1; omega⟩, hi64⟩, by show rows.length - (i + 1) < rows.length - i; omega, impA⟩
                · rw [if_neg hA] at hstep
                  repeat' first | ((first | with_reducible refine AW_regionP hTt (id := 12) ?_ | with_reducible refine AW_regionP hTt (id := 23) ?_ | fail); conv => whnf) | with_reducible refine AW_seq ?_ | with_reducible refine AW_block ?_ | ((first | with_reducible refine AW_skip ?_ | with_reducible refine AW_exit ?_ | with_reducible refine AW_region hTt ?_ | refine AW_draw hTt hMix (id := 13) 4 false [0, 0, 2, 6, 15, 31] (by kernel_rfl) rfl rfl (by kernel_rfl) ?_ | fail); conv => whnf) | (exact absurd hb (by omega)) | ((refine ⟨_, (spl2).call rfl rfl, ?_⟩); (rintro _ _ ⟨rfl, rfl⟩); conv => whnf) | ((refine ⟨_, _, nt, ?_, ?_⟩) <;> first | (rintro _ _ ⟨rfl, rfl⟩; conv => whnf) | (exact fun _ _ h => h.elim)) | ((refine ⟨_, _, must_f (beq_ba_f hA), ?_, ?_⟩) <;> first | (rintro _ _ ⟨rfl, rfl⟩; conv => whnf) | (exact fun _ _ h => h.elim)) | (refine AW_cond rfl (fun hb => ?_) (fun hb => ?_) <;> first | (replace hb := of_decide_eq_true hb; try simp only [List.length_map] at hb) | (replace hb := of_decide_eq_false hb; try simp only [List.length_map] at hb) | (simp only [List.length_map, bne_iff_ne, ne_eq, beq_iff_eq, bne_eq_false_iff_eq, beq_eq_false_iff_ne, decide_eq_true_eq, decide_eq_false_iff_not, Bool.not_eq_true', Bool.not_eq_false', Int.natCast_inj] at hb) | skip) | ((first | refine ⟨_, wrap_of (by first | omega | (simp only [List.length_map]; omega)), ?_⟩ | refine andA ?_ | with_reducible refine Exists.intro _ (And.intro (gd_any (And.intro (by omega) (map_get (by omega)))) ?_) | with_reducible refine Exists.intro _ (And.intro (gd_any (And.intro (by omega) (map_get' (by omega) (by omega)))) ?_) | fail); conv => whnf) | (refine fun hln => ?_; (try rw [List.length_map] at hln); unfold maxLen at hln; conv => whnf) | fail
                  exact pan_end s (hbad hstep) _ _ _ _ _ _ _ ⟨rfl, rfl, trivial⟩ ⟨rfl, rfl, rfl, trivial⟩
              · rw [if_neg hL] at hstep
                have kn : FnC Tryz.prog 13 [] (strs kindsB) := kinds_fn
                have ix := idxs_fn kindsB w0 (by decide)
                have hK := kidx w0
                generalize hKe : Lib.idxOfS kindsB w0 = K at ix hK
                by_cases hC : (0 < K ∧ K < 4 ∧ ((l.map fun n => [PV.v (.int .i64 n)]).length : Int) = 2) ∨ (4 ≤ K ∧ ((l.map fun n => [PV.v (.int .i64 n)]).length : Int) = 1)
                · have hm := condK_t hC
                  have hCl : (∃ x, l = [x] ∧ 4 ≤ K) ∨ ∃ x y, l = [x, y] ∧ 0 < K ∧ K < 4 := by
                    simp only [List.length_map] at hC
                    match l, hC with
                    | [], hC => simp at hC
                    | [x], hC => exact .inl ⟨x, rfl, by simp at hC; omega⟩
                    | [x, y], hC => exact .inr ⟨x, y, rfl, by simp at hC; omega⟩
                    | _ :: _ :: _ :: _, hC => simp at hC; omega
                  rcases hCl with ⟨x, rfl, hKk⟩ | ⟨x, y, rfl, hKk⟩
                  · have hKk : 4 ≤ K := by omega
                    have hg0 : gateK w0 [x] = some (⟨K, x, 0⟩ : GateT) := by
                      unfold gateK
                      rw [hKe]
                      exact if_pos hKk
                    rw [hg0] at hstep
                    have hgl2 : n.gates.length = c := hgc
                    have e : ((n.gates.map gPV).take c ++ [gPV (⟨K, x, 0⟩ : GateT)]) = (n.gates ++ [(⟨K, x, 0⟩ : GateT)]).map gPV := by
                      rw [List.take_of_length_le (by rw [List.length_map]; omega), List.map_append]; rfl
                    repeat' first | ((first | with_reducible refine AW_regionP hTt (id := 12) ?_ | with_reducible refine AW_regionP hTt (id := 14) ?_ | fail); conv => whnf) | with_reducible refine AW_seq ?_ | with_reducible refine AW_block ?_ | ((first | with_reducible refine AW_skip ?_ | with_reducible refine AW_exit ?_ | with_reducible refine AW_region hTt ?_ | refine AW_draw hTt hMix (id := 13) 4 false [0, 0, 2, 6, 15, 31] (by kernel_rfl) rfl rfl (by kernel_rfl) ?_ | fail); conv => whnf) | (exact absurd hb (by omega)) | (refine AW_cond rfl (fun hb => absurd (show false = true from hb) (by decide)) (fun _ => ?_)) | ((refine ⟨_, (spl2).call rfl rfl, ?_⟩); (rintro _ _ ⟨rfl, rfl⟩); conv => whnf) | ((refine ⟨_, _, nt, ?_, ?_⟩) <;> first | (rintro _ _ ⟨rfl, rfl⟩; conv => whnf) | (exact fun _ _ h => h.elim)) | ((first | refine ⟨_, fun _ => (kn).call rfl rfl, ?_⟩ | ((refine ⟨_, (ix).call rfl rfl, ?_⟩); (rintro _ _ ⟨rfl, rfl⟩)) | refine ⟨[.v (.int .i64 x)], gd_any ⟨by decide, rfl⟩, ?_⟩ | refine And.intro ?_ ?_; focus (first | (exact trivial) | (exact fun h => h) | (exact and_tt) | (exact and_tf) | (exact fun h _ => h) | fail) | fail); conv => whnf) | ((refine ⟨_, _, must_t hm, ?_, ?_⟩) <;> first | (rintro _ _ ⟨rfl, rfl⟩; conv => whnf) | (exact fun _ _ h => h.elim)) | (refine AW_cond rfl (fun hb => ?_) (fun hb => ?_) <;> first | (replace hb := of_decide_eq_true hb; try simp only [List.length_map] at hb) | (replace hb := of_decide_eq_false hb; try simp only [List.length_map] at hb) | (simp only [List.length_map, bne_iff_ne, ne_eq, beq_iff_eq, bne_eq_false_iff_eq, beq_eq_false_iff_ne, decide_eq_true_eq, decide_eq_false_iff_not, Bool.not_eq_true', Bool.not_eq_false', Int.natCast_inj] at hb) | skip) | ((first | refine ⟨_, wrap_of (by first | omega | (simp only [List.length_map]; omega)), ?_⟩ | refine andA ?_ | with_reducible refine Exists.intro _ (And.intro (gd_any (And.intro (by omega) (map_get (by omega)))) ?_) | with_reducible refine Exists.intro _ (And.intro (gd_any (And.intro (by omega) (map_get' (by omega) (by omega)))) ?_) | fail); conv => whnf) | ((refine And.intro (by refine ⟨?_, ?_, ?_⟩ <;> simp [chunk, maxLen] <;> omega) ?_); conv => whnf) | (refine fun hln => ?_; (try rw [List.length_map] at hln); unfold maxLen at hln; conv => whnf) | fail
                    exact ⟨(i + 1, { n with gates := n.gates ++ [(⟨K, x, 0⟩ : GateT)] }, .v (.slice none 0 0), c + 1), ⟨by show i + 1 ≤ rows.length; omega, hgood _ hstep, fun _ => ⟨rfl, hno⟩, fun h => absurd h (show ¬ rows.length ≤ i + 1 by omega), ⟨by show (n.gates ++ [_]).length = c + 1; rw [List.length_append, hgc]; rfl, by show c + 1 ≤ i + 1; omega⟩, hi64⟩, by show rows.length - (i + 1) < rows.length - i; omega, impA⟩
                  · have hKk : 0 < K ∧ K < 4 := by omega
                    have hg0 : gateK w0 [x, y] = some (⟨K, x, y⟩ : GateT) := by
                      unfold gateK
                      rw [hKe]
                      exact if_pos hKk
                    rw [hg0] at hstep
                    have hgl2 : n.gates.length = c := hgc
                    have e : ((n.gates.map gPV).take c ++ [gPV (⟨K, x, y⟩ : GateT)]) = (n.gates ++ [(⟨K, x, y⟩ : GateT)]).map gPV := by
                      rw [List.take_of_length_le (by rw [List.length_map]; omega), List.map_append]; rfl
                    repeat' first | ((first | with_reducible refine AW_regionP hTt (id := 12) ?_ | with_reducible refine AW_regionP hTt (id := 14) ?_ | fail); conv => whnf) | with_reducible refine AW_seq ?_ | with_reducible refine AW_block ?_ | ((first | with_reducible refine AW_skip ?_ | with_reducible refine AW_exit ?_ | with_reducible refine AW_region hTt ?_ | refine AW_draw hTt hMix (id := 13) 4 false [0, 0, 2, 6, 15, 31] (by kernel_rfl) rfl rfl (by kernel_rfl) ?_ | fail); conv => whnf) | (exact absurd hb (by omega)) | (refine AW_cond rfl (fun _ => ?_) (fun hb => absurd (show true = false from hb) (by decide))) | ((refine ⟨_, (spl2).call rfl rfl, ?_⟩); (rintro _ _ ⟨rfl, rfl⟩); conv => whnf) | ((refine ⟨_, _, nt, ?_, ?_⟩) <;> first | (rintro _ _ ⟨rfl, rfl⟩; conv => whnf) | (exact fun _ _ h => h.elim)) | ((first | refine ⟨_, fun _ => (kn).call rfl rfl, ?_⟩ | ((refine ⟨_, (ix).call rfl rfl, ?_⟩); (rintro _ _ ⟨rfl, rfl⟩)) | refine ⟨[.v (.int .i64 x)], gd_any ⟨by decide, rfl⟩, ?_⟩ | refine ⟨[.v (.int .i64 y)], gd_any ⟨by decide, rfl⟩, ?_⟩ | refine And.intro ?_ ?_; focus (first | (exact trivial) | (exact fun h => h) | (exact and_tt) | (exact and_tf) | (exact fun h _ => h) | fail) | fail); conv => whnf) | ((refine ⟨_, _, must_t hm, ?_, ?_⟩) <;> first | (rintro _ _ ⟨rfl, rfl⟩; conv => whnf) | (exact fun _ _ h => h.elim)) | (refine AW_cond rfl (fun hb => ?_) (fun hb => ?_) <;> first | (replace hb := of_decide_eq_true hb; try simp only [List.length_map] at hb) | (replace hb := of_decide_eq_false hb; try simp only [List.length_map] at hb) | (simp only [List.length_map, bne_iff_ne, ne_eq, beq_iff_eq, bne_eq_false_iff_eq, beq_eq_false_iff_ne, decide_eq_true_eq, decide_eq_false_iff_not, Bool.not_eq_true', Bool.not_eq_false', Int.natCast_inj] at hb) | skip) | ((first | refine ⟨_, wrap_of (by first | omega | (simp only [List.length_map]; omega)), ?_⟩ | refine andA ?_ | with_reducible refine Exists.intro _ (And.intro (gd_any (And.intro (by omega) (map_get (by omega)))) ?_) | with_reducible refine Exists.intro _ (And.intro (gd_any (And.intro (by omega) (map_get' (by omega) (by omega)))) ?_) | fail); conv => whnf) | ((refine And.intro (by refine ⟨?_, ?_, ?_⟩ <;> simp [chunk, maxLen] <;> omega) ?_); conv => whnf) | (refine fun hln => ?_; (try rw [List.length_map] at hln); unfold maxLen at hln; conv => whnf) | fail
                    exact ⟨(i + 1, { n with gates := n.gates ++ [(⟨K, x, y⟩ : GateT)] }, .v (.slice none 0 0), c + 1), ⟨by show i + 1 ≤ rows.length; omega, hgood _ hstep, fun _ => ⟨rfl, hno⟩, fun h => absurd h (show ¬ rows.length ≤ i + 1 by omega), ⟨by show (n.gates ++ [_]).length = c + 1; rw [List.length_append, hgc]; rfl, by show c + 1 ≤ i + 1; omega⟩, hi64⟩, by show rows.length - (i + 1) < rows.length - i; omega, impA⟩
                · have hm := condK_f hC
                  have hg0 : gateK w0 l = none := by
                    unfold gateK
                    rw [hKe]
                    simp only [List.length_map] at hC
                    match l, hC with
                    | [], _ => rfl
                    | [a], hC => exact if_neg fun h => hC (.inr ⟨h, rfl⟩)
                    | [a, b], hC => exact if_neg fun h => hC (.inl ⟨h.1, h.2, rfl⟩)
                    | _ :: _ :: _ :: _, _ => rfl
                  rw [hg0] at hstep
                  repeat' first | ((first | with_reducible refine AW_regionP hTt (id := 12) ?_ | with_reducible refine AW_regionP hTt (id := 14) ?_ | fail); conv => whnf) | with_reducible refine AW_seq ?_ | with_reducible refine AW_block ?_ | ((first | with_reducible refine AW_skip ?_ | with_reducible refine AW_exit ?_ | with_reducible refine AW_region hTt ?_ | refine AW_draw hTt hMix (id := 13) 4 false [0, 0, 2, 6, 15, 31] (by kernel_rfl) rfl rfl (by kernel_rfl) ?_ | fail); conv => whnf) | (exact absurd hb (by omega)) | ((refine ⟨_, (spl2).call rfl rfl, ?_⟩); (rintro _ _ ⟨rfl, rfl⟩); conv => whnf) | ((refine ⟨_, _, nt, ?_, ?_⟩) <;> first | (rintro _ _ ⟨rfl, rfl⟩; conv => whnf) | (exact fun _ _ h => h.elim)) | ((first | refine ⟨_, fun _ => (kn).call rfl rfl, ?_⟩ | ((refine ⟨_, (ix).call rfl rfl, ?_⟩); (rintro _ _ ⟨rfl, rfl⟩)) | refine And.intro ?_ ?_; focus (first | (exact trivial) | (exact fun h => h) | (exact and_tt) | (exact and_tf) | (exact fun h _ => h) | fail) | fail); conv => whnf) | ((refine ⟨_, _, must_f hm, ?_, ?_⟩) <;> first | (rintro _ _ ⟨rfl, rfl⟩; conv => whnf) | (exact fun _ _ h => h.elim)) | (refine AW_cond rfl (fun hb => ?_) (fun hb => ?_) <;> first | (replace hb := of_decide_eq_true hb; try simp only [List.length_map] at hb) | (replace hb := of_decide_eq_false hb; try simp only [List.length_map] at hb) | (simp only [List.length_map, bne_iff_ne, ne_eq, beq_iff_eq, bne_eq_false_iff_eq, beq_eq_false_iff_ne, decide_eq_true_eq, decide_eq_false_iff_not, Bool.not_eq_true', Bool.not_eq_false', Int.natCast_inj] at hb) | skip) | ((first | refine ⟨_, wrap_of (by first | omega | (simp only [List.length_map]; omega)), ?_⟩ | refine andA ?_ | with_reducible refine Exists.intro _ (And.intro (gd_any (And.intro (by omega) (map_get (by omega)))) ?_) | with_reducible refine Exists.intro _ (And.intro (gd_any (And.intro (by omega) (map_get' (by omega) (by omega)))) ?_) | fail); conv => whnf) | (refine fun hln => ?_; (try rw [List.length_map] at hln); unfold maxLen at hln; conv => whnf) | fail
                  exact pan_end s (hbad hstep) _ _ _ _ _ _ _ ⟨rfl, rfl, trivial⟩ ⟨rfl, rfl, rfl, trivial⟩
        · have hie : i = rows.length := by omega
          have hoe := hend hil
          rw [List.drop_of_length_le hil, runRows] at hrun
          have hRf : readR s = finR (some n) := by rw [hR0, hrun]
          have ck := pcheck_fn n hi64
          have hle : c ≤ (n.gates.map gPV).length := by rw [List.length_map]; omega
          have hal : (PV.s 3 (n.gates.map gPV)) = .s 3 ((n.gates.map gPV).take c) := by rw [List.take_of_length_le (by rw [List.length_map]; omega)]
          clear hR0 hrun hend hlt
          subst hoe
          subst hie
          refine AW_imp (Imp.freezeB 900 (fr' := [(33, iv .i64 rows.length), (32, iv .i64 rows.length), (31, strs rows), (6, strs rows), (3, .x (.b 3 0)), (2, .x (.b 2 0))]) (σ' := [(3, .box [.d (.v (.int .i64 0))]), (2, .box [.d (.v (.int .i64 n.inn)), .d (gatesPV n.gates), .d (intsPV n.out)])]) rfl
            ⟨⟨_, rfl, .inl rfl⟩, ⟨_, rfl, .inl rfl⟩, ⟨_, rfl, .inl rfl⟩, ⟨_, rfl, .inl rfl⟩, ⟨_, rfl, .inl rfl⟩, ⟨_, rfl, .inl rfl⟩, trivial⟩ ⟨⟨_, rfl, .inl rfl⟩, ⟨_, rfl, .inr ⟨_, _, rfl, rfl, ⟨.inl rfl, .inr ⟨_, rfl, hle, congrArg SV.d hal⟩, .inl rfl, trivial⟩⟩⟩, trivial⟩ rfl rfl) ?_
          by_cases hC : (checkR n).2.2 = 0
          · have hm : ((checkR n).2.2 == 0) = true := beq_iff_eq.2 hC
            repeat' first | ((with_reducible refine AW_regionP hTt (id := 27) ?_); conv => whnf) | with_reducible refine AW_seq ?_ | with_reducible refine AW_block ?_ | ((first | with_reducible refine AW_skip ?_ | with_reducible refine AW_exit ?_ | with_reducible refine AW_ret ?_ | with_reducible refine AW_region hTt ?_ | fail); conv => whnf) | (exact absurd hb (by omega)) | ((refine ⟨_, (ck).call rfl rfl, ?_⟩); (rintro _ _ ⟨rfl, rfl⟩); conv => whnf) | ((refine ⟨_, _, must_t hm, ?_, ?_⟩) <;> first | (rintro _ _ ⟨rfl, rfl⟩; conv => whnf) | (exact fun _ _ h => h.elim)) | (refine AW_cond rfl (fun hb => ?_) (fun hb => ?_) <;> first | (replace hb := of_decide_eq_true hb; try simp only [List.length_map] at hb) | (replace hb := of_decide_eq_false hb; try simp only [List.length_map] at hb) | (simp only [List.length_map, bne_iff_ne, ne_eq, beq_iff_eq, bne_eq_false_iff_eq, beq_eq_false_iff_ne, decide_eq_true_eq, decide_eq_false_iff_not, Bool.not_eq_true', Bool.not_eq_false', Int.natCast_inj] at hb) | skip) | fail
            refine ⟨[(3, .x (.b 3 0)), (2, .x (.b 2 0))], [(3, .box [.d (.v (.int .i64 0))]), (2, .box [.d (.v (.int .i64 n.inn)), .d (gatesPV n.gates), .d (intsPV n.out)])], ⟨rfl, rfl, trivial⟩, ⟨rfl, rfl, trivial⟩, by kernel_rfl, _, rec_ret _ ⟨rfl, rfl, trivial⟩ (by kernel_rfl), ?_⟩
            rintro _ _ ⟨rfl, rfl⟩
            refine ⟨rfl, .t [netAV n, iv .i64 0], [], trivial, rfl, rfl, ?_, rfl⟩
            rw [hRf, show finR (some n) = (n, 0) from if_pos hC]
            exact ⟨⟨.inl rfl, .inl rfl, .inl rfl, trivial⟩, .inl rfl, trivial⟩
          · have hm : ((checkR n).2.2 == 0) = false := beq_eq_false_iff_ne.2 hC
            rw [show finR (some n) = (zeroN, 6) from if_neg hC] at hRf
            repeat' first | ((with_reducible refine AW_regionP hTt (id := 27) ?_); conv => whnf) | with_reducible refine AW_seq ?_ | with_reducible refine AW_block ?_ | ((first | with_reducible refine AW_skip ?_ | with_reducible refine AW_exit ?_ | with_reducible refine AW_region hTt ?_ | fail); conv => whnf) | (exact absurd hb (by omega)) | ((refine ⟨_, (ck).call rfl rfl, ?_⟩); (rintro _ _ ⟨rfl, rfl⟩); conv => whnf) | ((refine ⟨_, _, must_f hm, ?_, ?_⟩) <;> first | (rintro _ _ ⟨rfl, rfl⟩; conv => whnf) | (exact fun _ _ h => h.elim)) | (refine AW_cond rfl (fun hb => ?_) (fun hb => ?_) <;> first | (replace hb := of_decide_eq_true hb; try simp only [List.length_map] at hb) | (replace hb := of_decide_eq_false hb; try simp only [List.length_map] at hb) | (simp only [List.length_map, bne_iff_ne, ne_eq, beq_iff_eq, bne_eq_false_iff_eq, beq_eq_false_iff_ne, decide_eq_true_eq, decide_eq_false_iff_not, Bool.not_eq_true', Bool.not_eq_false', Int.natCast_inj] at hb) | skip) | fail
            exact pan_end0 s hRf _ _ _ _ ⟨rfl, rfl, trivial⟩ ⟨rfl, rfl, trivial⟩
theorem read_fn (s : ByteArray) : FnC Tryz.prog 7 [sv s] (.t [netAV (readR s).1, iv .i64 (readR s).2]) :=
  FnC_of_ACall ((read_call s).leW fun _ _ h => ⟨_, h.1, rfl, h.2⟩)
end Go.Proofs.YtfpaonfddaeamaaGreatDoor
namespace Go.Proofs.YtfpaonfddaeamaaGreatDoor
open Go Go.QL Go.RowKit
set_option maxHeartbeats 1600000
attribute [local irreducible] ACall FnC
theorem out_chain {tt : TT} {a : Nat} {fr : Fr} {σ : Sg} {c st n : Nat} {e : TypeId} {sz : Nat} {xs : List (List PV)} (h1 : lk a fr = some (.x (.o c st n))) (h3 : lk c σ = some (.chain e sz st xs)) (h4 : n ≤ xs.length) :
    outcome tt [.tmp a] fr σ = some (.x (.d (.s sz (xs.take n)))) := by
  simp [outcome, resAVs, resAV, h1, viewAV, viewAVs, viewAV1, viewSV, h3, h4]
theorem words_fn : FnC Tryz.prog 42 [] (strs kindsB) := by
  refine FnC_of_AW hTt Tryz.func42 rfl (by kernel_rfl) (res := [.tmp 0]) rfl Tryz.ntmps42 (by simp) fun w0 K0 => ?_
  dsimp only [entry]
  repeat' first | with_reducible refine AW_seq ?_ | ((first | with_reducible refine AW_ret ?_ | with_reducible refine AW_region hTt ?_ | fail); conv => whnf) | fail
  rfl
theorem tmod10 (k : Nat) : (k : Int).tmod 10 = ((k % 10 : Nat) : Int) := by
  rw [Int.tmod_eq_emod_of_nonneg (by omega)]; omega
theorem tdiv10 (k : Nat) : (k : Int).tdiv 10 = ((k / 10 : Nat) : Int) := by
  rw [Int.tdiv_eq_ediv_of_nonneg (by omega)]; omega
theorem u8_dig (k : Nat) : IntKind.u8.wrap (48 + ((k % 10 : Nat) : Int)) = ((UInt8.ofNat (48 + k % 10)).toNat : Int) := by
  have h : k % 10 < 10 := Nat.mod_lt _ (by decide)
  generalize k % 10 = d at h ⊢
  revert d
  decide
theorem dig1 (k : Nat) (h : k < 10) : FnC Tryz.prog 41 [iv .i64 k] (sv (mkB (dg2 k))) := by
  have hm := tmod10 k
  have hu := u8_dig k
  have e1 : (PV.s 1 [[PV.v (.int .u8 (IntKind.u8.wrap (48 + ((k % 10 : Nat) : Int))))]]) = .s 1 ([UInt8.ofNat (48 + k % 10)].map fun c => [PV.v (.int .u8 c.toNat)]) := by rw [hu]; rfl
  rw [show dg2 k = [UInt8.ofNat (48 + k % 10)] from by unfold dg2; rw [if_pos h, Nat.mod_eq_of_lt h]]
  refine FnC_of_AW hTt Tryz.func41 rfl (by kernel_rfl) (res := [.tmp 2]) rfl Tryz.ntmps41 (by simp) fun w0 K0 => ?_
  dsimp only [entry]
  repeat' first | with_reducible refine AW_seq ?_ | ((first | with_reducible refine AW_skip ?_ | with_reducible refine AW_ret ?_ | with_reducible refine AW_region hTt ?_ | fail); conv => whnf) | (exact absurd hb (by omega)) | ((first | refine ⟨_, hm, ?_⟩ | refine ⟨[UInt8.ofNat (48 + k % 10)], by simp, .inr (congrArg (fun p => AV.x (.d p)) e1), ?_⟩ | fail); conv => whnf) | (refine AW_cond rfl (fun hb => ?_) (fun hb => ?_) <;> first | (replace hb := of_decide_eq_true hb; try simp only [List.length_map] at hb) | (replace hb := of_decide_eq_false hb; try simp only [List.length_map] at hb) | (simp only [List.length_map, bne_iff_ne, ne_eq, beq_iff_eq, bne_eq_false_iff_eq, beq_eq_false_iff_ne, decide_eq_true_eq, decide_eq_false_iff_not, Bool.not_eq_true', Bool.not_eq_false', Int.natCast_inj] at hb) | skip) | ((first | refine ⟨_, wrap_of (by first | omega | (simp only [List.length_map]; omega)), ?_⟩ | refine ⟨IntKind.wrap _ _, rfl, ?_⟩ | refine andA ?_ | fail); conv => whnf) | fail
  rfl
theorem dig_fn (n : Int) (h : 0 ≤ n ∧ n < 100) : FnC Tryz.prog 41 [iv .i64 n] (sv (numB n)) := by
  obtain ⟨k, rfl⟩ : ∃ k : Nat, n = k := ⟨n.toNat, by omega⟩
  have hk : k < 100 := by omega
  have en : numB (k : Int) = mkB (dg2 k) := by unfold numB; rw [Int.toNat_natCast, dd_dg2 hk]; rfl
  rw [en]
  by_cases h1 : k < 10
  · exact dig1 k h1
  have hm := tmod10 k
  have hd := tdiv10 k
  have hu := u8_dig k
  have d1 := dig1 (k / 10) (by omega)
  have e1 : (PV.s 1 [[PV.v (.int .u8 (IntKind.u8.wrap (48 + ((k % 10 : Nat) : Int))))]]) = .s 1 ([UInt8.ofNat (48 + k % 10)].map fun c => [PV.v (.int .u8 c.toNat)]) := by rw [hu]; rfl
  have e2 : mkB (dg2 (k / 10)) ++ ⟨[UInt8.ofNat (48 + k % 10)].toArray⟩ = mkB (dg2 k) := by
    unfold dg2
    rw [if_pos (by omega), if_neg h1]; rfl
  rw [← e2]
  have g1 : (mkB (dg2 (k / 10))).size + (⟨[UInt8.ofNat (48 + k % 10)].toArray⟩ : ByteArray).size ≤ maxLen := by
    unfold dg2
    rw [if_pos (by omega)]
    show 1 + 1 ≤ _
    unfold maxLen; omega
  refine FnC_of_AW hTt Tryz.func41 rfl (by kernel_rfl) (res := [.tmp 2]) rfl Tryz.ntmps41 (by simp) fun w0 K0 => ?_
  dsimp only [entry]
  repeat' first | with_reducible refine AW_seq ?_ | ((first | with_reducible refine AW_skip ?_ | with_reducible refine AW_ret ?_ | with_reducible refine AW_region hTt ?_ | fail); conv => whnf) | (exact absurd hb (by omega)) | ((first | refine ⟨_, hm, ?_⟩ | ((refine ⟨_, (d1).call rfl rfl, ?_⟩); (rintro _ _ ⟨rfl, rfl⟩)) | refine ⟨[UInt8.ofNat (48 + k % 10)], by simp, .inr (congrArg (fun p => AV.x (.d p)) e1), ?_⟩ | refine And.intro (gd_none g1) ?_ | fail); conv => whnf) | (refine AW_cond rfl (fun hb => ?_) (fun hb => ?_) <;> first | (replace hb := of_decide_eq_true hb; try simp only [List.length_map] at hb) | (replace hb := of_decide_eq_false hb; try simp only [List.length_map] at hb) | (simp only [List.length_map, bne_iff_ne, ne_eq, beq_iff_eq, bne_eq_false_iff_eq, beq_eq_false_iff_ne, decide_eq_true_eq, decide_eq_false_iff_not, Bool.not_eq_true', Bool.not_eq_false', Int.natCast_inj] at hb) | skip) | ((first | refine ⟨_, wrap_of (by first | omega | (simp only [List.length_map]; omega)), ?_⟩ | refine ⟨IntKind.wrap _ _, rfl, ?_⟩ | refine andA ?_ | fail); conv => whnf) | fail
  rfl
theorem rsplit_aux (s : ByteArray) (b : UInt8) (i j : Nat) (hij : i ≤ j) (h : j < s.size) :
    splitG b ((s.data.toList.take j).drop i) (s.data.toList.drop j) = if s[j] = b then ((s.data.toList.take j).drop i) :: splitG b [] (s.data.toList.drop (j + 1)) else splitG b ((s.data.toList.take (j + 1)).drop i) (s.data.toList.drop (j + 1)) := by
  have hl : j < s.data.toList.length := by rw [← Lib.size_eq]; exact h
  rw [List.drop_eq_getElem_cons hl, splitG]
  have e : s.data.toList[j] = s[j] := rfl
  rw [e]
  split
  · rfl
  · rw [List.take_add_one, List.getElem?_eq_getElem hl, e]
    simp only [Option.toList_some]
    rw [List.drop_append_of_le_length (by rw [List.length_take]; omega)]
def rsplit (s : ByteArray) (b : UInt8) : List ByteArray := (splitG b [] s.data.toList).map mkB
theorem rsplit_fn (s : ByteArray) (b : UInt8) (hs : s.size ≤ 100000) : FnC Tryz.prog 46 [sv s, iv .u8 b.toNat] (strs (rsplit s b)) := by
  refine FnC_of_AW hTt Tryz.func46 rfl (by kernel_rfl) (res := [.tmp 4]) rfl Tryz.ntmps46 (by simp) fun w0 K0 => ?_
  dsimp only [entry]
  repeat' first | with_reducible refine AW_seq ?_ | with_reducible refine AW_block ?_ | ((with_reducible refine AW_region hTt ?_); conv => whnf) | fail
  refine AW_imp (Imp.nil 5 9 1 (fr' := [(7, iv .i64 0), (6, iv .i64 0), (5, .x (.o 5 0 0)), (0, sv s), (1, iv .u8 b.toNat)]) (σ' := []) rfl ?_ trivial rfl rfl) ?_
  · exact ⟨⟨_, rfl, .inl rfl⟩, ⟨_, rfl, .inl rfl⟩, ⟨_, rfl, .inr ⟨rfl, rfl⟩⟩, ⟨_, rfl, .inl rfl⟩, ⟨_, rfl, .inl rfl⟩, trivial⟩
  refine AW_loop (fun x : Nat × Nat × List ByteArray × Nat => [(7, iv .i64 x.1), (6, iv .i64 x.2.1), (5, .x (.o 5 x.2.2.2 x.2.2.2)), (0, sv s), (1, iv .u8 b.toNat)]) (fun x => [(5, .chain 9 1 x.2.2.2 (strsPV x.2.2.1))])
    (fun x => x.2.1 ≤ x.1 ∧ x.1 ≤ s.size ∧ (x.2.2.1.length = x.2.2.2 ∧ x.2.2.2 ≤ x.1) ∧ splitG b [] s.data.toList = x.2.2.1.map (·.data.toList) ++ splitG b ((s.data.toList.take x.1).drop x.2.1) (s.data.toList.drop x.1)) (fun x => s.size - x.1) (0, 0, [], 0) ⟨Nat.le_refl _, Nat.zero_le _, ⟨rfl, Nat.zero_le _⟩, rfl⟩ impA ?_
  rintro ⟨j, i, out, c⟩ ⟨hij, hj, ⟨hoc, hol⟩, hsp⟩
  dsimp only at hij hj hoc hol hsp ⊢
  have hex : ∀ j, (s.extract i j).data.toList = (s.data.toList.take j).drop i := fun j => by rw [Lib.extract_data, List.drop_take]
  have htk : ∀ x, (strsPV out).take c ++ [[PV.v (.string x)]] = strsPV (out ++ [x]) := fun x => by
    rw [List.take_of_length_le (by simp [strsPV, hoc])]
    exact (List.map_append (f := fun p => [PV.v (.string p)]) (l₁ := out) (l₂ := [x])).symm
  rcases Nat.lt_or_ge j s.size with hjl | hjl
  · rw [rsplit_aux s b i j hij hjl] at hsp
    have hsj : s.data.toList[((j : Int)).toNat]? = some s[j] := by
      rw [Int.toNat_natCast, List.getElem?_eq_getElem (by rw [← Lib.size_eq]; exact hjl)]; rfl
    by_cases hc : s[j] = b
    · have hcn : s[j].toNat = b.toNat := by rw [hc]
      rw [if_pos hc] at hsp
      have e := htk (s.extract i j)
      repeat' first | with_reducible refine AW_seq ?_ | with_reducible refine AW_block ?_ | ((first | with_reducible refine AW_skip ?_ | with_reducible refine AW_exit ?_ | with_reducible refine AW_region hTt ?_ | fail); conv => whnf) | (exact absurd hb (by omega)) | ((refine ⟨s[j], gd_any ⟨by omega, hsj⟩, ?_⟩); conv => whnf) | (refine AW_cond rfl (fun hb => ?_) (fun hb => ?_) <;> first | (replace hb := of_decide_eq_true hb; try simp only [List.length_map] at hb) | (replace hb := of_decide_eq_false hb; try simp only [List.length_map] at hb) | (simp only [List.length_map, bne_iff_ne, ne_eq, beq_iff_eq, bne_eq_false_iff_eq, beq_eq_false_iff_ne, decide_eq_true_eq, decide_eq_false_iff_not, Bool.not_eq_true', Bool.not_eq_false', Int.natCast_inj] at hb) | skip) | ((first | refine ⟨_, wrap_of (by first | omega | (simp only [List.length_map]; omega)), ?_⟩ | refine andA ?_ | fail); conv => whnf) | ((refine And.intro (by refine ⟨?_, ?_, ?_⟩ <;> simp [chunk, maxLen] <;> omega) ?_); conv => whnf) | fail
      refine ⟨(j + 1, j + 1, out ++ [s.extract i j], c + 1), ⟨Nat.le_refl _, hjl, ⟨by simp [hoc], by show c + 1 ≤ j + 1; omega⟩, ?_⟩, by show s.size - (j + 1) < s.size - j; omega, impA⟩
      show _ = (out ++ [s.extract i j]).map (·.data.toList) ++ splitG b ((s.data.toList.take (j + 1)).drop (j + 1)) (s.data.toList.drop (j + 1))
      have e0 : (s.data.toList.take (j + 1)).drop (j + 1) = [] := List.drop_eq_nil_of_le (by rw [List.length_take]; omega)
      rw [hsp, List.map_append, List.append_assoc, e0, ← hex]
      rfl
    · have hcn : s[j].toNat ≠ b.toNat := fun e => hc (UInt8.toNat_inj.1 e)
      rw [if_neg hc] at hsp
      repeat' first | with_reducible refine AW_seq ?_ | with_reducible refine AW_block ?_ | ((first | with_reducible refine AW_skip ?_ | with_reducible refine AW_exit ?_ | with_reducible refine AW_region hTt ?_ | fail); conv => whnf) | (exact absurd hb (by omega)) | ((refine ⟨s[j], gd_any ⟨by omega, hsj⟩, ?_⟩); conv => whnf) | (refine AW_cond rfl (fun hb => ?_) (fun hb => ?_) <;> first | (replace hb := of_decide_eq_true hb; try simp only [List.length_map] at hb) | (replace hb := of_decide_eq_false hb; try simp only [List.length_map] at hb) | (simp only [List.length_map, bne_iff_ne, ne_eq, beq_iff_eq, bne_eq_false_iff_eq, beq_eq_false_iff_ne, decide_eq_true_eq, decide_eq_false_iff_not, Bool.not_eq_true', Bool.not_eq_false', Int.natCast_inj] at hb) | skip) | ((refine ⟨_, wrap_of (by first | omega | (simp only [List.length_map]; omega)), ?_⟩); conv => whnf) | fail
      exact ⟨(j + 1, i, out, c), ⟨by show i ≤ j + 1; omega, hjl, ⟨hoc, by show c ≤ j + 1; omega⟩, hsp⟩, by show s.size - (j + 1) < s.size - j; omega, impA⟩
  · have hje : j = s.size := by omega
    subst hje
    have e0 : s.data.toList.drop s.size = [] := List.drop_eq_nil_of_le (by rw [← Lib.size_eq]; exact Nat.le_refl _)
    rw [e0, splitG, ← hex] at hsp
    have e := htk (s.extract i s.size)
    have hrs : rsplit s b = out ++ [s.extract i s.size] := by
      apply mapD_inj
      unfold rsplit
      rw [List.map_map, List.map_append]
      simp only [Function.comp_def, mkB_data, List.map_id', List.map_cons, List.map_nil]
      exact hsp
    rw [hrs, show strs (out ++ [s.extract i s.size]) = .x (.d (.s 1 (((strsPV out).take c ++ [[PV.v (.string (s.extract i s.size))]]).take (c + 1)))) from by rw [e, List.take_of_length_le (by simp [strsPV, hoc])]]
    repeat' first | with_reducible refine AW_seq ?_ | with_reducible refine AW_block ?_ | ((first | with_reducible refine AW_skip ?_ | with_reducible refine AW_exit ?_ | with_reducible refine AW_ret ?_ | with_reducible refine AW_region hTt ?_ | fail); conv => whnf) | (exact absurd hb (by omega)) | (refine AW_cond rfl (fun hb => ?_) (fun hb => ?_) <;> first | (replace hb := of_decide_eq_true hb; try simp only [List.length_map] at hb) | (replace hb := of_decide_eq_false hb; try simp only [List.length_map] at hb) | (simp only [List.length_map, bne_iff_ne, ne_eq, beq_iff_eq, bne_eq_false_iff_eq, beq_eq_false_iff_ne, decide_eq_true_eq, decide_eq_false_iff_not, Bool.not_eq_true', Bool.not_eq_false', Int.natCast_inj] at hb) | skip) | ((refine andA ?_); conv => whnf) | ((refine And.intro (by refine ⟨?_, ?_, ?_⟩ <;> simp [chunk, maxLen] <;> omega) ?_); conv => whnf) | fail
    exact out_chain rfl rfl (by rw [e]; simp [strsPV, hoc])
end Go.Proofs.YtfpaonfddaeamaaGreatDoor
namespace Go.Proofs.YtfpaonfddaeamaaGreatDoor
open Go Go.QL Go.RowKit
set_option maxHeartbeats 3200000
attribute [local irreducible] ACall FnC
theorem AW_condT {P : Program} {Γ : Cx} {fr : Fr} {σ : Sg} {Q : Exit → Fr → Sg → Prop} {c : Operand} {x y : Code} {b : Bool} (h : b = true) (hc : ev fr c = some (none, bv b)) (ht : AW P Γ x Q fr σ) : AW P Γ (.cond c x y) Q fr σ :=
  AW_cond hc (fun _ => ht) (fun e => by rw [h] at e; cases e)
theorem AW_condF {P : Program} {Γ : Cx} {fr : Fr} {σ : Sg} {Q : Exit → Fr → Sg → Prop} {c : Operand} {x y : Code} {b : Bool} (h : b = false) (hc : ev fr c = some (none, bv b)) (ht : AW P Γ y Q fr σ) : AW P Γ (.cond c x y) Q fr σ :=
  AW_cond hc (fun e => by rw [h] at e; cases e) (fun _ => ht)
theorem AW_cut {P : Program} {Γ : Cx} {fr : Fr} {σ : Sg} {Q : Exit → Fr → Sg → Prop} {x y : Code} (fr' : Fr) (σ' : Sg) (h : AW P Γ x (Exit.thn (fun fr σ => Imp Γ fr σ fr' σ') Q) fr σ) (k : AW P Γ y Q fr' σ') : AW P Γ (.seq x y) Q fr σ := by
  refine AW_seq (AW_mono h ?_)
  intro e fr σ hq
  cases e <;> first | exact AW_imp hq k | exact hq
def digF (acc : Nat) : List UInt8 → Int
  | [] => acc
  | c :: r => if 48 ≤ c.toNat ∧ c.toNat ≤ 57 then digF (10 * acc + (c.toNat - 48)) r else -1
def numR (l : List UInt8) : Int := if 1 ≤ l.length ∧ l.length ≤ 9 then digF 0 l else -1
theorem inB_nat (c : UInt8) : inB (c.toNat : Int) 48 57 = decide (48 ≤ c.toNat ∧ c.toNat ≤ 57) := by
  by_cases h : 48 ≤ c.toNat ∧ c.toNat ≤ 57
  · rw [decide_eq_true h]; exact inB_iff.2 (by omega)
  · rw [decide_eq_false h]
    cases hc : inB (c.toNat : Int) 48 57 with
    | false => rfl
    | true => have := inB_iff.1 hc; exact absurd (by omega) h
theorem u8_small : ∀ n : Nat, n < 256 → IntKind.u8.wrap (n : Int) = (n : Int) := by decide +kernel
theorem num_fn (s : ByteArray) : FnC Tryz.prog 47 [sv s] (iv .i64 (numR s.data.toList)) := by
  have i1 := in_fn (s.size : Int) 1 9
  by_cases h : 1 ≤ s.size ∧ s.size ≤ 9
  · rw [inB_iff.2 (by omega)] at i1
    refine FnC_of_AW hTt Tryz.func47 rfl (by kernel_rfl) (res := [.tmp 2]) rfl Tryz.ntmps47 (by simp) fun w0 K0 => ?_
    dsimp only [entry]
    repeat' first | with_reducible refine AW_seq ?_ | with_reducible refine AW_block ?_ | ((first | with_reducible refine AW_skip ?_ | with_reducible refine AW_region hTt ?_ | ((refine ⟨_, (i1).call rfl rfl, ?_⟩); (rintro _ _ ⟨rfl, rfl⟩)) | fail); conv => whnf) | (refine AW_cond rfl (fun hb => absurd hb (by decide)) (fun _ => ?_)) | fail
    have hl : s.data.toList.length = s.size := (Lib.size_eq s).symm
    have h0 : numR s.data.toList = digF 0 s.data.toList := by unfold numR; rw [if_pos (by omega)]
    refine AW_loop (fun x : Nat × Nat => [(4, iv .i64 x.1), (3, iv .i64 x.2), (0, sv s)]) (fun _ => []) (fun x => x.1 ≤ s.size ∧ x.2 < 10 ^ x.1 ∧ numR s.data.toList = digF x.2 (s.data.toList.drop x.1)) (fun x => s.size - x.1) (0, 0) ⟨Nat.zero_le _, by decide, h0⟩ impA ?_
    rintro ⟨i, acc⟩ ⟨hi, ha, hn⟩
    dsimp only at hi ha hn ⊢
    rcases Nat.lt_or_ge i s.size with hil | hil
    · have hli : i < s.data.toList.length := by omega
      have hsj : s.data.toList[((i : Int)).toNat]? = some s.data.toList[i] := by rw [Int.toNat_natCast, List.getElem?_eq_getElem hli]
      rw [List.drop_eq_getElem_cons hli, digF] at hn
      generalize hcc : s.data.toList[i] = c at hsj hn
      have hp : (10 : Nat) ^ i ≤ 10 ^ 8 := Nat.pow_le_pow_right (by decide) (by omega)
      have e8 : (10 : Nat) ^ 8 = 100000000 := by decide
      have hc256 : c.toNat < 256 := c.toNat_lt
      have i2 := in_fn (c.toNat : Int) 48 57
      rw [inB_nat] at i2
      by_cases hd : 48 ≤ c.toNat ∧ c.toNat ≤ 57
      · rw [decide_eq_true hd] at i2
        rw [if_pos hd] at hn
        have hw : IntKind.u8.wrap ((c.toNat : Int) - 48) = ((c.toNat - 48 : Nat) : Int) := by
          rw [show (c.toNat : Int) - 48 = ((c.toNat - 48 : Nat) : Int) by omega]
          exact u8_small _ (by omega)
        repeat' first | with_reducible refine AW_seq ?_ | with_reducible refine AW_block ?_ | ((first | with_reducible refine AW_skip ?_ | with_reducible refine AW_exit ?_ | with_reducible refine AW_ret ?_ | with_reducible refine AW_region hTt ?_ | fail); conv => whnf) | (exact absurd hb (by omega)) | ((first | refine ⟨c, gd_any ⟨by omega, hsj⟩, ?_⟩ | ((refine ⟨_, (i2).call rfl rfl, ?_⟩); (rintro _ _ ⟨rfl, rfl⟩)) | refine ⟨_, hw, ?_⟩ | fail); conv => whnf) | (refine AW_cond rfl (fun hb => absurd hb (by decide)) (fun _ => ?_)) | (refine AW_cond rfl (fun hb => ?_) (fun hb => ?_) <;> first | (replace hb := of_decide_eq_true hb; try simp only [List.length_map] at hb) | (replace hb := of_decide_eq_false hb; try simp only [List.length_map] at hb) | (simp only [List.length_map, bne_iff_ne, ne_eq, beq_iff_eq, bne_eq_false_iff_eq, beq_eq_false_iff_ne, decide_eq_true_eq, decide_eq_false_iff_not, Bool.not_eq_true', Bool.not_eq_false', Int.natCast_inj] at hb) | skip) | ((refine ⟨_, wrap_of (by first | omega | (simp only [List.length_map]; omega)), ?_⟩); conv => whnf) | fail
        refine ⟨(i + 1, 10 * acc + (c.toNat - 48)), ⟨by show i + 1 ≤ s.size; omega, by show 10 * acc + (c.toNat - 48) < 10 ^ (i + 1); rw [Nat.pow_succ]; omega, hn⟩, by show s.size - (i + 1) < s.size - i; omega, impA⟩
      · rw [decide_eq_false hd] at i2
        rw [if_neg hd] at hn
        repeat' first | with_reducible refine AW_seq ?_ | with_reducible refine AW_block ?_ | ((first | with_reducible refine AW_skip ?_ | with_reducible refine AW_exit ?_ | with_reducible refine AW_ret ?_ | with_reducible refine AW_region hTt ?_ | fail); conv => whnf) | (exact absurd hb (by omega)) | ((first | refine ⟨c, gd_any ⟨by omega, hsj⟩, ?_⟩ | ((refine ⟨_, (i2).call rfl rfl, ?_⟩); (rintro _ _ ⟨rfl, rfl⟩)) | fail); conv => whnf) | (refine AW_cond rfl (fun _ => ?_) (fun hb => absurd hb (by decide))) | (refine AW_cond rfl (fun hb => ?_) (fun hb => ?_) <;> first | (replace hb := of_decide_eq_true hb; try simp only [List.length_map] at hb) | (replace hb := of_decide_eq_false hb; try simp only [List.length_map] at hb) | (simp only [List.length_map, bne_iff_ne, ne_eq, beq_iff_eq, bne_eq_false_iff_eq, beq_eq_false_iff_ne, decide_eq_true_eq, decide_eq_false_iff_not, Bool.not_eq_true', Bool.not_eq_false', Int.natCast_inj] at hb) | skip) | ((refine ⟨_, wrap_of (by first | omega | (simp only [List.length_map]; omega)), ?_⟩); conv => whnf) | fail
        rw [hn]; rfl
    · have : i = s.size := by omega
      subst this
      rw [List.drop_eq_nil_of_le (by omega), digF] at hn
      rw [hn]
      repeat' first | with_reducible refine AW_seq ?_ | with_reducible refine AW_block ?_ | ((first | with_reducible refine AW_skip ?_ | with_reducible refine AW_exit ?_ | with_reducible refine AW_ret ?_ | with_reducible refine AW_region hTt ?_ | fail); conv => whnf) | (exact absurd hb (by omega)) | (refine AW_cond rfl (fun hb => ?_) (fun hb => ?_) <;> first | (replace hb := of_decide_eq_true hb; try simp only [List.length_map] at hb) | (replace hb := of_decide_eq_false hb; try simp only [List.length_map] at hb) | (simp only [List.length_map, bne_iff_ne, ne_eq, beq_iff_eq, bne_eq_false_iff_eq, beq_eq_false_iff_ne, decide_eq_true_eq, decide_eq_false_iff_not, Bool.not_eq_true', Bool.not_eq_false', Int.natCast_inj] at hb) | skip) | fail
      rfl
  · have : inB (s.size : Int) 1 9 = false := by
      cases hc : inB (s.size : Int) 1 9 with
      | false => rfl
      | true => have := inB_iff.1 hc; exact absurd (by omega) h
    rw [this] at i1
    rw [show numR s.data.toList = -1 from by unfold numR; rw [if_neg (by rw [← Lib.size_eq]; exact h)]]
    refine FnC_of_AW hTt Tryz.func47 rfl (by kernel_rfl) (res := [.tmp 2]) rfl Tryz.ntmps47 (by simp) fun w0 K0 => ?_
    dsimp only [entry]
    repeat' first | with_reducible refine AW_seq ?_ | ((first | with_reducible refine AW_ret ?_ | with_reducible refine AW_region hTt ?_ | ((refine ⟨_, (i1).call rfl rfl, ?_⟩); (rintro _ _ ⟨rfl, rfl⟩)) | fail); conv => whnf) | (refine AW_cond rfl (fun _ => ?_) (fun hb => absurd hb (by decide))) | fail
    rfl
end Go.Proofs.YtfpaonfddaeamaaGreatDoor
namespace Go.Proofs.YtfpaonfddaeamaaGreatDoor
open Go Go.QL Go.RowKit
set_option maxHeartbeats 3200000
attribute [local irreducible] ACall FnC Imp
def numsR (ws : List ByteArray) : List Int := ws.map fun w => numR w.data.toList
def gN (k : Nat) (l : List Int) : GateT := ⟨k, l.getD 0 0, if 1 < l.length then l.getD 1 0 else 0⟩
def gstep (w0 : ByteArray) (l : List Int) (k : Nat) (gs : List GateT) : List GateT := if w0 = kindsB.getD k ByteArray.empty ∧ 0 < l.length then gs ++ [gN k l] else gs
def gsR (w0 : ByteArray) (l : List Int) : Nat → List GateT → List GateT
  | 0, gs => gs
  | k + 1, gs => gstep w0 l (k + 1) (gsR w0 l k gs)
def innR (i : Nat) (l : List Int) (n : Int) : Int := if i = 0 ∧ l.length = 1 then l.getD 0 0 else n
def outRw (w0 : ByteArray) (l o : List Int) : List Int := if w0 = outputsB then l else o
def rowQ (i : Nat) (ws : List ByteArray) (n : NetT) : NetT :=
  match ws with
  | [] => n
  | w0 :: wt => ⟨innR i (numsR wt) n.inn, gsR w0 (numsR wt) 5 n.gates, outRw w0 (numsR wt) n.out⟩
def parsedTo (rows : List ByteArray) : Nat → NetT
  | 0 => zeroN
  | i + 1 => rowQ i (rsplit (rows.getD i ByteArray.empty) 32) (parsedTo rows i)
def parsedR (s : ByteArray) : NetT := parsedTo (rsplit s 10) (rsplit s 10).length
theorem splitG_len (b : UInt8) : ∀ (l cur : List UInt8), (splitG b cur l).length ≤ l.length + 1
  | [], cur => by simp [splitG]
  | c :: r, cur => by
    rw [splitG]
    split
    · have := splitG_len b r []; simp only [List.length_cons]; omega
    · have := splitG_len b r (cur ++ [c]); simp only [List.length_cons]; omega
theorem splitG_size (b : UInt8) : ∀ (l cur : List UInt8), ∀ p ∈ splitG b cur l, p.length ≤ cur.length + l.length
  | [], cur, p, h => by
    rw [splitG] at h
    rw [List.mem_singleton.1 h]; simp
  | c :: r, cur, p, h => by
    rw [splitG] at h
    split at h
    · rcases List.mem_cons.1 h with rfl | h
      · omega
      · have := splitG_size b r [] p h; simp only [List.length_nil, List.length_cons] at this ⊢; omega
    · have := splitG_size b r (cur ++ [c]) p h
      simp only [List.length_append, List.length_cons, List.length_nil] at this ⊢; omega
theorem rsplit_len (s : ByteArray) (b : UInt8) : 1 ≤ (rsplit s b).length ∧ (rsplit s b).length ≤ s.size + 1 := by
  unfold rsplit
  rw [List.length_map, Lib.size_eq]
  refine ⟨?_, splitG_len b _ _⟩
  cases h : splitG b [] s.data.toList with
  | nil => exact absurd h (splitG_ne _ _ _)
  | cons _ _ => simp
theorem rsplit_size (s : ByteArray) (b : UInt8) : ∀ p ∈ rsplit s b, p.size ≤ s.size := by
  intro p hp
  unfold rsplit at hp
  obtain ⟨l, hl, rfl⟩ := List.mem_map.1 hp
  have := splitG_size b s.data.toList [] l hl
  rw [Lib.size_eq, Lib.size_eq, mkB_data]
  simpa using this
theorem gsR_len (w0 : ByteArray) (l : List Int) (gs : List GateT) : ∀ k, (gsR w0 l k gs).length ≤ gs.length + k
  | 0 => Nat.le_refl _
  | k + 1 => by
    have := gsR_len w0 l gs k
    rw [gsR, gstep]
    split
    · rw [List.length_append]; simp only [List.length_cons, List.length_nil]; omega
    · omega
theorem boxI {a b : Int} {s t : SV} (h : a = b) : some (Ob.box [.d (.v (.int .i64 a)), s, t]) = some (Ob.box [.d (.v (.int .i64 b)), s, t]) := by rw [h]
theorem boxO {a b : PV} {s t : SV} (h : a = b) : some (Ob.box [s, t, .d a]) = some (Ob.box [s, t, .d b]) := by rw [h]
theorem c13 {i : Nat} {l : List Int} (h : (bif ((i : Int) == 0) then ((l.length : Int) == 1) else false) = true) : i = 0 ∧ l.length = 1 := by
  cases hc : ((i : Int) == 0) with
  | false => rw [hc] at h; cases h
  | true =>
    rw [hc] at h
    have h1 := beq_iff_eq.1 hc
    have h2 := beq_iff_eq.1 h
    omega
theorem c13f {i : Nat} {l : List Int} (h : (bif ((i : Int) == 0) then ((l.length : Int) == 1) else false) = false) : ¬ (i = 0 ∧ l.length = 1) := by
  rintro ⟨rfl, h2⟩
  rw [h2] at h
  cases h
theorem getD0 {l : List Int} (h : 0 < l.length) : (l.map fun n => [PV.v (.int .i64 n)])[Int.toNat 0]? = some [.v (.int .i64 (l.getD 0 0))] := by
  cases l with
  | nil => simp at h
  | cons x r => rfl
theorem getD1 {l : List Int} (h : 1 < l.length) : (l.map fun n => [PV.v (.int .i64 n)])[Int.toNat 1]? = some [.v (.int .i64 (l.getD 1 0))] := by
  match l, h with
  | [], h => simp at h
  | [_], h => simp at h
  | _ :: _ :: _, _ => rfl
theorem parsed_call (s : ByteArray) (hs : s.size ≤ 600) : ACall Tryz.prog 22 [sv s] [] (fun r σ' => LeW r (netAV (parsedR s)) ∧ σ' = []) := by
  have sp := rsplit_fn s 10 (by omega)
  have hrl := rsplit_len s 10
  have hrz := rsplit_size s 10
  have hpR : parsedR s = parsedTo (rsplit s 10) (rsplit s 10).length := rfl
  generalize hrw : rsplit s 10 = rows at sp hrl hrz hpR
  refine ACall_of_AWD hTt Tryz.func22 rfl (by kernel_rfl) (res := [.cell 2 25]) rfl Tryz.ntmps22 (by simp) fun w0 K0 B => ?_
  dsimp only [entry]
  repeat' first | with_reducible refine AW_seq ?_ | with_reducible refine AW_block ?_ | ((first | with_reducible refine AW_region hTt ?_ | ((refine ⟨_, (sp).call rfl rfl, ?_⟩); (rintro _ _ ⟨rfl, rfl⟩)) | fail); conv => whnf) | fail
  refine AW_imp (Imp.nil 900 38 3 (fr' := [(5, iv .i64 0), (4, strs rows), (3, .x (.b 3 0)), (2, .x (.b 2 0))]) (σ' := [(3, .box [.d (.v (.int .i64 0)), .o 900 0 0, .d (.v (.slice none 0 0))]), (2, .box [.d (.v (.int .i64 0)), .d (.v (.slice none 0 0)), .d (.v (.slice none 0 0))])]) rfl ?_ ?_ rfl rfl) ?_
  · exact ⟨⟨_, rfl, .inl rfl⟩, ⟨_, rfl, .inl rfl⟩, ⟨_, rfl, .inl rfl⟩, ⟨_, rfl, .inl rfl⟩, trivial⟩
  · exact ⟨⟨_, rfl, .inr ⟨_, _, rfl, rfl, .inl rfl, .inr ⟨rfl, rfl⟩, .inl rfl, trivial⟩⟩, ⟨_, rfl, .inl rfl⟩, trivial⟩
  refine AW_loop (fun x : Nat × NetT × PV × Nat => [(5, iv .i64 x.1), (4, strs rows), (3, .x (.b 3 0)), (2, .x (.b 2 0))])
    (fun x => [(900, .chain 38 3 x.2.2.2 (x.2.1.gates.map gPV)), (3, .box [.d (.v (.int .i64 x.2.1.inn)), .o 900 x.2.2.2 x.2.2.2, .d x.2.2.1]), (2, .box [.d (.v (.int .i64 0)), .d (.v (.slice none 0 0)), .d (.v (.slice none 0 0))])])
    (fun x => x.1 ≤ rows.length ∧ x.2.1 = parsedTo rows x.1 ∧ LeSV (.d x.2.2.1) (.d (intsPV x.2.1.out)) ∧ (x.2.1.gates.length = x.2.2.2 ∧ x.2.2.2 ≤ 5 * x.1)) (fun x => rows.length - x.1) (0, zeroN, .v (.slice none 0 0), 0) ⟨Nat.zero_le _, rfl, .inr ⟨rfl, _, rfl⟩, rfl, Nat.le_refl _⟩ impA ?_
  rintro ⟨i, n, o, c⟩ ⟨hi, hn, ho, hgc, hgl⟩
  dsimp only at hi hn ho hgc hgl ⊢
  rcases Nat.lt_or_ge i rows.length with hil | hil
  · have hz := hrz rows[i] (List.getElem_mem hil)
    have hq := rsplit_len rows[i] 32
    have hqs := rsplit_size rows[i] 32
    have sp2 := rsplit_fn rows[i] 32 (by omega)
    have hnx : parsedTo rows (i + 1) = rowQ i (rsplit rows[i] 32) n := by
      rw [parsedTo, hn, List.getD_eq_getElem?_getD, List.getElem?_eq_getElem hil]; rfl
    generalize hpp : rsplit rows[i] 32 = pp at hq hqs sp2 hnx
    match pp, hq, hqs, sp2, hnx with
    | w0 :: wt, hq, hqs, sp2, hnx =>
    have hwl : (w0 :: wt).length ≤ 601 := by omega
    simp only [List.length_cons] at hwl
    clear hpp hq hqs sp hz hrz
    repeat' first | with_reducible refine AW_seq ?_ | with_reducible refine AW_block ?_ | ((first | with_reducible refine AW_skip ?_ | with_reducible refine AW_exit ?_ | with_reducible refine AW_ret ?_ | with_reducible refine AW_region hTt ?_ | fail); conv => whnf) | (exact absurd hb (by omega)) | ((refine ⟨_, (sp2).call rfl rfl, ?_⟩); (rintro _ _ ⟨rfl, rfl⟩); conv => whnf) | (refine AW_cond rfl (fun hb => ?_) (fun hb => ?_) <;> first | (replace hb := of_decide_eq_true hb; try simp only [List.length_map] at hb) | (replace hb := of_decide_eq_false hb; try simp only [List.length_map] at hb) | (simp only [List.length_map, bne_iff_ne, ne_eq, beq_iff_eq, bne_eq_false_iff_eq, beq_eq_false_iff_ne, decide_eq_true_eq, decide_eq_false_iff_not, Bool.not_eq_true', Bool.not_eq_false', Int.natCast_inj] at hb) | skip) | ((first | refine andA ?_ | with_reducible refine Exists.intro _ (And.intro (gd_any (And.intro (by omega) (map_get (by omega)))) ?_) | fail); conv => whnf) | (refine fun hln => ?_; (try rw [List.length_map] at hln); unfold maxLen at hln; conv => whnf) | fail
    refine AW_imp (Imp.nil 7 3 1 (fr' := [(8, iv .i64 1), (7, .x (.o 7 0 0)), (6, strs (w0 :: wt)), (5, iv .i64 i), (4, strs rows), (3, .x (.b 3 0)), (2, .x (.b 2 0))]) (σ' := [(900, .chain 38 3 c (n.gates.map gPV)), (3, .box [.d (.v (.int .i64 n.inn)), .o 900 c c, .d o]), (2, .box [.d (.v (.int .i64 0)), .d (.v (.slice none 0 0)), .d (.v (.slice none 0 0))])]) rfl ?_ ?_ rfl rfl) ?_
    · exact ⟨⟨_, rfl, .inl rfl⟩, ⟨_, rfl, .inr ⟨rfl, rfl⟩⟩, ⟨_, rfl, .inl rfl⟩, ⟨_, rfl, .inl rfl⟩, ⟨_, rfl, .inl rfl⟩, ⟨_, rfl, .inl rfl⟩, ⟨_, rfl, .inl rfl⟩, trivial⟩
    · exact ⟨⟨_, rfl, .inl rfl⟩, ⟨_, rfl, .inl rfl⟩, ⟨_, rfl, .inl rfl⟩, trivial⟩
    have hcl : (w0 :: wt).length = wt.length + 1 := rfl
    refine AW_loop (fun k : Nat => [(8, iv .i64 ((k : Int) + 1)), (7, .x (.o 7 k k)), (6, strs (w0 :: wt)), (5, iv .i64 i), (4, strs rows), (3, .x (.b 3 0)), (2, .x (.b 2 0))]) (fun k => (7, .chain 3 1 k (((numsR wt).take k).map iPV)) :: [(900, .chain 38 3 c (n.gates.map gPV)), (3, .box [.d (.v (.int .i64 n.inn)), .o 900 c c, .d o]), (2, .box [.d (.v (.int .i64 0)), .d (.v (.slice none 0 0)), .d (.v (.slice none 0 0))])]) (fun k => k ≤ wt.length) (fun k => wt.length - k) 0 (Nat.zero_le _) impA ?_
    intro k hk
    have hnl : ((numsR wt).take k).length = k := by rw [List.length_take, numsR, List.length_map, Nat.min_eq_left hk]
    have hll0 : (numsR wt).length = wt.length := by rw [numsR, List.length_map]
    rcases Nat.lt_or_ge k wt.length with hkl | hkl
    · have nu := num_fn wt[k]
      have hw : (strsPV (w0 :: wt))[((k : Int) + 1).toNat]? = some [.v (.string wt[k])] := by
        rw [show ((k : Int) + 1).toNat = k + 1 by omega]
        simp [strsPV, hkl]
      have e : (((numsR wt).take k).map iPV).take k ++ [[PV.v (.int .i64 (numR wt[k].data.toList))]] = ((numsR wt).take (k + 1)).map iPV := by
        have hkn : k < (numsR wt).length := by rw [numsR, List.length_map]; exact hkl
        rw [List.take_of_length_le (by rw [List.length_map, hnl]; exact Nat.le_refl _), List.take_add_one, List.getElem?_eq_getElem hkn, List.map_append]
        simp [numsR, iPV]
      repeat' first | with_reducible refine AW_seq ?_ | with_reducible refine AW_block ?_ | ((first | with_reducible refine AW_skip ?_ | with_reducible refine AW_exit ?_ | with_reducible refine AW_region hTt ?_ | fail); conv => whnf) | (exact absurd hb (by omega)) | ((first | refine ⟨[.v (.string wt[k])], gd_any ⟨by omega, hw⟩, ?_⟩ | ((refine ⟨_, (nu).call rfl rfl, ?_⟩); (rintro _ _ ⟨rfl, rfl⟩)) | fail); conv => whnf) | (refine AW_cond rfl (fun hb => ?_) (fun hb => ?_) <;> first | (replace hb := of_decide_eq_true hb; try simp only [List.length_map] at hb) | (replace hb := of_decide_eq_false hb; try simp only [List.length_map] at hb) | (simp only [List.length_map, bne_iff_ne, ne_eq, beq_iff_eq, bne_eq_false_iff_eq, beq_eq_false_iff_ne, decide_eq_true_eq, decide_eq_false_iff_not, Bool.not_eq_true', Bool.not_eq_false', Int.natCast_inj] at hb) | skip) | ((first | refine ⟨_, wrap_of (by first | omega | (simp only [List.length_map]; omega)), ?_⟩ | refine andA ?_ | fail); conv => whnf) | ((refine And.intro (by refine ⟨?_, ?_, ?_⟩ <;> simp [chunk, maxLen] <;> omega) ?_); conv => whnf) | (refine fun hln => ?_; (try rw [List.length_map] at hln); unfold maxLen at hln; conv => whnf) | fail
      exact ⟨k + 1, hkl, by omega, impA⟩
    have hke : k = wt.length := by omega
    have hal : sl (numsR wt) = .x (.d (.s 1 ((((numsR wt).take k).map iPV).take k))) := by
      have hn2 : (numsR wt).take k = numsR wt := List.take_of_length_le (by rw [numsR, List.length_map]; omega)
      rw [List.take_of_length_le (by rw [List.length_map, hnl]; exact Nat.le_refl _), hn2]; rfl
    refine AW_imp (Imp.freeze 7 (fr' := [(8, iv .i64 ((k : Int) + 1)), (7, sl (numsR wt)), (6, strs (w0 :: wt)), (5, iv .i64 i), (4, strs rows), (3, .x (.b 3 0)), (2, .x (.b 2 0))]) (σ' := [(900, .chain 38 3 c (n.gates.map gPV)), (3, .box [.d (.v (.int .i64 n.inn)), .o 900 c c, .d o]), (2, .box [.d (.v (.int .i64 0)), .d (.v (.slice none 0 0)), .d (.v (.slice none 0 0))])]) rfl ⟨⟨_, rfl, .inl rfl⟩, ⟨_, rfl, .inr ⟨_, rfl, by rw [List.length_map, hnl]; exact Nat.le_refl _, hal⟩⟩, ⟨_, rfl, .inl rfl⟩, ⟨_, rfl, .inl rfl⟩, ⟨_, rfl, .inl rfl⟩, ⟨_, rfl, .inl rfl⟩, ⟨_, rfl, .inl rfl⟩, trivial⟩ ⟨rfl, rfl, rfl, trivial⟩ rfl rfl) ?_
    have hnx2 : parsedTo rows (i + 1) = ⟨innR i (numsR wt) n.inn, gsR w0 (numsR wt) 5 n.gates, outRw w0 (numsR wt) n.out⟩ := hnx
    have hll : (numsR wt).length = wt.length := by rw [numsR, List.length_map]
    clear hal hnl hnx hll0
    generalize numsR wt = l at hnx2 hll
    have hl1 : ∀ h : l.length = 1, 0 < l.length := fun h => by omega
    repeat' first | ((with_reducible refine AW_cut (x := .seq (.region 12 _ _) _) [(7, sl l), (6, strs (w0 :: wt)), (5, iv .i64 i), (4, strs rows), (3, .x (.b 3 0)), (2, .x (.b 2 0))] [(900, .chain 38 3 c (n.gates.map gPV)), (3, .box [.d (.v (.int .i64 (innR i l n.inn))), .o 900 c c, .d o]), (2, .box [.d (.v (.int .i64 0)), .d (.v (.slice none 0 0)), .d (.v (.slice none 0 0))])] ?_ ?_) <;> conv => whnf) | ((with_reducible refine AW_cut (x := .seq (.region 14 _ _) _) [(7, sl l), (6, strs (w0 :: wt)), (5, iv .i64 i), (4, strs rows), (3, .x (.b 3 0)), (2, .x (.b 2 0))] [(900, .chain 38 3 c (n.gates.map gPV)), (3, .box [.d (.v (.int .i64 (innR i l n.inn))), .o 900 c c, .d (if w0 = outputsB then intsPV l else o)]), (2, .box [.d (.v (.int .i64 0)), .d (.v (.slice none 0 0)), .d (.v (.slice none 0 0))])] ?_ ?_) <;> conv => whnf) | with_reducible refine AW_seq ?_ | with_reducible refine AW_block ?_ | ((first | with_reducible refine AW_skip ?_ | with_reducible refine AW_exit ?_ | with_reducible refine AW_region hTt ?_ | fail); conv => whnf) | (exact absurd hb (by omega)) | ((refine ⟨_, gd_any ⟨by decide, getD0 (hl1 (c13 hb).2)⟩, ?_⟩); conv => whnf) | (refine AW_cond rfl (fun hb => ?_) (fun hb => ?_) <;> first | (replace hb := of_decide_eq_true hb; try simp only [List.length_map] at hb) | (replace hb := of_decide_eq_false hb; try simp only [List.length_map] at hb) | (simp only [List.length_map, bne_iff_ne, ne_eq, beq_iff_eq, bne_eq_false_iff_eq, beq_eq_false_iff_ne, decide_eq_true_eq, decide_eq_false_iff_not, Bool.not_eq_true', Bool.not_eq_false', Int.natCast_inj] at hb) | skip) | ((first | refine andA ?_ | with_reducible refine Exists.intro _ (And.intro (gd_any (And.intro (by omega) (map_get' (by omega) (by omega)))) ?_) | fail); conv => whnf) | (refine fun hln => ?_; (try rw [List.length_map] at hln); unfold maxLen at hln; conv => whnf) | fail
    · have e : innR i l n.inn = l.getD 0 0 := if_pos (c13 hb)
      exact (Imp.forget (by repeat' (first | exact trivial | refine And.intro ?_ ?_ | exact boxI e.symm | rfl | exact ivE (by first | omega | (simp only [List.length_map, List.length_append, List.length_singleton] <;> omega)) | exact oE (by first | omega | (simp only [List.length_map, List.length_append, List.length_singleton] <;> omega)))) (by repeat' (first | exact trivial | refine And.intro ?_ ?_ | exact boxI e.symm | rfl | exact ivE (by first | omega | (simp only [List.length_map, List.length_append, List.length_singleton] <;> omega)) | exact oE (by first | omega | (simp only [List.length_map, List.length_append, List.length_singleton] <;> omega)))) (by kernel_rfl) (by kernel_rfl) (by kernel_rfl))
    · have e : innR i l n.inn = n.inn := if_neg (c13f hb)
      exact (Imp.forget (by repeat' (first | exact trivial | refine And.intro ?_ ?_ | exact boxI e.symm | rfl | exact ivE (by first | omega | (simp only [List.length_map, List.length_append, List.length_singleton] <;> omega)) | exact oE (by first | omega | (simp only [List.length_map, List.length_append, List.length_singleton] <;> omega)))) (by repeat' (first | exact trivial | refine And.intro ?_ ?_ | exact boxI e.symm | rfl | exact ivE (by first | omega | (simp only [List.length_map, List.length_append, List.length_singleton] <;> omega)) | exact oE (by first | omega | (simp only [List.length_map, List.length_append, List.length_singleton] <;> omega)))) (by kernel_rfl) (by kernel_rfl) (by kernel_rfl))
    · have e : (if w0 = outputsB then intsPV l else o) = intsPV l := if_pos ((Lib.bytes_beq_iff _ _).1 (beq_iff_eq.2 hb))
      exact (Imp.forget (by repeat' (first | exact trivial | refine And.intro ?_ ?_ | exact boxO e.symm | rfl | exact ivE (by first | omega | (simp only [List.length_map, List.length_append, List.length_singleton] <;> omega)) | exact oE (by first | omega | (simp only [List.length_map, List.length_append, List.length_singleton] <;> omega)))) (by repeat' (first | exact trivial | refine And.intro ?_ ?_ | exact boxO e.symm | rfl | exact ivE (by first | omega | (simp only [List.length_map, List.length_append, List.length_singleton] <;> omega)) | exact oE (by first | omega | (simp only [List.length_map, List.length_append, List.length_singleton] <;> omega)))) (by kernel_rfl) (by kernel_rfl) (by kernel_rfl))
    · have e : (if w0 = outputsB then intsPV l else o) = o := if_neg fun h => hb (beq_iff_eq.1 ((Lib.bytes_beq_iff w0 outputsB).2 h))
      exact (Imp.forget (by repeat' (first | exact trivial | refine And.intro ?_ ?_ | exact boxO e.symm | rfl | exact ivE (by first | omega | (simp only [List.length_map, List.length_append, List.length_singleton] <;> omega)) | exact oE (by first | omega | (simp only [List.length_map, List.length_append, List.length_singleton] <;> omega)))) (by repeat' (first | exact trivial | refine And.intro ?_ ?_ | exact boxO e.symm | rfl | exact ivE (by first | omega | (simp only [List.length_map, List.length_append, List.length_singleton] <;> omega)) | exact oE (by first | omega | (simp only [List.length_map, List.length_append, List.length_singleton] <;> omega)))) (by kernel_rfl) (by kernel_rfl) (by kernel_rfl))
    · have ho2 : LeSV (.d (if w0 = outputsB then intsPV l else o)) (.d (intsPV (outRw w0 l n.out))) := by
        unfold outRw
        split
        · exact .inl rfl
        · exact ho
      generalize innR i l n.inn = inn2 at hnx2 ⊢
      generalize (if w0 = outputsB then intsPV l else o) = o2 at ho2 ⊢
      refine AW_loop (fun x : Nat × Nat => [(9, iv .i64 ((x.1 : Int) + 1)), (7, sl l), (6, strs (w0 :: wt)), (5, iv .i64 i), (4, strs rows), (3, .x (.b 3 0)), (2, .x (.b 2 0))]) (fun x => [(900, .chain 38 3 x.2 ((gsR w0 l x.1 n.gates).map gPV)), (3, .box [.d (.v (.int .i64 inn2)), .o 900 x.2 x.2, .d o2]), (2, .box [.d (.v (.int .i64 0)), .d (.v (.slice none 0 0)), .d (.v (.slice none 0 0))])]) (fun x => x.1 ≤ 5 ∧ (gsR w0 l x.1 n.gates).length = x.2) (fun x => 5 - x.1) (0, c) ⟨Nat.zero_le _, hgc⟩ impA ?_
      rintro ⟨k, c'⟩ ⟨hk5, hgc2⟩
      dsimp only at hk5 hgc2 ⊢
      have hgl2 := gsR_len w0 l n.gates k
      rcases Nat.lt_or_ge k 5 with hkl | hkl
      · have hkw : (strsPV kindsB)[((k : Int) + 1).toNat]? = some [.v (.string (kindsB.getD (k + 1) ByteArray.empty))] := by
          have : k = 0 ∨ k = 1 ∨ k = 2 ∨ k = 3 ∨ k = 4 := by omega
          rcases this with rfl | rfl | rfl | rfl | rfl <;> rfl
        by_cases hK : w0 = kindsB.getD (k + 1) ByteArray.empty ∧ 0 < l.length
        · have hm : (bif (w0.toList == (kindsB.getD (k + 1) ByteArray.empty).toList) then decide ((0 : Int) < ((l.map fun n => [PV.v (.int .i64 n)]).length : Int)) else false) = true := by
            rw [beq_ba hK.1, List.length_map]
            exact decide_eq_true (by have := hK.2; omega)
          by_cases h1 : 1 < l.length
          · have e : ((gsR w0 l k n.gates).map gPV).take c' ++ [[PV.v (.int .i64 ((k : Int) + 1)), .v (.int .i64 (l.getD 0 0)), .v (.int .i64 (l.getD 1 0))]] = (gsR w0 l (k + 1) n.gates).map gPV := by
              rw [List.take_of_length_le (by rw [List.length_map]; omega), gsR, gstep, if_pos hK, List.map_append]
              have e2 : gPV (gN (k + 1) l) = [PV.v (.int .i64 ((k : Int) + 1)), .v (.int .i64 (l.getD 0 0)), .v (.int .i64 (l.getD 1 0))] := by
                unfold gN gPV
                rw [if_pos h1]; rfl
              rw [← e2]; rfl
            repeat' first | with_reducible refine AW_seq ?_ | with_reducible refine AW_block ?_ | ((first | with_reducible refine AW_skip ?_ | with_reducible refine AW_exit ?_ | with_reducible refine AW_region hTt ?_ | refine AW_draw hTt hMix (id := 19) 7 false [0, 1, 3, 0, 0, 24, 56, 127, 255, 511, 1023, 2047, 4095] (by kernel_rfl) rfl rfl (by kernel_rfl) ?_ | fail); conv => whnf) | (exact absurd hb (by omega)) | (refine AW_condT hm rfl ?_) | ((first | refine ⟨_, fun _ => (words_fn).call rfl rfl, ?_⟩ | refine ⟨_, gd_any ⟨by omega, hkw⟩, ?_⟩ | refine ⟨_, gd_any ⟨by decide, getD0 hK.2⟩, ?_⟩ | refine ⟨_, gd_any ⟨by decide, getD1 h1⟩, ?_⟩ | fail); conv => whnf) | (refine AW_cond rfl (fun hb => ?_) (fun hb => ?_) <;> first | (replace hb := of_decide_eq_true hb; try simp only [List.length_map] at hb) | (replace hb := of_decide_eq_false hb; try simp only [List.length_map] at hb) | (simp only [List.length_map, bne_iff_ne, ne_eq, beq_iff_eq, bne_eq_false_iff_eq, beq_eq_false_iff_ne, decide_eq_true_eq, decide_eq_false_iff_not, Bool.not_eq_true', Bool.not_eq_false', Int.natCast_inj] at hb) | skip) | ((first | refine ⟨_, wrap_of (by first | omega | (simp only [List.length_map]; omega)), ?_⟩ | refine andA ?_ | with_reducible refine Exists.intro _ (And.intro (gd_any (And.intro (by omega) (map_get' (by omega) (by omega)))) ?_) | fail); conv => whnf) | ((refine And.intro (by refine ⟨?_, ?_, ?_⟩ <;> simp [chunk, maxLen] <;> omega) ?_); conv => whnf) | (refine fun hln => ?_; (try rw [List.length_map] at hln); unfold maxLen at hln; conv => whnf) | fail
            exact ⟨(k + 1, c' + 1), ⟨hkl, by rw [gsR, gstep, if_pos hK, List.length_append, hgc2]; rfl⟩, by show 5 - (k + 1) < 5 - k; omega, impA⟩
          · have e : ((gsR w0 l k n.gates).map gPV).take c' ++ [[PV.v (.int .i64 ((k : Int) + 1)), .v (.int .i64 (l.getD 0 0)), .v (.int .i64 (0))]] = (gsR w0 l (k + 1) n.gates).map gPV := by
              rw [List.take_of_length_le (by rw [List.length_map]; omega), gsR, gstep, if_pos hK, List.map_append]
              have e2 : gPV (gN (k + 1) l) = [PV.v (.int .i64 ((k : Int) + 1)), .v (.int .i64 (l.getD 0 0)), .v (.int .i64 (0))] := by
                unfold gN gPV
                rw [if_neg h1]; rfl
              rw [← e2]; rfl
            repeat' first | with_reducible refine AW_seq ?_ | with_reducible refine AW_block ?_ | ((first | with_reducible refine AW_skip ?_ | with_reducible refine AW_exit ?_ | with_reducible refine AW_region hTt ?_ | refine AW_draw hTt hMix (id := 19) 7 false [0, 1, 3, 0, 0, 24, 56, 127, 255, 511, 1023, 2047, 4095] (by kernel_rfl) rfl rfl (by kernel_rfl) ?_ | fail); conv => whnf) | (exact absurd hb (by omega)) | (refine AW_condT hm rfl ?_) | ((first | refine ⟨_, fun _ => (words_fn).call rfl rfl, ?_⟩ | refine ⟨_, gd_any ⟨by omega, hkw⟩, ?_⟩ | refine ⟨_, gd_any ⟨by decide, getD0 hK.2⟩, ?_⟩ | fail); conv => whnf) | (refine AW_cond rfl (fun hb => ?_) (fun hb => ?_) <;> first | (replace hb := of_decide_eq_true hb; try simp only [List.length_map] at hb) | (replace hb := of_decide_eq_false hb; try simp only [List.length_map] at hb) | (simp only [List.length_map, bne_iff_ne, ne_eq, beq_iff_eq, bne_eq_false_iff_eq, beq_eq_false_iff_ne, decide_eq_true_eq, decide_eq_false_iff_not, Bool.not_eq_true', Bool.not_eq_false', Int.natCast_inj] at hb) | skip) | ((first | refine ⟨_, wrap_of (by first | omega | (simp only [List.length_map]; omega)), ?_⟩ | refine andA ?_ | with_reducible refine Exists.intro _ (And.intro (gd_any (And.intro (by omega) (map_get' (by omega) (by omega)))) ?_) | fail); conv => whnf) | ((refine And.intro (by refine ⟨?_, ?_, ?_⟩ <;> simp [chunk, maxLen] <;> omega) ?_); conv => whnf) | (refine fun hln => ?_; (try rw [List.length_map] at hln); unfold maxLen at hln; conv => whnf) | fail
            exact ⟨(k + 1, c' + 1), ⟨hkl, by rw [gsR, gstep, if_pos hK, List.length_append, hgc2]; rfl⟩, by show 5 - (k + 1) < 5 - k; omega, impA⟩
        · have hm : (bif (w0.toList == (kindsB.getD (k + 1) ByteArray.empty).toList) then decide ((0 : Int) < ((l.map fun n => [PV.v (.int .i64 n)]).length : Int)) else false) = false := by
            cases hc : (w0.toList == (kindsB.getD (k + 1) ByteArray.empty).toList) with
            | false => rfl
            | true =>
              rw [cond_true, List.length_map]
              exact decide_eq_false fun h => hK ⟨(Lib.bytes_beq_iff _ _).1 hc, by omega⟩
          repeat' first | with_reducible refine AW_seq ?_ | with_reducible refine AW_block ?_ | ((first | with_reducible refine AW_skip ?_ | with_reducible refine AW_exit ?_ | with_reducible refine AW_region hTt ?_ | refine AW_draw hTt hMix (id := 19) 7 false [0, 1, 3, 0, 0, 24, 56, 127, 255, 511, 1023, 2047, 4095] (by kernel_rfl) rfl rfl (by kernel_rfl) ?_ | fail); conv => whnf) | (exact absurd hb (by omega)) | (refine AW_condF hm rfl ?_) | ((first | refine ⟨_, fun _ => (words_fn).call rfl rfl, ?_⟩ | refine ⟨_, gd_any ⟨by omega, hkw⟩, ?_⟩ | fail); conv => whnf) | (refine AW_cond rfl (fun hb => ?_) (fun hb => ?_) <;> first | (replace hb := of_decide_eq_true hb; try simp only [List.length_map] at hb) | (replace hb := of_decide_eq_false hb; try simp only [List.length_map] at hb) | (simp only [List.length_map, bne_iff_ne, ne_eq, beq_iff_eq, bne_eq_false_iff_eq, beq_eq_false_iff_ne, decide_eq_true_eq, decide_eq_false_iff_not, Bool.not_eq_true', Bool.not_eq_false', Int.natCast_inj] at hb) | skip) | ((first | refine ⟨_, wrap_of (by first | omega | (simp only [List.length_map]; omega)), ?_⟩ | refine andA ?_ | with_reducible refine Exists.intro _ (And.intro (gd_any (And.intro (by omega) (map_get' (by omega) (by omega)))) ?_) | fail); conv => whnf) | fail
          have e : ((gsR w0 l k n.gates).map gPV) = (gsR w0 l (k + 1) n.gates).map gPV := by rw [gsR, gstep, if_neg hK]
          exact ⟨(k + 1, c'), ⟨hkl, by rw [gsR, gstep, if_neg hK]; exact hgc2⟩, by show 5 - (k + 1) < 5 - k; omega, impA⟩
      · have hke : k = 5 := by omega
        subst hke
        repeat' first | with_reducible refine AW_seq ?_ | ((first | with_reducible refine AW_exit ?_ | with_reducible refine AW_region hTt ?_ | fail); conv => whnf) | (refine AW_cond rfl (fun hb => absurd hb (by decide)) (fun _ => ?_)) | ((refine ⟨_, wrap_of (by first | omega | (simp only [List.length_map]; omega)), ?_⟩); conv => whnf) | fail
        exact ⟨(i + 1, ⟨inn2, gsR w0 l 5 n.gates, outRw w0 l n.out⟩, o2, c'), ⟨hil, hnx2.symm, ho2, hgc2, by show c' ≤ 5 * (i + 1); omega⟩, by show rows.length - (i + 1) < rows.length - i; omega, impA⟩
  · have hie : i = rows.length := by omega
    have hle : c ≤ (n.gates.map gPV).length := by rw [List.length_map]; omega
    have hal : (PV.s 3 (n.gates.map gPV)) = .s 3 ((n.gates.map gPV).take c) := by rw [List.take_of_length_le (by rw [List.length_map]; omega)]
    subst hie
    refine AW_imp (Imp.freezeB 900 (fr' := [(5, iv .i64 rows.length), (4, strs rows), (3, .x (.b 3 0)), (2, .x (.b 2 0))]) (σ' := [(3, .box [.d (.v (.int .i64 n.inn)), .d (gatesPV n.gates), .d o]), (2, .box [.d (.v (.int .i64 0)), .d (.v (.slice none 0 0)), .d (.v (.slice none 0 0))])]) rfl
      ⟨⟨_, rfl, .inl rfl⟩, ⟨_, rfl, .inl rfl⟩, ⟨_, rfl, .inl rfl⟩, ⟨_, rfl, .inl rfl⟩, trivial⟩ ⟨⟨_, rfl, .inr ⟨_, _, rfl, rfl, ⟨.inl rfl, .inr ⟨_, rfl, hle, congrArg SV.d hal⟩, .inl rfl, trivial⟩⟩⟩, ⟨_, rfl, .inl rfl⟩, trivial⟩ rfl rfl) ?_
    repeat' first | with_reducible refine AW_seq ?_ | with_reducible refine AW_block ?_ | ((first | with_reducible refine AW_skip ?_ | with_reducible refine AW_exit ?_ | with_reducible refine AW_ret ?_ | with_reducible refine AW_region hTt ?_ | fail); conv => whnf) | (exact absurd hb (by omega)) | (refine AW_cond rfl (fun hb => ?_) (fun hb => ?_) <;> first | (replace hb := of_decide_eq_true hb; try simp only [List.length_map] at hb) | (replace hb := of_decide_eq_false hb; try simp only [List.length_map] at hb) | (simp only [List.length_map, bne_iff_ne, ne_eq, beq_iff_eq, bne_eq_false_iff_eq, beq_eq_false_iff_ne, decide_eq_true_eq, decide_eq_false_iff_not, Bool.not_eq_true', Bool.not_eq_false', Int.natCast_inj] at hb) | skip) | (refine fun hln => ?_; (try rw [List.length_map] at hln); unfold maxLen at hln; conv => whnf) | fail
    rw [hpR, ← hn]
    exact ⟨.a [.d (.v (.int .i64 n.inn)), .d (gatesPV n.gates), .d o], [], trivial, rfl, rfl, ⟨.inl rfl, .inl rfl, ho, trivial⟩, rfl⟩
theorem parsed_fn (s : ByteArray) (hs : s.size ≤ 600) : FnC Tryz.prog 22 [sv s] (netAV (parsedR s)) :=
  FnC_of_ACall ((parsed_call s hs).leW fun _ _ h => ⟨_, h.1, rfl, h.2⟩)
end Go.Proofs.YtfpaonfddaeamaaGreatDoor
namespace Go.Proofs.YtfpaonfddaeamaaGreatDoor
open Go Go.QL Go.RowKit
set_option maxHeartbeats 3200000
attribute [local irreducible] ACall FnC Imp
theorem svE2 {a b : ByteArray} (h : a.data.toList = b.data.toList) : some (sv a) = some (sv b) := by rw [mkB_inj h]
theorem sz1 (b : UInt8) : (⟨#[b]⟩ : ByteArray).size = 1 := rfl
theorem szI : (⟨#[105, 110, 112, 117, 116, 115, 32]⟩ : ByteArray).size = 7 := rfl
theorem szO : (⟨#[111, 117, 116, 112, 117, 116, 115]⟩ : ByteArray).size = 7 := rfl
theorem mL : maxLen = 9223372036854775807 := by decide
theorem text_fn (n : NetT) (ok : NetOK n) : FnC Tryz.prog 15 [netAV n] (sv (textB n)) := by
  have hNN := NN.of ok
  have h1 := ok.h1
  have h6 := ok.h6
  have hgl := ok.hl
  have d0 := dig_fn n.inn ⟨by omega, by omega⟩
  have z0 := numB_size (n := n.inn) ⟨by omega, by omega⟩
  have zI := szI
  have zO := szO
  have z32 := sz1 32
  have z10 := sz1 10
  have hL := mL
  refine FnC_of_AW hTt Tryz.func15 rfl (by kernel_rfl) (res := [.tmp 2]) rfl Tryz.ntmps15 (by simp) fun w0 K0 => ?_
  dsimp only [entry]
  repeat' first | with_reducible refine AW_seq ?_ | with_reducible refine AW_block ?_ | ((first | with_reducible refine AW_region hTt ?_ | ((refine ⟨_, (d0).call rfl rfl, ?_⟩); (rintro _ _ ⟨rfl, rfl⟩)) | refine And.intro (gd_none (by simp only [ByteArray.size_append]; omega)) ?_ | refine andA ?_ | fail); conv => whnf) | fail
  have e0 : (((⟨#[105, 110, 112, 117, 116, 115, 32]⟩ : ByteArray) ++ numB n.inn) ++ ⟨#[10]⟩).data.toList = (textTo n 0).data.toList := by
    rw [textTo_list n hNN.i hNN.g 0 (Nat.zero_le _)]
    simp [linesI, rowI, inputsB, numB, itoa_nn hNN.i]
  refine AW_loop (fun i : Nat => [(4, iv .i64 i), (3, sv (textTo n i)), (1, .x (.b 1 0))]) (fun _ => [(1, netCells n)]) (fun i => i ≤ n.gates.length) (fun i => n.gates.length - i) 0 (Nat.zero_le _) (Imp.forget (by repeat' (first | exact trivial | refine And.intro ?_ ?_ | exact svE2 e0 | rfl | exact ivE (by first | omega | (simp only [List.length_map, List.length_append, List.length_singleton] <;> omega)) | exact oE (by first | omega | (simp only [List.length_map, List.length_append, List.length_singleton] <;> omega)))) (by repeat' (first | exact trivial | refine And.intro ?_ ?_ | exact svE2 e0 | rfl | exact ivE (by first | omega | (simp only [List.length_map, List.length_append, List.length_singleton] <;> omega)) | exact oE (by first | omega | (simp only [List.length_map, List.length_append, List.length_singleton] <;> omega)))) (by kernel_rfl) (by kernel_rfl) (by kernel_rfl)) ?_
  intro i hi
  have hts := textTo_size ok i hi
  rcases Nat.lt_or_ge i n.gates.length with hil | hil
  · obtain ⟨⟨k, a, b⟩, hg⟩ : ∃ g, n.gates[i]? = some g := ⟨_, List.getElem?_eq_getElem hil⟩
    have hgi : n.gates[i] = ⟨k, a, b⟩ := by rw [List.getElem?_eq_getElem hil] at hg; exact Option.some.inj hg
    have hk := ok.hk i hil
    have hA := ok.ha i hil
    have hB := ok.hb i hil
    rw [hgi] at hk hA hB
    dsimp only at hk hA hB
    have hkd : (strsPV kindsB)[k.toNat]? = some [.v (.string (kindB k))] := by
      have : k = 1 ∨ k = 2 ∨ k = 3 ∨ k = 4 ∨ k = 5 := by omega
      rcases this with rfl | rfl | rfl | rfl | rfl <;> rfl
    have d1 := dig_fn a ⟨by omega, by omega⟩
    have d2 := dig_fn b ⟨by omega, by omega⟩
    have z1 := numB_size (n := a) ⟨by omega, by omega⟩
    have z2 := numB_size (n := b) ⟨by omega, by omega⟩
    have z3 := kindB_size k
    have hsu := textTo_succ n i hg
    have e1 : (textTo n (i + 1)).data.toList = (textTo n i).data.toList ++ (gateI ⟨k, a, b⟩ ++ [10]) := by
      rw [hsu, ByteArray.data_append, Array.toList_append, gateB_list _ (by unfold numsOf; split <;> simp <;> omega)]
    have nA : (numB a).data.toList = Lib.itoa a := by rw [itoa_nn hA.1]; rfl
    have nB : (numB b).data.toList = Lib.itoa b := by rw [itoa_nn hB.1]; rfl
    by_cases hk4 : 4 ≤ k
    · have e2 : (((textTo n i ++ kindB k) ++ ⟨#[32]⟩ ++ numB a) ++ ⟨#[10]⟩).data.toList = (textTo n (i + 1)).data.toList := by
        rw [e1]
        unfold gateI
        simp [hk4, rowI, nA]
      repeat' first | with_reducible refine AW_seq ?_ | with_reducible refine AW_block ?_ | ((first | with_reducible refine AW_skip ?_ | with_reducible refine AW_exit ?_ | with_reducible refine AW_region hTt ?_ | refine AW_draw hTt hMix (id := 6) 11 false [0, 0, 0, 4, 14, 30, 63, 127, 0, 256, 770, 2047, 4095] (by kernel_rfl) rfl rfl (by kernel_rfl) ?_ | fail); conv => whnf) | (exact absurd hb (by omega)) | ((first | with_reducible refine Exists.intro _ (And.intro (gd_any (And.intro (by omega) (gate_some hg))) ?_) | refine ⟨_, fun _ => (words_fn).call rfl rfl, ?_⟩ | refine ⟨_, gd_any ⟨by omega, hkd⟩, ?_⟩ | refine ⟨_, fun _ => (d1).call rfl rfl, ?_⟩ | refine And.intro (gd_none (by simp only [ByteArray.size_append]; omega)) ?_ | fail); conv => whnf) | (refine AW_cond rfl (fun hb => ?_) (fun hb => ?_) <;> first | (replace hb := of_decide_eq_true hb; try simp only [List.length_map] at hb) | (replace hb := of_decide_eq_false hb; try simp only [List.length_map] at hb) | (simp only [List.length_map, bne_iff_ne, ne_eq, beq_iff_eq, bne_eq_false_iff_eq, beq_eq_false_iff_ne, decide_eq_true_eq, decide_eq_false_iff_not, Bool.not_eq_true', Bool.not_eq_false', Int.natCast_inj] at hb) | skip) | ((first | refine ⟨_, wrap_of (by first | omega | (simp only [List.length_map]; omega)), ?_⟩ | refine andA ?_ | fail); conv => whnf) | (refine fun hln => ?_; (try rw [List.length_map] at hln); unfold maxLen at hln; conv => whnf) | fail
      exact ⟨i + 1, hil, by omega, (Imp.forget (by repeat' (first | exact trivial | refine And.intro ?_ ?_ | exact svE2 e2 | rfl | exact ivE (by first | omega | (simp only [List.length_map, List.length_append, List.length_singleton] <;> omega)) | exact oE (by first | omega | (simp only [List.length_map, List.length_append, List.length_singleton] <;> omega)))) (by repeat' (first | exact trivial | refine And.intro ?_ ?_ | exact svE2 e2 | rfl | exact ivE (by first | omega | (simp only [List.length_map, List.length_append, List.length_singleton] <;> omega)) | exact oE (by first | omega | (simp only [List.length_map, List.length_append, List.length_singleton] <;> omega)))) (by kernel_rfl) (by kernel_rfl) (by kernel_rfl))⟩
    · have e2 : (((((textTo n i ++ kindB k) ++ ⟨#[32]⟩ ++ numB a) ++ ⟨#[32]⟩) ++ numB b) ++ ⟨#[10]⟩).data.toList = (textTo n (i + 1)).data.toList := by
        rw [e1]
        unfold gateI
        simp [hk4, rowI, nA, nB]
      repeat' first | with_reducible refine AW_seq ?_ | with_reducible refine AW_block ?_ | ((first | with_reducible refine AW_skip ?_ | with_reducible refine AW_exit ?_ | with_reducible refine AW_region hTt ?_ | refine AW_draw hTt hMix (id := 6) 11 false [0, 0, 0, 4, 14, 30, 63, 127, 0, 256, 770, 2047, 4095] (by kernel_rfl) rfl rfl (by kernel_rfl) ?_ | fail); conv => whnf) | (exact absurd hb (by omega)) | ((first | with_reducible refine Exists.intro _ (And.intro (gd_any (And.intro (by omega) (gate_some hg))) ?_) | refine ⟨_, fun _ => (words_fn).call rfl rfl, ?_⟩ | refine ⟨_, gd_any ⟨by omega, hkd⟩, ?_⟩ | refine ⟨_, fun _ => (d1).call rfl rfl, ?_⟩ | ((refine ⟨_, (d2).call rfl rfl, ?_⟩); (rintro _ _ ⟨rfl, rfl⟩)) | refine And.intro (gd_none (by simp only [ByteArray.size_append]; omega)) ?_ | fail); conv => whnf) | (refine AW_cond rfl (fun hb => ?_) (fun hb => ?_) <;> first | (replace hb := of_decide_eq_true hb; try simp only [List.length_map] at hb) | (replace hb := of_decide_eq_false hb; try simp only [List.length_map] at hb) | (simp only [List.length_map, bne_iff_ne, ne_eq, beq_iff_eq, bne_eq_false_iff_eq, beq_eq_false_iff_ne, decide_eq_true_eq, decide_eq_false_iff_not, Bool.not_eq_true', Bool.not_eq_false', Int.natCast_inj] at hb) | skip) | ((first | refine ⟨_, wrap_of (by first | omega | (simp only [List.length_map]; omega)), ?_⟩ | refine andA ?_ | fail); conv => whnf) | (refine fun hln => ?_; (try rw [List.length_map] at hln); unfold maxLen at hln; conv => whnf) | fail
      exact ⟨i + 1, hil, by omega, (Imp.forget (by repeat' (first | exact trivial | refine And.intro ?_ ?_ | exact svE2 e2 | rfl | exact ivE (by first | omega | (simp only [List.length_map, List.length_append, List.length_singleton] <;> omega)) | exact oE (by first | omega | (simp only [List.length_map, List.length_append, List.length_singleton] <;> omega)))) (by repeat' (first | exact trivial | refine And.intro ?_ ?_ | exact svE2 e2 | rfl | exact ivE (by first | omega | (simp only [List.length_map, List.length_append, List.length_singleton] <;> omega)) | exact oE (by first | omega | (simp only [List.length_map, List.length_append, List.length_singleton] <;> omega)))) (by kernel_rfl) (by kernel_rfl) (by kernel_rfl))⟩
  · have hie : i = n.gates.length := by omega
    subst hie
    have ho4 := ok.o4
    have hor : ∀ x ∈ n.out, 0 ≤ x ∧ x < 100 := fun x hx => by
      obtain ⟨j, hj, rfl⟩ := List.getElem_of_mem hx
      have := ok.ho j hj
      omega
    have hlt : ∀ j, lineTo outputsB (n.out.take j) = lineTo ⟨#[111, 117, 116, 112, 117, 116, 115]⟩ (n.out.take j) := fun _ => rfl
    repeat' first | with_reducible refine AW_seq ?_ | with_reducible refine AW_block ?_ | ((first | with_reducible refine AW_skip ?_ | with_reducible refine AW_exit ?_ | with_reducible refine AW_region hTt ?_ | fail); conv => whnf) | (exact absurd hb (by omega)) | (refine AW_cond rfl (fun hb => ?_) (fun hb => ?_) <;> first | (replace hb := of_decide_eq_true hb; try simp only [List.length_map] at hb) | (replace hb := of_decide_eq_false hb; try simp only [List.length_map] at hb) | (simp only [List.length_map, bne_iff_ne, ne_eq, beq_iff_eq, bne_eq_false_iff_eq, beq_eq_false_iff_ne, decide_eq_true_eq, decide_eq_false_iff_not, Bool.not_eq_true', Bool.not_eq_false', Int.natCast_inj] at hb) | skip) | ((refine andA ?_); conv => whnf) | (refine fun hln => ?_; (try rw [List.length_map] at hln); unfold maxLen at hln; conv => whnf) | fail
    refine AW_loop (fun j : Nat => [(6, iv .i64 j), (3, sv (textTo n n.gates.length ++ lineTo outputsB (n.out.take j))), (1, .x (.b 1 0))]) (fun _ => [(1, netCells n)]) (fun j => j ≤ n.out.length) (fun j => n.out.length - j) 0 (Nat.zero_le _) impA ?_
    intro j hj
    have zl := lineTo_size outputsB n.out hor j hj
    have zo : outputsB.size = 7 := rfl
    rcases Nat.lt_or_ge j n.out.length with hjl | hjl
    · have hx := hor n.out[j] (List.getElem_mem hjl)
      have d1 := dig_fn n.out[j] hx
      have z1 := numB_size hx
      have e3 : ((textTo n n.gates.length ++ lineTo outputsB (n.out.take j)) ++ ⟨#[32]⟩ ++ numB n.out[j]).data.toList = (textTo n n.gates.length ++ lineTo outputsB (n.out.take (j + 1))).data.toList := by
        rw [lineTo_succ outputsB n.out j hjl]; simp
      repeat' first | with_reducible refine AW_seq ?_ | with_reducible refine AW_block ?_ | ((first | with_reducible refine AW_skip ?_ | with_reducible refine AW_exit ?_ | with_reducible refine AW_region hTt ?_ | fail); conv => whnf) | (exact absurd hb (by omega)) | ((first | ((refine ⟨_, (d1).call rfl rfl, ?_⟩); (rintro _ _ ⟨rfl, rfl⟩)) | refine And.intro (gd_none (by simp only [ByteArray.size_append]; omega)) ?_ | fail); conv => whnf) | (refine AW_cond rfl (fun hb => ?_) (fun hb => ?_) <;> first | (replace hb := of_decide_eq_true hb; try simp only [List.length_map] at hb) | (replace hb := of_decide_eq_false hb; try simp only [List.length_map] at hb) | (simp only [List.length_map, bne_iff_ne, ne_eq, beq_iff_eq, bne_eq_false_iff_eq, beq_eq_false_iff_ne, decide_eq_true_eq, decide_eq_false_iff_not, Bool.not_eq_true', Bool.not_eq_false', Int.natCast_inj] at hb) | skip) | ((first | refine ⟨_, wrap_of (by first | omega | (simp only [List.length_map]; omega)), ?_⟩ | refine andA ?_ | with_reducible refine Exists.intro _ (And.intro (gd_any (And.intro (by omega) (map_get (by omega)))) ?_) | fail); conv => whnf) | (refine fun hln => ?_; (try rw [List.length_map] at hln); unfold maxLen at hln; conv => whnf) | fail
      exact ⟨j + 1, hjl, by omega, (Imp.forget (by repeat' (first | exact trivial | refine And.intro ?_ ?_ | exact svE2 e3 | rfl | exact ivE (by first | omega | (simp only [List.length_map, List.length_append, List.length_singleton] <;> omega)) | exact oE (by first | omega | (simp only [List.length_map, List.length_append, List.length_singleton] <;> omega)))) (by repeat' (first | exact trivial | refine And.intro ?_ ?_ | exact svE2 e3 | rfl | exact ivE (by first | omega | (simp only [List.length_map, List.length_append, List.length_singleton] <;> omega)) | exact oE (by first | omega | (simp only [List.length_map, List.length_append, List.length_singleton] <;> omega)))) (by kernel_rfl) (by kernel_rfl) (by kernel_rfl))⟩
    · have hje : j = n.out.length := by omega
      subst hje
      rw [show textB n = (textTo n n.gates.length ++ lineTo outputsB (n.out.take n.out.length)) ++ ⟨#[10]⟩ from by
        apply mkB_inj
        unfold textB lineB
        rw [List.take_length]; simp]
      repeat' first | with_reducible refine AW_seq ?_ | with_reducible refine AW_block ?_ | ((first | with_reducible refine AW_skip ?_ | with_reducible refine AW_exit ?_ | with_reducible refine AW_ret ?_ | with_reducible refine AW_region hTt ?_ | fail); conv => whnf) | (exact absurd hb (by omega)) | ((refine And.intro (gd_none (by simp only [ByteArray.size_append]; omega)) ?_); conv => whnf) | (refine AW_cond rfl (fun hb => ?_) (fun hb => ?_) <;> first | (replace hb := of_decide_eq_true hb; try simp only [List.length_map] at hb) | (replace hb := of_decide_eq_false hb; try simp only [List.length_map] at hb) | (simp only [List.length_map, bne_iff_ne, ne_eq, beq_iff_eq, bne_eq_false_iff_eq, beq_eq_false_iff_ne, decide_eq_true_eq, decide_eq_false_iff_not, Bool.not_eq_true', Bool.not_eq_false', Int.natCast_inj] at hb) | skip) | ((refine andA ?_); conv => whnf) | (refine fun hln => ?_; (try rw [List.length_map] at hln); unfold maxLen at hln; conv => whnf) | fail
      rfl
end Go.Proofs.YtfpaonfddaeamaaGreatDoor
namespace Go.Proofs.YtfpaonfddaeamaaGreatDoor
open Go Go.QL Go.RowKit
set_option maxHeartbeats 3200000
attribute [local irreducible] ACall FnC Imp
theorem rwrite_fn (n : NetT) : FnC Tryz.prog 6 [netAV n] (.t [sv (writeR n).1, iv .i64 (writeR n).2]) := by
  have ck := check_fn n
  by_cases hc : (checkR n).2.2 = 0
  · have ok := NetOK.of hc
    have tx := text_fn n ok
    rw [show writeR n = (textB n, 0) from if_pos hc]
    refine FnC_of_AW hTt Tryz.func6 rfl (by kernel_rfl) (res := [.tmp 2, .tmp 3]) rfl Tryz.ntmps6 (by simp) fun w0 K0 => ?_
    dsimp only [entry]
    repeat' first | with_reducible refine AW_seq ?_ | ((first | with_reducible refine AW_skip ?_ | with_reducible refine AW_ret ?_ | with_reducible refine AW_region hTt ?_ | ((refine ⟨_, (ck).call rfl rfl, ?_⟩); (rintro _ _ ⟨rfl, rfl⟩)) | fail); conv => whnf) | (exact absurd hb (by omega)) | ((refine ⟨_, (tx).call rfl rfl, ?_⟩); (rintro _ _ ⟨rfl, rfl⟩); conv => whnf) | (refine AW_cond rfl (fun hb => ?_) (fun hb => ?_) <;> first | (replace hb := of_decide_eq_true hb; try simp only [List.length_map] at hb) | (replace hb := of_decide_eq_false hb; try simp only [List.length_map] at hb) | (simp only [List.length_map, bne_iff_ne, ne_eq, beq_iff_eq, bne_eq_false_iff_eq, beq_eq_false_iff_ne, decide_eq_true_eq, decide_eq_false_iff_not, Bool.not_eq_true', Bool.not_eq_false', Int.natCast_inj] at hb) | skip) | fail
    rfl
  · rw [show writeR n = (⟨#[]⟩, (checkR n).2.2) from if_neg hc]
    refine FnC_of_AW hTt Tryz.func6 rfl (by kernel_rfl) (res := [.tmp 2, .tmp 3]) rfl Tryz.ntmps6 (by simp) fun w0 K0 => ?_
    dsimp only [entry]
    repeat' first | with_reducible refine AW_seq ?_ | ((first | with_reducible refine AW_skip ?_ | with_reducible refine AW_ret ?_ | with_reducible refine AW_region hTt ?_ | ((refine ⟨_, (ck).call rfl rfl, ?_⟩); (rintro _ _ ⟨rfl, rfl⟩)) | fail); conv => whnf) | (exact absurd hb (by omega)) | (refine AW_cond rfl (fun hb => ?_) (fun hb => ?_) <;> first | (replace hb := of_decide_eq_true hb; try simp only [List.length_map] at hb) | (replace hb := of_decide_eq_false hb; try simp only [List.length_map] at hb) | (simp only [List.length_map, bne_iff_ne, ne_eq, beq_iff_eq, bne_eq_false_iff_eq, beq_eq_false_iff_ne, decide_eq_true_eq, decide_eq_false_iff_not, Bool.not_eq_true', Bool.not_eq_false', Int.natCast_inj] at hb) | skip) | fail
    rfl
def rreadR (s : ByteArray) : NetT × Int :=
  if 600 < s.size then (zeroN, 3)
  else if (checkR (parsedR s)).2.2 = 0 ∧ textB (parsedR s) = s then (parsedR s, 0) else (zeroN, 6)
theorem rread_call (s : ByteArray) : ACall Tryz.prog 8 [sv s] [] (fun r σ' => LeW r (.t [netAV (rreadR s).1, iv .i64 (rreadR s).2]) ∧ σ' = []) := by
  by_cases hs : 600 < s.size
  · rw [show rreadR s = (zeroN, 3) from if_pos hs]
    refine ACall_of_AWD hTt Tryz.func8 rfl (by kernel_rfl) (res := [.cell 2 25, .tmp 3]) rfl Tryz.ntmps8 (by simp) fun w0 K0 B => ?_
    dsimp only [entry]
    repeat' first | with_reducible refine AW_seq ?_ | ((first | with_reducible refine AW_skip ?_ | with_reducible refine AW_ret ?_ | with_reducible refine AW_region hTt ?_ | fail); conv => whnf) | (exact absurd hb (by omega)) | (refine AW_cond rfl (fun hb => ?_) (fun hb => ?_) <;> first | (replace hb := of_decide_eq_true hb; try simp only [List.length_map] at hb) | (replace hb := of_decide_eq_false hb; try simp only [List.length_map] at hb) | (simp only [List.length_map, bne_iff_ne, ne_eq, beq_iff_eq, bne_eq_false_iff_eq, beq_eq_false_iff_ne, decide_eq_true_eq, decide_eq_false_iff_not, Bool.not_eq_true', Bool.not_eq_false', Int.natCast_inj] at hb) | skip) | fail
    exact ⟨.t [.a [.d (.v (.int .i64 0)), .d (.v (.slice none 0 0)), .d (.v (.slice none 0 0))], iv .i64 3], [], trivial, rfl, rfl, ⟨⟨.inl rfl, .inr ⟨rfl, _, rfl⟩, .inr ⟨rfl, _, rfl⟩, trivial⟩, .inl rfl, trivial⟩, rfl⟩
  · have hR : rreadR s = if (checkR (parsedR s)).2.2 = 0 ∧ textB (parsedR s) = s then (parsedR s, 0) else (zeroN, 6) := if_neg hs
    have pf := parsed_fn s (by omega)
    generalize parsedR s = n at hR pf
    have ck := check_fn n
    by_cases hc : (checkR n).2.2 = 0
    · have tx := text_fn n (NetOK.of hc)
      have hm : ((checkR n).2.2 != 0) = false := by rw [hc]; rfl
      by_cases ht : textB n = s
      · have hm2 : (bif ((checkR n).2.2 != 0) then true else !((textB n).toList == s.toList)) = false := by rw [hm, ht]; simp
        rw [hR, if_pos ⟨hc, ht⟩]
        refine ACall_of_AWD hTt Tryz.func8 rfl (by kernel_rfl) (res := [.cell 2 25, .tmp 3]) rfl Tryz.ntmps8 (by simp) fun w0 K0 B => ?_
        dsimp only [entry]
        repeat' first | with_reducible refine AW_seq ?_ | ((first | with_reducible refine AW_skip ?_ | with_reducible refine AW_ret ?_ | with_reducible refine AW_region hTt ?_ | fail); conv => whnf) | (exact absurd hb (by omega)) | ((first | ((refine ⟨_, (pf).call rfl rfl, ?_⟩); (rintro _ _ ⟨rfl, rfl⟩)) | ((refine ⟨_, (ck).call rfl rfl, ?_⟩); (rintro _ _ ⟨rfl, rfl⟩)) | refine ⟨_, fun _ => (tx).call rfl rfl, ?_⟩ | fail); conv => whnf) | (refine AW_condF hm2 rfl ?_) | (refine AW_cond rfl (fun hb => ?_) (fun hb => ?_) <;> first | (replace hb := of_decide_eq_true hb; try simp only [List.length_map] at hb) | (replace hb := of_decide_eq_false hb; try simp only [List.length_map] at hb) | (simp only [List.length_map, bne_iff_ne, ne_eq, beq_iff_eq, bne_eq_false_iff_eq, beq_eq_false_iff_ne, decide_eq_true_eq, decide_eq_false_iff_not, Bool.not_eq_true', Bool.not_eq_false', Int.natCast_inj] at hb) | skip) | ((refine andA ?_); conv => whnf) | fail
        exact ⟨.t [netAV n, iv .i64 0], [], trivial, rfl, rfl, ⟨⟨.inl rfl, .inl rfl, .inl rfl, trivial⟩, .inl rfl, trivial⟩, rfl⟩
      · have hm2 : (bif ((checkR n).2.2 != 0) then true else !((textB n).toList == s.toList)) = true := by rw [hm, beq_ba_f ht]; rfl
        rw [hR, if_neg (fun h => ht h.2)]
        refine ACall_of_AWD hTt Tryz.func8 rfl (by kernel_rfl) (res := [.cell 2 25, .tmp 3]) rfl Tryz.ntmps8 (by simp) fun w0 K0 B => ?_
        dsimp only [entry]
        repeat' first | with_reducible refine AW_seq ?_ | ((first | with_reducible refine AW_skip ?_ | with_reducible refine AW_ret ?_ | with_reducible refine AW_region hTt ?_ | fail); conv => whnf) | (exact absurd hb (by omega)) | ((first | ((refine ⟨_, (pf).call rfl rfl, ?_⟩); (rintro _ _ ⟨rfl, rfl⟩)) | ((refine ⟨_, (ck).call rfl rfl, ?_⟩); (rintro _ _ ⟨rfl, rfl⟩)) | refine ⟨_, fun _ => (tx).call rfl rfl, ?_⟩ | fail); conv => whnf) | (refine AW_condT hm2 rfl ?_) | (refine AW_cond rfl (fun hb => ?_) (fun hb => ?_) <;> first | (replace hb := of_decide_eq_true hb; try simp only [List.length_map] at hb) | (replace hb := of_decide_eq_false hb; try simp only [List.length_map] at hb) | (simp only [List.length_map, bne_iff_ne, ne_eq, beq_iff_eq, bne_eq_false_iff_eq, beq_eq_false_iff_ne, decide_eq_true_eq, decide_eq_false_iff_not, Bool.not_eq_true', Bool.not_eq_false', Int.natCast_inj] at hb) | skip) | ((refine andA ?_); conv => whnf) | fail
        exact ⟨.t [.a [.d (.v (.int .i64 0)), .d (.v (.slice none 0 0)), .d (.v (.slice none 0 0))], iv .i64 6], [], trivial, rfl, rfl, ⟨⟨.inl rfl, .inr ⟨rfl, _, rfl⟩, .inr ⟨rfl, _, rfl⟩, trivial⟩, .inl rfl, trivial⟩, rfl⟩
    · have hm : ((checkR n).2.2 != 0) = true := by simpa using hc
      have hm2 : (bif ((checkR n).2.2 != 0) then true else !(ByteArray.empty.toList == s.toList)) = true := by rw [hm]; rfl
      have hno : ¬ (!((checkR n).2.2 != 0)) = true := by rw [hm]; exact Bool.noConfusion
      rw [hR, if_neg (fun h => hc h.1)]
      refine ACall_of_AWD hTt Tryz.func8 rfl (by kernel_rfl) (res := [.cell 2 25, .tmp 3]) rfl Tryz.ntmps8 (by simp) fun w0 K0 B => ?_
      dsimp only [entry]
      repeat' first | with_reducible refine AW_seq ?_ | ((first | with_reducible refine AW_skip ?_ | with_reducible refine AW_ret ?_ | with_reducible refine AW_region hTt ?_ | fail); conv => whnf) | (exact absurd hb (by omega)) | ((first | ((refine ⟨_, (pf).call rfl rfl, ?_⟩); (rintro _ _ ⟨rfl, rfl⟩)) | ((refine ⟨_, (ck).call rfl rfl, ?_⟩); (rintro _ _ ⟨rfl, rfl⟩)) | refine ⟨sv ByteArray.empty, fun h => absurd h hno, ?_⟩ | fail); conv => whnf) | (refine AW_condT hm2 rfl ?_) | (refine AW_cond rfl (fun hb => ?_) (fun hb => ?_) <;> first | (replace hb := of_decide_eq_true hb; try simp only [List.length_map] at hb) | (replace hb := of_decide_eq_false hb; try simp only [List.length_map] at hb) | (simp only [List.length_map, bne_iff_ne, ne_eq, beq_iff_eq, bne_eq_false_iff_eq, beq_eq_false_iff_ne, decide_eq_true_eq, decide_eq_false_iff_not, Bool.not_eq_true', Bool.not_eq_false', Int.natCast_inj] at hb) | skip) | ((refine andA ?_); conv => whnf) | fail
      exact ⟨.t [.a [.d (.v (.int .i64 0)), .d (.v (.slice none 0 0)), .d (.v (.slice none 0 0))], iv .i64 6], [], trivial, rfl, rfl, ⟨⟨.inl rfl, .inr ⟨rfl, _, rfl⟩, .inr ⟨rfl, _, rfl⟩, trivial⟩, .inl rfl, trivial⟩, rfl⟩
theorem rread_fn (s : ByteArray) : FnC Tryz.prog 8 [sv s] (.t [netAV (rreadR s).1, iv .i64 (rreadR s).2]) :=
  FnC_of_ACall ((rread_call s).leW fun _ _ h => ⟨_, h.1, rfl, h.2⟩)
end Go.Proofs.YtfpaonfddaeamaaGreatDoor
namespace Go.Proofs.YtfpaonfddaeamaaGreatDoor
open Go Go.QL Go.RowKit
theorem check_first {n : NetT} (h : (checkR n).2.2 = 0) : firstGate n.inn n.gates.length n.gates 0 = none := by
  cases c3 : firstGate n.inn n.gates.length n.gates 0 with
  | none => rfl
  | some p =>
    exfalso
    unfold checkR at h
    by_cases c1 : inB n.inn 1 6 = false
    · rw [if_pos c1] at h; cases h
    rw [if_neg c1] at h
    by_cases c2 : 24 < n.gates.length ∨ inB n.out.length 1 4 = false
    · rw [if_pos c2] at h; cases h
    rw [if_neg c2, c3] at h
    obtain ⟨i, e⟩ := p
    have h : e = 0 := h
    have key : ∀ (l : List GateT) (k : Nat) (p : Nat × Int), firstGate n.inn n.gates.length l k = some p → p.2 ≠ 0 := by
      intro l
      induction l with
      | nil => intro k p hp; cases hp
      | cons g r ih =>
        intro k p hp
        unfold firstGate at hp
        split at hp
        · exact ih _ _ hp
        · rename_i hg; cases hp; exact hg
    exact key _ _ _ c3 h
theorem gateErr_b0 {inn : Int} {len i : Nat} {g : GateT} (h : gateErr inn len i g = 0) (h4 : 4 ≤ g.kind) : g.b = 0 := by
  unfold gateErr at h
  by_cases hk : inB g.kind 1 5 = false
  · rw [if_pos hk] at h; omega
  have hk2 := inB_iff.1 (by simpa using hk : inB g.kind 1 5 = true)
  rw [if_neg hk] at h
  dsimp only at h
  rw [if_pos (show g.kind = 4 ∨ g.kind = 5 by omega)] at h
  by_cases hb : inB g.b 0 0 = false
  · rw [if_pos (.inr hb)] at h; omega
  · have h2 := inB_iff.1 (by simpa using hb : inB g.b 0 0 = true)
    omega
structure GOK (g : GateT) : Prop where
  k : 1 ≤ g.kind ∧ g.kind ≤ 5
  a : 0 ≤ g.a ∧ g.a < 100
  b : 0 ≤ g.b ∧ g.b < 100
  b0 : 4 ≤ g.kind → g.b = 0
theorem gok {n : NetT} (h : (checkR n).2.2 = 0) : ∀ g ∈ n.gates, GOK g := by
  intro g hg
  obtain ⟨i, hi, rfl⟩ := List.getElem_of_mem hg
  have ok := NetOK.of h
  have h1 := ok.h1; have h6 := ok.h6; have hl := ok.hl
  have ha := ok.ha i hi
  have hb := ok.hb i hi
  exact ⟨ok.hk i hi, ⟨ha.1, by omega⟩, ⟨hb.1, by omega⟩, fun h4 => gateErr_b0 (firstGate_none _ _ _ _ (check_first h) i hi) h4⟩
theorem numB_list {n : Int} (h : 0 ≤ n ∧ n < 100) : (numB n).data.toList = dg2 n.toNat := dd_dg2 (by omega)
theorem itoa_dg2 {n : Int} (h : 0 ≤ n ∧ n < 100) : Lib.itoa n = dg2 n.toNat := by rw [itoa_nn h.1, dd_dg2 (by omega)]
theorem itoa_32 {n : Int} (h : 0 ≤ n ∧ n < 100) : (32 : UInt8) ∉ Lib.itoa n := by rw [itoa_dg2 h]; exact dg2_32 _ (by omega)
theorem itoa_10 {n : Int} (h : 0 ≤ n ∧ n < 100) : (10 : UInt8) ∉ Lib.itoa n := by rw [itoa_dg2 h]; exact dg2_10 _ (by omega)
theorem splitG_row : ∀ (l : List Int) (w cur : List UInt8), (32 : UInt8) ∉ w → (∀ n ∈ l, 0 ≤ n ∧ n < 100) → splitG 32 cur (w ++ (l.map fun n => 32 :: Lib.itoa n).flatten) = (cur ++ w) :: l.map Lib.itoa
  | [], w, cur, hw, _ => by simp [splitG_end 32 w cur hw]
  | n :: r, w, cur, hw, hl => by
    rw [List.map_cons, List.flatten_cons]
    show splitG 32 cur (w ++ 32 :: (Lib.itoa n ++ _)) = _
    rw [splitG_app 32 _ w cur hw, splitG_row r (Lib.itoa n) [] (itoa_32 (hl n (by simp))) (fun x hx => hl x (by simp [hx]))]
    rfl
theorem numB_itoa {n : Int} (h : 0 ≤ n ∧ n < 100) : mkB (Lib.itoa n) = numB n := by
  unfold mkB numB
  rw [itoa_nn h.1]
theorem map_numB {l : List Int} (h : ∀ n ∈ l, 0 ≤ n ∧ n < 100) : (l.map Lib.itoa).map mkB = l.map numB := by
  rw [List.map_map]
  exact List.map_congr_left fun n hn => numB_itoa (h n hn)
theorem row_split {w : List UInt8} {l : List Int} (hw : (32 : UInt8) ∉ w) (hl : ∀ n ∈ l, 0 ≤ n ∧ n < 100) : splitG 32 [] (rowI w l) = w :: l.map Lib.itoa := by
  unfold rowI
  rw [splitG_row l w [] hw hl]; rfl
theorem row_pieces {w : ByteArray} {l : List Int} (hw : (32 : UInt8) ∉ w.data.toList) (hl : ∀ n ∈ l, 0 ≤ n ∧ n < 100) : pieces (mkB (rowI w.data.toList l)) spB = w :: l.map numB := by
  rw [show spB = ⟨#[32]⟩ from rfl, pieces_mk (row_split hw hl), List.map_cons, map_numB hl, data_mkB]
theorem row_rsplit {w : ByteArray} {l : List Int} (hw : (32 : UInt8) ∉ w.data.toList) (hl : ∀ n ∈ l, 0 ≤ n ∧ n < 100) : rsplit (mkB (rowI w.data.toList l)) 32 = w :: l.map numB := by
  unfold rsplit
  rw [mkB_data, row_split hw hl, List.map_cons, map_numB hl, data_mkB]
theorem row_10 {w : List UInt8} (hw : (10 : UInt8) ∉ w) : ∀ {l : List Int}, (∀ n ∈ l, 0 ≤ n ∧ n < 100) → (10 : UInt8) ∉ rowI w l := by
  intro l hl hm
  unfold rowI at hm
  rcases List.mem_append.1 hm with h | h
  · exact hw h
  · obtain ⟨x, hx, h⟩ := List.mem_flatten.1 h
    obtain ⟨n, hn, rfl⟩ := List.mem_map.1 hx
    rcases List.mem_cons.1 h with h | h
    · cases h
    · exact itoa_10 (hl n hn) h
theorem kind_cases {k : Int} (h : 1 ≤ k ∧ k ≤ 5) : k = 1 ∨ k = 2 ∨ k = 3 ∨ k = 4 ∨ k = 5 := by omega
theorem kindB_32 {k : Int} (h : 1 ≤ k ∧ k ≤ 5) : (32 : UInt8) ∉ (kindB k).data.toList := by
  rcases kind_cases h with rfl | rfl | rfl | rfl | rfl <;> decide
theorem kindB_10 {k : Int} (h : 1 ≤ k ∧ k ≤ 5) : (10 : UInt8) ∉ (kindB k).data.toList := by
  rcases kind_cases h with rfl | rfl | rfl | rfl | rfl <;> decide
theorem numsOf_ok {g : GateT} (h : GOK g) : ∀ n ∈ numsOf g, 0 ≤ n ∧ n < 100 := by
  intro n hn
  unfold numsOf at hn
  split at hn <;> simp at hn
  · rw [hn]; exact h.a
  · rcases hn with rfl | rfl
    · exact h.a
    · exact h.b
theorem splitG_lines : ∀ (rows : List (List UInt8)), (∀ r ∈ rows, (10 : UInt8) ∉ r) → splitG 10 [] (linesI rows) = rows ++ [[]]
  | [], _ => rfl
  | r :: rs, h => by
    unfold linesI
    rw [List.map_cons, List.flatten_cons, List.append_assoc]
    show splitG 10 [] (r ++ 10 :: linesI rs) = _
    rw [splitG_app 10 _ r [] (h r (by simp)), splitG_lines rs (fun x hx => h x (by simp [hx]))]
    rfl
theorem lines_snoc (rows : List (List UInt8)) (r : List UInt8) : linesI (rows ++ [r]) = (linesI rows ++ r) ++ [10] := by
  simp [linesI]
theorem outs_ok {n : NetT} (ok : NetOK n) : ∀ x ∈ n.out, 0 ≤ x ∧ x < 100 := fun x hx => by
  obtain ⟨j, hj, rfl⟩ := List.getElem_of_mem hx
  have := ok.ho j hj
  have h6 := ok.h6; have hl := ok.hl
  omega
theorem rows_10 {n : NetT} (h : (checkR n).2.2 = 0) : ∀ r ∈ rowsI n, (10 : UInt8) ∉ r := by
  have ok := NetOK.of h
  have h1 := ok.h1; have h6 := ok.h6; have hl := ok.hl
  intro r hr
  unfold rowsI at hr
  rcases List.mem_cons.1 hr with rfl | hr
  · exact row_10 (by decide) (by simp; omega)
  · rcases List.mem_append.1 hr with hr | hr
    · obtain ⟨g, hg, rfl⟩ := List.mem_map.1 hr
      have gk := gok h g hg
      exact row_10 (kindB_10 gk.k) (numsOf_ok gk)
    · rw [List.mem_singleton.1 hr]
      exact row_10 (by decide) (outs_ok ok)
theorem textB_size {n : NetT} (ok : NetOK n) : (textB n).size ≤ 600 := by
  unfold textB
  rw [ByteArray.size_append]
  have h1 := textTo_size ok n.gates.length (Nat.le_refl _)
  have h2 := lineB_size outputsB n.out (outs_ok ok)
  have h3 : outputsB.size = 7 := rfl
  have hl := ok.hl; have ho := ok.o4
  omega
theorem suffix_snoc (l : List UInt8) : Lib.hasSuffix (l ++ [10]) [10] = true := by
  unfold Lib.hasSuffix
  rw [List.isSuffixOf_iff_suffix]
  exact List.suffix_append l [10]
theorem trim_snoc (l : List UInt8) : Lib.trimSuffix (l ++ [10]) [10] = l := by
  unfold Lib.trimSuffix
  rw [if_pos (suffix_snoc l)]
  simp
end Go.Proofs.YtfpaonfddaeamaaGreatDoor
namespace Go.Proofs.YtfpaonfddaeamaaGreatDoor
open Go Go.QL Go.RowKit
theorem nums_dd {l : List Int} (h : ∀ n ∈ l, 0 ≤ n ∧ n < 100) : numsP (l.map numB) = some l := numsP_num h
theorem idx_kind {k : Int} (h : 1 ≤ k ∧ k ≤ 5) : Lib.idxOfS kindsB (kindB k) = k := by
  rcases kind_cases h with rfl | rfl | rfl | rfl | rfl <;> decide
theorem gateK_of {g : GateT} (h : GOK g) : gateK (kindB g.kind) (numsOf g) = some g := by
  obtain ⟨k, a, b⟩ := g
  unfold numsOf gateK
  have hk := h.k
  have hi := idx_kind hk
  dsimp only at hk hi ⊢
  by_cases h4 : 4 ≤ k
  · have := h.b0 h4
    dsimp only at this
    subst this
    rw [if_pos h4]
    simp only [hi]
    rw [if_pos h4]
  · rw [if_neg h4]
    simp only [hi]
    rw [if_pos (by omega)]
theorem step_gate {m i : Nat} {g : GateT} (n : NetT) (h : GOK g) (h0 : i ≠ 0) (h1 : i + 1 ≠ m) : stepRow m i (mkB (gateI g)) n = some { n with gates := n.gates ++ [g] } := by
  have hp : pieces (mkB (gateI g)) spB = kindB g.kind :: (numsOf g).map numB := row_pieces (kindB_32 h.k) (numsOf_ok h)
  unfold stepRow
  rw [hp]
  dsimp only
  rw [nums_dd (numsOf_ok h)]
  dsimp only
  rw [if_neg h0, if_neg h1, gateK_of h]
theorem step_out {m i : Nat} {l : List Int} (n : NetT) (hl : ∀ x ∈ l, 0 ≤ x ∧ x < 100) (h0 : i ≠ 0) (h1 : i + 1 = m) : stepRow m i (mkB (rowI outputsB.data.toList l)) n = some { n with out := l } := by
  have hp : pieces (mkB (rowI outputsB.data.toList l)) spB = outputsB :: l.map numB := row_pieces (by decide) hl
  unfold stepRow
  rw [hp]
  dsimp only
  rw [nums_dd hl]
  dsimp only
  rw [if_neg h0, if_pos h1, if_pos rfl]
theorem step_inn {m : Nat} {x : Int} (n : NetT) (hx : 0 ≤ x ∧ x < 100) : stepRow m 0 (mkB (rowI inputsB.data.toList [x])) n = some { n with inn := x } := by
  have hl : ∀ y ∈ [x], 0 ≤ y ∧ y < 100 := fun y hy => by rw [List.mem_singleton.1 hy]; exact hx
  have hp : pieces (mkB (rowI inputsB.data.toList [x])) spB = inputsB :: [x].map numB := row_pieces (by decide) hl
  unfold stepRow
  rw [hp]
  dsimp only
  rw [nums_dd hl]
  dsimp only
  rw [if_pos rfl, if_pos ⟨rfl, rfl⟩]
  rfl
theorem run_gates {m : Nat} {l : List Int} (hl : ∀ x ∈ l, 0 ≤ x ∧ x < 100) : ∀ (gs : List GateT) (i : Nat) (n0 : NetT), i ≠ 0 → i + gs.length + 1 = m → (∀ g ∈ gs, GOK g) →
    runRows m i n0 ((gs.map gateI ++ [rowI outputsB.data.toList l]).map mkB) = some { n0 with gates := n0.gates ++ gs, out := l }
  | [], i, n0, h0, hm, _ => by
    simp only [List.map_nil, List.nil_append, List.map_cons, runRows]
    rw [step_out n0 hl h0 (by simpa using hm)]
    simp
  | g :: gs, i, n0, h0, hm, hg => by
    simp only [List.length_cons] at hm
    rw [List.map_cons, List.cons_append, List.map_cons, runRows, step_gate n0 (hg g (by simp)) h0 (by omega)]
    dsimp only
    rw [run_gates hl gs (i + 1) _ (by omega) (by omega) (fun x hx => hg x (by simp [hx]))]
    simp
theorem lines_last (n : NetT) : ∃ X, linesI (rowsI n) = X ++ [10] := by
  unfold rowsI
  rw [← List.cons_append, lines_snoc]
  exact ⟨_, rfl⟩
theorem split_body {n : NetT} (h : (checkR n).2.2 = 0) {X : List UInt8} (hX : linesI (rowsI n) = X ++ [10]) : splitG 10 [] X = rowsI n := by
  have e := splitG_lines (rowsI n) (rows_10 h)
  rw [hX, splitG_snoc] at e
  exact List.append_cancel_right e
theorem read_text {n : NetT} (h : (checkR n).2.2 = 0) : readR (textB n) = (n, 0) := by
  have ok := NetOK.of h
  obtain ⟨X, hX⟩ := lines_last n
  have hd : (textB n).data.toList = X ++ [10] := by rw [textB_list (NN.of ok), hX]
  have hs : Lib.hasSuffix (textB n).data.toList nlB.data.toList = true := by rw [hd]; exact suffix_snoc X
  have hb : bodyOf (textB n) = mkB X := by
    unfold bodyOf
    rw [hd]
    show mkB (Lib.trimSuffix (X ++ [10]) [10]) = _
    rw [trim_snoc]
  have hp : pieces (mkB X) nlB = (rowsI n).map mkB := pieces_mk (split_body h hX)
  have hm : ((rowsI n).map mkB).length = n.gates.length + 2 := by simp [rowsI]
  have h1 := ok.h1; have h6 := ok.h6
  unfold readR
  rw [if_neg (by have := textB_size ok; omega), if_neg (by rw [hs]; exact Bool.noConfusion), hb, hp, if_neg (by omega), hm]
  have hr : runRows (n.gates.length + 2) 0 zeroN ((rowsI n).map mkB) = some n := by
    unfold rowsI
    rw [List.map_cons, runRows, step_inn zeroN ⟨by omega, by omega⟩]
    dsimp only
    rw [run_gates (outs_ok ok) n.gates 1 _ (by omega) (by omega) (gok h)]
    simp [zeroN]
  rw [hr]
  dsimp only
  rw [if_pos h]
theorem canon_list {w : ByteArray} {v : Int} (h : canon w = some v) : w.data.toList = Lib.itoa v := by
  unfold canon at h
  split at h
  · rename_i x hx
    cases hc : ((⟨(Lib.itoa x).toArray⟩ : ByteArray).toList == w.toList) with
    | true =>
      rw [hc] at h
      cases h
      rw [← (Lib.bytes_beq_iff _ _).1 hc]
    | false => rw [hc] at h; cases h
  · cases h
theorem numsP_list : ∀ {ws : List ByteArray} {l : List Int}, numsP ws = some l → ws.map (·.data.toList) = l.map Lib.itoa
  | [], l, h => by cases h; rfl
  | w :: r, l, h => by
    unfold numsP at h
    cases hc : canon w with
    | none => rw [hc] at h; cases h
    | some x =>
      cases hr : numsP r with
      | none => rw [hc, hr] at h; cases h
      | some q =>
        rw [hc, hr] at h
        cases h
        rw [List.map_cons, List.map_cons, canon_list hc, numsP_list hr]
theorem joinG_row : ∀ (l : List (List UInt8)) (w : List UInt8), joinG 32 (w :: l) = w ++ (l.map fun x => 32 :: x).flatten
  | [], w => by simp [joinG]
  | x :: r, w => by
    rw [joinG, joinG_row r x, List.map_cons, List.flatten_cons]
    rfl
theorem row_inv {row w0 : ByteArray} {ws : List ByteArray} {l : List Int} (hp : pieces row spB = w0 :: ws) (hn : numsP ws = some l) : row.data.toList = rowI w0.data.toList l := by
  have e := pieces_list row 32
  rw [show (⟨#[32]⟩ : ByteArray) = spB from rfl, hp, List.map_cons, numsP_list hn] at e
  have j := joinG_split 32 row.data.toList []
  rw [← e, joinG_row, List.map_map] at j
  exact j.symm
theorem idx_inv {w : ByteArray} (h : 1 ≤ Lib.idxOfS kindsB w) : w = kindB (Lib.idxOfS kindsB w) := by
  unfold Lib.idxOfS kindsB at h ⊢
  simp only [List.map_cons, List.map_nil, Lib.idxFromS] at h ⊢
  repeat' split at h
  all_goals (try (simp at h; done))
  all_goals (rename_i hc; simp_all [kindB])
theorem gate_inv {w0 : ByteArray} {l : List Int} {g : GateT} (h : gateK w0 l = some g) : w0 = kindB g.kind ∧ l = numsOf g := by
  unfold gateK at h
  split at h
  · rename_i a
    split at h
    · rename_i hk
      cases h
      exact ⟨idx_inv (by omega), by unfold numsOf; rw [if_pos hk]⟩
    · cases h
  · rename_i a b
    split at h
    · rename_i hk
      cases h
      exact ⟨idx_inv (by omega), by unfold numsOf; dsimp only; rw [if_neg (by omega)]⟩
    · cases h
  · cases h
theorem step_inv {m i : Nat} {row : ByteArray} {n n' : NetT} (h : stepRow m i row n = some n') : ∃ w0 l, row.data.toList = rowI w0.data.toList l ∧
    (i = 0 ∧ w0 = inputsB ∧ l.length = 1 ∧ n' = { n with inn := l.getD 0 0 } ∨ i ≠ 0 ∧ i + 1 = m ∧ w0 = outputsB ∧ n' = { n with out := l } ∨ i ≠ 0 ∧ i + 1 ≠ m ∧ ∃ g, w0 = kindB g.kind ∧ l = numsOf g ∧ n' = { n with gates := n.gates ++ [g] }) := by
  unfold stepRow at h
  split at h
  · cases h
  · rename_i w0 ws hp
    split at h
    · cases h
    · rename_i l hn
      refine ⟨w0, l, row_inv hp hn, ?_⟩
      split at h
      · rename_i h0
        split at h
        · rename_i hc
          cases h
          exact .inl ⟨h0, hc.1, hc.2, rfl⟩
        · cases h
      · rename_i h0
        split at h
        · rename_i h1
          split at h
          · rename_i hc
            cases h
            exact .inr (.inl ⟨h0, h1, hc, rfl⟩)
          · cases h
        · rename_i h1
          split at h
          · rename_i g hg
            cases h
            exact .inr (.inr ⟨h0, h1, g, (gate_inv hg).1, (gate_inv hg).2, rfl⟩)
          · cases h
theorem run_inv {m : Nat} : ∀ (rs : List ByteArray) (i : Nat) (n0 n : NetT), i ≠ 0 → i + rs.length = m → rs ≠ [] → runRows m i n0 rs = some n →
    ∃ gs, n.inn = n0.inn ∧ n.gates = n0.gates ++ gs ∧ rs.map (·.data.toList) = gs.map gateI ++ [rowI outputsB.data.toList n.out]
  | [], _, _, _, _, _, hne, _ => absurd rfl hne
  | r :: rs, i, n0, n, h0, hm, _, h => by
    simp only [List.length_cons] at hm
    rw [runRows] at h
    cases hs : stepRow m i r n0 with
    | none => rw [hs] at h; cases h
    | some n1 =>
      rw [hs] at h
      dsimp only at h
      obtain ⟨w0, l, hr, hc⟩ := step_inv hs
      rcases hc with ⟨he, _⟩ | ⟨_, h1, hw, rfl⟩ | ⟨_, h1, g, hw, hl, rfl⟩
      · exact absurd he h0
      · have : rs = [] := List.length_eq_zero_iff.1 (by omega)
        subst this
        rw [runRows] at h
        cases h
        exact ⟨[], rfl, by simp, by rw [List.map_cons, List.map_nil, hr, hw]; rfl⟩
      · have hne : rs ≠ [] := fun e => by subst e; exact h1 (by simpa using hm)
        obtain ⟨gs, e1, e2, e3⟩ := run_inv rs (i + 1) _ n (by omega) (by omega) hne h
        refine ⟨g :: gs, e1, by rw [e2]; simp, ?_⟩
        rw [List.map_cons, hr, hw, hl, e3]
        rfl
theorem joinG_lines : ∀ {l : List (List UInt8)}, l ≠ [] → joinG 10 l ++ [10] = linesI l
  | [], h => absurd rfl h
  | [x], _ => by simp [joinG, linesI]
  | x :: y :: r, _ => by
    rw [joinG, List.append_assoc, List.cons_append, joinG_lines (by simp : y :: r ≠ [])]
    simp [linesI]
theorem suffix_inv {l : List UInt8} (h : Lib.hasSuffix l [10] = true) : l = Lib.trimSuffix l [10] ++ [10] := by
  have h2 := h
  unfold Lib.hasSuffix at h2
  rw [List.isSuffixOf_iff_suffix] at h2
  obtain ⟨t, ht⟩ := h2
  subst ht
  rw [trim_snoc]
theorem text_inv {s : ByteArray} {n : NetT} (hs : Lib.hasSuffix s.data.toList nlB.data.toList = true) (h2 : ¬ (pieces (bodyOf s) nlB).length < 2) (h : runRows (pieces (bodyOf s) nlB).length 0 zeroN (pieces (bodyOf s) nlB) = some n) (hc : (checkR n).2.2 = 0) : textB n = s := by
  have hd : s.data.toList = (bodyOf s).data.toList ++ [10] := suffix_inv hs
  have hj := joinG_split 10 (bodyOf s).data.toList []
  rw [← pieces_list (bodyOf s) 10, show (⟨#[10]⟩ : ByteArray) = nlB from rfl, List.nil_append] at hj
  generalize pieces (bodyOf s) nlB = rows at h2 h hj
  cases rows with
  | nil => simp at h2
  | cons r rs =>
    rw [runRows] at h
    cases hst : stepRow (r :: rs).length 0 r zeroN with
    | none => rw [hst] at h; cases h
    | some n1 =>
      rw [hst] at h
      dsimp only at h
      obtain ⟨w0, l, hr, hcs⟩ := step_inv hst
      rcases hcs with ⟨_, hw, hl, rfl⟩ | ⟨h0, _⟩ | ⟨h0, _⟩
      · obtain ⟨x, rfl⟩ := List.length_eq_one_iff.1 hl
        simp only [List.length_cons] at h2
        obtain ⟨gs, e1, e2, e3⟩ := run_inv rs 1 _ n (by omega) (by simp only [List.length_cons]; omega) (fun e => by subst e; simp at h2) h
        have hrows : (r :: rs).map (·.data.toList) = rowsI n := by
          rw [List.map_cons, hr, hw, e3]
          have e1 : n.inn = x := e1
          have e2 : n.gates = gs := by rw [e2]; rfl
          unfold rowsI
          rw [e1, e2]
        apply mkB_inj
        rw [textB_list (NN.of (NetOK.of hc)), hd, ← hj, joinG_lines (by simp), hrows]
      · exact absurd rfl h0
      · exact absurd rfl h0
end Go.Proofs.YtfpaonfddaeamaaGreatDoor
namespace Go.Proofs.YtfpaonfddaeamaaGreatDoor
open Go Go.QL Go.RowKit
theorem dg2_num : ∀ k, k < 100 → numR (dg2 k) = (k : Int) := by decide +kernel
theorem numsR_num {l : List Int} (h : ∀ n ∈ l, 0 ≤ n ∧ n < 100) : numsR (l.map numB) = l := by
  unfold numsR
  rw [List.map_map]
  conv => rhs; rw [← List.map_id l]
  refine List.map_congr_left fun n hn => ?_
  have hx := h n hn
  show numR (numB n).data.toList = n
  rw [numB_list hx, dg2_num _ (by omega)]
  omega
theorem gs_none {w0 : ByteArray} {l : List Int} (gs : List GateT) (h : ∀ k, k < 6 → 1 ≤ k → ¬ (w0 = kindsB.getD k ByteArray.empty ∧ 0 < l.length)) : ∀ k, k < 6 → gsR w0 l k gs = gs
  | 0, _ => rfl
  | k + 1, hk => by rw [gsR, gstep, if_neg (h (k + 1) hk (by omega)), gs_none gs h k (by omega)]
theorem gs_before {w0 : ByteArray} {l : List Int} (gs : List GateT) (j : Nat) (h : ∀ k, k < j → 1 ≤ k → w0 ≠ kindsB.getD k ByteArray.empty) : ∀ k, k < j → gsR w0 l k gs = gs
  | 0, _ => rfl
  | k + 1, hk => by rw [gsR, gstep, if_neg (fun e => h (k + 1) hk (by omega) e.1), gs_before gs j h k (by omega)]
theorem gs_kind {g : GateT} (h : GOK g) (gs : List GateT) : gsR (kindB g.kind) (numsOf g) 5 gs = gs ++ [g] := by
  obtain ⟨k, a, b⟩ := g
  have hk := h.k
  have h0 := h.b0
  dsimp only at hk h0
  have hg : ∀ j : Nat, (j : Int) = k → gN j (numsOf ⟨k, a, b⟩) = ⟨k, a, b⟩ := fun j hj => by
    unfold gN numsOf
    by_cases h4 : 4 ≤ k
    · simp [h4, hj, h0 h4]
    · simp [h4, hj]
  have hl : 0 < (numsOf ⟨k, a, b⟩).length := by unfold numsOf; split <;> simp
  generalize numsOf ⟨k, a, b⟩ = l at hg hl ⊢
  have d : ∀ x y : List UInt8, (mkB x = mkB y) = (x = y) := fun x y => propext ⟨fun e => by have := congrArg (fun z => z.data.toList) e; exact this, fun e => by rw [e]⟩
  have key : ∀ j : Nat, 1 ≤ j → j ≤ 5 → (j : Int) = k → (∀ i, i < 6 → 1 ≤ i → (kindB k = kindsB.getD i ByteArray.empty ↔ i = j)) → gsR (kindB k) l 5 gs = gs ++ [⟨k, a, b⟩] := by
    intro j h1 h5 hj hi
    have hb := gs_before (w0 := kindB k) (l := l) gs j (fun i hij h1 e => by have := (hi i (by omega) h1).1 e; omega)
    have hstep : gsR (kindB k) l j gs = gs ++ [⟨k, a, b⟩] := by
      obtain ⟨m, rfl⟩ : ∃ m, j = m + 1 := ⟨j - 1, by omega⟩
      rw [gsR, gstep, if_pos ⟨(hi (m + 1) (by omega) (by omega)).2 rfl, hl⟩, hb m (by omega), hg _ hj]
    have hup : ∀ t, j + t ≤ 5 → gsR (kindB k) l (j + t) gs = gs ++ [⟨k, a, b⟩] := by
      intro t
      induction t with
      | zero => intro _; exact hstep
      | succ t ih =>
        intro ht
        rw [← Nat.add_assoc, gsR, gstep, if_neg (fun e => by have := (hi (j + t + 1) (by omega) (by omega)).1 e.1; omega), ih (by omega)]
    have := hup (5 - j) (by omega)
    rwa [show j + (5 - j) = 5 by omega] at this
  rcases kind_cases hk with rfl | rfl | rfl | rfl | rfl
  · exact key 1 (by omega) (by omega) rfl (by decide)
  · exact key 2 (by omega) (by omega) rfl (by decide)
  · exact key 3 (by omega) (by omega) rfl (by decide)
  · exact key 4 (by omega) (by omega) rfl (by decide)
  · exact key 5 (by omega) (by omega) rfl (by decide)
theorem parse_text {n : NetT} (h : (checkR n).2.2 = 0) : parsedR (textB n) = n := by
  have ok := NetOK.of h
  have h1 := ok.h1; have h6 := ok.h6
  have hrs : rsplit (textB n) 10 = (rowsI n ++ [[]]).map mkB := by
    unfold rsplit
    rw [textB_list (NN.of ok), splitG_lines _ (rows_10 h)]
  unfold parsedR
  rw [hrs]
  have hlen : ((rowsI n ++ [[]]).map mkB).length = n.gates.length + 3 := by simp [rowsI]
  rw [hlen]
  have hinn : ∀ y ∈ [n.inn], 0 ≤ y ∧ y < 100 := fun y hy => by rw [List.mem_singleton.1 hy]; omega
  have p1 : parsedTo ((rowsI n ++ [[]]).map mkB) 1 = ⟨n.inn, [], []⟩ := by
    have hg0 : ((rowsI n ++ [[]]).map mkB).getD 0 ByteArray.empty = mkB (rowI inputsB.data.toList [n.inn]) := rfl
    rw [parsedTo, hg0, row_rsplit (by decide) hinn]
    unfold rowQ parsedTo
    dsimp only
    rw [numsR_num hinn, gs_none _ (by intro k hk h1 e; revert e; have : k = 1 ∨ k = 2 ∨ k = 3 ∨ k = 4 ∨ k = 5 := by omega
                                      rcases this with rfl | rfl | rfl | rfl | rfl <;> (intro e; exact absurd e.1 (by decide))) 5 (by omega)]
    unfold innR outRw zeroN
    rw [if_pos ⟨rfl, rfl⟩, if_neg (by decide)]
    rfl
  have hget : ∀ i, (h : i < n.gates.length) → ((rowsI n ++ [[]]).map mkB).getD (i + 1) ByteArray.empty = mkB (gateI n.gates[i]) := fun i h => by
    unfold rowsI
    rw [List.getD_eq_getElem?_getD]
    simp only [List.map_append, List.map_cons, List.map_map, List.map_nil, List.cons_append, List.getElem?_cons_succ, List.append_assoc]
    rw [List.getElem?_append_left (by simpa using h)]
    simp [h]
  have p2 : ∀ i, i ≤ n.gates.length → parsedTo ((rowsI n ++ [[]]).map mkB) (i + 1) = ⟨n.inn, n.gates.take i, []⟩ := by
    intro i
    induction i with
    | zero => intro _; exact p1
    | succ i ih =>
      intro hi
      have gk := gok h n.gates[i] (List.getElem_mem (by omega))
      have hrr : rsplit (mkB (gateI n.gates[i])) 32 = kindB n.gates[i].kind :: (numsOf n.gates[i]).map numB := row_rsplit (kindB_32 gk.k) (numsOf_ok gk)
      rw [parsedTo, hget i (by omega), hrr, ih (by omega)]
      unfold rowQ
      dsimp only
      rw [numsR_num (numsOf_ok gk), gs_kind gk, List.take_add_one, List.getElem?_eq_getElem (by omega)]
      unfold innR outRw
      rw [if_neg (by omega), if_neg (fun e => ?_)]
      · rfl
      · rcases kind_cases gk.k with hk | hk | hk | hk | hk <;> (rw [hk] at e; exact absurd e (by decide))
  have p3 : parsedTo ((rowsI n ++ [[]]).map mkB) (n.gates.length + 2) = n := by
    have hgo : ((rowsI n ++ [[]]).map mkB).getD (n.gates.length + 1) ByteArray.empty = mkB (rowI outputsB.data.toList n.out) := by
      unfold rowsI
      rw [List.getD_eq_getElem?_getD]
      simp
    rw [parsedTo, hgo, row_rsplit (by decide) (outs_ok ok), p2 _ (Nat.le_refl _)]
    unfold rowQ
    dsimp only
    rw [numsR_num (outs_ok ok), gs_none _ (by intro k hk h1 e; revert e; have : k = 1 ∨ k = 2 ∨ k = 3 ∨ k = 4 ∨ k = 5 := by omega
                                              rcases this with rfl | rfl | rfl | rfl | rfl <;> (intro e; exact absurd e.1 (by decide))) 5 (by omega)]
    unfold innR outRw
    rw [if_neg (by omega), if_pos rfl, List.take_length]
  rw [parsedTo, p3]
  have hgl : ((rowsI n ++ [[]]).map mkB).getD (n.gates.length + 2) ByteArray.empty = mkB [] := by
    unfold rowsI
    rw [List.getD_eq_getElem?_getD]
    simp
  rw [hgl]
  show rowQ _ [mkB []] n = n
  unfold rowQ
  dsimp only
  rw [gs_none _ (by intro k hk h1 e; exact absurd e.2 (by simp [numsR])) 5 (by omega)]
  unfold innR outRw
  rw [if_neg (by simp [numsR]), if_neg (by decide)]
theorem readR_cases (s : ByteArray) : ((readR s).2 ≠ 0 ∧ (readR s).1 = zeroN ∧ (s.size ≤ 600 → (readR s).2 = 6)) ∨ ((checkR (readR s).1).2.2 = 0 ∧ (readR s).2 = 0 ∧ textB (readR s).1 = s) := by
  unfold readR
  by_cases c1 : 600 < s.size
  · rw [if_pos c1]; exact .inl ⟨by decide, rfl, fun h => by omega⟩
  rw [if_neg c1]
  by_cases c2 : Lib.hasSuffix s.data.toList nlB.data.toList = false
  · rw [if_pos c2]; exact .inl ⟨by decide, rfl, fun _ => rfl⟩
  rw [if_neg c2]
  by_cases c3 : (pieces (bodyOf s) nlB).length < 2
  · rw [if_pos c3]; exact .inl ⟨by decide, rfl, fun _ => rfl⟩
  rw [if_neg c3]
  cases hr : runRows (pieces (bodyOf s) nlB).length 0 zeroN (pieces (bodyOf s) nlB) with
  | none => exact .inl ⟨by decide, rfl, fun _ => rfl⟩
  | some n =>
    dsimp only
    by_cases hc : (checkR n).2.2 = 0
    · rw [if_pos hc]
      exact .inr ⟨hc, rfl, text_inv (by simpa using c2) c3 hr hc⟩
    · rw [if_neg hc]; exact .inl ⟨by decide, rfl, fun _ => rfl⟩
theorem read_eq (s : ByteArray) : readR s = rreadR s := by
  by_cases hs : 600 < s.size
  · rw [show rreadR s = (zeroN, 3) from if_pos hs]
    unfold readR
    rw [if_pos hs]
  have hR : rreadR s = if (checkR (parsedR s)).2.2 = 0 ∧ textB (parsedR s) = s then (parsedR s, 0) else (zeroN, 6) := if_neg hs
  rw [hR]
  by_cases hp : (checkR (parsedR s)).2.2 = 0 ∧ textB (parsedR s) = s
  · rw [if_pos hp]
    have := read_text hp.1
    rw [hp.2] at this
    exact this
  · rw [if_neg hp]
    rcases readR_cases s with ⟨h1, h2, h3⟩ | ⟨h1, h2, h3⟩
    · exact Prod.ext h2 (h3 (by omega))
    · exfalso
      have e := parse_text h1
      rw [h3] at e
      rw [e] at hp
      exact hp ⟨h1, h3⟩
end Go.Proofs.YtfpaonfddaeamaaGreatDoor
namespace Go.Proofs.YtfpaonfddaeamaaGreatDoor
open Go Go.QL
set_option maxHeartbeats 1600000
attribute [local irreducible] ACall FnC
def stR (n : NetT) (f : FaultT) (xs : List Int) : Nat → Int
  | 0 => 0
  | t + 1 => (beatR n f (stR n f xs t) (xs.getD t 0)).1
def outsR (n : NetT) (f : FaultT) (xs : List Int) (t : Nat) : List Int := (List.range t).map fun u => (beatR n f (stR n f xs u) (xs.getD u 0)).2
theorem outsR_len (n : NetT) (f : FaultT) (xs : List Int) (t : Nat) : (outsR n f xs t).length = t := by simp [outsR]
theorem outsR_succ (n : NetT) (f : FaultT) (xs : List Int) (t : Nat) : outsR n f xs (t + 1) = outsR n f xs t ++ [(beatR n f (stR n f xs t) (xs.getD t 0)).2] := by simp [outsR, List.range_succ]
theorem beatR_st {n : NetT} (ok : NetOK n) {f : FaultT} (hf : FltOK f) (st x : Int) : 0 ≤ (beatR n f st x).1 ∧ (beatR n f st x).1 < 2 ^ delays n.gates := by
  have h1 := ok.h1
  have := nextR_lt (n := n) (sigR_bits (by omega : 0 ≤ n.inn) hf st x n.gates.length) n.gates.length (Nat.le_refl _)
  rw [List.take_of_length_le (Nat.le_refl _)] at this
  exact this
theorem pow32 {d : Nat} (h : d ≤ 5) : (1 : Int) ≤ 2 ^ d ∧ (2 : Int) ^ d ≤ 32 := by
  have h1 : 0 < 2 ^ d := Nat.pow_pos (by decide)
  have h2 : 2 ^ d ≤ 2 ^ 5 := Nat.pow_le_pow_right (by decide) h
  have e : ((2 ^ d : Nat) : Int) = (2 : Int) ^ d := Int.natCast_pow 2 d
  rw [← e]; omega
def InsOK (n : NetT) (xs : List Int) : Prop := ∀ i (h : i < xs.length), 0 ≤ xs[i] ∧ xs[i] ≤ topIn n
theorem getDI {xs : List Int} {i : Nat} (h : i < xs.length) : xs.getD i 0 = xs[i] := by
  rw [List.getD_eq_getElem?_getD, List.getElem?_eq_getElem h]; rfl
theorem insErr_ok {n : NetT} {xs : List Int} (h : insErr n xs = 0) : xs.length ≤ 32 ∧ InsOK n xs := by
  unfold insErr at h
  split at h
  · cases h
  · split at h
    · cases h
    · rename_i h1 h2
      refine ⟨by omega, fun i hi => ?_⟩
      unfold firstBad at h2
      cases c : firstOut (topIn n) xs 0 with
      | some j => rw [c] at h2; exact absurd (Int.natCast_nonneg j) h2
      | none => exact inB_iff.1 (firstOut_none _ _ _ c i hi)
theorem faultErr_ok {n : NetT} {f : FaultT} (h : faultErr n f = 0) : 0 ≤ f.sig ∧ f.sig < n.inn + n.gates.length ∧ (f.at_ = 0 ∨ f.at_ = 1) := by
  unfold faultErr at h
  split at h
  · cases h
  · split at h
    · cases h
    · rename_i h1 h2
      have a := inB_iff.1 (by simpa using h1 : inB f.sig 0 (n.inn + n.gates.length - 1) = true)
      have b := inB_iff.1 (by simpa using h2 : inB f.at_ 0 1 = true)
      omega
theorem faultErr_flt {n : NetT} {f : FaultT} (h : faultErr n f = 0) : FltOK f := .inr (faultErr_ok h).2.2
def runR (n : NetT) (xs : List Int) : List Int × Int :=
  if (checkR n).2.2 = 0 then (if insErr n xs = 0 then (outsR n fine xs xs.length, 0) else ([], insErr n xs)) else ([], (checkR n).2.2)
def outE (p : List Int × Int) : AV := .t [sl p.1, iv .i64 p.2]
end Go.Proofs.YtfpaonfddaeamaaGreatDoor
namespace Go.Proofs.YtfpaonfddaeamaaGreatDoor
open Go Go.QL
set_option maxHeartbeats 1600000
attribute [local irreducible] ACall FnC
def stsL (n : NetT) (flt : Nat → FaultT) (xs : List Int) (k t : Nat) : List Int := (List.range k).map fun l => stR n (flt l) xs t
def otsL (n : NetT) (flt : Nat → FaultT) (xs : List Int) (k t : Nat) : List Int := (List.range k).map fun l => (beatR n (flt l) (stR n (flt l) xs t) (xs.getD t 0)).2
theorem stsL_len (n : NetT) (flt : Nat → FaultT) (xs : List Int) (k t : Nat) : (stsL n flt xs k t).length = k := by simp [stsL]
theorem otsL_len (n : NetT) (flt : Nat → FaultT) (xs : List Int) (k t : Nat) : (otsL n flt xs k t).length = k := by simp [otsL]
theorem otsL_get {n : NetT} {flt : Nat → FaultT} {xs : List Int} {k t l : Nat} (h : l < k) : (otsL n flt xs k t)[l]? = some (beatR n (flt l) (stR n (flt l) xs t) (xs.getD t 0)).2 := by
  unfold otsL; rw [List.getElem?_map, List.getElem?_range h]; rfl
def LanesOK (sk : List (W16 × W16)) (flt : Nat → FaultT) (k : Nat) : Prop := ∀ l, l < k → SkLane sk l (flt l) ∧ FltOK (flt l)
theorem beat_lanes {n : NetT} (ok : NetOK n) {s1 : Nat} {sk : List (W16 × W16)} (hsk : sk.length = n.inn.toNat + n.gates.length) {s2 s3 k' : Nat} {nw : List W16}
    {flt : Nat → FaultT} {k : Nat} (hk : k ≤ 16) (hl : LanesOK sk flt k) (xs : List Int) (t : Nat) (x : Int) (hx : xs.getD t 0 = x) :
    ACall Tryz.prog 52 [.x (.b 900 0), sl (stsL n flt xs k t), iv .i64 x] (sB n s1 sk s2 (dl0 n) s3 k' nw)
      (fun r σ' => ∃ p : Nat × Nat × List W16, r = .t [sl (stsL n flt xs k (t + 1)), sl (otsL n flt xs k t)] ∧ σ' = sB n s1 sk s2 (dl0 n) p.1 p.2.1 p.2.2) := by
  have hdl : (dl0 n).length = delays n.gates := by unfold dl0; rw [dlS_len n _ (Nat.le_refl _), List.take_of_length_le (Nat.le_refl _)]
  have hd := ok.hd
  have hsl := stsL_len n flt xs k t
  have hdr := fun m h => dlS_mem n n.gates.length m h
  refine (beat_fn ok (s1 := s1) (sk := sk) (s2 := s2) (dl := dl0 n) (s3 := s3) (k := k') (nw := nw) hsk (by omega) hdr (stsL n flt xs k t) (by omega) x).mono ?_
  rintro r σ' ⟨s3', rfl, rfl⟩
  refine ⟨(s3', _, _), ?_, rfl⟩
  have key : ∀ l, l < k → nextW n (dl0 n) (sigW sk n (stsL n flt xs k t) x n.gates.length) l (dl0 n).length = stR n (flt l) xs (t + 1) ∧ outW n (sigW sk n (stsL n flt xs k t) x n.gates.length) l n.out.length = (beatR n (flt l) (stR n (flt l) xs t) (xs.getD t 0)).2 := by
    intro l hlk
    have h := lane_beat ok hsk (hl l hlk).1 (hl l hlk).2 (by omega) (stsL n flt xs k t) (by omega) (by omega) x
    have e : (stsL n flt xs k t).getD l 0 = stR n (flt l) xs t := by unfold stsL; rw [List.getD_eq_getElem?_getD, List.getElem?_map, List.getElem?_range hlk]; rfl
    rw [e] at h
    rw [stR, hx]; exact h
  have e1 : nexts n (dl0 n) (sigW sk n (stsL n flt xs k t) x n.gates.length) (stsL n flt xs k t).length = stsL n flt xs k (t + 1) := by
    rw [hsl]; unfold nexts
    rw [show stsL n flt xs k (t + 1) = (List.range k).map fun l => stR n (flt l) xs (t + 1) from rfl]
    exact List.map_congr_left fun l hl' => (key l (List.mem_range.1 hl')).1
  have e2 : outs n (sigW sk n (stsL n flt xs k t) x n.gates.length) (stsL n flt xs k t).length = otsL n flt xs k t := by
    rw [hsl]; unfold outs otsL
    exact List.map_congr_left fun l hl' => (key l (List.mem_range.1 hl')).2
  rw [e1, e2]
def bt (l' l : Nat) : Nat := bif Nat.blt l' l then 1 else 0
theorem rowPV_o {σ σ' : Sg} {c e sz st n : Nat} {xs : List (List PV)} (h : lk c σ' = none) (h1 : lk c σ = some (.chain e sz st xs)) (hn : n = xs.length) : rowPV σ σ' (.o c st n) = some (.s sz xs) := by
  subst hn
  simp [rowPV, h, viewSV, h1]
theorem rowPVs_cons {σ σ' : Sg} {s : SV} {p : PV} {r : List SV} {l : List PV} (h : rowPV σ σ' s = some p) (hr : rowPVs σ σ' r = some l) : rowPVs σ σ' (s :: r) = some (p :: l) := by
  unfold rowPVs; rw [h, hr]
theorem keepRows {σ σ' : Sg} {id n cap : Nat} {cs : List SV} {ps : List PV} (h : lk id σ' = none) (h1 : lk id σ = some (.box cs)) (h2 : rowPVs σ σ' cs = some ps) (hn : n = ps.length) :
    keepAV1 σ σ' (.x (.sb id 0 n cap)) = some (.x (.d (.s 1 (ps.map fun p => [p])))) := by
  subst hn
  simp [keepAV1, keepSV, h, h1, h2]
abbrev rwOb (n : NetT) (f : FaultT) (xs : List Int) (t : Nat) : Ob := .chain 3 1 t ((outsR n f xs t).map iPV)
abbrev frR (n : NetT) (flt : Nat → FaultT) (xs : List Int) (k : Nat) : Fr := [(20, iv .i64 0), (19, iv .i64 xs.length), (18, sl xs), (7, .x (.sb 15 0 k k)), (8, sl (stsL n flt xs k 0)), (0, .x (.b 900 0))]
def chN : Nat → Sg → Sg
  | 0, r => r
  | j + 1, r => (600 + j, .chain 3 1 0 []) :: chN j r
def cellsN : Nat → Nat → Nat → List SV
  | 0, _, _ => []
  | m + 1, j, c => (bif Nat.blt j c then .o (600 + j) 0 0 else .d (.v (.slice none 0 0))) :: cellsN m (j + 1) c
theorem bt_self (l : Nat) : bt l l = 0 := by
  unfold bt
  cases h : Nat.blt l l with
  | false => rfl
  | true => exact absurd (Nat.le_of_ble_eq_true h) (by omega)
theorem bt_next (l : Nat) : bt l (l + 1) = 1 := by
  unfold bt
  cases h : Nat.blt l (l + 1) with
  | true => rfl
  | false => exact absurd (show Nat.ble (l + 1) (l + 1) = true from Nat.ble_eq_true_of_le (Nat.le_refl _)) (by rw [show Nat.ble (l + 1) (l + 1) = Nat.blt l (l + 1) from rfl, h]; decide)
theorem ots_at (n : NetT) (flt : Nat → FaultT) (xs : List Int) {k : Nat} (t : Nat) {l : Nat} (h : l < k) : ((otsL n flt xs k t).map fun n => [PV.v (.int .i64 n)])[((l : Nat) : Int).toNat]? = some [PV.v (.int .i64 (beatR n (flt l) (stR n (flt l) xs t) (xs.getD t 0)).2)] := by
  rw [List.getElem?_map, Int.toNat_natCast, otsL_get h]; rfl
theorem row_app (n : NetT) (f : FaultT) (xs : List Int) (t l : Nat) : ((outsR n f xs (t + bt l l)).map iPV).take (t + bt l l) ++ [[PV.v (.int .i64 (beatR n f (stR n f xs t) (xs.getD t 0)).2)]] = (outsR n f xs (t + bt l (l + 1))).map iPV := by
  rw [bt_self, bt_next, Nat.add_zero, List.take_of_length_le (by simp [outsR_len]), outsR_succ, List.map_append]; rfl
end Go.Proofs.YtfpaonfddaeamaaGreatDoor
namespace Go.Proofs.YtfpaonfddaeamaaGreatDoor
open Go Go.QL
set_option maxHeartbeats 3200000
attribute [local irreducible] ACall FnC
theorem run_5 {n : NetT} (ok : NetOK n) {s1 : Nat} {sk : List (W16 × W16)} (hsk : sk.length = n.inn.toNat + n.gates.length) {s2 s3 k' : Nat} {nw : List W16}
    {flt : Nat → FaultT} (hl : LanesOK sk flt 5) (xs : List Int) (hxl : xs.length ≤ 4096) :
    ACall Tryz.prog 51 [.x (.b 900 0), iv .i64 5, sl xs] (sB n s1 sk s2 (dl0 n) s3 k' nw)
      (fun r σ' => ∃ p : Nat × Nat × List W16, r = rowsAV ((List.range 5).map fun l => outsR n (flt l) xs xs.length) ∧ σ' = sB n s1 sk s2 (dl0 n) p.1 p.2.1 p.2.2) := by
  refine ACall_of_AWD hTt Tryz.func51 rfl (by kernel_rfl) (res := [.tmp 6]) rfl Tryz.ntmps51 (by simp) fun w0 K0 B => ?_
  dsimp only [entry]
  repeat' first | with_reducible refine AW_seq ?_ | with_reducible refine AW_block ?_ | ((first | with_reducible refine AW_region hTt ?_ | refine AW_draw hTt hMix (id := 1) 5 true [0, 1, 0, 4, 3, 31] (by kernel_rfl) rfl rfl (by kernel_rfl) ?_ | refine Or.inr ?_ | refine andA ?_ | fail); conv => whnf) | (refine fun hln => ?_; (try rw [List.length_map] at hln); unfold maxLen at hln; conv => whnf) | fail
  refine AW_imp (Imp.freeze 17 (fr' := frR n flt xs 5) (σ' := (15, .box (cellsN 5 0 0)) :: sB n s1 sk s2 (dl0 n) s3 k' nw) rfl ?_ ?_ rfl rfl) ?_
  · exact ⟨⟨_, rfl, .inl rfl⟩, ⟨_, congrArg (fun k : Nat => some (iv .i64 k)) (List.length_map _), .inl rfl⟩, ⟨_, rfl, .inl rfl⟩, ⟨_, rfl, .inl rfl⟩, ⟨_, rfl, .inr ⟨5, rfl, Nat.le_of_ble_eq_true rfl, rfl⟩⟩, ⟨_, rfl, .inl rfl⟩, trivial⟩
  · exact ⟨rfl, rfl, rfl, rfl, rfl, trivial⟩
  refine AW_imp (Imp.nil 600 3 1 (fr' := frR n flt xs 5) (σ' := chN 0 ((15, .box (cellsN 5 0 1)) :: sB n s1 sk s2 (dl0 n) s3 k' nw)) rfl ⟨⟨_, rfl, .inl rfl⟩, ⟨_, rfl, .inl rfl⟩, ⟨_, rfl, .inl rfl⟩, ⟨_, rfl, .inl rfl⟩, ⟨_, rfl, .inl rfl⟩, ⟨_, rfl, .inl rfl⟩, trivial⟩ ?_ rfl rfl) ?_
  · exact ⟨⟨_, rfl, .inr ⟨_, _, rfl, rfl, .inr ⟨rfl, rfl⟩, .inl rfl, .inl rfl, .inl rfl, .inl rfl, trivial⟩⟩, ⟨_, rfl, .inl rfl⟩, ⟨_, rfl, .inl rfl⟩, ⟨_, rfl, .inl rfl⟩, ⟨_, rfl, .inl rfl⟩, trivial⟩
  refine AW_imp (Imp.nil 601 3 1 (fr' := frR n flt xs 5) (σ' := chN 1 ((15, .box (cellsN 5 0 2)) :: sB n s1 sk s2 (dl0 n) s3 k' nw)) rfl ⟨⟨_, rfl, .inl rfl⟩, ⟨_, rfl, .inl rfl⟩, ⟨_, rfl, .inl rfl⟩, ⟨_, rfl, .inl rfl⟩, ⟨_, rfl, .inl rfl⟩, ⟨_, rfl, .inl rfl⟩, trivial⟩ ?_ rfl rfl) ?_
  · exact ⟨⟨_, rfl, .inl rfl⟩, ⟨_, rfl, .inr ⟨_, _, rfl, rfl, .inl rfl, .inr ⟨rfl, rfl⟩, .inl rfl, .inl rfl, .inl rfl, trivial⟩⟩, ⟨_, rfl, .inl rfl⟩, ⟨_, rfl, .inl rfl⟩, ⟨_, rfl, .inl rfl⟩, ⟨_, rfl, .inl rfl⟩, trivial⟩
  refine AW_imp (Imp.nil 602 3 1 (fr' := frR n flt xs 5) (σ' := chN 2 ((15, .box (cellsN 5 0 3)) :: sB n s1 sk s2 (dl0 n) s3 k' nw)) rfl ⟨⟨_, rfl, .inl rfl⟩, ⟨_, rfl, .inl rfl⟩, ⟨_, rfl, .inl rfl⟩, ⟨_, rfl, .inl rfl⟩, ⟨_, rfl, .inl rfl⟩, ⟨_, rfl, .inl rfl⟩, trivial⟩ ?_ rfl rfl) ?_
  · exact ⟨⟨_, rfl, .inl rfl⟩, ⟨_, rfl, .inl rfl⟩, ⟨_, rfl, .inr ⟨_, _, rfl, rfl, .inl rfl, .inl rfl, .inr ⟨rfl, rfl⟩, .inl rfl, .inl rfl, trivial⟩⟩, ⟨_, rfl, .inl rfl⟩, ⟨_, rfl, .inl rfl⟩, ⟨_, rfl, .inl rfl⟩, ⟨_, rfl, .inl rfl⟩, trivial⟩
  refine AW_imp (Imp.nil 603 3 1 (fr' := frR n flt xs 5) (σ' := chN 3 ((15, .box (cellsN 5 0 4)) :: sB n s1 sk s2 (dl0 n) s3 k' nw)) rfl ⟨⟨_, rfl, .inl rfl⟩, ⟨_, rfl, .inl rfl⟩, ⟨_, rfl, .inl rfl⟩, ⟨_, rfl, .inl rfl⟩, ⟨_, rfl, .inl rfl⟩, ⟨_, rfl, .inl rfl⟩, trivial⟩ ?_ rfl rfl) ?_
  · exact ⟨⟨_, rfl, .inl rfl⟩, ⟨_, rfl, .inl rfl⟩, ⟨_, rfl, .inl rfl⟩, ⟨_, rfl, .inr ⟨_, _, rfl, rfl, .inl rfl, .inl rfl, .inl rfl, .inr ⟨rfl, rfl⟩, .inl rfl, trivial⟩⟩, ⟨_, rfl, .inl rfl⟩, ⟨_, rfl, .inl rfl⟩, ⟨_, rfl, .inl rfl⟩, ⟨_, rfl, .inl rfl⟩, trivial⟩
  refine AW_imp (Imp.nil 604 3 1 (fr' := frR n flt xs 5) (σ' := chN 4 ((15, .box (cellsN 5 0 5)) :: sB n s1 sk s2 (dl0 n) s3 k' nw)) rfl ⟨⟨_, rfl, .inl rfl⟩, ⟨_, rfl, .inl rfl⟩, ⟨_, rfl, .inl rfl⟩, ⟨_, rfl, .inl rfl⟩, ⟨_, rfl, .inl rfl⟩, ⟨_, rfl, .inl rfl⟩, trivial⟩ ?_ rfl rfl) ?_
  · exact ⟨⟨_, rfl, .inl rfl⟩, ⟨_, rfl, .inl rfl⟩, ⟨_, rfl, .inl rfl⟩, ⟨_, rfl, .inl rfl⟩, ⟨_, rfl, .inr ⟨_, _, rfl, rfl, .inl rfl, .inl rfl, .inl rfl, .inl rfl, .inr ⟨rfl, rfl⟩, trivial⟩⟩, ⟨_, rfl, .inl rfl⟩, ⟨_, rfl, .inl rfl⟩, ⟨_, rfl, .inl rfl⟩, ⟨_, rfl, .inl rfl⟩, trivial⟩
  refine AW_loop (fun p : Nat × Nat × Nat × List W16 => [(20, iv .i64 p.1), (19, iv .i64 xs.length), (18, sl xs), (7, .x (.sb 15 0 5 5)), (8, sl (stsL n flt xs 5 p.1)), (0, .x (.b 900 0))])
    (fun p => (15, .box [.o 600 (p.1) (p.1), .o 601 (p.1) (p.1), .o 602 (p.1) (p.1), .o 603 (p.1) (p.1), .o 604 (p.1) (p.1)]) :: (600, rwOb n (flt 0) xs (p.1)) :: (601, rwOb n (flt 1) xs (p.1)) :: (602, rwOb n (flt 2) xs (p.1)) :: (603, rwOb n (flt 3) xs (p.1)) :: (604, rwOb n (flt 4) xs (p.1)) :: sB n s1 sk s2 (dl0 n) p.2.1 p.2.2.1 p.2.2.2)
    (fun p => p.1 ≤ xs.length) (fun p => xs.length - p.1) (0, s3, k', nw) (Nat.zero_le _) impA ?_
  rintro ⟨t, a, b, c⟩ ht
  dsimp only at ht ⊢
  rcases Nat.lt_or_ge t xs.length with htl | htl
  · have hbeat := fun s3 k' nw => beat_lanes ok (s1 := s1) hsk (s2 := s2) (s3 := s3) (k' := k') (nw := nw) (k := 5) (by decide) hl xs t xs[t] (getDI htl)
    have hol := otsL_len n flt xs 5 t
    repeat' first | with_reducible refine AW_seq ?_ | with_reducible refine AW_block ?_ | ((first | with_reducible refine AW_skip ?_ | with_reducible refine AW_exit ?_ | with_reducible refine AW_ret ?_ | with_reducible refine AW_region hTt ?_ | fail); conv => whnf) | (exact absurd hb (by omega)) | ((refine ⟨_, (hbeat a b c).frame (asc []) (by repeat (first | exact trivial | refine ⟨rfl, ?_⟩)) rfl (by rintro _ _ ⟨_, rfl, rfl⟩; rfl), ?_⟩); (rintro _ _ ⟨_, _, ⟨_, rfl, rfl⟩, rfl, rfl⟩); conv => whnf) | (refine AW_cond rfl (fun hb => ?_) (fun hb => ?_) <;> first | (replace hb := of_decide_eq_true hb; try simp only [List.length_map] at hb) | (replace hb := of_decide_eq_false hb; try simp only [List.length_map] at hb) | (simp only [List.length_map, bne_iff_ne, ne_eq, beq_iff_eq, bne_eq_false_iff_eq, beq_eq_false_iff_ne, decide_eq_true_eq, decide_eq_false_iff_not, Bool.not_eq_true', Bool.not_eq_false', Int.natCast_inj] at hb) | skip) | ((first | refine andA ?_ | with_reducible refine Exists.intro _ (And.intro (gd_any (And.intro (by omega) (map_get (by omega)))) ?_) | fail); conv => whnf) | (refine fun hln => ?_; (try rw [List.length_map] at hln); unfold maxLen at hln; conv => whnf) | fail
    rename_i pp
    refine AW_loop (fun l : Nat => [(33, iv .i64 l), (32, iv .i64 5), (31, sl (otsL n flt xs 5 t)), (20, iv .i64 t), (19, iv .i64 xs.length), (18, sl xs), (7, .x (.sb 15 0 5 5)), (8, sl (stsL n flt xs 5 (t + 1))), (0, .x (.b 900 0))])
      (fun l => (15, .box [.o 600 (t + bt 0 l) (t + bt 0 l), .o 601 (t + bt 1 l) (t + bt 1 l), .o 602 (t + bt 2 l) (t + bt 2 l), .o 603 (t + bt 3 l) (t + bt 3 l), .o 604 (t + bt 4 l) (t + bt 4 l)]) :: (600, rwOb n (flt 0) xs (t + bt 0 l)) :: (601, rwOb n (flt 1) xs (t + bt 1 l)) :: (602, rwOb n (flt 2) xs (t + bt 2 l)) :: (603, rwOb n (flt 3) xs (t + bt 3 l)) :: (604, rwOb n (flt 4) xs (t + bt 4 l)) :: sB n s1 sk s2 (dl0 n) pp.1 pp.2.1 pp.2.2) (fun l => l ≤ 5) (fun l => 5 - l) 0 (Nat.zero_le _) impA ?_
    intro l hlk
    rcases Nat.lt_or_ge l 5 with hll | hll
    · have hg := ots_at n flt xs t hll
      have e := row_app n (flt l) xs t l
      have hq := bt_self l
      have hz := outsR_len n (flt l) xs (t + bt l l)
      obtain ⟨j, hj⟩ : ∃ j, j = l + 1 := ⟨_, rfl⟩
      have hl' : l = 0 ∨ l = 1 ∨ l = 2 ∨ l = 3 ∨ l = 4 := by omega
      clear hol hbeat ht hlk hll
      rcases hl' with rfl | rfl | rfl | rfl | rfl
      all_goals
        repeat' first | with_reducible refine AW_seq ?_ | with_reducible refine AW_block ?_ | ((first | with_reducible refine AW_skip ?_ | with_reducible refine AW_region hTt ?_ | with_reducible refine Exists.intro _ (And.intro (gd_any (And.intro (by omega) hg)) ?_) | refine And.intro (gd_any (And.intro (by decide) (by decide))) ?_ | fail); conv => whnf) | ((refine And.intro ?_ ?_; focus (refine ⟨?_, ?_, ?_⟩ <;> simp [chunk, maxLen] <;> omega)); conv => whnf) | (refine AW_cond rfl (fun _ => ?_) (fun hb => absurd hb (by decide))) | ((first | refine ⟨_, wrap_of (by first | omega | (simp only [List.length_map]; omega)), ?_⟩ | refine andA ?_ | fail); conv => whnf) | fail
        exact ⟨j, by omega, by omega, by subst hj; exact impA⟩
    have hle : l = 5 := by omega
    subst hle
    repeat' first | with_reducible refine AW_seq ?_ | ((first | with_reducible refine AW_exit ?_ | with_reducible refine AW_region hTt ?_ | fail); conv => whnf) | (refine AW_cond rfl (fun hb => absurd hb (by decide)) (fun _ => ?_)) | ((refine ⟨_, wrap_of (by first | omega | (simp only [List.length_map]; omega)), ?_⟩); conv => whnf) | fail
    exact ⟨(t + 1, pp.1, pp.2.1, pp.2.2), by show t + 1 ≤ xs.length; omega, by show xs.length - (t + 1) < xs.length - t; omega, impA⟩
  · have hte : t = xs.length := by omega
    subst hte
    repeat' first | with_reducible refine AW_seq ?_ | with_reducible refine AW_block ?_ | ((first | with_reducible refine AW_skip ?_ | with_reducible refine AW_exit ?_ | with_reducible refine AW_ret ?_ | with_reducible refine AW_region hTt ?_ | fail); conv => whnf) | (exact absurd hb (by omega)) | (refine AW_cond rfl (fun hb => ?_) (fun hb => ?_) <;> first | (replace hb := of_decide_eq_true hb; try simp only [List.length_map] at hb) | (replace hb := of_decide_eq_false hb; try simp only [List.length_map] at hb) | (simp only [List.length_map, bne_iff_ne, ne_eq, beq_iff_eq, bne_eq_false_iff_eq, beq_eq_false_iff_ne, decide_eq_true_eq, decide_eq_false_iff_not, Bool.not_eq_true', Bool.not_eq_false', Int.natCast_inj] at hb) | skip) | fail
    refine ⟨_, sB n s1 sk s2 (dl0 n) a b c, ⟨rfl, rfl, rfl, rfl, trivial⟩, rfl, (?_ : _ = some (rowsAV ((List.range 5).map fun l => outsR n (flt l) xs xs.length))), (a, b, c), rfl, rfl⟩
    have hk := keepRows (σ := (15, .box [.o 600 xs.length xs.length, .o 601 xs.length xs.length, .o 602 xs.length xs.length, .o 603 xs.length xs.length, .o 604 xs.length xs.length]) :: (600, rwOb n (flt 0) xs xs.length) :: (601, rwOb n (flt 1) xs xs.length) :: (602, rwOb n (flt 2) xs xs.length) :: (603, rwOb n (flt 3) xs xs.length) :: (604, rwOb n (flt 4) xs xs.length) :: sB n s1 sk s2 (dl0 n) a b c) (σ' := sB n s1 sk s2 (dl0 n) a b c) (id := 15) (n := 5) (cap := 5) (ps := [PV.s 1 ((outsR n (flt 0) xs xs.length).map iPV), PV.s 1 ((outsR n (flt 1) xs xs.length).map iPV), PV.s 1 ((outsR n (flt 2) xs xs.length).map iPV), PV.s 1 ((outsR n (flt 3) xs xs.length).map iPV), PV.s 1 ((outsR n (flt 4) xs xs.length).map iPV)]) rfl rfl
      (by repeat' first | exact rfl | refine rowPVs_cons (rowPV_o rfl rfl (by rw [List.length_map, outsR_len])) ?_) rfl
    exact outKeep1 (x := .x (.sb 15 0 5 5)) rfl hk
end Go.Proofs.YtfpaonfddaeamaaGreatDoor
namespace Go.Proofs.YtfpaonfddaeamaaGreatDoor
open Go Go.QL
set_option maxHeartbeats 3200000
attribute [local irreducible] ACall FnC YC
def nxL (l : List Int) : Nat := match l.getLast? with
  | some y => (y + 1).toNat
  | none => 0
def extL (many : Nat) : Nat → List Int → List (List Int)
  | 0, l => [l]
  | k + 1, l => (List.range' (nxL l) (many - nxL l)).flatMap fun (i : Nat) => extL many k (l ++ [(i : Int)])
def goC (H : List Int → Bool) : List (List Int) → PV → Bool × PV
  | [], x => (true, x)
  | l :: r, x => if H l = true then (false, intsPV l) else goC H r (intsPV l)
theorem goC_app (H : List Int → Bool) (b : List (List Int)) : ∀ (a : List (List Int)) (x : PV), goC H (a ++ b) x = if (goC H a x).1 = true then goC H b (goC H a x).2 else goC H a x
  | [], x => by simp [goC]
  | l :: r, x => by
    simp only [List.cons_append, goC]
    by_cases h : H l = true
    · simp [h]
    · simp only [h]; exact goC_app H b r (intsPV l)
section
variable (asg bdy : Code)
abbrev frC : Fr := [(5, .x (.f (.func 91) [] [.b 950 0])), (4, .x (.b 964 0)), (3, .x (.b 963 0))]
abbrev lpC (go : Bool) : Ob := .x (bif go then .loop .ready none #[6] asg bdy 11 frC 931 else .loop .done (some (.exit 0)) #[6] asg bdy 11 frC 931)
abbrev sgC (go : Bool) (x : PV) (many : Nat) (rows al : PV) : Sg :=
  [(930, lpC asg bdy go), (931, .x .dfr), (964, .box [.d x]), (963, .box [.f (.func 80) [] [.b 940 0, .b 941 0, .b 942 0]]), (950, .box [.d (.v (.int .i64 many))]),
    (940, .box [.d rows]), (941, .box [.f (.func 76) [] [.b 940 0]]), (942, .box [.d al])]
abbrev sgG (s : Nat) (go : Bool) (x : PV) (many : Nat) (rows al : PV) : Sg :=
  (3, .box [.d (.v (.int .i64 s))]) :: (2, .box [.h 930]) :: (4, .box [.f (.func 92) [] [.b 3 0, .b 2 0, .b 950 0, .b 4 0]]) :: sgC asg bdy go x many rows al
end
theorem sgG_ok (asg bdy : Code) (s : Nat) (go : Bool) (x x0 : PV) (many : Nat) (rows al : PV) : (rsSg (sgG asg bdy s go x many rows al) (sgG asg bdy s go x many rows al) && idsIn ((sgG asg bdy s true x0 many rows al).map (·.1)) (sgG asg bdy s go x many rows al)) = true := by
  cases go <;> rfl
theorem clip_fn (l : List Int) : FnC Tryz.prog 93 [sl l] (.x (.d (.c 1 (l.map fun n => [.v (.int .i64 n)])))) := by
  refine FnC_of_AW hTt Tryz.func93 rfl (by kernel_rfl) (res := [.tmp 2]) rfl Tryz.ntmps93 (by simp) fun w0 K0 => ?_
  dsimp only [entry]
  repeat' first | with_reducible refine AW_seq ?_ | ((first | with_reducible refine AW_ret ?_ | with_reducible refine AW_region hTt ?_ | refine And.intro (gd_any ⟨by omega, by omega⟩) ?_ | refine And.intro ⟨rfl, rfl⟩ ?_ | fail); conv => whnf) | (refine fun hln => ?_; (try rw [List.length_map] at hln); unfold maxLen at hln; conv => whnf) | fail
  show some _ = some _
  rw [Int.toNat_natCast, List.take_of_length_le (Nat.le_refl _)]
theorem sl_snoc (l : List Int) (y : Int) : sl (l ++ [y]) = .x (.d (.s 1 ((l.map fun n => [PV.v (.int .i64 n)]) ++ [[.v (.int .i64 y)]]))) := by
  unfold sl; rw [List.map_append]; rfl
theorem nxL_snoc (l : List Int) (y : Int) : nxL (l ++ [y]) = (y + 1).toNat := by unfold nxL; rw [List.getLast?_concat]
theorem grow_fn {asg bdy : Code} {H : List Int → Bool} {s many : Nat} {rows al : PV} (hm : many ≤ 100) (hs : s ≤ many)
    (hy : ∀ (x : PV) (l : List Int), (∀ i ∈ l, 0 ≤ i ∧ i < many) → YC Tryz.prog 930 [sl l] (sgG asg bdy s true x many rows al) (fun r σ' => r = bv (!H l) ∧ σ' = sgG asg bdy s (!H l) (intsPV l) many rows al)) :
    ∀ (k : Nat) (l : List Int) (x : PV), l.length + k = s → (∀ y ∈ l, 0 ≤ y ∧ y < many) → ACall Tryz.prog 92 [sl l, .x (.b 3 0), .x (.b 2 0), .x (.b 950 0), .x (.b 4 0)] (sgG asg bdy s true x many rows al)
      (fun r σ' => r = bv (goC H (extL many k l) x).1 ∧ σ' = sgG asg bdy s (goC H (extL many k l) x).1 (goC H (extL many k l) x).2 many rows al) := by
  intro k
  induction k with
  | zero =>
    intro l x hl hr
    have hy := hy x l hr
    have hg : goC H (extL many 0 l) x = (!H l, intsPV l) := by
      show (if H l = true then (false, intsPV l) else (true, intsPV l)) = _
      cases H l <;> rfl
    rw [hg]
    refine ACall_of_AWD hTt Tryz.func92 rfl (by kernel_rfl) (res := [.tmp 6]) rfl Tryz.ntmps92 (by simp) fun w0 K0 B => ?_
    dsimp only [entry]
    repeat' first | with_reducible refine AW_seq ?_ | ((first | with_reducible refine AW_skip ?_ | with_reducible refine AW_ret ?_ | with_reducible refine AW_region hTt ?_ | fail); conv => whnf) | (exact absurd hb (by omega)) | ((refine ⟨_, hy, ?_⟩); (rintro _ _ ⟨rfl, rfl⟩); conv => whnf) | (refine AW_cond rfl (fun hb => ?_) (fun hb => ?_) <;> first | (replace hb := of_decide_eq_true hb; try simp only [List.length_map] at hb) | (replace hb := of_decide_eq_false hb; try simp only [List.length_map] at hb)) | (refine fun hln => ?_; (try rw [List.length_map] at hln); unfold maxLen at hln; conv => whnf) | fail
    exact ⟨_, sgG asg bdy s (!H l) (intsPV l) many rows al, ⟨rfl, rfl, rfl, rfl, rfl, rfl, rfl, rfl, rfl, rfl, rfl, trivial⟩, sgG_ok _ _ _ _ _ _ _ _ _, rfl, rfl, rfl⟩
  | succ k ih =>
    intro l x hl hr
    have hnx : nxL l ≤ many := by
      unfold nxL
      cases hg : l.getLast? with
      | none => exact Nat.zero_le _
      | some y => have := hr y (List.mem_of_getLast? hg); show (y + 1).toNat ≤ many; omega
    have hstep : ∀ (i : Nat) (y : PV), i < many → goC H ((List.range' i (many - i)).flatMap fun (i : Nat) => extL many k (l ++ [(i : Int)])) y =
        if (goC H (extL many k (l ++ [(i : Int)])) y).1 = true then goC H ((List.range' (i + 1) (many - (i + 1))).flatMap fun (i : Nat) => extL many k (l ++ [(i : Int)])) (goC H (extL many k (l ++ [(i : Int)])) y).2 else goC H (extL many k (l ++ [(i : Int)])) y := by
      intro i y hi
      rw [show many - i = (many - (i + 1)) + 1 by omega, List.range'_succ, List.flatMap_cons, goC_app]
    have hend : ∀ (y : PV), goC H ((List.range' many (many - many)).flatMap fun (i : Nat) => extL many k (l ++ [(i : Int)])) y = (true, y) := by
      intro y
      rw [Nat.sub_self]; rfl
    have hgo : goC H (extL many (k + 1) l) x = goC H ((List.range' (nxL l) (many - nxL l)).flatMap fun (i : Nat) => extL many k (l ++ [(i : Int)])) x := rfl
    rw [hgo]
    clear hgo
    refine ACall_of_AWD hTt Tryz.func92 rfl (by kernel_rfl) (res := [.tmp 6]) rfl Tryz.ntmps92 (by simp) fun w0 K0 B => ?_
    dsimp only [entry]
    have key : (l = [] ∧ nxL l = 0) ∨ ∃ (l0 : List Int) (y : Int), l = l0 ++ [y] ∧ 0 ≤ y ∧ y < many ∧ nxL l = (y + 1).toNat := by
      rcases List.eq_nil_or_concat l with h | ⟨l0, y, h⟩
      · subst h; exact .inl ⟨rfl, rfl⟩
      · right
        rw [List.concat_eq_append] at h
        subst h
        have := hr y (List.mem_append_right _ List.mem_cons_self)
        exact ⟨l0, y, rfl, this.1, this.2, nxL_snoc _ _⟩
    generalize hX : goC H ((List.range' (nxL l) (many - nxL l)).flatMap fun (i : Nat) => extL many k (l ++ [(i : Int)])) x = X
    have hlen : l.length < s := by omega
    rcases key with ⟨h0, hn0⟩ | ⟨l0, y, h0, hy0, hy1, hn0⟩
    case' inl =>
      repeat' first | with_reducible refine AW_seq ?_ | with_reducible refine AW_block ?_ | ((first | with_reducible refine AW_skip ?_ | with_reducible refine AW_region hTt ?_ | fail); conv => whnf) | (exact absurd hb (by omega)) | (exfalso; rw [h0] at hb; simp at hb; done) | (refine AW_cond rfl (fun hb => ?_) (fun hb => ?_) <;> first | (replace hb := of_decide_eq_true hb; try simp only [List.length_map] at hb) | (replace hb := of_decide_eq_false hb; try simp only [List.length_map] at hb)) | (refine fun hln => ?_; (try rw [List.length_map] at hln); unfold maxLen at hln; conv => whnf) | fail
      refine AW_loop (fun p : Nat × PV => [(8, iv .i64 p.1), (0, sl l), (1, .x (.b 3 0)), (2, .x (.b 2 0)), (3, .x (.b 950 0)), (4, .x (.b 4 0))]) (fun p => sgG asg bdy s true p.2 many rows al)
        (fun p => p.1 ≤ many ∧ X = goC H ((List.range' p.1 (many - p.1)).flatMap fun (i : Nat) => extL many k (l ++ [(i : Int)])) p.2) (fun p => many - p.1) (nxL l, x) ⟨hnx, hX.symm⟩ (Imp.forget (by repeat' (first | exact trivial | refine And.intro ?_ ?_ | exact ivE (by omega) | rfl | exact ivE (by first | omega | (simp only [List.length_map, List.length_append, List.length_singleton] <;> omega)) | exact oE (by first | omega | (simp only [List.length_map, List.length_append, List.length_singleton] <;> omega)))) (by repeat' (first | exact trivial | refine And.intro ?_ ?_ | exact ivE (by omega) | rfl | exact ivE (by first | omega | (simp only [List.length_map, List.length_append, List.length_singleton] <;> omega)) | exact oE (by first | omega | (simp only [List.length_map, List.length_append, List.length_singleton] <;> omega)))) (by kernel_rfl) (by kernel_rfl) (by kernel_rfl)) ?_
    case' inr =>
      have hly : l[l.length - 1]? = some y := by rw [h0]; simp
      have hl1 : 1 ≤ l.length := by rw [h0]; simp
      have hlr : (l.map fun n => [PV.v (.int .i64 n)])[((l.length : Int) - 1).toNat]? = some [PV.v (.int .i64 y)] := by
        rw [List.getElem?_map, show ((l.length : Int) - 1).toNat = l.length - 1 by omega, hly]; rfl
      have hwr : IntKind.i64.wrap (((l.map fun n => [PV.v (.int .i64 n)]).length : Int) - 1) = (l.length : Int) - 1 := by
        rw [List.length_map]; exact wrap_of (by omega)
      repeat' first | with_reducible refine AW_seq ?_ | with_reducible refine AW_block ?_ | ((first | with_reducible refine AW_skip ?_ | with_reducible refine AW_region hTt ?_ | fail); conv => whnf) | (exact absurd hb (by omega)) | ((first | refine ⟨_, hwr, ?_⟩ | with_reducible refine Exists.intro _ (And.intro (gd_any (And.intro (by omega) hlr)) ?_) | fail); conv => whnf) | (refine AW_cond rfl (fun hb => ?_) (fun hb => ?_) <;> first | (replace hb := of_decide_eq_true hb; try simp only [List.length_map] at hb) | (replace hb := of_decide_eq_false hb; try simp only [List.length_map] at hb)) | ((first | refine ⟨_, wrap_of (by first | omega | (simp only [List.length_map]; omega)), ?_⟩ | refine andA ?_ | fail); conv => whnf) | (refine fun hln => ?_; (try rw [List.length_map] at hln); unfold maxLen at hln; conv => whnf) | fail
      refine AW_loop (fun p : Nat × PV => [(8, iv .i64 p.1), (0, sl l), (1, .x (.b 3 0)), (2, .x (.b 2 0)), (3, .x (.b 950 0)), (4, .x (.b 4 0))]) (fun p => sgG asg bdy s true p.2 many rows al)
        (fun p => p.1 ≤ many ∧ X = goC H ((List.range' p.1 (many - p.1)).flatMap fun (i : Nat) => extL many k (l ++ [(i : Int)])) p.2) (fun p => many - p.1) (nxL l, x) ⟨hnx, hX.symm⟩ (Imp.forget (by repeat' (first | exact trivial | refine And.intro ?_ ?_ | exact ivE (by omega) | rfl | exact ivE (by first | omega | (simp only [List.length_map, List.length_append, List.length_singleton] <;> omega)) | exact oE (by first | omega | (simp only [List.length_map, List.length_append, List.length_singleton] <;> omega)))) (by repeat' (first | exact trivial | refine And.intro ?_ ?_ | exact ivE (by omega) | rfl | exact ivE (by first | omega | (simp only [List.length_map, List.length_append, List.length_singleton] <;> omega)) | exact oE (by first | omega | (simp only [List.length_map, List.length_append, List.length_singleton] <;> omega)))) (by kernel_rfl) (by kernel_rfl) (by kernel_rfl)) ?_
    all_goals
      clear hX hnx
      rintro ⟨i, z⟩ ⟨hi, hX⟩
      dsimp only at hi hX ⊢
      rcases Nat.lt_or_ge i many with hil | hil
      · rw [hstep i z hil] at hX
        have hih := ih (l ++ [(i : Int)]) z (by rw [List.length_append, List.length_singleton]; omega) (fun y hy => by
          rcases List.mem_append.1 hy with h | h
          · exact hr y h
          · rw [List.mem_singleton.1 h]; omega)
        rw [sl_snoc] at hih
        generalize goC H (extL many k (l ++ [(i : Int)])) z = Y at hih hX
        obtain ⟨go, z'⟩ := Y
        dsimp only at hih hX
        clear ih hstep hend hy hr
        cases go with
        | true =>
          rw [if_pos rfl] at hX
          repeat' first | with_reducible refine AW_seq ?_ | with_reducible refine AW_block ?_ | ((first | with_reducible refine AW_skip ?_ | with_reducible refine AW_exit ?_ | with_reducible refine AW_ret ?_ | with_reducible refine AW_region hTt ?_ | refine AW_drawM hTt hMix (id := 9) 5 [0] true [0, 0, 2, 0, 8, 30, 63, 127] _ (by kernel_rfl) rfl rfl (by kernel_rfl) rfl (by kernel_rfl) (by kernel_rfl) ?_ | refine LateGo.mk ⟨_, rfl, ?_⟩ | fail); conv => whnf) | (exact absurd hb (by omega)) | ((first | refine ⟨_, fun _ => (clip_fn _).call rfl rfl, ?_⟩ | ((refine ⟨_, hih, ?_⟩); (rintro _ _ ⟨rfl, rfl⟩)) | refine And.intro ⟨by rw [List.length_map]; show l.length + 1 ≤ maxLen; unfold maxLen; omega, by rw [List.length_map]; show (l.length + 1) * 8 ≤ 140737488355328; omega⟩ ?_ | fail); conv => whnf) | (refine AW_cond rfl (fun hb => absurd hb (by decide)) (fun _ => ?_)) | (refine AW_cond rfl (fun hb => ?_) (fun hb => ?_) <;> first | (replace hb := of_decide_eq_true hb; try simp only [List.length_map] at hb) | (replace hb := of_decide_eq_false hb; try simp only [List.length_map] at hb)) | ((first | refine ⟨_, wrap_of (by first | omega | (simp only [List.length_map]; omega)), ?_⟩ | refine andA ?_ | fail); conv => whnf) | fail
          exact ⟨(i + 1, z'), ⟨by show i + 1 ≤ many; omega, hX⟩, by show many - (i + 1) < many - i; omega, impA⟩
        | false =>
          rw [if_neg (by decide)] at hX
          subst hX
          repeat' first | with_reducible refine AW_seq ?_ | with_reducible refine AW_block ?_ | ((first | with_reducible refine AW_skip ?_ | with_reducible refine AW_exit ?_ | with_reducible refine AW_ret ?_ | with_reducible refine AW_region hTt ?_ | refine AW_drawM hTt hMix (id := 9) 5 [0] true [0, 0, 2, 0, 8, 30, 63, 127] _ (by kernel_rfl) rfl rfl (by kernel_rfl) rfl (by kernel_rfl) (by kernel_rfl) ?_ | refine LateGo.mk ⟨_, rfl, ?_⟩ | fail); conv => whnf) | (exact absurd hb (by omega)) | ((first | refine ⟨_, fun _ => (clip_fn _).call rfl rfl, ?_⟩ | ((refine ⟨_, hih, ?_⟩); (rintro _ _ ⟨rfl, rfl⟩)) | refine And.intro ⟨by rw [List.length_map]; show l.length + 1 ≤ maxLen; unfold maxLen; omega, by rw [List.length_map]; show (l.length + 1) * 8 ≤ 140737488355328; omega⟩ ?_ | fail); conv => whnf) | (refine AW_cond rfl (fun _ => ?_) (fun hb => absurd hb (by decide))) | (refine AW_cond rfl (fun hb => ?_) (fun hb => ?_) <;> first | (replace hb := of_decide_eq_true hb; try simp only [List.length_map] at hb) | (replace hb := of_decide_eq_false hb; try simp only [List.length_map] at hb)) | ((refine andA ?_); conv => whnf) | fail
          exact ⟨_, sgG asg bdy s false z' many rows al, ⟨rfl, rfl, rfl, rfl, rfl, rfl, rfl, rfl, rfl, rfl, rfl, trivial⟩, sgG_ok _ _ _ _ _ _ _ _ _, rfl, rfl, rfl⟩
      · have hie : i = many := by omega
        subst hie
        rw [hend] at hX
        subst hX
        repeat' first | with_reducible refine AW_seq ?_ | with_reducible refine AW_block ?_ | ((first | with_reducible refine AW_skip ?_ | with_reducible refine AW_exit ?_ | with_reducible refine AW_ret ?_ | with_reducible refine AW_region hTt ?_ | refine AW_drawM hTt hMix (id := 9) 5 [0] true [0, 0, 2, 0, 8, 30, 63, 127] _ (by kernel_rfl) rfl rfl (by kernel_rfl) rfl (by kernel_rfl) (by kernel_rfl) ?_ | fail); conv => whnf) | (exact absurd hb (by omega)) | (refine AW_cond rfl (fun hb => ?_) (fun hb => ?_) <;> first | (replace hb := of_decide_eq_true hb; try simp only [List.length_map] at hb) | (replace hb := of_decide_eq_false hb; try simp only [List.length_map] at hb)) | fail
        exact ⟨_, sgG asg bdy s true z i rows al, ⟨rfl, rfl, rfl, rfl, rfl, rfl, rfl, rfl, rfl, rfl, rfl, trivial⟩, sgG_ok _ _ _ _ _ _ _ _ _, rfl, rfl, rfl⟩
end Go.Proofs.YtfpaonfddaeamaaGreatDoor
namespace Go.Proofs.YtfpaonfddaeamaaGreatDoor
open Go Go.QL
set_option maxHeartbeats 3200000
attribute [local irreducible] ACall FnC YC
def allL (many : Nat) : List (List Int) := (List.range' 0 (many + 1)).flatMap fun (s : Nat) => extL many s []
theorem sgC_ok (asg bdy : Code) (go : Bool) (x x0 : PV) (many : Nat) (rows al : PV) : (rsSg (sgC asg bdy go x many rows al) (sgC asg bdy go x many rows al) && idsIn ((sgC asg bdy true x0 many rows al).map (·.1)) (sgC asg bdy go x many rows al)) = true := by
  cases go <;> rfl
theorem choices1_fn {asg bdy : Code} {H : List Int → Bool} {many : Nat} {rows al : PV} (hm : many ≤ 100)
    (hy : ∀ (s : Nat) (x : PV) (l : List Int), (∀ i ∈ l, 0 ≤ i ∧ i < many) → YC Tryz.prog 930 [sl l] (sgG asg bdy s true x many rows al) (fun r σ' => r = bv (!H l) ∧ σ' = sgG asg bdy s (!H l) (intsPV l) many rows al)) (x : PV) :
    ACall Tryz.prog 91 [.x (.h 930), .x (.b 950 0)] (sgC asg bdy true x many rows al)
      (fun r σ' => r = .t [] ∧ σ' = sgC asg bdy (goC H (allL many) x).1 (goC H (allL many) x).2 many rows al) := by
  have hgrow : ∀ (s : Nat) (z : PV), s ≤ many → ACall Tryz.prog 92 [.x (.d (.v (.slice none 0 0))), .x (.b 3 0), .x (.b 2 0), .x (.b 950 0), .x (.b 4 0)] (sgG asg bdy s true z many rows al)
      (fun r σ' => r = bv (goC H (extL many s []) z).1 ∧ σ' = sgG asg bdy s (goC H (extL many s []) z).1 (goC H (extL many s []) z).2 many rows al) := fun s z hs =>
    (grow_fn hm hs (hy s) s [] z (by simp) (fun y hy => by cases hy)).leA ⟨LeAV1.nil 1, LeAV1.refl _, LeAV1.refl _, LeAV1.refl _, LeAV1.refl _, trivial⟩
  have hstep : ∀ (s : Nat) (y : PV), s < many + 1 → goC H ((List.range' s (many + 1 - s)).flatMap fun (s : Nat) => extL many s []) y =
      if (goC H (extL many s []) y).1 = true then goC H ((List.range' (s + 1) (many + 1 - (s + 1))).flatMap fun (s : Nat) => extL many s []) (goC H (extL many s []) y).2 else goC H (extL many s []) y := by
    intro s y hs
    rw [show many + 1 - s = (many + 1 - (s + 1)) + 1 by omega, List.range'_succ, List.flatMap_cons, goC_app]
  have hend : ∀ (y : PV), goC H ((List.range' (many + 1) (many + 1 - (many + 1))).flatMap fun (s : Nat) => extL many s []) y = (true, y) := by
    intro y
    rw [Nat.sub_self]; rfl
  generalize hX : goC H (allL many) x = X
  clear hy
  refine ACall_of_AWD hTt Tryz.func91 rfl (by kernel_rfl) (res := []) rfl Tryz.ntmps91 (by simp) fun w0 K0 B => ?_
  dsimp only [entry]
  repeat' first | with_reducible refine AW_seq ?_ | with_reducible refine AW_block ?_ | ((first | with_reducible refine AW_region hTt ?_ | refine ⟨_, wrap_of (by first | omega | (simp only [List.length_map]; omega)), ?_⟩ | fail); conv => whnf) | fail
  refine AW_loop (fun p : Nat × PV => [(7, iv .i64 p.1), (6, iv .i64 ((many : Int) + 1)), (2, .x (.b 2 0)), (1, .x (.b 950 0))]) (fun p => (2, .box [.h 930]) :: sgC asg bdy true p.2 many rows al)
    (fun p => p.1 ≤ many + 1 ∧ X = goC H ((List.range' p.1 (many + 1 - p.1)).flatMap fun (s : Nat) => extL many s []) p.2) (fun p => many + 1 - p.1) (0, x) ⟨Nat.zero_le _, hX.symm⟩ impA ?_
  clear hX
  rintro ⟨s, z⟩ ⟨hs, hX⟩
  dsimp only at hs hX ⊢
  rcases Nat.lt_or_ge s (many + 1) with hsl | hsl
  · rw [hstep s z hsl] at hX
    have hg := hgrow s z (by omega)
    generalize goC H (extL many s []) z = Y at hg hX
    obtain ⟨go, z'⟩ := Y
    dsimp only at hg hX
    clear hstep hend hgrow
    cases go with
    | true =>
      rw [if_pos rfl] at hX
      repeat' first | with_reducible refine AW_seq ?_ | with_reducible refine AW_block ?_ | ((first | with_reducible refine AW_skip ?_ | with_reducible refine AW_exit ?_ | with_reducible refine AW_region hTt ?_ | fail); conv => whnf) | (exact absurd hb (by omega)) | ((refine ⟨_, (hg).frame (asc []) (by repeat (first | exact trivial | refine ⟨rfl, ?_⟩)) rfl (by rintro _ _ ⟨rfl, rfl⟩; rfl), ?_⟩); (rintro _ _ ⟨_, _, ⟨rfl, rfl⟩, rfl, rfl⟩); conv => whnf) | (refine AW_cond rfl (fun hb => absurd hb (by decide)) (fun _ => ?_)) | (refine AW_cond rfl (fun hb => ?_) (fun hb => ?_) <;> first | (replace hb := of_decide_eq_true hb; try simp only [List.length_map] at hb) | (replace hb := of_decide_eq_false hb; try simp only [List.length_map] at hb)) | ((refine ⟨_, wrap_of (by first | omega | (simp only [List.length_map]; omega)), ?_⟩); conv => whnf) | fail
      exact ⟨(s + 1, z'), ⟨by show s + 1 ≤ many + 1; omega, hX⟩, by show many + 1 - (s + 1) < many + 1 - s; omega, impA⟩
    | false =>
      rw [if_neg (by decide)] at hX
      subst hX
      repeat' first | with_reducible refine AW_seq ?_ | with_reducible refine AW_block ?_ | ((first | with_reducible refine AW_skip ?_ | with_reducible refine AW_exit ?_ | with_reducible refine AW_ret ?_ | with_reducible refine AW_region hTt ?_ | fail); conv => whnf) | (exact absurd hb (by omega)) | ((refine ⟨_, (hg).frame (asc []) (by repeat (first | exact trivial | refine ⟨rfl, ?_⟩)) rfl (by rintro _ _ ⟨rfl, rfl⟩; rfl), ?_⟩); (rintro _ _ ⟨_, _, ⟨rfl, rfl⟩, rfl, rfl⟩); conv => whnf) | (refine AW_cond rfl (fun _ => ?_) (fun hb => absurd hb (by decide))) | (refine AW_cond rfl (fun hb => ?_) (fun hb => ?_) <;> first | (replace hb := of_decide_eq_true hb; try simp only [List.length_map] at hb) | (replace hb := of_decide_eq_false hb; try simp only [List.length_map] at hb)) | fail
      exact ⟨_, sgC asg bdy false z' many rows al, ⟨rfl, rfl, rfl, rfl, rfl, rfl, rfl, rfl, trivial⟩, sgC_ok _ _ _ _ _ _ _ _, rfl, rfl, rfl⟩
  · have hse : s = many + 1 := by omega
    subst hse
    rw [hend] at hX
    subst hX
    repeat' first | with_reducible refine AW_seq ?_ | with_reducible refine AW_block ?_ | ((first | with_reducible refine AW_skip ?_ | with_reducible refine AW_exit ?_ | with_reducible refine AW_region hTt ?_ | fail); conv => whnf) | (exact absurd hb (by omega)) | (refine AW_cond rfl (fun hb => ?_) (fun hb => ?_) <;> first | (replace hb := of_decide_eq_true hb; try simp only [List.length_map] at hb) | (replace hb := of_decide_eq_false hb; try simp only [List.length_map] at hb)) | fail
    exact ⟨_, sgC asg bdy true z many rows al, ⟨rfl, rfl, rfl, rfl, rfl, rfl, rfl, rfl, trivial⟩, sgC_ok _ _ _ _ _ _ _ _, rfl, rfl, rfl⟩
end Go.Proofs.YtfpaonfddaeamaaGreatDoor
namespace Go.Proofs.YtfpaonfddaeamaaGreatDoor
open Go Go.QL
set_option maxHeartbeats 1600000
attribute [local irreducible] ACall FnC
def firstErr : List Int → Int
  | [] => 0
  | e :: r => if e = 0 then firstErr r else e
def askedR (n : NetT) (fs : List FaultT) (ts : List (List Int)) : Int :=
  if (checkR n).2.2 = 0 then (if 12 < fs.length ∨ 10 < ts.length then 3 else firstErr (fs.map (faultErr n) ++ ts.map (insErr n))) else (checkR n).2.2
theorem fault_some {fs : List FaultT} {i : Nat} {f : FaultT} (h : fs[i]? = some f) : (fs.map faultPV)[((i : Int)).toNat]? = some [.v (.int .i64 f.sig), .v (.int .i64 f.at_)] := by simp [h, faultPV]
theorem row_some {ts : List (List Int)} {i : Nat} {t : List Int} (h : ts[i]? = some t) : (ts.map fun r => [intsPV r])[((i : Int)).toNat]? = some [intsPV t] := by simp [h]
theorem firstErr_cons {e : Int} {r : List Int} : firstErr (e :: r) = if e = 0 then firstErr r else e := rfl
theorem three_err' {n : NetT} {c : Int} (h : (checkR n).2.2 = c) : three (checkR n) = .t [iv .i64 (checkR n).1, iv .i64 (checkR n).2.1, iv .i64 c] := by
  unfold three; rw [h]
end Go.Proofs.YtfpaonfddaeamaaGreatDoor
namespace Go.Proofs.YtfpaonfddaeamaaGreatDoor
open Go Go.QL
set_option maxHeartbeats 400000
def sameInts (a b : List Int) : Bool := decide (a = b)
theorem ints_fn (a b : List Int) : FnC Tryz.prog 23 [sl a, sl b] (bv (sameInts a b)) := by
  refine FnC_of_AW hTt Tryz.func23 rfl (by kernel_rfl) (res := [.tmp 4]) rfl Tryz.ntmps23 (by simp) fun w0 K0 => ?_
  dsimp only [entry]
  repeat' first | with_reducible refine AW_seq ?_ | with_reducible refine AW_block ?_ | ((first | with_reducible refine AW_skip ?_ | with_reducible refine AW_ret ?_ | with_reducible refine AW_region hTt ?_ | fail); conv => whnf) | (refine AW_cond rfl (fun hb => ?_) (fun hb => ?_) <;> first | (replace hb := of_decide_eq_true hb; try simp only [List.length_map] at hb) | (replace hb := of_decide_eq_false hb; try simp only [List.length_map] at hb) | (simp only [List.length_map, bne_iff_ne, ne_eq, beq_iff_eq, bne_eq_false_iff_eq, beq_eq_false_iff_ne, decide_eq_true_eq, decide_eq_false_iff_not, Bool.not_eq_true', Bool.not_eq_false', Int.natCast_inj] at hb)) | (refine fun hln => ?_; (try rw [List.length_map] at hln); unfold maxLen at hln; conv => whnf) | fail
  · have : sameInts a b = false := by
      unfold sameInts
      exact decide_eq_false fun h => hb (by rw [h])
    rw [this]; rfl
  · skip
    refine AW_loop (fun i : Nat => [(5, iv .i64 i), (0, sl a), (1, sl b)]) (fun _ => []) (fun i => i ≤ a.length ∧ a.take i = b.take i) (fun i => a.length - i) 0 (by simp) (Imp.forget ⟨rfl, rfl, rfl, trivial⟩ trivial rfl) ?_
    rintro i ⟨hi, htk⟩
    repeat' first | with_reducible refine AW_seq ?_ | with_reducible refine AW_block ?_ | ((first | with_reducible refine AW_skip ?_ | with_reducible refine AW_exit ?_ | with_reducible refine AW_ret ?_ | with_reducible refine AW_region hTt ?_ | refine AW_draw hTt hMix (id := 6) 8 false [0, 0, 3, 7, 0, 0, 48, 112, 255] (by kernel_rfl) rfl rfl (by kernel_rfl) ?_ | fail); conv => whnf) | (refine AW_cond rfl (fun hb => ?_) (fun hb => ?_) <;> first | (replace hb := of_decide_eq_true hb; try simp only [List.length_map] at hb) | (replace hb := of_decide_eq_false hb; try simp only [List.length_map] at hb) | (simp only [List.length_map, bne_iff_ne, ne_eq, beq_iff_eq, bne_eq_false_iff_eq, beq_eq_false_iff_ne, decide_eq_true_eq, decide_eq_false_iff_not, Bool.not_eq_true', Bool.not_eq_false', Int.natCast_inj] at hb)) | ((first | refine ⟨_, wrap_of (by first | omega | (simp only [List.length_map]; omega)), ?_⟩ | refine andA ?_ | with_reducible refine Exists.intro _ (And.intro (gd_any (And.intro (by omega) (map_get (by omega)))) ?_) | fail); conv => whnf) | (refine fun hln => ?_; (try rw [List.length_map] at hln); unfold maxLen at hln; conv => whnf) | fail
    · have hne : a ≠ b := fun h => hb (by simp [h])
      have : sameInts a b = false := decide_eq_false hne
      rw [this]; rfl
    · refine ⟨i + 1, ⟨by omega, ?_⟩, by omega, Imp.forget ⟨rfl, rfl, rfl, trivial⟩ trivial rfl⟩
      rw [List.take_add_one, List.take_add_one, htk, List.getElem?_eq_getElem (by omega), List.getElem?_eq_getElem (by omega), hb]
    · have : sameInts a b = true := decide_eq_true (by
        have h1 := List.take_of_length_le (l := a) (i := i) (by omega)
        have h2 := List.take_of_length_le (l := b) (i := i) (by omega)
        rw [← h1, ← h2, htk])
      rw [this]; rfl
end Go.Proofs.YtfpaonfddaeamaaGreatDoor
namespace Go.Proofs.YtfpaonfddaeamaaGreatDoor
open Go Go.QL
set_option maxHeartbeats 3200000
attribute [local irreducible] ACall FnC
theorem firstErr_all {l : List Int} (h : firstErr l = 0) : ∀ e ∈ l, e = 0 := by
  induction l with
  | nil => intro e he; cases he
  | cons x r ih =>
    rw [firstErr_cons] at h
    split at h
    · rename_i hx
      intro e he
      rcases List.mem_cons.1 he with rfl | he
      · exact hx
      · exact ih h e he
    · rename_i hx; exact absurd h hx
structure AskOK (n : NetT) (fs : List FaultT) (ts : List (List Int)) : Prop where
  ok : NetOK n
  chk : (checkR n).2.2 = 0
  fl : fs.length ≤ 12
  tl : ts.length ≤ 10
  f : ∀ f ∈ fs, faultErr n f = 0
  t : ∀ t ∈ ts, insErr n t = 0
theorem AskOK.of {n : NetT} {fs : List FaultT} {ts : List (List Int)} (h : askedR n fs ts = 0) : AskOK n fs ts := by
  unfold askedR at h
  split at h
  · rename_i hc
    split at h
    · cases h
    · rename_i hl
      have := firstErr_all h
      refine ⟨NetOK.of hc, hc, by omega, by omega, fun f hf => this _ (List.mem_append_left _ (List.mem_map.2 ⟨f, hf, rfl⟩)), fun t ht => this _ (List.mem_append_right _ (List.mem_map.2 ⟨t, ht, rfl⟩))⟩
  · rename_i hc; exact absurd h hc
def oR (n : NetT) (f : FaultT) (t : List Int) : List Int := outsR n f t t.length
def bPV (b : Bool) : List PV := [.v (.bool b)]
def boolsPV (l : List Bool) : PV := .s 1 (l.map bPV)
def tableAV (l : List (List Bool)) : AV := .x (.d (.s 1 (l.map fun r => [boolsPV r])))
def rowR (n : NetT) (fs : List FaultT) (t : List Int) : List Bool := fs.map fun f => !sameInts (oR n fine t) (oR n f t)
def tableR (n : NetT) (fs : List FaultT) (ts : List (List Int)) : List (List Bool) × Int :=
  if askedR n fs ts = 0 then (ts.map fun t => rowR n fs t, 0) else ([], askedR n fs ts)
def apartR (n : NetT) (a b : FaultT) (ts : List (List Int)) (list : List Int) : Bool := list.any fun i => !sameInts (oR n a (ts.getD i.toNat [])) (oR n b (ts.getD i.toNat []))
end Go.Proofs.YtfpaonfddaeamaaGreatDoor
